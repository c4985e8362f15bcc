/- What each operation does to logical values; that memory follows it. No program is named here: types come in by a table. -/
import Derived.Test.YtempldclppogmaaGreatDoorAwMem
import Derived.Laws.IdiomCopy
set_option linter.unusedVariables false
set_option linter.unusedSimpArgs false
namespace Go.Proofs.YtempldclppogmaaGreatDoor
namespace Aw
open Go Go.RowKit
inductive TD where
 |int (k:IntKind)
 |bool
 |str
 |slice (e:Nat)
 |struct (fs:List (Nat×Nat))
 |map (k e:Nat)
 |ptr (e:Nat)
 |arr (n e:Nat)
 |func
 |other
structure bI where
 agg:Bool
 size:Nat
 bytes:Nat
 zero:List Value
 d:TD
 ck:Option (List IntKind):=none
def bI.zeroV(r:bI):Value:=if r.agg then .agg r.zero.toArray else r.zero.headD undef
def eH(P:Program)(t:Nat):TD->Prop
 |.int k=>P.underlying t=some (.int k)
 |.bool=>P.underlying t=some .bool
 |.str=>P.underlying t=some .string
 |.slice e=>P.underlying t=some (.slice e)
 |.struct fs=>∃ F:Array Field,P.underlying t=some (.struct F)/\F.toList.map (fun f=>(f.offset,f.type))=fs
 |.map k e=>P.underlying t=some (.map k e)
 |.ptr e=>P.underlying t=some (.pointer e)
 |.arr n e=>P.underlying t=some (.array n e)
 |.func=>∃ a b c,P.underlying t=some (.func a b c)
 |.other=>True
structure FD(P:Program)(t:Nat)(ag:Bool)(ks:List IntKind):Prop where
 eq:∀(w:World) (Xw bs:List Int),Xw.length=ks.length->bs.length=ks.length->(Op.equal t (mkV ag ks Xw) (mkV ag ks bs)).run P w=.ok (Xw==bs) w
 chk:∀(w:World) (em:Bool) (Xw:List Int),Xw.length=ks.length->(Instr.checkKey em 10000 t (mkV ag ks Xw)).run P w=.ok () w
 guard:ag=true->P.eqGuardType P.depth t=false
 one:ag=false->ks.length=1
 now:∃ d,P.underlying t=some d/\((∀ Xw bs:List Int,Xw.length=ks.length->bs.length=ks.length->Instr.sameNow d (mkV ag ks Xw) (mkV ag ks bs)=some (Xw==bs))\/
  (∀ Xw bs:List Int,Xw.length=ks.length->bs.length=ks.length->Instr.sameNow d (mkV ag ks Xw) (mkV ag ks bs)=none))
structure bA(P:Program)(t:Nat)(r:bI):Prop where
 agg:∀ w,(isAgg t).run P w=.ok r.agg w
 info:∃ i,P.info? t=some i/\i.size=r.size/\i.bytes=r.bytes/\i.zero=some r.zeroV
 zl:r.zero.length=r.size
 one:r.agg=false->r.size=1
 zone:r.zero.all Value.oneCell'=true
 desc:eH P t r.d
 eqk:∀ ks,r.ck=some ks->FD P t r.agg ks
abbrev Tab:=Nat->Option bI
def bF(P:Program)(T:Tab):Prop:=∀ t r,T t=some r->bA P t r
def Ge:List (Nat×bI)->Tab
 |[],_=>none
 |p::l,t=>if t=p.1 then some p.2 else Ge l t
def Vj(P:Program):List (Nat×bI)->Prop
 |[]=>True
 |p::l=>bA P p.1 p.2/\Vj P l
theorem Gf{P:Program}:∀(l:List (Nat×bI)),Vj P l->bF P (Ge l)
 |[],_,t,r,h=>by simp[Ge]at h
 |p::l,ha,t,r,h=>by
  simp only[Ge]at h
  split at h
  .rename_i hf;injection h with h;subst hf h;exact ha.1
  .exact Gf l ha.2 t r h
theorem bA.sizeOf{P:Program}{t:Nat}{r:bI}(h:bA P t r)(w:World):(Go.sizeOf t).run P w=.ok r.size w:=by obtain⟨i,hi,hs,_,_⟩:=h.info;simp[Go.sizeOf,typeInfo,hi,hs]
theorem bA.zeroValue{P:Program}{t:Nat}{r:bI}(h:bA P t r)(w:World):(Go.zeroValue t).run P w=.ok r.zeroV w:=by obtain⟨i,hi,_,_,hz⟩:=h.info;simp[Go.zeroValue,typeInfo,hi,hz]
def cO(T:Tab)(t:Nat):Option Nat:=match T t with
 |some r=>match r.d with|.slice e=>some e|_=>none
 |none=>none
def rF(T:Tab)(t:Nat):Option (List (Nat×Nat)):=match T t with
 |some r=>match r.d with|.struct fs=>some fs|_=>none
 |none=>none
def Lc(T:Tab)(t:Nat):Option IntKind:=match T t with
 |some r=>match r.d with|.int k=>some k|_=>none
 |none=>none
def tR(T:Tab)(t:Nat):Bool:=match T t with
 |some r=>match r.d with|.bool=>true|_=>false
 |none=>false
theorem cF{P:Program}{T:Tab}(hT:bF P T){t e:Nat}(h:cO T t=some e):P.underlying t=some (.slice e):=by
 unfold cO at h;cases ht:T t with
 |none=>simp[ht]at h
 |some r=>simp only[ht]at h;have:=(hT t r ht).desc;revert h this;cases r.d<;>simp[eH];rintro rfl h;exact h
theorem tD{P:Program}{T:Tab}(hT:bF P T){t:Nat}{fs:List (Nat×Nat)}(h:rF T t=some fs):∃ F:Array Field,P.underlying t=some (.struct F)/\F.toList.map (fun f=>(f.offset,f.type))=fs:=by
 unfold rF at h;cases ht:T t with
 |none=>simp[ht]at h
 |some r=>simp only[ht]at h;have:=(hT t r ht).desc;revert h this;cases r.d<;>simp[eH];rintro rfl F h1 h2;exact⟨F,h1,h2⟩
theorem yP{P:Program}{T:Tab}(hT:bF P T){t:Nat}{k:IntKind}(h:Lc T t=some k):P.underlying t=some (.int k):=by
 unfold Lc at h;cases ht:T t with
 |none=>simp[ht]at h
 |some r=>simp only[ht]at h;have:=(hT t r ht).desc;revert h this;cases r.d<;>simp[eH];rintro rfl h;exact h
theorem Ay{P:Program}{T:Tab}(hT:bF P T){t:Nat}(h:tR T t=true):P.underlying t=some .bool:=by
 unfold tR at h;cases ht:T t with
 |none=>simp[ht]at h
 |some r=>simp only[ht]at h;have:=(hT t r ht).desc;revert h this;cases r.d<;>simp[eH]
structure bT where
 c:Prop
 v:LV
 s:St
 [d:Decidable c]
structure AB where
 c:Prop
 v:Value
 [d:Decidable c]
def wM:LV->Option (Nat×Nat×List LV)
 |.sl t n cs=>some (t,n,cs)
 |.nil=>some (0,0,[])
 |.emp=>some (0,0,[])
 |.qu _ _ n cs=>some (0,n,cs)
 |_=>none
def dZ(st:St):LV->Option (List LV)
 |.ep cs=>some cs
 |.pe _ cs=>some cs
 |.pt l o=>match st.H l with|.box _ _ cs=>some (cs.drop o)|_=>none
 |_=>none
def hdL:List LV->LV
 |[]=>.dead
 |c::_=>c
def dK:LV->Option (List LV)
 |.ag cs=>some cs
 |.dead=>none
 |.tu _=>none
 |.atom (.agg _)=>none
 |.atom (.tuple _)=>none
 |lv=>some [lv]
def gR:LV->Bool
 |.ag _|.dead|.tu _|.atom (.agg _)|.atom (.tuple _)=>false
 |_=>true
def jY(T:Tab)(t:Nat):Option (Nat×Nat):=match T t with
 |some r=>match r.d with|.map k e=>some (k,e)|_=>none
 |none=>none
theorem oY{P:Program}{T:Tab}(hT:bF P T){t k e:Nat}(h:jY T t=some (k,e)):P.underlying t=some (.map k e):=by
 unfold jY at h;cases ht:T t with
 |none=>simp[ht]at h
 |some r=>simp only[ht]at h;have:=(hT t r ht).desc;revert h this;cases r.d<;>simp[eH];rintro rfl rfl h;exact h
def fZ:List LV->Option (List IntKind×List Int)
 |[]=>some ([],[])
 |.atom (.int k n)::cs=>match fZ cs with
  |some (ks,ns)=>some (k::ks,n::ns)
  |none=>none
 |_=>none
def yD:LV->Option (Bool×List IntKind×List Int)
 |.atom (.int k n)=>some (false,[k],[n])
 |.ag cs=>match fZ cs with
  |some (ks,ns)=>some (true,ks,ns)
  |none=>none
 |_=>none
def bR(es:List (List Int×LV))(Xw:List Int):Option LV:=match es with
 |[]=>none
 |p::es=>if Xw==p.1 then some p.2 else bR es Xw
def bQ(es:List (List Int×LV))(Xw:List Int)(v:LV):List (List Int×LV):=match es with
 |[]=>[(Xw,v)]
 |p::es=>if Xw==p.1 then(Xw,v)::es else p::bQ es Xw v
def AM(r:bI):LV:=if r.agg then .ag (r.zero.map cH)else hdL (r.zero.map cH)
def wT(k:IntKind)(a b:Int):Int:=k.wrap (BitVec.ofInt k.bits a &&& BitVec.ofInt k.bits b).toNat
def gor(k:IntKind)(a b:Int):Int:=k.wrap (BitVec.ofInt k.bits a ||| BitVec.ofInt k.bits b).toNat
def OD(k:IntKind)(a b:Int):Int:=k.wrap (BitVec.ofInt k.bits a ^^^ BitVec.ofInt k.bits b).toNat
def fY(k:IntKind)(a b:Int):Int:=k.wrap (BitVec.ofInt k.bits a &&& ~~~BitVec.ofInt k.bits b).toNat
def ED(k:IntKind)(a b:Int):Int:=k.wrap (a*2 ^ (min b.toNat k.bits))
def Lj(k:IntKind)(a b:Int):Int:=a.fdiv (2 ^ (min b.toNat k.bits))
def Rz(op:BinOp)(k:IntKind)(a:Int)(k':IntKind)(b:Int):Option AB:=
 match op with
 |.add=>some ⟨k=k',.int k (k.wrap (a+b))⟩
 |.sub=>some ⟨k=k',.int k (k.wrap (a-b))⟩
 |.mul=>some ⟨k=k',.int k (k.wrap (a*b))⟩
 |.quo=>some ⟨k=k'/\b≠0,.int k (k.wrap (a.tdiv b))⟩
 |.rem=>some ⟨k=k'/\b≠0,.int k (a.tmod b)⟩
 |.shl=>some ⟨0<=b,.int k (ED k a b)⟩
 |.shr=>some ⟨0<=b,.int k (Lj k a b)⟩
 |.eql=>some ⟨k=k',.bool (a==b)⟩
 |.neq=>some ⟨k=k',.bool (a != b)⟩
 |.lss=>some ⟨k=k',.bool (decide (a<b))⟩
 |.leq=>some ⟨k=k',.bool (decide (a<=b))⟩
 |.gtr=>some ⟨k=k',.bool (decide (a > b))⟩
 |.geq=>some ⟨k=k',.bool (decide (a>=b))⟩
 |.and=>some ⟨k=k',.int k (wT k a b)⟩
 |.or=>some ⟨k=k',.int k (gor k a b)⟩
 |.xor=>some ⟨k=k',.int k (OD k a b)⟩
 |.andNot=>some ⟨k=k',.int k (fY k a b)⟩
theorem JA{P:Program}{w:World}{op:BinOp}{k k':IntKind}{a b:Int}{t:TypeId}{r:AB}(h:Rz op k a k' b=some r)(hc:r.c):
 (binOp op t (.int k a) (.int k' b)).run P w=.ok r.v w:=by
 cases op<;>simp only[Rz,aAb]at h<;>subst h<;>
  first
  |(obtain rfl:=hc;simp[binOp,Op.intArith,Op.intBits,Op.intCmp,wT,gor,OD,fY])
  |(obtain⟨rfl,hb⟩:=hc;simp[binOp,Op.intDiv,hb])
  |(have:¬b<0:=by simp only at hc;omega
    simp[binOp,Op.shift,this,ED,Lj])
theorem GW{P:Program}{w:World}(op:BinOp)(t:TypeId)(x y:Operand)(k k':IntKind)(a b:Int):(eqGuard op t x y (.int k a) (.int k' b)).run P w=.ok () w:=by
 unfold eqGuard
 split<;>simp
theorem uQ{P:Program}{w:World}(op:BinOp)(t:TypeId)(x y:Operand)(a b:Bool):(eqGuard op t x y (.bool a) (.bool b)).run P w=.ok () w:=by
 unfold eqGuard
 split<;>simp
def Fl(T:Tab)(t:TypeId):Bool:=match T t with
 |some r=>match r.d with|.ptr _=>true|_=>false
 |none=>false
theorem GK{P:Program}{T:Tab}(hT:bF P T){t:Nat}(h:Fl T t=true):∃ e,P.underlying t=some (.pointer e):=by
 unfold Fl at h;cases ht:T t with
 |none=>simp[ht]at h
 |some r=>simp only[ht]at h;have:=(hT t r ht).desc;revert h this;cases r.d<;>simp[eH];exact fun h=>⟨_,h⟩
def NZ(T:Tab)(t:TypeId):Bool:=match T t with
 |some r=>match r.d with|.func=>true|_=>false
 |none=>false
theorem Kg{P:Program}{T:Tab}(hT:bF P T){t:Nat}(h:NZ T t=true):∃ a b c,P.underlying t=some (.func a b c):=by
 unfold NZ at h;cases ht:T t with
 |none=>simp[ht]at h
 |some r=>simp only[ht]at h;have:=(hT t r ht).desc;revert h this;cases r.d<;>simp[eH]
def BP(T:Tab)(t:TypeId):Bool:=match T t with
 |some r=>match r.d with|.map _ _=>true|_=>false
 |none=>false
theorem DC{P:Program}{T:Tab}(hT:bF P T){t:Nat}(h:BP T t=true):∃ k e,P.underlying t=some (.map k e):=by
 unfold BP at h;cases ht:T t with
 |none=>simp[ht]at h
 |some r=>simp only[ht]at h;have:=(hT t r ht).desc;revert h this;cases r.d<;>simp[eH];exact fun h=>⟨_,_,h⟩
def tJ:LV->Option Bool
 |.fn _ _=>some false
 |.atom .nilFunc=>some true
 |_=>none
def pF:LV->Option Bool
 |.mp _=>some false
 |.atom (.map none)=>some true
 |_=>none
def nilPtr:LV->Option Bool
 |.pt _ _=>some false
 |.ep _=>some false
 |.pe _ _=>some false
 |.atom (.pointer none)=>some true
 |_=>none
def Fm(T:Tab)(op:BinOp)(t:TypeId)(x y:LV)(st:St):Option bT:=
 match x,y with
 |.atom (.int k a),.atom (.int k' b)=>(Rz op k a k' b).map fun r=>@bT.mk r.c (.atom r.v) st r.d
 |.atom (.bool a),.atom (.bool b)=>match op with
  |.eql=>some ⟨tR T t=true,.atom (.bool (a==b)),st⟩
  |.neq=>some ⟨tR T t=true,.atom (.bool (!(a==b))),st⟩
  |_=>none
 |.ag xs,.ag ys=>match T t,fZ xs,fZ ys with
  |some r,some (ks,Xw),some (Zy,bs)=>match op with
   |.eql=>some ⟨r.ck=some ks/\Zy=ks/\r.agg=true,.atom (.bool (Xw==bs)),st⟩
   |.neq=>some ⟨r.ck=some ks/\Zy=ks/\r.agg=true,.atom (.bool (!(Xw==bs))),st⟩
   |_=>none
  |_,_,_=>none
 |.nil,.nil=>match op with
  |.eql=>some ⟨(cO T t).isSome=true,.atom (.bool true),st⟩
  |.neq=>some ⟨(cO T t).isSome=true,.atom (.bool false),st⟩
  |_=>none
 |x,.atom (.map none)=>match pF x,op with
  |some b,.eql=>some ⟨BP T t=true,.atom (.bool b),st⟩
  |some b,.neq=>some ⟨BP T t=true,.atom (.bool (!b)),st⟩
  |_,_=>none
 |x,.atom (.pointer none)=>match nilPtr x,op with
  |some b,.eql=>some ⟨Fl T t=true,.atom (.bool b),st⟩
  |some b,.neq=>some ⟨Fl T t=true,.atom (.bool (!b)),st⟩
  |_,_=>none
 |x,.atom .nilFunc=>match tJ x,op with
  |some b,.eql=>some ⟨NZ T t=true,.atom (.bool b),st⟩
  |some b,.neq=>some ⟨NZ T t=true,.atom (.bool (!b)),st⟩
  |_,_=>none
 |_,_=>none
def Qx(op:UnOp)(x:LV)(st:St):Option bT:=
 match op,x with
 |.not,.atom (.bool b)=>some ⟨True,.atom (.bool !b),st⟩
 |.neg,.atom (.int k n)=>some ⟨True,.atom (.int k (k.wrap (0-n))),st⟩
 |_,_=>none
def AR(T:Tab)(t:TypeId)(x:LV)(st:St):Option bT:=
 match T t,dZ st x with
 |some r,some cs=>if r.agg then some ⟨r.size<=cs.length,.ag (cs.take r.size),st⟩else some ⟨0<cs.length,hdL cs,st⟩
 |_,_=>none
def OV(T:Tab)(t:TypeId)(x i:LV)(st:St):Option bT:=
 match cO T t,i with
 |some e,.atom (.int _ i)=>match T e with
  |some r=>match x with
   |.ms l o n=>some ⟨0<=i/\i<n,.pt l (o+i.toNat*r.size),st⟩
   |x=>match wM x with
    |some (_,n,cs)=>some ⟨0<=i/\i<n/\i.toNat*r.size<cs.length,.ep (cs.drop (i.toNat*r.size)),st⟩
    |none=>none
  |_=>none
 |_,_=>none
def kM(T:Tab)(t:TypeId)(x:LV)(f:Nat)(st:St):Option bT:=
 match rF T t with
 |some fs=>match fs[f]? with
  |some (off,ty)=>match T ty with
   |some r=>match x with
    |.pt l o=>some ⟨r.size≠0,.pt l (o+off),st⟩
    |.ep cs=>some ⟨r.size≠0,.ep (cs.drop off),st⟩
    |.pe _ cs=>some ⟨r.size≠0,.ep (cs.drop off),st⟩
    |_=>none
   |none=>none
  |none=>none
 |_=>none
def AU(T:Tab)(t:TypeId)(x:LV)(f:Nat)(st:St):Option bT:=
 match rF T t,x with
 |some fs,.ag cs=>match fs[f]? with
  |some (off,ty)=>match T ty with
   |some r=>if r.agg then some ⟨True,.ag ((cs.drop off).take r.size),st⟩else some ⟨off<cs.length,hdL (cs.drop off),st⟩
   |none=>none
  |none=>none
 |_,_=>none
def dV:Option LV->Nat->Option Int
 |none,d=>some d
 |some (.atom (.int _ i)),_=>some i
 |_,_=>none
def BM(T:Tab)(t:TypeId)(x:LV)(lo hi mx:Option LV)(st:St):Option bT:=
 match cO T t with
 |some e=>match T e with
  |some r=>match mx with
   |none=>match x with
    |.ms b o n=>match dV lo 0,dV hi n with
     |some l,some h=>some ⟨0<=l/\l<=h/\h<=n/\0<r.size,.ms b (o+l.toNat*r.size) (h.toNat-l.toNat),st⟩
     |_,_=>none
    |.kap b n c=>match dV lo 0,dV hi n with
     |some l,some h=>some ⟨0<=l/\l<=h/\h<=c/\0<r.size,if lo.isNone then .kap b h.toNat c else .ms b (l.toNat*r.size) (h.toNat-l.toNat),st⟩
     |_,_=>none
    |.nil=>match dV lo 0,dV hi 0 with
     |some l,some h=>some ⟨l=0/\h=0,.nil,st⟩
     |_,_=>none
    |.qu t o n cs=>match dV lo 0,dV hi n with
     |some l,some h=>some ⟨0<=l/\l<=h/\h<=n/\r.size=1,.qu t (o+l.toNat) (h.toNat-l.toNat) ((cs.drop l.toNat).take (h.toNat-l.toNat)),st⟩
     |_,_=>none
    |x=>match wM x with
     |some (_,n,cs)=>match dV lo 0,dV hi n with
      |some l,some h=>some ⟨0<=l/\l<=h/\h<=n,.sl 0 (h.toNat-l.toNat) ((cs.drop (l.toNat*r.size)).take ((h.toNat-l.toNat)*r.size)),st⟩
      |_,_=>none
     |none=>none
   |some (.atom (.int _ m))=>match lo,hi,wM x with
    |none,some (.atom (.int _ h)),some _=>some ⟨m=0/\h=0,.emp,st⟩
    |some (.atom (.int _ l)),some (.atom (.int _ h)),none=>match x with
     |.ms _ _ n=>some ⟨0<=l/\l<=h/\h<=m/\m<=n,.dead,st⟩
     |.kap _ _ c=>some ⟨0<=l/\l<=h/\h<=m/\m<=c,.dead,st⟩
     |_=>none
    |_,_,_=>none
   |_=>none
  |none=>none
 |none=>none
def RW(t:TypeId)(x:LV)(st:St):Option bT:=
 match dK x with
 |some cs=>some ⟨True,.pt st.next 0,st.new (.box t cs.length cs)⟩
 |none=>none
def Ex(T:Tab)(t:TypeId)(st:St):Option bT:=
 match T t with
 |some r=>some ⟨True,.pt st.next 0,st.new (.box t r.size (r.zero.map cH))⟩
 |none=>none
def Dq(T:Tab)(t:TypeId)(x v:LV)(st:St):Option bT:=
 match T t,x,dK v with
 |some r,.pt l o,some ds=>match st.H l with
  |.box e s cs=>some ⟨ds.length=r.size/\o+ds.length<=cs.length/\ds.all gR=true,.dead,st.set l (.box e s (cs.take o++ds++cs.drop (o+ds.length)))⟩
  |_=>none
 |_,_,_=>none
def pD(place:Nat->Option (Nat×Nat))(cells:List LV):List (Nat×LV)->Option (List LV)
 |[]=>some cells
 |(i,v)::rest=>
  match place i,dK v with
  |some (off,size),some ds=>if ds.length=size/\off+ds.length<=cells.length then pD place (cells.take off++ds++cells.drop (off+ds.length)) rest else none
  |_,_=>none
def rJ(T:Tab):List (Nat×Nat)->Option (List (Nat×Nat))
 |[]=>some []
 |(off,ty)::r=>match T ty,rJ T r with
  |some q,some l=>some ((off,q.size)::l)
  |_,_=>none
def SP(T:Tab)(t:Nat):Option Nat:=match T t with
 |some r=>match r.d with|.arr _ e=>some e|_=>none
 |none=>none
theorem Sd{P:Program}{T:Tab}(hT:bF P T){t e:Nat}(h:SP T t=some e):∃ n,P.underlying t=some (.array n e):=by
 unfold SP at h;cases ht:T t with
 |none=>simp[ht]at h
 |some r=>simp only[ht]at h;have:=(hT t r ht).desc;revert h this;cases r.d<;>simp[eH];rintro rfl h;exact⟨_,h⟩
def Dp(T:Tab)(t:TypeId)(parts:List (Nat×LV))(st:St):Option bT:=
 match rF T t,T t with
 |some fs,some r=>match rJ T fs with
  |some ps=>match pD (fun i=>ps[i]?) (r.zero.map cH) parts with
   |some cs=>some ⟨r.agg=true,.ag cs,st⟩
   |none=>none
  |none=>none
 |none,some r=>match SP T t with
  |some e=>match T e with
   |some re=>match pD (fun i=>some (i*re.size,re.size)) (r.zero.map cH) parts with
    |some cs=>some ⟨r.agg=true,.ag cs,st⟩
    |none=>none
   |none=>none
  |none=>none
 |_,_=>none
def dP(z:List LV):Nat->List LV
 |0=>[]
 |n+1=>z++dP z n
def lU(T:Tab)(m:Bool)(t:TypeId)(len:Nat)(parts:List (Nat×LV))(st:St):Option bT:=
 match cO T t with
 |some e=>match T e with
  |some r=>match pD (fun i=>some (i*r.size,r.size)) (dP (r.zero.map cH) len) parts with
   |some cs=>if m then some ⟨len*r.size<=16777216/\0<r.size,.ms st.next 0 len,st.new (.box e r.size cs)⟩
    else some ⟨len*r.size<=16777216/\0<r.size,.sl st.next len cs,st.new (.own e r.size len)⟩
   |none=>none
  |none=>none
 |_=>none
def isStr(T:Tab)(t:TypeId):Bool:=match T t with
 |some r=>match r.d with|.str=>true|_=>false
 |none=>false
theorem OR{P:Program}{T:Tab}(hT:bF P T){t:Nat}(h:isStr T t=true):P.underlying t=some .string:=by
 unfold isStr at h;cases ht:T t with
 |none=>simp[ht]at h
 |some r=>simp only[ht]at h;have:=(hT t r ht).desc;revert h this;cases r.d<;>simp[eH]
def ET(T:Tab)(t:TypeId)(x i:LV)(st:St):Option bT:=
 match x,i with
 |.atom (.string s),.atom (.int _ i)=>some ⟨isStr T t=true/\0<=i/\(s[i.toNat]?).isSome=true,.atom (.int .u8 ((s[i.toNat]?).getD 0).toNat),st⟩
 |_,_=>none
def uH(T:Tab)(t:TypeId)(x i:LV)(ok:Bool)(st:St):Option bT:=
 match jY T t with
 |some (k,e)=>match T k,T e,yD i with
  |some rk,some re,some (ag,ks,Xw)=>match x with
   |.mp l=>match st.H l with
    |.map Q9 Zy es=>some ⟨rk.ck=some ks/\rk.agg=ag/\Q9=ag/\Zy=ks,if ok then .tu [(bR es Xw).getD (AM re),.atom (.bool (bR es Xw).isSome)]else(bR es Xw).getD (AM re),st⟩
    |_=>none
   |.atom (.map none)=>some ⟨rk.ck=some ks/\rk.agg=ag,if ok then .tu [AM re,.atom (.bool false)]else AM re,st⟩
   |_=>none
  |_,_,_=>none
 |none=>none
def uP(T:Tab)(t:TypeId)(x i v:LV)(st:St):Option bT:=
 match jY T t with
 |some (k,_)=>match T k,yD i with
  |some rk,some (ag,ks,Xw)=>match x with
   |.mp l=>match st.H l with
    |.map Q9 Zy es=>some ⟨rk.ck=some ks/\rk.agg=ag/\Q9=ag/\Zy=ks,.dead,st.set l (.map ag ks (bQ es Xw v))⟩
    |_=>none
   |_=>none
  |_,_=>none
 |none=>none
def tT(T:Tab)(t:TypeId)(rs:Option LV)(st:St):Option bT:=
 match jY T t with
 |some (k,_)=>match T k with
  |some rk=>match rk.ck with
   |some ks=>match rs with
    |none=>some ⟨True,.mp st.next,st.new (.map rk.agg ks [])⟩
    |some (.atom (.int _ _))=>some ⟨True,.mp st.next,st.new (.map rk.agg ks [])⟩
    |_=>none
   |none=>none
  |none=>none
 |none=>none
def RB(T:Tab)(t:TypeId)(x:LV)(st:St):Option bT:=
 match cO T t with
 |some _=>match x with
  |.ms _ _ n=>some ⟨True,.atom (.int .i64 n),st⟩
  |.kap _ n _=>some ⟨True,.atom (.int .i64 n),st⟩
  |x=>match wM x with
   |some (_,n,_)=>some ⟨True,.atom (.int .i64 n),st⟩
   |none=>none
 |none=>none
def Rf(T:Tab)(t:TypeId)(x:LV)(st:St):Option bT:=
 match jY T t,x with
 |some _,.mp l=>match st.H l with
  |.map _ _ es=>some ⟨True,.atom (.int .i64 es.length),st⟩
  |_=>none
 |_,_=>none
def Ry(x y:LV)(st:St):Option bT:=
 match x,y with
 |.atom (.int k a),.atom (.int _ b)=>some ⟨True,.atom (.int k (if b<a then b else a)),st⟩
 |_,_=>none
def SR(x y:LV)(st:St):Option bT:=
 match x,y with
 |.atom (.int k a),.atom (.int _ b)=>some ⟨True,.atom (.int k (if a<b then b else a)),st⟩
 |_,_=>none
def CI(T:Tab)(t:TypeId)(st:St)(x:LV):Option (Nat×List LV):=
 match x with
 |.ms l o n=>match cO T t with
  |some e=>match T e with
   |some r=>match st.H l with
    |.box _ _ cs=>some (n,(cs.drop o).take (n*r.size))
    |_=>none
   |none=>none
  |none=>none
 |x=>(wM x).map fun p=>(p.2.1,p.2.2)
def zO(T:Tab)(md:Bool)(t:TypeId)(s x:LV)(st:St):Option bT:=
 match cO T t,CI T t st x with
 |some e,some (m,ds)=>match T e with
  |some r=>match s with
   |.nil=>if md then some ⟨ds.length=m*r.size/\ds.all gR=true/\m*r.bytes<=140737488355328/\m<=maxLen/\0<r.size,.ms st.next 0 m,st.new (.box e r.size ds)⟩
    else some ⟨ds.length=m*r.size/\ds.all gR=true/\m*r.bytes<=140737488355328/\m<=maxLen/\0<r.size,.sl st.next m ds,st.new (.own e r.size m)⟩
   |.emp=>if md then some ⟨ds.length=m*r.size/\ds.all gR=true/\m*r.bytes<=140737488355328/\m<=maxLen/\0<r.size,.ms st.next 0 m,st.new (.box e r.size ds)⟩
    else some ⟨ds.length=m*r.size/\ds.all gR=true/\m*r.bytes<=140737488355328/\m<=maxLen/\0<r.size,.sl st.next m ds,st.new (.own e r.size m)⟩
   |.sl q n cs=>match st.H q with
    |.own e' s' n'=>some ⟨e'=e/\s'=r.size/\n'=n/\cs.length=n*r.size/\q≠0/\ds.length=m*r.size/\ds.all gR=true/\(n+m)*r.bytes<=140737488355328/\n+m<=maxLen/\0<r.size,
      .sl st.next (n+m) (cs++ds),(st.set q .dead).new (.own e r.size (n+m))⟩
    |_=>none
   |.kap l n _=>match st.H l with
    |.box e' s' cs=>some ⟨e'=e/\s'=r.size/\n*r.size<=cs.length/\ds.length=m*r.size/\ds.all gR=true/\(n+m)*r.bytes<=140737488355328/\n+m<=maxLen/\0<r.size,
      .ms st.next 0 (n+m),(st.set l .dead).new (.box e r.size (cs.take (n*r.size)++ds))⟩
    |_=>none
   |.ms l o n=>match st.H l with
    |.box e' s' cs=>some ⟨o=0/\e'=e/\s'=r.size/\n*r.size<=cs.length/\ds.length=m*r.size/\ds.all gR=true/\(n+m)*r.bytes<=140737488355328/\n+m<=maxLen/\0<r.size,
      .ms st.next 0 (n+m),(st.set l .dead).new (.box e r.size (cs.take (n*r.size)++ds))⟩
    |_=>none
   |.qu q o n cs=>match st.H q with
    |.que e' n'=>some ⟨e'=e/\r.size=1/\o+n=n'/\cs.length=n/\ds.length=m/\ds.all gR=true/\(n+m)*r.bytes<=140737488355328/\n+m<=maxLen,
      .qu st.next 0 (n+m) (cs++ds),(st.set q .dead).new (.que e (n+m))⟩
    |_=>none
   |_=>none
  |none=>none
 |_,_=>none
def Th(T:Tab)(t:TypeId)(x:LV)(st:St):Option bT:=
 match cO T t,x with
 |some _,.nil=>some ⟨True,.atom (.int .i64 0),st⟩
 |some _,.kap _ _ c=>some ⟨True,.atom (.int .i64 c),st⟩
 |_,_=>none
def yY(T:Tab)(t t':TypeId)(s x:LV)(st:St):Option bT:=
 match cO T t,Lc T t' with
 |some e,some _=>match T e with
  |some r=>match s,x with
   |.nil,.atom (.int _ n)=>some ⟨0<n/\n*r.bytes<=140737488355328/\n<=9223372036854775807/\0<r.size,.ms st.next 0 n.toNat,st.new (.box e r.size (dP (r.zero.map cH) n.toNat))⟩
   |.kap l n c,.atom (.int _ z)=>match st.H l with
    |.box e' s' cs=>some ⟨e'=e/\s'=r.size/\n*r.size<=cs.length/\0<z/\(c:Int)<n+z/\(n+z)*r.bytes<=140737488355328/\n+z<=9223372036854775807/\0<r.size,
      .ms st.next 0 (n+z.toNat),st.new (.box e r.size (cs.take (n*r.size)++dP (r.zero.map cH) z.toNat))⟩
    |_=>none
   |_,_=>none
  |none=>none
 |_,_=>none
def nJ(T:Tab)(t:TypeId)(l c:LV)(st:St):Option bT:=
 match cO T t with
 |some e=>match T e with
  |some r=>match l,c with
   |.atom (.int _ n),.atom (.int _ n')=>some ⟨n=n'/\0<=n/\n*r.bytes<=140737488355328/\n<=9223372036854775807/\0<r.size,.ms st.next 0 n.toNat,st.new (.box e r.size (dP (r.zero.map cH) n.toNat))⟩
   |_,_=>none
  |none=>none
 |none=>none
def DX(T:Tab)(t:TypeId)(x:LV)(st:St):Option bT:=
 match cO T t,x with
 |some e,.ms l o n=>match T e,st.H l with
  |some r,.box e' s cs=>some ⟨o+n*r.size<=cs.length/\0<r.size,.tu [],st.set l (.box e' s (cs.take o++dP (r.zero.map cH) n++cs.drop (o+n*r.size)))⟩
  |_,_=>none
 |_,_=>none
def sameBox:Bool->LV->LV->Bool
 |true,.kap l _ _,.ms l' _ _=>decide (l=l')
 |_,_,_=>false
def uI(T:Tab)(t:TypeId)(s x:LV)(st:St):Option bT:=
 match cO T t,s,x with
 |some e,.kap l n c,.ms l' o' m=>match T e,st.H l with
  |some r,.box e' s' cs=>some ⟨l'=l/\n+m<=c/\e'=e/\s'=r.size/\(n+m)*r.size<=cs.length/\o'+m*r.size<=cs.length/\((cs.drop o').take (m*r.size)).all gR=true/\0<r.size/\(n+m)*r.bytes<=140737488355328/\n+m<=maxLen,
    .kap l (n+m) c,st.set l (.box e' s' (cs.take (n*r.size)++(cs.drop o').take (m*r.size)++cs.drop ((n+m)*r.size)))⟩
  |_,_=>none
 |_,_,_=>none
def KR(T:Tab)(t t':TypeId)(x y:LV)(st:St):Option bT:=
 match cO T t,CI T t' st y with
 |some e,some (m,ds)=>match T e,x with
  |some r,.ms l o n=>match st.H l with
   |.box e' s cs=>some ⟨t'=t/\ds.length=m*r.size/\o+n*r.size<=cs.length/\(ds.take (min n m*r.size)).all gR=true/\0<r.size,.atom (.int .i64 ((min n m:Nat):Int)),
     st.set l (.box e' s (cs.take o++ds.take (min n m*r.size)++cs.drop (o+min n m*r.size)))⟩
   |_=>none
  |_,_=>none
 |_,_=>none
def yJ(es:List (List Int×LV))(Xw:List Int):List (List Int×LV):=match es with
 |[]=>[]
 |p::es=>if Xw==p.1 then es else p::yJ es Xw
def yV(T:Tab)(t:TypeId)(x i:LV)(st:St):Option bT:=
 match jY T t with
 |some (k,_)=>match T k,yD i with
  |some rk,some (ag,ks,Xw)=>match x with
   |.mp l=>match st.H l with
    |.map Q9 Zy es=>some ⟨rk.ck=some ks/\rk.agg=ag/\Q9=ag/\Zy=ks,.tu [],st.set l (.map ag ks (yJ es Xw))⟩
    |_=>none
   |_=>none
  |_,_=>none
 |none=>none
def DB(T:Tab)(m:Bool)(c:Call)(fr:Frm)(st:St):Option bT:=
 match c.callee,c.args.toList,c.argTypes.toList with
 |.builtin .len,[x],t::_=>match jY T t with
  |none=>RB T t (aI fr x) st
  |some _=>Rf T t (aI fr x) st
 |.builtin .min,[x,y],_=>Ry (aI fr x) (aI fr y) st
 |.builtin .max,[x,y],_=>SR (aI fr x) (aI fr y) st
 |.builtin .append,[s,x],[t,t']=>if t=t' then(if sameBox m (aI fr s) (aI fr x)=true then uI T t (aI fr s) (aI fr x) st else zO T m t (aI fr s) (aI fr x) st)else yY T t t' (aI fr s) (aI fr x) st
 |.builtin .cap,[x],t::_=>Th T t (aI fr x) st
 |.builtin .clear,[x],[t]=>DX T t (aI fr x) st
 |.builtin .copy,[x,y],[t,t']=>KR T t t' (aI fr x) (aI fr y) st
 |.builtin .delete,[x,i],[t,_]=>yV T t (aI fr x) (aI fr i) st
 |_,_,_=>none
def aop(T:Tab)(m:Bool)(o:Oper)(fr:Frm)(st:St):Option bT:=
 match o.op with
 |.move x|.assign x=>some ⟨True,aI fr x,st⟩
 |.pick c a b=>match aI fr c with
  |.atom (.bool t)=>some ⟨True,if t then aI fr a else aI fr b,st⟩
  |_=>none
 |.binOp op t x y _=>Fm T op t (aI fr x) (aI fr y) st
 |.unOp op _ x=>Qx op (aI fr x) st
 |.convert s d x=>match Lc T s,Lc T d,aI fr x with
  |some _,some k,.atom (.int _ n)=>some ⟨True,.atom (.int k (k.wrap n)),st⟩
  |_,_,_=>none
 |.load t x=>AR T t (aI fr x) st
 |.store t x v=>Dq T t (aI fr x) (aI fr v) st
 |.indexAddr t x i=>OV T t (aI fr x) (aI fr i) st
 |.fieldAddr t x f=>kM T t (aI fr x) f st
 |.field t x f=>AU T t (aI fr x) f st
 |.slice t x lo hi mx=>BM T t (aI fr x) (lo.map (aI fr)) (hi.map (aI fr)) (mx.map (aI fr)) st
 |.box t x=>RW t (aI fr x) st
 |.alloc t=>Ex T t st
 |.build t ps=>Dp T t (ps.toList.map fun p=>(p.1,aI fr p.2)) st
 |.buildSlice t n ps=>lU T m t n (ps.toList.map fun p=>(p.1,aI fr p.2)) st
 |.makeFunc f first cY=>if first.isEmpty then some ⟨True,.fn f (cY.toList.map (aI fr)),st⟩else none
 |.extract x i=>match aI fr x with
  |.tu vs=>match vs[i]? with|some v=>some ⟨True,v,st⟩|none=>none
  |_=>none
 |.nilCheck x=>match aI fr x with
  |.pt l o=>some ⟨True,.pt l o,st⟩
  |.pe l cs=>some ⟨True,.pe l cs,st⟩
  |_=>none
 |.call c=>DB T m c fr st
 |.index t x i=>ET T t (aI fr x) (aI fr i) st
 |.lookup t x i ok=>uH T t (aI fr x) (aI fr i) ok st
 |.mapUpdate t x i v=>uP T t (aI fr x) (aI fr i) (aI fr v) st
 |.insert t x i v=>uP T t (aI fr x) (aI fr i) (aI fr v) st
 |.makeMap t r=>tT T t (r.map (aI fr)) st
 |.makeSlice t l c=>nJ T t (aI fr l) (aI fr c) st
 |_=>none
def aX:Op->Bool
 |.move _|.assign _|.pick ..|.binOp ..|.unOp ..|.convert ..|.load ..|.indexAddr ..|.fieldAddr ..|.field ..|.slice ..|.extract ..|.nilCheck _|.makeFunc ..|.lookup ..|.index ..=>true
 |.call { callee:=.builtin .len,.. }|.call { callee:=.builtin .min,.. }|.call { callee:=.builtin .max,.. }=>true
 |_=>false
end Aw
end Go.Proofs.YtempldclppogmaaGreatDoor
