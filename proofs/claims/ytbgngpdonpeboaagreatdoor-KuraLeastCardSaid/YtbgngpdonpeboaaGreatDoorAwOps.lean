/- What each operation does to logical values; that memory follows it. No program is named here: types come in by a table. -/
import Derived.Test.YtbgngpdonpeboaaGreatDoorAwMem
import Derived.Laws.IdiomCopy
set_option linter.unusedVariables false
set_option linter.unusedSimpArgs false
namespace Go.Proofs.YtbgngpdonpeboaaGreatDoor
namespace Aw
open Go Go.RowKit
inductive TD where
 |int (k:IntKind)
 |bool
 |str
 |slice (e:Nat)
 |struct (fs:List (Nat×Nat))
 |map (k e:Nat)
 |ptr (e:Nat)
 |arr (n e:Nat)
 |func
 |other
structure bH where
 agg:Bool
 size:Nat
 bytes:Nat
 zero:List Value
 d:TD
 ck:Option (List IntKind):=none
def bH.zeroV(r:bH):Value:=if r.agg then .agg r.zero.toArray else r.zero.headD undef
def eN(P:Program)(t:Nat):TD->Prop
 |.int k=>P.underlying t=some (.int k)
 |.bool=>P.underlying t=some .bool
 |.str=>P.underlying t=some .string
 |.slice e=>P.underlying t=some (.slice e)
 |.struct fs=>∃ F:Array Field,P.underlying t=some (.struct F)/\F.toList.map (fun f=>(f.offset,f.type))=fs
 |.map k e=>P.underlying t=some (.map k e)
 |.ptr e=>P.underlying t=some (.pointer e)
 |.arr n e=>P.underlying t=some (.array n e)
 |.func=>∃ a b c,P.underlying t=some (.func a b c)
 |.other=>True
structure BM(P:Program)(t:Nat)(ag:Bool)(ks:List IntKind):Prop where
 eq:∀(w:World) (n9 bs:List Int),n9.length=ks.length->bs.length=ks.length->(Op.equal t (mkV ag ks n9) (mkV ag ks bs)).run P w=.ok (n9==bs) w
 chk:∀(w:World) (em:Bool) (n9:List Int),n9.length=ks.length->(Instr.checkKey em 10000 t (mkV ag ks n9)).run P w=.ok () w
 guard:ag=true->P.eqGuardType P.depth t=false
 one:ag=false->ks.length=1
 now:∃ d,P.underlying t=some d/\((∀ n9 bs:List Int,n9.length=ks.length->bs.length=ks.length->Instr.sameNow d (mkV ag ks n9) (mkV ag ks bs)=some (n9==bs))\/
  (∀ n9 bs:List Int,n9.length=ks.length->bs.length=ks.length->Instr.sameNow d (mkV ag ks n9) (mkV ag ks bs)=none))
structure bC(P:Program)(t:Nat)(r:bH):Prop where
 agg:∀ w,(isAgg t).run P w=.ok r.agg w
 info:∃ i,P.info? t=some i/\i.size=r.size/\i.bytes=r.bytes/\i.zero=some r.zeroV
 zl:r.zero.length=r.size
 one:r.agg=false->r.size=1
 zone:r.zero.all Value.oneCell'=true
 desc:eN P t r.d
 eqk:∀ ks,r.ck=some ks->BM P t r.agg ks
abbrev Tab:=Nat->Option bH
def aX(P:Program)(T:Tab):Prop:=∀ t r,T t=some r->bC P t r
def Gw:List (Nat×bH)->Tab
 |[],_=>none
 |p::l,t=>if t=p.1 then some p.2 else Gw l t
def Yc(P:Program):List (Nat×bH)->Prop
 |[]=>True
 |p::l=>bC P p.1 p.2/\Yc P l
theorem Ib{P:Program}:∀(l:List (Nat×bH)),Yc P l->aX P (Gw l)
 |[],_,t,r,h=>by grind [Gw]
 |p::l,ha,t,r,h=>by
  simp only[Gw]at h
  split at h
  .rename_i hf;injection h with h;subst hf h;exact ha.1
  .exact Ib l ha.2 t r h
theorem bC.sizeOf{P:Program}{t:Nat}{r:bH}(h:bC P t r)(w:World):(Go.sizeOf t).run P w=.ok r.size w:=by obtain⟨i,hi,hs,_,_⟩:=h.info;simp[Go.sizeOf,typeInfo,hi,hs]
theorem bC.zeroValue{P:Program}{t:Nat}{r:bH}(h:bC P t r)(w:World):(Go.zeroValue t).run P w=.ok r.zeroV w:=by obtain⟨i,hi,_,_,hz⟩:=h.info;simp[Go.zeroValue,typeInfo,hi,hz]
def cO(T:Tab)(t:Nat):Option Nat:=match T t with
 |some r=>match r.d with|.slice e=>some e|_=>none
 |none=>none
def sK(T:Tab)(t:Nat):Option (List (Nat×Nat)):=match T t with
 |some r=>match r.d with|.struct fs=>some fs|_=>none
 |none=>none
def OJ(T:Tab)(t:Nat):Option IntKind:=match T t with
 |some r=>match r.d with|.int k=>some k|_=>none
 |none=>none
def vC(T:Tab)(t:Nat):Bool:=match T t with
 |some r=>match r.d with|.bool=>true|_=>false
 |none=>false
theorem cF{P:Program}{T:Tab}(hT:aX P T){t e:Nat}(h:cO T t=some e):P.underlying t=some (.slice e):=by
 unfold cO at h;cases ht:T t with
 |none=>grind
 |some r=>
  simp only[ht]at h;have:=(hT t r ht).desc
  grind [eN]
theorem tQ{P:Program}{T:Tab}(hT:aX P T){t:Nat}{fs:List (Nat×Nat)}(h:sK T t=some fs):∃ F:Array Field,P.underlying t=some (.struct F)/\F.toList.map (fun f=>(f.offset,f.type))=fs:=by
 unfold sK at h;cases ht:T t with
 |none=>grind
 |some r=>
  simp only[ht]at h;have:=(hT t r ht).desc
  grind [eN]
theorem AO{P:Program}{T:Tab}(hT:aX P T){t:Nat}{k:IntKind}(h:OJ T t=some k):P.underlying t=some (.int k):=by
 unfold OJ at h;cases ht:T t with
 |none=>grind
 |some r=>
  simp only[ht]at h;have:=(hT t r ht).desc
  grind [eN]
theorem Ah{P:Program}{T:Tab}(hT:aX P T){t:Nat}(h:vC T t=true):P.underlying t=some .bool:=by
 unfold vC at h;cases ht:T t with
 |none=>grind
 |some r=>
  simp only[ht]at h;have:=(hT t r ht).desc
  grind [eN]
structure bP where
 c:Prop
 v:LV
 s:St
 [d:Decidable c]
structure AB where
 c:Prop
 v:Value
 [d:Decidable c]
def vU:LV->Option (Nat×Nat×List LV)
 |.sl t n cs=>some (t,n,cs)
 |.nil=>some (0,0,[])
 |.emp=>some (0,0,[])
 |.qu _ _ n cs=>some (0,n,cs)
 |_=>none
def eR(st:St):LV->Option (List LV)
 |.ep cs=>some cs
 |.pe _ cs=>some cs
 |.pt l o=>match st.H l with|.box _ _ cs=>some (cs.drop o)|_=>none
 |_=>none
def hdL:List LV->LV
 |[]=>.dead
 |c::_=>c
def dY:LV->Option (List LV)
 |.ag cs=>some cs
 |.dead=>none
 |.tu _=>none
 |.atom (.agg _)=>none
 |.atom (.tuple _)=>none
 |lv=>some [lv]
def iK:LV->Bool
 |.ag _|.dead|.tu _|.atom (.agg _)|.atom (.tuple _)=>false
 |_=>true
def kR(T:Tab)(t:Nat):Option (Nat×Nat):=match T t with
 |some r=>match r.d with|.map k e=>some (k,e)|_=>none
 |none=>none
theorem pR{P:Program}{T:Tab}(hT:aX P T){t k e:Nat}(h:kR T t=some (k,e)):P.underlying t=some (.map k e):=by
 unfold kR at h;cases ht:T t with
 |none=>grind
 |some r=>
  simp only[ht]at h;have:=(hT t r ht).desc
  grind [eN]
def iL:List LV->Option (List IntKind×List Int)
 |[]=>some ([],[])
 |.atom (.int k n)::cs=>match iL cs with
  |some (ks,ns)=>some (k::ks,n::ns)
  |none=>none
 |_=>none
def yU:LV->Option (Bool×List IntKind×List Int)
 |.atom (.int k n)=>some (false,[k],[n])
 |.ag cs=>match iL cs with
  |some (ks,ns)=>some (true,ks,ns)
  |none=>none
 |_=>none
def bN(es:List (List Int×LV))(n9:List Int):Option LV:=match es with
 |[]=>none
 |p::es=>if n9==p.1 then some p.2 else bN es n9
def bQ(es:List (List Int×LV))(n9:List Int)(v:LV):List (List Int×LV):=match es with
 |[]=>[(n9,v)]
 |p::es=>if n9==p.1 then(n9,v)::es else p::bQ es n9 v
def CT(r:bH):LV:=if r.agg then .ag (r.zero.map cG)else hdL (r.zero.map cG)
def wM(k:IntKind)(a b:Int):Int:=k.wrap (BitVec.ofInt k.bits a &&& BitVec.ofInt k.bits b).toNat
def gor(k:IntKind)(a b:Int):Int:=k.wrap (BitVec.ofInt k.bits a ||| BitVec.ofInt k.bits b).toNat
def Sg(k:IntKind)(a b:Int):Int:=k.wrap (BitVec.ofInt k.bits a ^^^ BitVec.ofInt k.bits b).toNat
def gX(k:IntKind)(a b:Int):Int:=k.wrap (BitVec.ofInt k.bits a &&& ~~~BitVec.ofInt k.bits b).toNat
def FN(k:IntKind)(a b:Int):Int:=k.wrap (a*2 ^ (min b.toNat k.bits))
def OX(k:IntKind)(a b:Int):Int:=a.fdiv (2 ^ (min b.toNat k.bits))
def TP(op:BinOp)(k:IntKind)(a:Int)(k':IntKind)(b:Int):Option AB:=
 match op with
 |.add=>some ⟨k=k',.int k (k.wrap (a+b))⟩
 |.sub=>some ⟨k=k',.int k (k.wrap (a-b))⟩
 |.mul=>some ⟨k=k',.int k (k.wrap (a*b))⟩
 |.quo=>some ⟨k=k'/\b≠0,.int k (k.wrap (a.tdiv b))⟩
 |.rem=>some ⟨k=k'/\b≠0,.int k (a.tmod b)⟩
 |.shl=>some ⟨0<=b,.int k (FN k a b)⟩
 |.shr=>some ⟨0<=b,.int k (OX k a b)⟩
 |.eql=>some ⟨k=k',.bool (a==b)⟩
 |.neq=>some ⟨k=k',.bool (a != b)⟩
 |.lss=>some ⟨k=k',.bool (decide (a<b))⟩
 |.leq=>some ⟨k=k',.bool (decide (a<=b))⟩
 |.gtr=>some ⟨k=k',.bool (decide (a > b))⟩
 |.geq=>some ⟨k=k',.bool (decide (a>=b))⟩
 |.and=>some ⟨k=k',.int k (wM k a b)⟩
 |.or=>some ⟨k=k',.int k (gor k a b)⟩
 |.xor=>some ⟨k=k',.int k (Sg k a b)⟩
 |.andNot=>some ⟨k=k',.int k (gX k a b)⟩
theorem JB{P:Program}{w:World}{op:BinOp}{k k':IntKind}{a b:Int}{t:TypeId}{r:AB}(h:TP op k a k' b=some r)(hc:r.c):
 (binOp op t (.int k a) (.int k' b)).run P w=.ok r.v w:=by
 cases op<;>simp only[TP,aAb]at h<;>subst h<;>
  first
  |(obtain rfl:=hc;simp[binOp,Op.intArith,Op.intBits,Op.intCmp,wM,gor,Sg,gX])
  |(obtain⟨rfl,hb⟩:=hc;simp[binOp,Op.intDiv,hb])
  |(have:¬b<0:=by simp only at hc;omega
    simp[binOp,Op.shift,this,FN,OX])
theorem Hy{P:Program}{w:World}(op:BinOp)(t:TypeId)(x y:Operand)(k k':IntKind)(a b:Int):(eqGuard op t x y (.int k a) (.int k' b)).run P w=.ok () w:=by unfold eqGuard;simp_all
theorem uK{P:Program}{w:World}(op:BinOp)(t:TypeId)(x y:Operand)(a b:Bool):(eqGuard op t x y (.bool a) (.bool b)).run P w=.ok () w:=by unfold eqGuard;simp_all
def Hz(T:Tab)(t:TypeId):Bool:=match T t with
 |some r=>match r.d with|.ptr _=>true|_=>false
 |none=>false
theorem Gp{P:Program}{T:Tab}(hT:aX P T){t:Nat}(h:Hz T t=true):∃ e,P.underlying t=some (.pointer e):=by
 unfold Hz at h;cases ht:T t with
 |none=>grind
 |some r=>
  simp only[ht]at h;have:=(hT t r ht).desc
  grind [eN]
def RH(T:Tab)(t:TypeId):Bool:=match T t with
 |some r=>match r.d with|.func=>true|_=>false
 |none=>false
theorem LU{P:Program}{T:Tab}(hT:aX P T){t:Nat}(h:RH T t=true):∃ a b c,P.underlying t=some (.func a b c):=by
 unfold RH at h;cases ht:T t with
 |none=>grind
 |some r=>
  simp only[ht]at h;have:=(hT t r ht).desc
  grind [eN]
def BP(T:Tab)(t:TypeId):Bool:=match T t with
 |some r=>match r.d with|.map _ _=>true|_=>false
 |none=>false
theorem DF{P:Program}{T:Tab}(hT:aX P T){t:Nat}(h:BP T t=true):∃ k e,P.underlying t=some (.map k e):=by
 unfold BP at h;cases ht:T t with
 |none=>grind
 |some r=>
  simp only[ht]at h;have:=(hT t r ht).desc
  grind [eN]
def vG:LV->Option Bool
 |.fn _ _=>some false
 |.atom .nilFunc=>some true
 |_=>none
def tT:LV->Option Bool
 |.mp _=>some false
 |.atom (.map none)=>some true
 |_=>none
def nilPtr:LV->Option Bool
 |.pt _ _=>some false
 |.ep _=>some false
 |.pe _ _=>some false
 |.atom (.pointer none)=>some true
 |_=>none
def HA(T:Tab)(op:BinOp)(t:TypeId)(x y:LV)(st:St):Option bP:=
 match x,y with
 |.atom (.int k a),.atom (.int k' b)=>(TP op k a k' b).map fun r=>@bP.mk r.c (.atom r.v) st r.d
 |.atom (.bool a),.atom (.bool b)=>match op with
  |.eql=>some ⟨vC T t=true,.atom (.bool (a==b)),st⟩
  |.neq=>some ⟨vC T t=true,.atom (.bool (!(a==b))),st⟩
  |_=>none
 |.ag xs,.ag ys=>match T t,iL xs,iL ys with
  |some r,some (ks,n9),some (R6,bs)=>match op with
   |.eql=>some ⟨r.ck=some ks/\R6=ks/\r.agg=true,.atom (.bool (n9==bs)),st⟩
   |.neq=>some ⟨r.ck=some ks/\R6=ks/\r.agg=true,.atom (.bool (!(n9==bs))),st⟩
   |_=>none
  |_,_,_=>none
 |.nil,.nil=>match op with
  |.eql=>some ⟨(cO T t).isSome=true,.atom (.bool true),st⟩
  |.neq=>some ⟨(cO T t).isSome=true,.atom (.bool false),st⟩
  |_=>none
 |x,.atom (.map none)=>match tT x,op with
  |some b,.eql=>some ⟨BP T t=true,.atom (.bool b),st⟩
  |some b,.neq=>some ⟨BP T t=true,.atom (.bool (!b)),st⟩
  |_,_=>none
 |x,.atom (.pointer none)=>match nilPtr x,op with
  |some b,.eql=>some ⟨Hz T t=true,.atom (.bool b),st⟩
  |some b,.neq=>some ⟨Hz T t=true,.atom (.bool (!b)),st⟩
  |_,_=>none
 |x,.atom .nilFunc=>match vG x,op with
  |some b,.eql=>some ⟨RH T t=true,.atom (.bool b),st⟩
  |some b,.neq=>some ⟨RH T t=true,.atom (.bool (!b)),st⟩
  |_,_=>none
 |_,_=>none
def UZ(op:UnOp)(x:LV)(st:St):Option bP:=
 match op,x with
 |.not,.atom (.bool b)=>some ⟨True,.atom (.bool !b),st⟩
 |.neg,.atom (.int k n)=>some ⟨True,.atom (.int k (k.wrap (0-n))),st⟩
 |_,_=>none
def BH(T:Tab)(t:TypeId)(x:LV)(st:St):Option bP:=
 match T t,eR st x with
 |some r,some cs=>if r.agg then some ⟨r.size<=cs.length,.ag (cs.take r.size),st⟩else some ⟨0<cs.length,hdL cs,st⟩
 |_,_=>none
def Ql(T:Tab)(t:TypeId)(x i:LV)(st:St):Option bP:=
 match cO T t,i with
 |some e,.atom (.int _ i)=>match T e with
  |some r=>match x with
   |.ms l o n=>some ⟨0<=i/\i<n,.pt l (o+i.toNat*r.size),st⟩
   |x=>match vU x with
    |some (_,n,cs)=>some ⟨0<=i/\i<n/\i.toNat*r.size<cs.length,.ep (cs.drop (i.toNat*r.size)),st⟩
    |none=>none
  |_=>none
 |_,_=>none
def lF(T:Tab)(t:TypeId)(x:LV)(f:Nat)(st:St):Option bP:=
 match sK T t with
 |some fs=>match fs[f]? with
  |some (off,ty)=>match T ty with
   |some r=>match x with
    |.pt l o=>some ⟨r.size≠0,.pt l (o+off),st⟩
    |.ep cs=>some ⟨r.size≠0,.ep (cs.drop off),st⟩
    |.pe _ cs=>some ⟨r.size≠0,.ep (cs.drop off),st⟩
    |_=>none
   |none=>none
  |none=>none
 |_=>none
def Ad(T:Tab)(t:TypeId)(x:LV)(f:Nat)(st:St):Option bP:=
 match sK T t,x with
 |some fs,.ag cs=>match fs[f]? with
  |some (off,ty)=>match T ty with
   |some r=>if r.agg then some ⟨True,.ag ((cs.drop off).take r.size),st⟩else some ⟨off<cs.length,hdL (cs.drop off),st⟩
   |none=>none
  |none=>none
 |_,_=>none
def eO:Option LV->Nat->Option Int
 |none,d=>some d
 |some (.atom (.int _ i)),_=>some i
 |_,_=>none
def CB(T:Tab)(t:TypeId)(x:LV)(lo hi mx:Option LV)(st:St):Option bP:=
 match cO T t with
 |some e=>match T e with
  |some r=>match mx with
   |none=>match x with
    |.ms b o n=>match eO lo 0,eO hi n with
     |some l,some h=>some ⟨0<=l/\l<=h/\h<=n/\0<r.size,.ms b (o+l.toNat*r.size) (h.toNat-l.toNat),st⟩
     |_,_=>none
    |.kap b n c=>match eO lo 0,eO hi n with
     |some l,some h=>some ⟨0<=l/\l<=h/\h<=c/\0<r.size,if lo.isNone then .kap b h.toNat c else .ms b (l.toNat*r.size) (h.toNat-l.toNat),st⟩
     |_,_=>none
    |.nil=>match eO lo 0,eO hi 0 with
     |some l,some h=>some ⟨l=0/\h=0,.nil,st⟩
     |_,_=>none
    |.qu t o n cs=>match eO lo 0,eO hi n with
     |some l,some h=>some ⟨0<=l/\l<=h/\h<=n/\r.size=1,.qu t (o+l.toNat) (h.toNat-l.toNat) ((cs.drop l.toNat).take (h.toNat-l.toNat)),st⟩
     |_,_=>none
    |x=>match vU x with
     |some (_,n,cs)=>match eO lo 0,eO hi n with
      |some l,some h=>some ⟨0<=l/\l<=h/\h<=n,.sl 0 (h.toNat-l.toNat) ((cs.drop (l.toNat*r.size)).take ((h.toNat-l.toNat)*r.size)),st⟩
      |_,_=>none
     |none=>none
   |some (.atom (.int _ m))=>match lo,hi,vU x with
    |none,some (.atom (.int _ h)),some _=>some ⟨m=0/\h=0,.emp,st⟩
    |some (.atom (.int _ l)),some (.atom (.int _ h)),none=>match x with
     |.ms _ _ n=>some ⟨0<=l/\l<=h/\h<=m/\m<=n,.dead,st⟩
     |.kap _ _ c=>some ⟨0<=l/\l<=h/\h<=m/\m<=c,.dead,st⟩
     |_=>none
    |_,_,_=>none
   |_=>none
  |none=>none
 |none=>none
def VX(t:TypeId)(x:LV)(st:St):Option bP:=
 match dY x with
 |some cs=>some ⟨True,.pt st.next 0,st.new (.box t cs.length cs)⟩
 |none=>none
def FO(T:Tab)(t:TypeId)(st:St):Option bP:=
 match T t with
 |some r=>some ⟨True,.pt st.next 0,st.new (.box t r.size (r.zero.map cG))⟩
 |none=>none
def FX(T:Tab)(t:TypeId)(x v:LV)(st:St):Option bP:=
 match T t,x,dY v with
 |some r,.pt l o,some ds=>match st.H l with
  |.box e s cs=>some ⟨ds.length=r.size/\o+ds.length<=cs.length/\ds.all iK=true,.dead,st.set l (.box e s (cs.take o++ds++cs.drop (o+ds.length)))⟩
  |_=>none
 |_,_,_=>none
def qH(place:Nat->Option (Nat×Nat))(cells:List LV):List (Nat×LV)->Option (List LV)
 |[]=>some cells
 |(i,v)::rest=>
  match place i,dY v with
  |some (off,size),some ds=>if ds.length=size/\off+ds.length<=cells.length then qH place (cells.take off++ds++cells.drop (off+ds.length)) rest else none
  |_,_=>none
def sH(T:Tab):List (Nat×Nat)->Option (List (Nat×Nat))
 |[]=>some []
 |(off,ty)::r=>match T ty,sH T r with
  |some q,some l=>some ((off,q.size)::l)
  |_,_=>none
def VZ(T:Tab)(t:Nat):Option Nat:=match T t with
 |some r=>match r.d with|.arr _ e=>some e|_=>none
 |none=>none
theorem Uc{P:Program}{T:Tab}(hT:aX P T){t e:Nat}(h:VZ T t=some e):∃ n,P.underlying t=some (.array n e):=by
 unfold VZ at h;cases ht:T t with
 |none=>grind
 |some r=>
  simp only[ht]at h;have:=(hT t r ht).desc
  grind [eN]
def GF(T:Tab)(t:TypeId)(parts:List (Nat×LV))(st:St):Option bP:=
 match sK T t,T t with
 |some fs,some r=>match sH T fs with
  |some ps=>match qH (fun i=>ps[i]?) (r.zero.map cG) parts with
   |some cs=>some ⟨r.agg=true,.ag cs,st⟩
   |none=>none
  |none=>none
 |none,some r=>match VZ T t with
  |some e=>match T e with
   |some re=>match qH (fun i=>some (i*re.size,re.size)) (r.zero.map cG) parts with
    |some cs=>some ⟨r.agg=true,.ag cs,st⟩
    |none=>none
   |none=>none
  |none=>none
 |_,_=>none
def eF(z:List LV):Nat->List LV
 |0=>[]
 |n+1=>z++eF z n
def mG(T:Tab)(m:Bool)(t:TypeId)(len:Nat)(parts:List (Nat×LV))(st:St):Option bP:=
 match cO T t with
 |some e=>match T e with
  |some r=>match qH (fun i=>some (i*r.size,r.size)) (eF (r.zero.map cG) len) parts with
   |some cs=>if m then some ⟨len*r.size<=16777216/\0<r.size,.ms st.next 0 len,st.new (.box e r.size cs)⟩
    else some ⟨len*r.size<=16777216/\0<r.size,.sl st.next len cs,st.new (.own e r.size len)⟩
   |none=>none
  |none=>none
 |_=>none
def isStr(T:Tab)(t:TypeId):Bool:=match T t with
 |some r=>match r.d with|.str=>true|_=>false
 |none=>false
theorem SJ{P:Program}{T:Tab}(hT:aX P T){t:Nat}(h:isStr T t=true):P.underlying t=some .string:=by
 unfold isStr at h;cases ht:T t with
 |none=>grind
 |some r=>
  simp only[ht]at h;have:=(hT t r ht).desc
  grind [eN]
def Fe(T:Tab)(t:TypeId)(x i:LV)(st:St):Option bP:=
 match x,i with
 |.atom (.string s),.atom (.int _ i)=>some ⟨isStr T t=true/\0<=i/\(s[i.toNat]?).isSome=true,.atom (.int .u8 ((s[i.toNat]?).getD 0).toNat),st⟩
 |_,_=>none
def uJ(T:Tab)(t:TypeId)(x i:LV)(ok:Bool)(st:St):Option bP:=
 match kR T t with
 |some (k,e)=>match T k,T e,yU i with
  |some rk,some re,some (ag,ks,n9)=>match x with
   |.mp l=>match st.H l with
    |.map ag' R6 es=>some ⟨rk.ck=some ks/\rk.agg=ag/\ag'=ag/\R6=ks,if ok then .tu [(bN es n9).getD (CT re),.atom (.bool (bN es n9).isSome)]else(bN es n9).getD (CT re),st⟩
    |_=>none
   |.atom (.map none)=>some ⟨rk.ck=some ks/\rk.agg=ag,if ok then .tu [CT re,.atom (.bool false)]else CT re,st⟩
   |_=>none
  |_,_,_=>none
 |none=>none
def uE(T:Tab)(t:TypeId)(x i v:LV)(st:St):Option bP:=
 match kR T t with
 |some (k,_)=>match T k,yU i with
  |some rk,some (ag,ks,n9)=>match x with
   |.mp l=>match st.H l with
    |.map ag' R6 es=>some ⟨rk.ck=some ks/\rk.agg=ag/\ag'=ag/\R6=ks,.dead,st.set l (.map ag ks (bQ es n9 v))⟩
    |_=>none
   |_=>none
  |_,_=>none
 |none=>none
def vL(T:Tab)(t:TypeId)(rs:Option LV)(st:St):Option bP:=
 match kR T t with
 |some (k,_)=>match T k with
  |some rk=>match rk.ck with
   |some ks=>match rs with
    |none=>some ⟨True,.mp st.next,st.new (.map rk.agg ks [])⟩
    |some (.atom (.int _ _))=>some ⟨True,.mp st.next,st.new (.map rk.agg ks [])⟩
    |_=>none
   |none=>none
  |none=>none
 |none=>none
def Ss(T:Tab)(t:TypeId)(x:LV)(st:St):Option bP:=
 match cO T t with
 |some _=>match x with
  |.ms _ _ n=>some ⟨True,.atom (.int .i64 n),st⟩
  |.kap _ n _=>some ⟨True,.atom (.int .i64 n),st⟩
  |x=>match vU x with
   |some (_,n,_)=>some ⟨True,.atom (.int .i64 n),st⟩
   |none=>none
 |none=>none
def TZ(T:Tab)(t:TypeId)(x:LV)(st:St):Option bP:=
 match kR T t,x with
 |some _,.mp l=>match st.H l with
  |.map _ _ es=>some ⟨True,.atom (.int .i64 es.length),st⟩
  |_=>none
 |_,_=>none
def VJ(x y:LV)(st:St):Option bP:=
 match x,y with
 |.atom (.int k a),.atom (.int _ b)=>some ⟨True,.atom (.int k (if b<a then b else a)),st⟩
 |_,_=>none
def UK(x y:LV)(st:St):Option bP:=
 match x,y with
 |.atom (.int k a),.atom (.int _ b)=>some ⟨True,.atom (.int k (if a<b then b else a)),st⟩
 |_,_=>none
def Cs(T:Tab)(t:TypeId)(st:St)(x:LV):Option (Nat×List LV):=
 match x with
 |.ms l o n=>match cO T t with
  |some e=>match T e with
   |some r=>match st.H l with
    |.box _ _ cs=>some (n,(cs.drop o).take (n*r.size))
    |_=>none
   |none=>none
  |none=>none
 |x=>(vU x).map fun p=>(p.2.1,p.2.2)
def zF(T:Tab)(md:Bool)(t:TypeId)(s x:LV)(st:St):Option bP:=
 match cO T t,Cs T t st x with
 |some e,some (m,ds)=>match T e with
  |some r=>match s with
   |.nil=>if md then some ⟨ds.length=m*r.size/\ds.all iK=true/\m*r.bytes<=140737488355328/\m<=maxLen/\0<r.size,.ms st.next 0 m,st.new (.box e r.size ds)⟩
    else some ⟨ds.length=m*r.size/\ds.all iK=true/\m*r.bytes<=140737488355328/\m<=maxLen/\0<r.size,.sl st.next m ds,st.new (.own e r.size m)⟩
   |.emp=>if md then some ⟨ds.length=m*r.size/\ds.all iK=true/\m*r.bytes<=140737488355328/\m<=maxLen/\0<r.size,.ms st.next 0 m,st.new (.box e r.size ds)⟩
    else some ⟨ds.length=m*r.size/\ds.all iK=true/\m*r.bytes<=140737488355328/\m<=maxLen/\0<r.size,.sl st.next m ds,st.new (.own e r.size m)⟩
   |.sl q n cs=>match st.H q with
    |.own e' s' n'=>some ⟨e'=e/\s'=r.size/\n'=n/\cs.length=n*r.size/\q≠0/\ds.length=m*r.size/\ds.all iK=true/\(n+m)*r.bytes<=140737488355328/\n+m<=maxLen/\0<r.size,
      .sl st.next (n+m) (cs++ds),(st.set q .dead).new (.own e r.size (n+m))⟩
    |_=>none
   |.kap l n _=>match st.H l with
    |.box e' s' cs=>some ⟨e'=e/\s'=r.size/\n*r.size<=cs.length/\ds.length=m*r.size/\ds.all iK=true/\(n+m)*r.bytes<=140737488355328/\n+m<=maxLen/\0<r.size,
      .ms st.next 0 (n+m),(st.set l .dead).new (.box e r.size (cs.take (n*r.size)++ds))⟩
    |_=>none
   |.ms l o n=>match st.H l with
    |.box e' s' cs=>some ⟨o=0/\e'=e/\s'=r.size/\n*r.size<=cs.length/\ds.length=m*r.size/\ds.all iK=true/\(n+m)*r.bytes<=140737488355328/\n+m<=maxLen/\0<r.size,
      .ms st.next 0 (n+m),(st.set l .dead).new (.box e r.size (cs.take (n*r.size)++ds))⟩
    |_=>none
   |.qu q o n cs=>match st.H q with
    |.que e' n'=>some ⟨e'=e/\r.size=1/\o+n=n'/\cs.length=n/\ds.length=m/\ds.all iK=true/\(n+m)*r.bytes<=140737488355328/\n+m<=maxLen,
      .qu st.next 0 (n+m) (cs++ds),(st.set q .dead).new (.que e (n+m))⟩
    |_=>none
   |_=>none
  |none=>none
 |_,_=>none
def Wo(T:Tab)(t:TypeId)(x:LV)(st:St):Option bP:=
 match cO T t,x with
 |some _,.nil=>some ⟨True,.atom (.int .i64 0),st⟩
 |some _,.kap _ _ c=>some ⟨True,.atom (.int .i64 c),st⟩
 |_,_=>none
def zI(T:Tab)(t t':TypeId)(s x:LV)(st:St):Option bP:=
 match cO T t,OJ T t' with
 |some e,some _=>match T e with
  |some r=>match s,x with
   |.nil,.atom (.int _ n)=>some ⟨0<n/\n*r.bytes<=140737488355328/\n<=9223372036854775807/\0<r.size,.ms st.next 0 n.toNat,st.new (.box e r.size (eF (r.zero.map cG) n.toNat))⟩
   |.kap l n c,.atom (.int _ z)=>match st.H l with
    |.box e' s' cs=>some ⟨e'=e/\s'=r.size/\n*r.size<=cs.length/\0<z/\(c:Int)<n+z/\(n+z)*r.bytes<=140737488355328/\n+z<=9223372036854775807/\0<r.size,
      .ms st.next 0 (n+z.toNat),st.new (.box e r.size (cs.take (n*r.size)++eF (r.zero.map cG) z.toNat))⟩
    |_=>none
   |_,_=>none
  |none=>none
 |_,_=>none
def oV(T:Tab)(t:TypeId)(l c:LV)(st:St):Option bP:=
 match cO T t with
 |some e=>match T e with
  |some r=>match l,c with
   |.atom (.int _ n),.atom (.int _ n')=>some ⟨n=n'/\0<=n/\n*r.bytes<=140737488355328/\n<=9223372036854775807/\0<r.size,.ms st.next 0 n.toNat,st.new (.box e r.size (eF (r.zero.map cG) n.toNat))⟩
   |_,_=>none
  |none=>none
 |none=>none
def FG(T:Tab)(t:TypeId)(x:LV)(st:St):Option bP:=
 match cO T t,x with
 |some e,.ms l o n=>match T e,st.H l with
  |some r,.box e' s cs=>some ⟨o+n*r.size<=cs.length/\0<r.size,.tu [],st.set l (.box e' s (cs.take o++eF (r.zero.map cG) n++cs.drop (o+n*r.size)))⟩
  |_,_=>none
 |_,_=>none
def sameBox:Bool->LV->LV->Bool
 |true,.kap l _ _,.ms l' _ _=>decide (l=l')
 |_,_,_=>false
def uL(T:Tab)(t:TypeId)(s x:LV)(st:St):Option bP:=
 match cO T t,s,x with
 |some e,.kap l n c,.ms l' o' m=>match T e,st.H l with
  |some r,.box e' s' cs=>some ⟨l'=l/\n+m<=c/\e'=e/\s'=r.size/\(n+m)*r.size<=cs.length/\o'+m*r.size<=cs.length/\((cs.drop o').take (m*r.size)).all iK=true/\0<r.size/\(n+m)*r.bytes<=140737488355328/\n+m<=maxLen,
    .kap l (n+m) c,st.set l (.box e' s' (cs.take (n*r.size)++(cs.drop o').take (m*r.size)++cs.drop ((n+m)*r.size)))⟩
  |_,_=>none
 |_,_,_=>none
def MB(T:Tab)(t t':TypeId)(x y:LV)(st:St):Option bP:=
 match cO T t,Cs T t' st y with
 |some e,some (m,ds)=>match T e,x with
  |some r,.ms l o n=>match st.H l with
   |.box e' s cs=>some ⟨t'=t/\ds.length=m*r.size/\o+n*r.size<=cs.length/\(ds.take (min n m*r.size)).all iK=true/\0<r.size,.atom (.int .i64 ((min n m:Nat):Int)),
     st.set l (.box e' s (cs.take o++ds.take (min n m*r.size)++cs.drop (o+min n m*r.size)))⟩
   |_=>none
  |_,_=>none
 |_,_=>none
def yT(es:List (List Int×LV))(n9:List Int):List (List Int×LV):=match es with
 |[]=>[]
 |p::es=>if n9==p.1 then es else p::yT es n9
def zQ(T:Tab)(t:TypeId)(x i:LV)(st:St):Option bP:=
 match kR T t with
 |some (k,_)=>match T k,yU i with
  |some rk,some (ag,ks,n9)=>match x with
   |.mp l=>match st.H l with
    |.map ag' R6 es=>some ⟨rk.ck=some ks/\rk.agg=ag/\ag'=ag/\R6=ks,.tu [],st.set l (.map ag ks (yT es n9))⟩
    |_=>none
   |_=>none
  |_,_=>none
 |none=>none
def DA(T:Tab)(m:Bool)(c:Call)(fr:Frm)(st:St):Option bP:=
 match c.callee,c.args.toList,c.argTypes.toList with
 |.builtin .len,[x],t::_=>match kR T t with
  |none=>Ss T t (aH fr x) st
  |some _=>TZ T t (aH fr x) st
 |.builtin .min,[x,y],_=>VJ (aH fr x) (aH fr y) st
 |.builtin .max,[x,y],_=>UK (aH fr x) (aH fr y) st
 |.builtin .append,[s,x],[t,t']=>if t=t' then(if sameBox m (aH fr s) (aH fr x)=true then uL T t (aH fr s) (aH fr x) st else zF T m t (aH fr s) (aH fr x) st)else zI T t t' (aH fr s) (aH fr x) st
 |.builtin .cap,[x],t::_=>Wo T t (aH fr x) st
 |.builtin .clear,[x],[t]=>FG T t (aH fr x) st
 |.builtin .copy,[x,y],[t,t']=>MB T t t' (aH fr x) (aH fr y) st
 |.builtin .delete,[x,i],[t,_]=>zQ T t (aH fr x) (aH fr i) st
 |_,_,_=>none
def aop(T:Tab)(m:Bool)(o:Oper)(fr:Frm)(st:St):Option bP:=
 match o.op with
 |.move x|.assign x=>some ⟨True,aH fr x,st⟩
 |.pick c a b=>match aH fr c with
  |.atom (.bool t)=>some ⟨True,if t then aH fr a else aH fr b,st⟩
  |_=>none
 |.binOp op t x y _=>HA T op t (aH fr x) (aH fr y) st
 |.unOp op _ x=>UZ op (aH fr x) st
 |.convert s d x=>match OJ T s,OJ T d,aH fr x with
  |some _,some k,.atom (.int _ n)=>some ⟨True,.atom (.int k (k.wrap n)),st⟩
  |_,_,_=>none
 |.load t x=>BH T t (aH fr x) st
 |.store t x v=>FX T t (aH fr x) (aH fr v) st
 |.indexAddr t x i=>Ql T t (aH fr x) (aH fr i) st
 |.fieldAddr t x f=>lF T t (aH fr x) f st
 |.field t x f=>Ad T t (aH fr x) f st
 |.slice t x lo hi mx=>CB T t (aH fr x) (lo.map (aH fr)) (hi.map (aH fr)) (mx.map (aH fr)) st
 |.box t x=>VX t (aH fr x) st
 |.alloc t=>FO T t st
 |.build t ps=>GF T t (ps.toList.map fun p=>(p.1,aH fr p.2)) st
 |.buildSlice t n ps=>mG T m t n (ps.toList.map fun p=>(p.1,aH fr p.2)) st
 |.makeFunc f first IQ=>if first.isEmpty then some ⟨True,.fn f (IQ.toList.map (aH fr)),st⟩else none
 |.extract x i=>match aH fr x with
  |.tu vs=>match vs[i]? with|some v=>some ⟨True,v,st⟩|none=>none
  |_=>none
 |.nilCheck x=>match aH fr x with
  |.pt l o=>some ⟨True,.pt l o,st⟩
  |.pe l cs=>some ⟨True,.pe l cs,st⟩
  |_=>none
 |.call c=>DA T m c fr st
 |.index t x i=>Fe T t (aH fr x) (aH fr i) st
 |.lookup t x i ok=>uJ T t (aH fr x) (aH fr i) ok st
 |.mapUpdate t x i v=>uE T t (aH fr x) (aH fr i) (aH fr v) st
 |.insert t x i v=>uE T t (aH fr x) (aH fr i) (aH fr v) st
 |.makeMap t r=>vL T t (r.map (aH fr)) st
 |.makeSlice t l c=>oV T t (aH fr l) (aH fr c) st
 |_=>none
def aR:Op->Bool
 |.move _|.assign _|.pick ..|.binOp ..|.unOp ..|.convert ..|.load ..|.indexAddr ..|.fieldAddr ..|.field ..|.slice ..|.extract ..|.nilCheck _|.makeFunc ..|.lookup ..|.index ..=>true
 |.call { callee:=.builtin .len,.. }|.call { callee:=.builtin .min,.. }|.call { callee:=.builtin .max,.. }=>true
 |_=>false
end Aw
end Go.Proofs.YtbgngpdonpeboaaGreatDoor
