/- What each operation does to logical values; that memory follows it. No program is named here: types come in by a table. -/
import Derived.Test.YtbgngpdonpeboaaGreatDoorAwMem
import Derived.Laws.IdiomCopy
set_option linter.unusedVariables false
set_option linter.unusedSimpArgs false
namespace Go.Proofs.YtbgngpdonpeboaaGreatDoor
namespace Aw
open Go Go.RowKit
inductive TD where
 |int (k:IntKind)
 |bool
 |str
 |slice (e:Nat)
 |struct (fs:List (Nat×Nat))
 |map (k e:Nat)
 |ptr (e:Nat)
 |arr (n e:Nat)
 |func
 |other
structure bK where
 agg:Bool
 size:Nat
 bytes:Nat
 zero:List Value
 d:TD
 ck:Option (List IntKind):=none
def bK.zeroV(r:bK):Value:=if r.agg then .agg r.zero.toArray else r.zero.headD undef
def eH(P:Program)(t:Nat):TD->Prop
 |.int k=>P.underlying t=some (.int k)
 |.bool=>P.underlying t=some .bool
 |.str=>P.underlying t=some .string
 |.slice e=>P.underlying t=some (.slice e)
 |.struct fs=>∃ F:Array Field,P.underlying t=some (.struct F)/\F.toList.map (fun f=>(f.offset,f.type))=fs
 |.map k e=>P.underlying t=some (.map k e)
 |.ptr e=>P.underlying t=some (.pointer e)
 |.arr n e=>P.underlying t=some (.array n e)
 |.func=>∃ a b c,P.underlying t=some (.func a b c)
 |.other=>True
structure BU(P:Program)(t:Nat)(ag:Bool)(ks:List IntKind):Prop where
 eq:∀(w:World) (o7 bs:List Int),o7.length=ks.length->bs.length=ks.length->(Op.equal t (mkV ag ks o7) (mkV ag ks bs)).run P w=.ok (o7==bs) w
 chk:∀(w:World) (em:Bool) (o7:List Int),o7.length=ks.length->(Instr.checkKey em 10000 t (mkV ag ks o7)).run P w=.ok () w
 guard:ag=true->P.eqGuardType P.depth t=false
 one:ag=false->ks.length=1
 now:∃ d,P.underlying t=some d/\((∀ o7 bs:List Int,o7.length=ks.length->bs.length=ks.length->Instr.sameNow d (mkV ag ks o7) (mkV ag ks bs)=some (o7==bs))\/
  (∀ o7 bs:List Int,o7.length=ks.length->bs.length=ks.length->Instr.sameNow d (mkV ag ks o7) (mkV ag ks bs)=none))
structure bE(P:Program)(t:Nat)(r:bK):Prop where
 agg:∀ w,(isAgg t).run P w=.ok r.agg w
 info:∃ i,P.info? t=some i/\i.size=r.size/\i.bytes=r.bytes/\i.zero=some r.zeroV
 zl:r.zero.length=r.size
 one:r.agg=false->r.size=1
 zone:r.zero.all Value.oneCell'=true
 desc:eH P t r.d
 eqk:∀ ks,r.ck=some ks->BU P t r.agg ks
abbrev Tab:=Nat->Option bK
def aZ(P:Program)(T:Tab):Prop:=∀ t r,T t=some r->bE P t r
def HE:List (Nat×bK)->Tab
 |[],_=>none
 |p::l,t=>if t=p.1 then some p.2 else HE l t
def Yl(P:Program):List (Nat×bK)->Prop
 |[]=>True
 |p::l=>bE P p.1 p.2/\Yl P l
theorem Gf{P:Program}:∀(l:List (Nat×bK)),Yl P l->aZ P (HE l)
 |[],_,t,r,h=>by grind [HE]
 |p::l,ha,t,r,h=>by
  simp only[HE]at h
  split at h
  .rename_i hf;injection h with h;subst hf h;exact ha.1
  .exact Gf l ha.2 t r h
theorem bE.sizeOf{P:Program}{t:Nat}{r:bK}(h:bE P t r)(w:World):(Go.sizeOf t).run P w=.ok r.size w:=by obtain⟨i,hi,hs,_,_⟩:=h.info;simp[Go.sizeOf,typeInfo,hi,hs]
theorem bE.zeroValue{P:Program}{t:Nat}{r:bK}(h:bE P t r)(w:World):(Go.zeroValue t).run P w=.ok r.zeroV w:=by obtain⟨i,hi,_,_,hz⟩:=h.info;simp[Go.zeroValue,typeInfo,hi,hz]
def cR(T:Tab)(t:Nat):Option Nat:=match T t with
 |some r=>match r.d with|.slice e=>some e|_=>none
 |none=>none
def rV(T:Tab)(t:Nat):Option (List (Nat×Nat)):=match T t with
 |some r=>match r.d with|.struct fs=>some fs|_=>none
 |none=>none
def Nt(T:Tab)(t:Nat):Option IntKind:=match T t with
 |some r=>match r.d with|.int k=>some k|_=>none
 |none=>none
def vV(T:Tab)(t:Nat):Bool:=match T t with
 |some r=>match r.d with|.bool=>true|_=>false
 |none=>false
theorem cG{P:Program}{T:Tab}(hT:aZ P T){t e:Nat}(h:cR T t=some e):P.underlying t=some (.slice e):=by
 unfold cR at h;cases ht:T t with
 |none=>grind
 |some r=>
  simp only[ht]at h;have:=(hT t r ht).desc
  grind [eH]
theorem uJ{P:Program}{T:Tab}(hT:aZ P T){t:Nat}{fs:List (Nat×Nat)}(h:rV T t=some fs):∃ F:Array Field,P.underlying t=some (.struct F)/\F.toList.map (fun f=>(f.offset,f.type))=fs:=by
 unfold rV at h;cases ht:T t with
 |none=>grind
 |some r=>
  simp only[ht]at h;have:=(hT t r ht).desc
  grind [eH]
theorem AV{P:Program}{T:Tab}(hT:aZ P T){t:Nat}{k:IntKind}(h:Nt T t=some k):P.underlying t=some (.int k):=by
 unfold Nt at h;cases ht:T t with
 |none=>grind
 |some r=>
  simp only[ht]at h;have:=(hT t r ht).desc
  grind [eH]
theorem Ay{P:Program}{T:Tab}(hT:aZ P T){t:Nat}(h:vV T t=true):P.underlying t=some .bool:=by
 unfold vV at h;cases ht:T t with
 |none=>grind
 |some r=>
  simp only[ht]at h;have:=(hT t r ht).desc
  grind [eH]
structure bR where
 c:Prop
 v:LV
 s:St
 [d:Decidable c]
structure AB where
 c:Prop
 v:Value
 [d:Decidable c]
def xI:LV->Option (Nat×Nat×List LV)
 |.sl t n cs=>some (t,n,cs)
 |.nil=>some (0,0,[])
 |.emp=>some (0,0,[])
 |.qu _ _ n cs=>some (0,n,cs)
 |_=>none
def eP(st:St):LV->Option (List LV)
 |.ep cs=>some cs
 |.pe _ cs=>some cs
 |.pt l o=>match st.H l with|.box _ _ cs=>some (cs.drop o)|_=>none
 |_=>none
def hdL:List LV->LV
 |[]=>.dead
 |c::_=>c
def dV:LV->Option (List LV)
 |.ag cs=>some cs
 |.dead=>none
 |.tu _=>none
 |.atom (.agg _)=>none
 |.atom (.tuple _)=>none
 |lv=>some [lv]
def iM:LV->Bool
 |.ag _|.dead|.tu _|.atom (.agg _)|.atom (.tuple _)=>false
 |_=>true
def kW(T:Tab)(t:Nat):Option (Nat×Nat):=match T t with
 |some r=>match r.d with|.map k e=>some (k,e)|_=>none
 |none=>none
theorem rP{P:Program}{T:Tab}(hT:aZ P T){t k e:Nat}(h:kW T t=some (k,e)):P.underlying t=some (.map k e):=by
 unfold kW at h;cases ht:T t with
 |none=>grind
 |some r=>
  simp only[ht]at h;have:=(hT t r ht).desc
  grind [eH]
def iR:List LV->Option (List IntKind×List Int)
 |[]=>some ([],[])
 |.atom (.int k n)::cs=>match iR cs with
  |some (ks,ns)=>some (k::ks,n::ns)
  |none=>none
 |_=>none
def zG:LV->Option (Bool×List IntKind×List Int)
 |.atom (.int k n)=>some (false,[k],[n])
 |.ag cs=>match iR cs with
  |some (ks,ns)=>some (true,ks,ns)
  |none=>none
 |_=>none
def bS(es:List (List Int×LV))(o7:List Int):Option LV:=match es with
 |[]=>none
 |p::es=>if o7==p.1 then some p.2 else bS es o7
def bV(es:List (List Int×LV))(o7:List Int)(v:LV):List (List Int×LV):=match es with
 |[]=>[(o7,v)]
 |p::es=>if o7==p.1 then(o7,v)::es else p::bV es o7 v
def BO(r:bK):LV:=if r.agg then .ag (r.zero.map cH)else hdL (r.zero.map cH)
def wM(k:IntKind)(a b:Int):Int:=k.wrap (BitVec.ofInt k.bits a &&& BitVec.ofInt k.bits b).toNat
def gor(k:IntKind)(a b:Int):Int:=k.wrap (BitVec.ofInt k.bits a ||| BitVec.ofInt k.bits b).toNat
def Ra(k:IntKind)(a b:Int):Int:=k.wrap (BitVec.ofInt k.bits a ^^^ BitVec.ofInt k.bits b).toNat
def iG(k:IntKind)(a b:Int):Int:=k.wrap (BitVec.ofInt k.bits a &&& ~~~BitVec.ofInt k.bits b).toNat
def FT(k:IntKind)(a b:Int):Int:=k.wrap (a*2 ^ (min b.toNat k.bits))
def NZ(k:IntKind)(a b:Int):Int:=a.fdiv (2 ^ (min b.toNat k.bits))
def Vm(op:BinOp)(k:IntKind)(a:Int)(k':IntKind)(b:Int):Option AB:=
 match op with
 |.add=>some ⟨k=k',.int k (k.wrap (a+b))⟩
 |.sub=>some ⟨k=k',.int k (k.wrap (a-b))⟩
 |.mul=>some ⟨k=k',.int k (k.wrap (a*b))⟩
 |.quo=>some ⟨k=k'/\b≠0,.int k (k.wrap (a.tdiv b))⟩
 |.rem=>some ⟨k=k'/\b≠0,.int k (a.tmod b)⟩
 |.shl=>some ⟨0<=b,.int k (FT k a b)⟩
 |.shr=>some ⟨0<=b,.int k (NZ k a b)⟩
 |.eql=>some ⟨k=k',.bool (a==b)⟩
 |.neq=>some ⟨k=k',.bool (a != b)⟩
 |.lss=>some ⟨k=k',.bool (decide (a<b))⟩
 |.leq=>some ⟨k=k',.bool (decide (a<=b))⟩
 |.gtr=>some ⟨k=k',.bool (decide (a > b))⟩
 |.geq=>some ⟨k=k',.bool (decide (a>=b))⟩
 |.and=>some ⟨k=k',.int k (wM k a b)⟩
 |.or=>some ⟨k=k',.int k (gor k a b)⟩
 |.xor=>some ⟨k=k',.int k (Ra k a b)⟩
 |.andNot=>some ⟨k=k',.int k (iG k a b)⟩
theorem Jq{P:Program}{w:World}{op:BinOp}{k k':IntKind}{a b:Int}{t:TypeId}{r:AB}(h:Vm op k a k' b=some r)(hc:r.c):
 (binOp op t (.int k a) (.int k' b)).run P w=.ok r.v w:=by
 cases op<;>simp only[Vm,aAb]at h<;>subst h<;>
  first
  |(obtain rfl:=hc;simp[binOp,Op.intArith,Op.intBits,Op.intCmp,wM,gor,Ra,iG])
  |(obtain⟨rfl,hb⟩:=hc;simp[binOp,Op.intDiv,hb])
  |(have:¬b<0:=by simp only at hc;omega
    simp[binOp,Op.shift,this,FT,NZ])
theorem HZ{P:Program}{w:World}(op:BinOp)(t:TypeId)(x y:Operand)(k k':IntKind)(a b:Int):(eqGuard op t x y (.int k a) (.int k' b)).run P w=.ok () w:=by unfold eqGuard;simp_all
theorem vG{P:Program}{w:World}(op:BinOp)(t:TypeId)(x y:Operand)(a b:Bool):(eqGuard op t x y (.bool a) (.bool b)).run P w=.ok () w:=by unfold eqGuard;simp_all
def Hr(T:Tab)(t:TypeId):Bool:=match T t with
 |some r=>match r.d with|.ptr _=>true|_=>false
 |none=>false
theorem Gh{P:Program}{T:Tab}(hT:aZ P T){t:Nat}(h:Hr T t=true):∃ e,P.underlying t=some (.pointer e):=by
 unfold Hr at h;cases ht:T t with
 |none=>grind
 |some r=>
  simp only[ht]at h;have:=(hT t r ht).desc
  grind [eH]
def Rc(T:Tab)(t:TypeId):Bool:=match T t with
 |some r=>match r.d with|.func=>true|_=>false
 |none=>false
theorem MW{P:Program}{T:Tab}(hT:aZ P T){t:Nat}(h:Rc T t=true):∃ a b c,P.underlying t=some (.func a b c):=by
 unfold Rc at h;cases ht:T t with
 |none=>grind
 |some r=>
  simp only[ht]at h;have:=(hT t r ht).desc
  grind [eH]
def CJ(T:Tab)(t:TypeId):Bool:=match T t with
 |some r=>match r.d with|.map _ _=>true|_=>false
 |none=>false
theorem Dh{P:Program}{T:Tab}(hT:aZ P T){t:Nat}(h:CJ T t=true):∃ k e,P.underlying t=some (.map k e):=by
 unfold CJ at h;cases ht:T t with
 |none=>grind
 |some r=>
  simp only[ht]at h;have:=(hT t r ht).desc
  grind [eH]
def vI:LV->Option Bool
 |.fn _ _=>some false
 |.atom .nilFunc=>some true
 |_=>none
def tW:LV->Option Bool
 |.mp _=>some false
 |.atom (.map none)=>some true
 |_=>none
def nilPtr:LV->Option Bool
 |.pt _ _=>some false
 |.ep _=>some false
 |.pe _ _=>some false
 |.atom (.pointer none)=>some true
 |_=>none
def HG(T:Tab)(op:BinOp)(t:TypeId)(x y:LV)(st:St):Option bR:=
 match x,y with
 |.atom (.int k a),.atom (.int k' b)=>(Vm op k a k' b).map fun r=>@bR.mk r.c (.atom r.v) st r.d
 |.atom (.bool a),.atom (.bool b)=>match op with
  |.eql=>some ⟨vV T t=true,.atom (.bool (a==b)),st⟩
  |.neq=>some ⟨vV T t=true,.atom (.bool (!(a==b))),st⟩
  |_=>none
 |.ag xs,.ag ys=>match T t,iR xs,iR ys with
  |some r,some (ks,o7),some (V5,bs)=>match op with
   |.eql=>some ⟨r.ck=some ks/\V5=ks/\r.agg=true,.atom (.bool (o7==bs)),st⟩
   |.neq=>some ⟨r.ck=some ks/\V5=ks/\r.agg=true,.atom (.bool (!(o7==bs))),st⟩
   |_=>none
  |_,_,_=>none
 |.nil,.nil=>match op with
  |.eql=>some ⟨(cR T t).isSome=true,.atom (.bool true),st⟩
  |.neq=>some ⟨(cR T t).isSome=true,.atom (.bool false),st⟩
  |_=>none
 |x,.atom (.map none)=>match tW x,op with
  |some b,.eql=>some ⟨CJ T t=true,.atom (.bool b),st⟩
  |some b,.neq=>some ⟨CJ T t=true,.atom (.bool (!b)),st⟩
  |_,_=>none
 |x,.atom (.pointer none)=>match nilPtr x,op with
  |some b,.eql=>some ⟨Hr T t=true,.atom (.bool b),st⟩
  |some b,.neq=>some ⟨Hr T t=true,.atom (.bool (!b)),st⟩
  |_,_=>none
 |x,.atom .nilFunc=>match vI x,op with
  |some b,.eql=>some ⟨Rc T t=true,.atom (.bool b),st⟩
  |some b,.neq=>some ⟨Rc T t=true,.atom (.bool (!b)),st⟩
  |_,_=>none
 |_,_=>none
def VL(op:UnOp)(x:LV)(st:St):Option bR:=
 match op,x with
 |.not,.atom (.bool b)=>some ⟨True,.atom (.bool !b),st⟩
 |.neg,.atom (.int k n)=>some ⟨True,.atom (.int k (k.wrap (0-n))),st⟩
 |_,_=>none
def Co(T:Tab)(t:TypeId)(x:LV)(st:St):Option bR:=
 match T t,eP st x with
 |some r,some cs=>if r.agg then some ⟨r.size<=cs.length,.ag (cs.take r.size),st⟩else some ⟨0<cs.length,hdL cs,st⟩
 |_,_=>none
def Qy(T:Tab)(t:TypeId)(x i:LV)(st:St):Option bR:=
 match cR T t,i with
 |some e,.atom (.int _ i)=>match T e with
  |some r=>match x with
   |.ms l o n=>some ⟨0<=i/\i<n,.pt l (o+i.toNat*r.size),st⟩
   |x=>match xI x with
    |some (_,n,cs)=>some ⟨0<=i/\i<n/\i.toNat*r.size<cs.length,.ep (cs.drop (i.toNat*r.size)),st⟩
    |none=>none
  |_=>none
 |_,_=>none
def lR(T:Tab)(t:TypeId)(x:LV)(f:Nat)(st:St):Option bR:=
 match rV T t with
 |some fs=>match fs[f]? with
  |some (off,ty)=>match T ty with
   |some r=>match x with
    |.pt l o=>some ⟨r.size≠0,.pt l (o+off),st⟩
    |.ep cs=>some ⟨r.size≠0,.ep (cs.drop off),st⟩
    |.pe _ cs=>some ⟨r.size≠0,.ep (cs.drop off),st⟩
    |_=>none
   |none=>none
  |none=>none
 |_=>none
def CF(T:Tab)(t:TypeId)(x:LV)(f:Nat)(st:St):Option bR:=
 match rV T t,x with
 |some fs,.ag cs=>match fs[f]? with
  |some (off,ty)=>match T ty with
   |some r=>if r.agg then some ⟨True,.ag ((cs.drop off).take r.size),st⟩else some ⟨off<cs.length,hdL (cs.drop off),st⟩
   |none=>none
  |none=>none
 |_,_=>none
def eK:Option LV->Nat->Option Int
 |none,d=>some d
 |some (.atom (.int _ i)),_=>some i
 |_,_=>none
def BP(T:Tab)(t:TypeId)(x:LV)(lo hi mx:Option LV)(st:St):Option bR:=
 match cR T t with
 |some e=>match T e with
  |some r=>match mx with
   |none=>match x with
    |.ms b o n=>match eK lo 0,eK hi n with
     |some l,some h=>some ⟨0<=l/\l<=h/\h<=n/\0<r.size,.ms b (o+l.toNat*r.size) (h.toNat-l.toNat),st⟩
     |_,_=>none
    |.kap b n c=>match eK lo 0,eK hi n with
     |some l,some h=>some ⟨0<=l/\l<=h/\h<=c/\0<r.size,if lo.isNone then .kap b h.toNat c else .ms b (l.toNat*r.size) (h.toNat-l.toNat),st⟩
     |_,_=>none
    |.nil=>match eK lo 0,eK hi 0 with
     |some l,some h=>some ⟨l=0/\h=0,.nil,st⟩
     |_,_=>none
    |.qu t o n cs=>match eK lo 0,eK hi n with
     |some l,some h=>some ⟨0<=l/\l<=h/\h<=n/\r.size=1,.qu t (o+l.toNat) (h.toNat-l.toNat) ((cs.drop l.toNat).take (h.toNat-l.toNat)),st⟩
     |_,_=>none
    |x=>match xI x with
     |some (_,n,cs)=>match eK lo 0,eK hi n with
      |some l,some h=>some ⟨0<=l/\l<=h/\h<=n,.sl 0 (h.toNat-l.toNat) ((cs.drop (l.toNat*r.size)).take ((h.toNat-l.toNat)*r.size)),st⟩
      |_,_=>none
     |none=>none
   |some (.atom (.int _ m))=>match lo,hi,xI x with
    |none,some (.atom (.int _ h)),some _=>some ⟨m=0/\h=0,.emp,st⟩
    |some (.atom (.int _ l)),some (.atom (.int _ h)),none=>match x with
     |.ms _ _ n=>some ⟨0<=l/\l<=h/\h<=m/\m<=n,.dead,st⟩
     |.kap _ _ c=>some ⟨0<=l/\l<=h/\h<=m/\m<=c,.dead,st⟩
     |_=>none
    |_,_,_=>none
   |_=>none
  |none=>none
 |none=>none
def Uo(t:TypeId)(x:LV)(st:St):Option bR:=
 match dV x with
 |some cs=>some ⟨True,.pt st.next 0,st.new (.box t cs.length cs)⟩
 |none=>none
def FE(T:Tab)(t:TypeId)(st:St):Option bR:=
 match T t with
 |some r=>some ⟨True,.pt st.next 0,st.new (.box t r.size (r.zero.map cH))⟩
 |none=>none
def Ee(T:Tab)(t:TypeId)(x v:LV)(st:St):Option bR:=
 match T t,x,dV v with
 |some r,.pt l o,some ds=>match st.H l with
  |.box e s cs=>some ⟨ds.length=r.size/\o+ds.length<=cs.length/\ds.all iM=true,.dead,st.set l (.box e s (cs.take o++ds++cs.drop (o+ds.length)))⟩
  |_=>none
 |_,_,_=>none
def pN(place:Nat->Option (Nat×Nat))(cells:List LV):List (Nat×LV)->Option (List LV)
 |[]=>some cells
 |(i,v)::rest=>
  match place i,dV v with
  |some (off,size),some ds=>if ds.length=size/\off+ds.length<=cells.length then pN place (cells.take off++ds++cells.drop (off+ds.length)) rest else none
  |_,_=>none
def sG(T:Tab):List (Nat×Nat)->Option (List (Nat×Nat))
 |[]=>some []
 |(off,ty)::r=>match T ty,sG T r with
  |some q,some l=>some ((off,q.size)::l)
  |_,_=>none
def Um(T:Tab)(t:Nat):Option Nat:=match T t with
 |some r=>match r.d with|.arr _ e=>some e|_=>none
 |none=>none
theorem Vu{P:Program}{T:Tab}(hT:aZ P T){t e:Nat}(h:Um T t=some e):∃ n,P.underlying t=some (.array n e):=by
 unfold Um at h;cases ht:T t with
 |none=>grind
 |some r=>
  simp only[ht]at h;have:=(hT t r ht).desc
  grind [eH]
def FL(T:Tab)(t:TypeId)(parts:List (Nat×LV))(st:St):Option bR:=
 match rV T t,T t with
 |some fs,some r=>match sG T fs with
  |some ps=>match pN (fun i=>ps[i]?) (r.zero.map cH) parts with
   |some cs=>some ⟨r.agg=true,.ag cs,st⟩
   |none=>none
  |none=>none
 |none,some r=>match Um T t with
  |some e=>match T e with
   |some re=>match pN (fun i=>some (i*re.size,re.size)) (r.zero.map cH) parts with
    |some cs=>some ⟨r.agg=true,.ag cs,st⟩
    |none=>none
   |none=>none
  |none=>none
 |_,_=>none
def dZ(z:List LV):Nat->List LV
 |0=>[]
 |n+1=>z++dZ z n
def mJ(T:Tab)(m:Bool)(t:TypeId)(len:Nat)(parts:List (Nat×LV))(st:St):Option bR:=
 match cR T t with
 |some e=>match T e with
  |some r=>match pN (fun i=>some (i*r.size,r.size)) (dZ (r.zero.map cH) len) parts with
   |some cs=>if m then some ⟨len*r.size<=16777216/\0<r.size,.ms st.next 0 len,st.new (.box e r.size cs)⟩
    else some ⟨len*r.size<=16777216/\0<r.size,.sl st.next len cs,st.new (.own e r.size len)⟩
   |none=>none
  |none=>none
 |_=>none
def isStr(T:Tab)(t:TypeId):Bool:=match T t with
 |some r=>match r.d with|.str=>true|_=>false
 |none=>false
theorem RB{P:Program}{T:Tab}(hT:aZ P T){t:Nat}(h:isStr T t=true):P.underlying t=some .string:=by
 unfold isStr at h;cases ht:T t with
 |none=>grind
 |some r=>
  simp only[ht]at h;have:=(hT t r ht).desc
  grind [eH]
def Es(T:Tab)(t:TypeId)(x i:LV)(st:St):Option bR:=
 match x,i with
 |.atom (.string s),.atom (.int _ i)=>some ⟨isStr T t=true/\0<=i/\(s[i.toNat]?).isSome=true,.atom (.int .u8 ((s[i.toNat]?).getD 0).toNat),st⟩
 |_,_=>none
def vU(T:Tab)(t:TypeId)(x i:LV)(ok:Bool)(st:St):Option bR:=
 match kW T t with
 |some (k,e)=>match T k,T e,zG i with
  |some rk,some re,some (ag,ks,o7)=>match x with
   |.mp l=>match st.H l with
    |.map ag' V5 es=>some ⟨rk.ck=some ks/\rk.agg=ag/\ag'=ag/\V5=ks,if ok then .tu [(bS es o7).getD (BO re),.atom (.bool (bS es o7).isSome)]else(bS es o7).getD (BO re),st⟩
    |_=>none
   |.atom (.map none)=>some ⟨rk.ck=some ks/\rk.agg=ag,if ok then .tu [BO re,.atom (.bool false)]else BO re,st⟩
   |_=>none
  |_,_,_=>none
 |none=>none
def uM(T:Tab)(t:TypeId)(x i v:LV)(st:St):Option bR:=
 match kW T t with
 |some (k,_)=>match T k,zG i with
  |some rk,some (ag,ks,o7)=>match x with
   |.mp l=>match st.H l with
    |.map ag' V5 es=>some ⟨rk.ck=some ks/\rk.agg=ag/\ag'=ag/\V5=ks,.dead,st.set l (.map ag ks (bV es o7 v))⟩
    |_=>none
   |_=>none
  |_,_=>none
 |none=>none
def vM(T:Tab)(t:TypeId)(rs:Option LV)(st:St):Option bR:=
 match kW T t with
 |some (k,_)=>match T k with
  |some rk=>match rk.ck with
   |some ks=>match rs with
    |none=>some ⟨True,.mp st.next,st.new (.map rk.agg ks [])⟩
    |some (.atom (.int _ _))=>some ⟨True,.mp st.next,st.new (.map rk.agg ks [])⟩
    |_=>none
   |none=>none
  |none=>none
 |none=>none
def VA(T:Tab)(t:TypeId)(x:LV)(st:St):Option bR:=
 match cR T t with
 |some _=>match x with
  |.ms _ _ n=>some ⟨True,.atom (.int .i64 n),st⟩
  |.kap _ n _=>some ⟨True,.atom (.int .i64 n),st⟩
  |x=>match xI x with
   |some (_,n,_)=>some ⟨True,.atom (.int .i64 n),st⟩
   |none=>none
 |none=>none
def Vj(T:Tab)(t:TypeId)(x:LV)(st:St):Option bR:=
 match kW T t,x with
 |some _,.mp l=>match st.H l with
  |.map _ _ es=>some ⟨True,.atom (.int .i64 es.length),st⟩
  |_=>none
 |_,_=>none
def Un(x y:LV)(st:St):Option bR:=
 match x,y with
 |.atom (.int k a),.atom (.int _ b)=>some ⟨True,.atom (.int k (if b<a then b else a)),st⟩
 |_,_=>none
def Ur(x y:LV)(st:St):Option bR:=
 match x,y with
 |.atom (.int k a),.atom (.int _ b)=>some ⟨True,.atom (.int k (if a<b then b else a)),st⟩
 |_,_=>none
def Ct(T:Tab)(t:TypeId)(st:St)(x:LV):Option (Nat×List LV):=
 match x with
 |.ms l o n=>match cR T t with
  |some e=>match T e with
   |some r=>match st.H l with
    |.box _ _ cs=>some (n,(cs.drop o).take (n*r.size))
    |_=>none
   |none=>none
  |none=>none
 |x=>(xI x).map fun p=>(p.2.1,p.2.2)
def AO(T:Tab)(md:Bool)(t:TypeId)(s x:LV)(st:St):Option bR:=
 match cR T t,Ct T t st x with
 |some e,some (m,ds)=>match T e with
  |some r=>match s with
   |.nil=>if md then some ⟨ds.length=m*r.size/\ds.all iM=true/\m*r.bytes<=140737488355328/\m<=maxLen/\0<r.size,.ms st.next 0 m,st.new (.box e r.size ds)⟩
    else some ⟨ds.length=m*r.size/\ds.all iM=true/\m*r.bytes<=140737488355328/\m<=maxLen/\0<r.size,.sl st.next m ds,st.new (.own e r.size m)⟩
   |.emp=>if md then some ⟨ds.length=m*r.size/\ds.all iM=true/\m*r.bytes<=140737488355328/\m<=maxLen/\0<r.size,.ms st.next 0 m,st.new (.box e r.size ds)⟩
    else some ⟨ds.length=m*r.size/\ds.all iM=true/\m*r.bytes<=140737488355328/\m<=maxLen/\0<r.size,.sl st.next m ds,st.new (.own e r.size m)⟩
   |.sl q n cs=>match st.H q with
    |.own e' s' n'=>some ⟨e'=e/\s'=r.size/\n'=n/\cs.length=n*r.size/\q≠0/\ds.length=m*r.size/\ds.all iM=true/\(n+m)*r.bytes<=140737488355328/\n+m<=maxLen/\0<r.size,
      .sl st.next (n+m) (cs++ds),(st.set q .dead).new (.own e r.size (n+m))⟩
    |_=>none
   |.kap l n _=>match st.H l with
    |.box e' s' cs=>some ⟨e'=e/\s'=r.size/\n*r.size<=cs.length/\ds.length=m*r.size/\ds.all iM=true/\(n+m)*r.bytes<=140737488355328/\n+m<=maxLen/\0<r.size,
      .ms st.next 0 (n+m),(st.set l .dead).new (.box e r.size (cs.take (n*r.size)++ds))⟩
    |_=>none
   |.ms l o n=>match st.H l with
    |.box e' s' cs=>some ⟨o=0/\e'=e/\s'=r.size/\n*r.size<=cs.length/\ds.length=m*r.size/\ds.all iM=true/\(n+m)*r.bytes<=140737488355328/\n+m<=maxLen/\0<r.size,
      .ms st.next 0 (n+m),(st.set l .dead).new (.box e r.size (cs.take (n*r.size)++ds))⟩
    |_=>none
   |.qu q o n cs=>match st.H q with
    |.que e' n'=>some ⟨e'=e/\r.size=1/\o+n=n'/\cs.length=n/\ds.length=m/\ds.all iM=true/\(n+m)*r.bytes<=140737488355328/\n+m<=maxLen,
      .qu st.next 0 (n+m) (cs++ds),(st.set q .dead).new (.que e (n+m))⟩
    |_=>none
   |_=>none
  |none=>none
 |_,_=>none
def XP(T:Tab)(t:TypeId)(x:LV)(st:St):Option bR:=
 match cR T t,x with
 |some _,.nil=>some ⟨True,.atom (.int .i64 0),st⟩
 |some _,.kap _ _ c=>some ⟨True,.atom (.int .i64 c),st⟩
 |_,_=>none
def Ae(T:Tab)(t t':TypeId)(s x:LV)(st:St):Option bR:=
 match cR T t,Nt T t' with
 |some e,some _=>match T e with
  |some r=>match s,x with
   |.nil,.atom (.int _ n)=>some ⟨0<n/\n*r.bytes<=140737488355328/\n<=9223372036854775807/\0<r.size,.ms st.next 0 n.toNat,st.new (.box e r.size (dZ (r.zero.map cH) n.toNat))⟩
   |.kap l n c,.atom (.int _ z)=>match st.H l with
    |.box e' s' cs=>some ⟨e'=e/\s'=r.size/\n*r.size<=cs.length/\0<z/\(c:Int)<n+z/\(n+z)*r.bytes<=140737488355328/\n+z<=9223372036854775807/\0<r.size,
      .ms st.next 0 (n+z.toNat),st.new (.box e r.size (cs.take (n*r.size)++dZ (r.zero.map cH) z.toNat))⟩
    |_=>none
   |_,_=>none
  |none=>none
 |_,_=>none
def pD(T:Tab)(t:TypeId)(l c:LV)(st:St):Option bR:=
 match cR T t with
 |some e=>match T e with
  |some r=>match l,c with
   |.atom (.int _ n),.atom (.int _ n')=>some ⟨n=n'/\0<=n/\n*r.bytes<=140737488355328/\n<=9223372036854775807/\0<r.size,.ms st.next 0 n.toNat,st.new (.box e r.size (dZ (r.zero.map cH) n.toNat))⟩
   |_,_=>none
  |none=>none
 |none=>none
def Ff(T:Tab)(t:TypeId)(x:LV)(st:St):Option bR:=
 match cR T t,x with
 |some e,.ms l o n=>match T e,st.H l with
  |some r,.box e' s cs=>some ⟨o+n*r.size<=cs.length/\0<r.size,.tu [],st.set l (.box e' s (cs.take o++dZ (r.zero.map cH) n++cs.drop (o+n*r.size)))⟩
  |_,_=>none
 |_,_=>none
def sameBox:Bool->LV->LV->Bool
 |true,.kap l _ _,.ms l' _ _=>decide (l=l')
 |_,_,_=>false
def vF(T:Tab)(t:TypeId)(s x:LV)(st:St):Option bR:=
 match cR T t,s,x with
 |some e,.kap l n c,.ms l' o' m=>match T e,st.H l with
  |some r,.box e' s' cs=>some ⟨l'=l/\n+m<=c/\e'=e/\s'=r.size/\(n+m)*r.size<=cs.length/\o'+m*r.size<=cs.length/\((cs.drop o').take (m*r.size)).all iM=true/\0<r.size/\(n+m)*r.bytes<=140737488355328/\n+m<=maxLen,
    .kap l (n+m) c,st.set l (.box e' s' (cs.take (n*r.size)++(cs.drop o').take (m*r.size)++cs.drop ((n+m)*r.size)))⟩
  |_,_=>none
 |_,_,_=>none
def MA(T:Tab)(t t':TypeId)(x y:LV)(st:St):Option bR:=
 match cR T t,Ct T t' st y with
 |some e,some (m,ds)=>match T e,x with
  |some r,.ms l o n=>match st.H l with
   |.box e' s cs=>some ⟨t'=t/\ds.length=m*r.size/\o+n*r.size<=cs.length/\(ds.take (min n m*r.size)).all iM=true/\0<r.size,.atom (.int .i64 ((min n m:Nat):Int)),
     st.set l (.box e' s (cs.take o++ds.take (min n m*r.size)++cs.drop (o+min n m*r.size)))⟩
   |_=>none
  |_,_=>none
 |_,_=>none
def zF(es:List (List Int×LV))(o7:List Int):List (List Int×LV):=match es with
 |[]=>[]
 |p::es=>if o7==p.1 then es else p::zF es o7
def AZ(T:Tab)(t:TypeId)(x i:LV)(st:St):Option bR:=
 match kW T t with
 |some (k,_)=>match T k,zG i with
  |some rk,some (ag,ks,o7)=>match x with
   |.mp l=>match st.H l with
    |.map ag' V5 es=>some ⟨rk.ck=some ks/\rk.agg=ag/\ag'=ag/\V5=ks,.tu [],st.set l (.map ag ks (zF es o7))⟩
    |_=>none
   |_=>none
  |_,_=>none
 |none=>none
def DO(T:Tab)(m:Bool)(c:Call)(fr:Frm)(st:St):Option bR:=
 match c.callee,c.args.toList,c.argTypes.toList with
 |.builtin .len,[x],t::_=>match kW T t with
  |none=>VA T t (aH fr x) st
  |some _=>Vj T t (aH fr x) st
 |.builtin .min,[x,y],_=>Un (aH fr x) (aH fr y) st
 |.builtin .max,[x,y],_=>Ur (aH fr x) (aH fr y) st
 |.builtin .append,[s,x],[t,t']=>if t=t' then(if sameBox m (aH fr s) (aH fr x)=true then vF T t (aH fr s) (aH fr x) st else AO T m t (aH fr s) (aH fr x) st)else Ae T t t' (aH fr s) (aH fr x) st
 |.builtin .cap,[x],t::_=>XP T t (aH fr x) st
 |.builtin .clear,[x],[t]=>Ff T t (aH fr x) st
 |.builtin .copy,[x,y],[t,t']=>MA T t t' (aH fr x) (aH fr y) st
 |.builtin .delete,[x,i],[t,_]=>AZ T t (aH fr x) (aH fr i) st
 |_,_,_=>none
def aop(T:Tab)(m:Bool)(o:Oper)(fr:Frm)(st:St):Option bR:=
 match o.op with
 |.move x|.assign x=>some ⟨True,aH fr x,st⟩
 |.pick c a b=>match aH fr c with
  |.atom (.bool t)=>some ⟨True,if t then aH fr a else aH fr b,st⟩
  |_=>none
 |.binOp op t x y _=>HG T op t (aH fr x) (aH fr y) st
 |.unOp op _ x=>VL op (aH fr x) st
 |.convert s d x=>match Nt T s,Nt T d,aH fr x with
  |some _,some k,.atom (.int _ n)=>some ⟨True,.atom (.int k (k.wrap n)),st⟩
  |_,_,_=>none
 |.load t x=>Co T t (aH fr x) st
 |.store t x v=>Ee T t (aH fr x) (aH fr v) st
 |.indexAddr t x i=>Qy T t (aH fr x) (aH fr i) st
 |.fieldAddr t x f=>lR T t (aH fr x) f st
 |.field t x f=>CF T t (aH fr x) f st
 |.slice t x lo hi mx=>BP T t (aH fr x) (lo.map (aH fr)) (hi.map (aH fr)) (mx.map (aH fr)) st
 |.box t x=>Uo t (aH fr x) st
 |.alloc t=>FE T t st
 |.build t ps=>FL T t (ps.toList.map fun p=>(p.1,aH fr p.2)) st
 |.buildSlice t n ps=>mJ T m t n (ps.toList.map fun p=>(p.1,aH fr p.2)) st
 |.makeFunc f first Gj=>if first.isEmpty then some ⟨True,.fn f (Gj.toList.map (aH fr)),st⟩else none
 |.extract x i=>match aH fr x with
  |.tu vs=>match vs[i]? with|some v=>some ⟨True,v,st⟩|none=>none
  |_=>none
 |.nilCheck x=>match aH fr x with
  |.pt l o=>some ⟨True,.pt l o,st⟩
  |.pe l cs=>some ⟨True,.pe l cs,st⟩
  |_=>none
 |.call c=>DO T m c fr st
 |.index t x i=>Es T t (aH fr x) (aH fr i) st
 |.lookup t x i ok=>vU T t (aH fr x) (aH fr i) ok st
 |.mapUpdate t x i v=>uM T t (aH fr x) (aH fr i) (aH fr v) st
 |.insert t x i v=>uM T t (aH fr x) (aH fr i) (aH fr v) st
 |.makeMap t r=>vM T t (r.map (aH fr)) st
 |.makeSlice t l c=>pD T t (aH fr l) (aH fr c) st
 |_=>none
def aS:Op->Bool
 |.move _|.assign _|.pick ..|.binOp ..|.unOp ..|.convert ..|.load ..|.indexAddr ..|.fieldAddr ..|.field ..|.slice ..|.extract ..|.nilCheck _|.makeFunc ..|.lookup ..|.index ..=>true
 |.call { callee:=.builtin .len,.. }|.call { callee:=.builtin .min,.. }|.call { callee:=.builtin .max,.. }=>true
 |_=>false
end Aw
end Go.Proofs.YtbgngpdonpeboaaGreatDoor
