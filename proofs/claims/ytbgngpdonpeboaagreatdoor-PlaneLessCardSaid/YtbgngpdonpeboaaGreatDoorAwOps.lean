/- What each operation does to logical values; that memory follows it. No program is named here: types come in by a table. -/
import Derived.Test.YtbgngpdonpeboaaGreatDoorAwMem
import Derived.Laws.IdiomCopy
set_option linter.defProp false
set_option linter.unusedVariables false
set_option linter.unusedSimpArgs false
namespace Go.Proofs.YtbgngpdonpeboaaGreatDoor
namespace Aw
open Go Go.RowKit
inductive TD where
 |int (k:IntKind)
 |bool
 |str
 |slice (e:Nat)
 |struct (fs:List (Nat×Nat))
 |map (k e:Nat)
 |ptr (e:Nat)
 |arr (n e:Nat)
 |func
 |other
structure bI where
 agg:Bool
 size:Nat
 bytes:Nat
 zero:List Value
 d:TD
 ck:Option (List IntKind):=none
def bI.zeroV(r:bI):Value:=if r.agg then .agg r.zero.toArray else r.zero.headD undef
def eK(P:Program)(t:Nat):TD->Prop
 |.int k=>P.underlying t=some (.int k)
 |.bool=>P.underlying t=some .bool
 |.str=>P.underlying t=some .string
 |.slice e=>P.underlying t=some (.slice e)
 |.struct fs=>∃ F:Array Field,P.underlying t=some (.struct F)/\F.toList.map (fun f=>(f.offset,f.type))=fs
 |.map k e=>P.underlying t=some (.map k e)
 |.ptr e=>P.underlying t=some (.pointer e)
 |.arr n e=>P.underlying t=some (.array n e)
 |.func=>∃ a b c,P.underlying t=some (.func a b c)
 |.other=>True
structure CX(P:Program)(t:Nat)(ag:Bool)(ks:List IntKind):Prop where
 eq:∀(w:World) (u7 bs:AN),u7.length=ks.length->bs.length=ks.length->(Op.equal t (cj ag ks u7) (cj ag ks bs)).run P w=.ok (u7==bs) w
 chk:∀(w:World) (em:Bool) (u7:AN),u7.length=ks.length->(Instr.checkKey em 10000 t (cj ag ks u7)).run P w=.ok () w
 guard:ag=true->P.eqGuardType P.depth t=false
 one:ag=false->ks.length=1
 now:∃ d,P.underlying t=some d/\((∀ u7 bs:AN,u7.length=ks.length->bs.length=ks.length->Instr.sameNow d (cj ag ks u7) (cj ag ks bs)=some (u7==bs))\/
  (∀ u7 bs:AN,u7.length=ks.length->bs.length=ks.length->Instr.sameNow d (cj ag ks u7) (cj ag ks bs)=none))
structure bD(P:Program)(t:Nat)(r:bI):Prop where
 agg:∀ w,(isAgg t).run P w=.ok r.agg w
 info:∃ i,P.info? t=some i/\i.size=r.size/\i.bytes=r.bytes/\i.zero=some r.zeroV
 zl:r.zero.length=r.size
 one:r.agg=false->r.size=1
 zone:r.zero.all Value.oneCell'=true
 desc:eK P t r.d
 eqk:∀ ks,r.ck=some ks->CX P t r.agg ks
abbrev az:=Nat->Option bI
def aZ(P:Program)(T:az):Prop:=∀ t r,T t=some r->bD P t r
def Gw:List (Nat×bI)->az
 |[],_=>none
 |p::l,t=>if t=p.1 then some p.2 else Gw l t
def ZI(P:Program):List (Nat×bI)->Prop
 |[]=>True
 |p::l=>bD P p.1 p.2/\ZI P l
theorem Gg{P:Program}:∀(l:List (Nat×bI)),ZI P l->aZ P (Gw l)
 |[],_,t,r,h=>by grind [Gw]
 |p::l,ha,t,r,h=>by
  simp only[Gw]at h
  split at h
  .rename_i hf;injection h with h;subst hf h;exact ha.1
  .exact Gg l ha.2 t r h
theorem bD.sizeOf{P:Program}{t:Nat}{r:bI}(h:bD P t r)(w:World):(Go.sizeOf t).run P w=.ok r.size w:=by obtain⟨i,a,b,_,_⟩:=h.info;simp[Go.sizeOf,typeInfo,a,b]
theorem bD.zeroValue{P:Program}{t:Nat}{r:bI}(h:bD P t r)(w:World):(Go.zeroValue t).run P w=.ok r.zeroV w:=by obtain⟨i,a,_,_,b⟩:=h.info;simp[Go.zeroValue,typeInfo,a,b]
def dD(T:az)(t:Nat):Option Nat:=match T t with
 |some r=>match r.d with|.slice e=>some e|_=>none
 |none=>none
def rV(T:az)(t:Nat):Option (List (Nat×Nat)):=match T t with
 |some r=>match r.d with|.struct fs=>some fs|_=>none
 |none=>none
def NC(T:az)(t:Nat):Option IntKind:=match T t with
 |some r=>match r.d with|.int k=>some k|_=>none
 |none=>none
def uY(T:az)(t:Nat):Bool:=match T t with
 |some r=>match r.d with|.bool=>true|_=>false
 |none=>false
def cZ{P:Program}{T:az}(b:aZ P T){t e:Nat}(h:dD T t=some e):P.underlying t=some (.slice e):=by
 unfold dD at h;cases a:T t with
 |none=>grind
 |some r=>
  simp only[a]at h;have:=(b t r a).desc
  grind [eK]
def tJ{P:Program}{T:az}(c:aZ P T){t:Nat}{a:List (Nat×Nat)}(h:rV T t=some a):∃ F:Array Field,P.underlying t=some (.struct F)/\F.toList.map (fun f=>(f.offset,f.type))=a:=by
 unfold rV at h;cases b:T t with
 |none=>grind
 |some r=>
  simp only[b]at h;have:=(c t r b).desc
  grind [eK]
def GS{P:Program}{T:az}(b:aZ P T){t:Nat}{k:IntKind}(h:NC T t=some k):P.underlying t=some (.int k):=by
 unfold NC at h;cases a:T t with
 |none=>grind
 |some r=>
  simp only[a]at h;have:=(b t r a).desc
  grind [eK]
def CJ{P:Program}{T:az}(b:aZ P T){t:Nat}(h:uY T t=true):P.underlying t=some .bool:=by
 unfold uY at h;cases a:T t with
 |none=>grind
 |some r=>
  simp only[a]at h;have:=(b t r a).desc
  grind [eK]
structure bS where
 c:Prop
 v:LV
 s:St
 [d:Decidable c]
structure AB where
 c:Prop
 v:Value
 [d:Decidable c]
def wQ:LV->Option (Nat×Nat×List LV)
 |.sl t n cs=>some (t,n,cs)
 |.nil=>some (0,0,[])
 |.emp=>some (0,0,[])
 |.qu _ _ n cs=>some (0,n,cs)
 |_=>none
def eN(a:St):LV->Option (List LV)
 |.ep cs=>some cs
 |.pe _ cs=>some cs
 |.pt l o=>match a.H l with|.box _ _ cs=>some (cs.drop o)|_=>none
 |_=>none
def ki:List LV->LV
 |[]=>.dead
 |c::_=>c
def dW:LV->Option (List LV)
 |.ag cs=>some cs
 |.dead=>none
 |.tu _=>none
 |.atom (.agg _)=>none
 |.atom (.tuple _)=>none
 |lv=>some [lv]
def jP:LV->Bool
 |.ag _|.dead|.tu _|.atom (.agg _)|.atom (.tuple _)=>false
 |_=>true
def nI(T:az)(t:Nat):Option (Nat×Nat):=match T t with
 |some r=>match r.d with|.map k e=>some (k,e)|_=>none
 |none=>none
def uZ{P:Program}{T:az}(b:aZ P T){t k e:Nat}(h:nI T t=some (k,e)):P.underlying t=some (.map k e):=by
 unfold nI at h;cases a:T t with
 |none=>grind
 |some r=>
  simp only[a]at h;have:=(b t r a).desc
  grind [eK]
def iL:List LV->Option (List IntKind×AN)
 |[]=>some ([],[])
 |.atom (.int k n)::cs=>match iL cs with
  |some (ks,ns)=>some (k::ks,n::ns)
  |none=>none
 |_=>none
def Cg:LV->Option (Bool×List IntKind×AN)
 |.atom (.int k n)=>some (false,[k],[n])
 |.ag cs=>match iL cs with
  |some (ks,ns)=>some (true,ks,ns)
  |none=>none
 |_=>none
def bQ(a:List (AN×LV))(b:AN):Option LV:=match a with
 |[]=>none
 |p::a=>if b==p.1 then some p.2 else bQ a b
def bV(a:List (AN×LV))(b:AN)(v:LV):List (AN×LV):=match a with
 |[]=>[(b,v)]
 |p::a=>if b==p.1 then(b,v)::a else p::bV a b v
def CB(r:bI):LV:=if r.agg then .ag (r.zero.map cP)else ki (r.zero.map cP)
def wJ(k:IntKind)(a b:Int):Int:=k.wrap (BitVec.ofInt k.bits a &&& BitVec.ofInt k.bits b).toNat
def mq(k:IntKind)(a b:Int):Int:=k.wrap (BitVec.ofInt k.bits a ||| BitVec.ofInt k.bits b).toNat
def Rc(k:IntKind)(a b:Int):Int:=k.wrap (BitVec.ofInt k.bits a ^^^ BitVec.ofInt k.bits b).toNat
def iD(k:IntKind)(a b:Int):Int:=k.wrap (BitVec.ofInt k.bits a &&& ~~~BitVec.ofInt k.bits b).toNat
def Ee(k:IntKind)(a b:Int):Int:=k.wrap (a*2 ^ (min b.toNat k.bits))
def Nr(k:IntKind)(a b:Int):Int:=a.fdiv (2 ^ (min b.toNat k.bits))
def VA(d:BinOp)(k:IntKind)(a:Int)(c:IntKind)(b:Int):Option AB:=
 match d with
 |.add=>some ⟨k=c,.int k (k.wrap (a+b))⟩
 |.sub=>some ⟨k=c,.int k (k.wrap (a-b))⟩
 |.mul=>some ⟨k=c,.int k (k.wrap (a*b))⟩
 |.quo=>some ⟨k=c/\b≠0,.int k (k.wrap (a.tdiv b))⟩
 |.rem=>some ⟨k=c/\b≠0,.int k (a.tmod b)⟩
 |.shl=>some ⟨0<=b,.int k (Ee k a b)⟩
 |.shr=>some ⟨0<=b,.int k (Nr k a b)⟩
 |.eql=>some ⟨k=c,.bool (a==b)⟩
 |.neq=>some ⟨k=c,.bool (a != b)⟩
 |.lss=>some ⟨k=c,.bool (decide (a<b))⟩
 |.leq=>some ⟨k=c,.bool (decide (a<=b))⟩
 |.gtr=>some ⟨k=c,.bool (decide (a > b))⟩
 |.geq=>some ⟨k=c,.bool (decide (a>=b))⟩
 |.and=>some ⟨k=c,.int k (wJ k a b)⟩
 |.or=>some ⟨k=c,.int k (mq k a b)⟩
 |.xor=>some ⟨k=c,.int k (Rc k a b)⟩
 |.andNot=>some ⟨k=c,.int k (iD k a b)⟩
def Ja{P:Program}{w:World}{e:BinOp}{k f:IntKind}{a b:Int}{t:TypeId}{r:AB}(h:VA e k a f b=some r)(d:r.c):
 (binOp e t (.int k a) (.int f b)).run P w=.ok r.v w:=by
 cases e<;>simp only[VA,ap]at h<;>subst h<;>
  first
  |(obtain rfl:=d;simp[binOp,Op.intArith,Op.intBits,Op.intCmp,wJ,mq,Rc,iD])
  |(obtain⟨rfl,g⟩:=d;simp[binOp,Op.intDiv,g])
  |(have:¬b<0:=by simp only at d;omega
    simp[binOp,Op.shift,this,Ee,Nr])
def Gd{P:Program}{w:World}(d:BinOp)(t:TypeId)(x y:Operand)(k c:IntKind)(a b:Int):(eqGuard d t x y (.int k a) (.int c b)).run P w=.ok () w:=by unfold eqGuard;simp_all
def uJ{P:Program}{w:World}(c:BinOp)(t:TypeId)(x y:Operand)(a b:Bool):(eqGuard c t x y (.bool a) (.bool b)).run P w=.ok () w:=by unfold eqGuard;simp_all
def HG(T:az)(t:TypeId):Bool:=match T t with
 |some r=>match r.d with|.ptr _=>true|_=>false
 |none=>false
def Ii{P:Program}{T:az}(b:aZ P T){t:Nat}(h:HG T t=true):∃ e,P.underlying t=some (.pointer e):=by
 unfold HG at h;cases a:T t with
 |none=>grind
 |some r=>
  simp only[a]at h;have:=(b t r a).desc
  grind [eK]
def SJ(T:az)(t:TypeId):Bool:=match T t with
 |some r=>match r.d with|.func=>true|_=>false
 |none=>false
def LR{P:Program}{T:az}(e:aZ P T){t:Nat}(h:SJ T t=true):∃ a b c,P.underlying t=some (.func a b c):=by
 unfold SJ at h;cases d:T t with
 |none=>grind
 |some r=>
  simp only[d]at h;have:=(e t r d).desc
  grind [eK]
def BO(T:az)(t:TypeId):Bool:=match T t with
 |some r=>match r.d with|.map _ _=>true|_=>false
 |none=>false
def DC{P:Program}{T:az}(b:aZ P T){t:Nat}(h:BO T t=true):∃ k e,P.underlying t=some (.map k e):=by
 unfold BO at h;cases a:T t with
 |none=>grind
 |some r=>
  simp only[a]at h;have:=(b t r a).desc
  grind [eK]
def tW:LV->Option Bool
 |.fn _ _=>some false
 |.atom .nilFunc=>some true
 |_=>none
def tA:LV->Option Bool
 |.mp _=>some false
 |.atom (.map none)=>some true
 |_=>none
def nilPtr:LV->Option Bool
 |.pt _ _=>some false
 |.ep _=>some false
 |.pe _ _=>some false
 |.atom (.pointer none)=>some true
 |_=>none
def Hw(T:az)(f:BinOp)(t:TypeId)(x y:LV)(e:St):Option bS:=
 match x,y with
 |.atom (.int k a),.atom (.int k' b)=>(VA f k a k' b).map fun r=>@bS.mk r.c (.atom r.v) e r.d
 |.atom (.bool a),.atom (.bool b)=>match f with
  |.eql=>some ⟨uY T t=true,.atom (.bool (a==b)),e⟩
  |.neq=>some ⟨uY T t=true,.atom (.bool (!(a==b))),e⟩
  |_=>none
 |.ag xs,.ag ys=>match T t,iL xs,iL ys with
  |some r,some (ks,u7),some (V6,bs)=>match f with
   |.eql=>some ⟨r.ck=some ks/\V6=ks/\r.agg=true,.atom (.bool (u7==bs)),e⟩
   |.neq=>some ⟨r.ck=some ks/\V6=ks/\r.agg=true,.atom (.bool (!(u7==bs))),e⟩
   |_=>none
  |_,_,_=>none
 |.nil,.nil=>match f with
  |.eql=>some ⟨(dD T t).isSome=true,.atom (.bool true),e⟩
  |.neq=>some ⟨(dD T t).isSome=true,.atom (.bool false),e⟩
  |_=>none
 |x,.atom (.map none)=>match tA x,f with
  |some b,.eql=>some ⟨BO T t=true,.atom (.bool b),e⟩
  |some b,.neq=>some ⟨BO T t=true,.atom (.bool (!b)),e⟩
  |_,_=>none
 |x,.atom (.pointer none)=>match nilPtr x,f with
  |some b,.eql=>some ⟨HG T t=true,.atom (.bool b),e⟩
  |some b,.neq=>some ⟨HG T t=true,.atom (.bool (!b)),e⟩
  |_,_=>none
 |x,.atom .nilFunc=>match tW x,f with
  |some b,.eql=>some ⟨SJ T t=true,.atom (.bool b),e⟩
  |some b,.neq=>some ⟨SJ T t=true,.atom (.bool (!b)),e⟩
  |_,_=>none
 |_,_=>none
def VZ(c:UnOp)(x:LV)(a:St):Option bS:=
 match c,x with
 |.not,.atom (.bool b)=>some ⟨True,.atom (.bool !b),a⟩
 |.neg,.atom (.int k n)=>some ⟨True,.atom (.int k (k.wrap (0-n))),a⟩
 |_,_=>none
def CM(T:az)(t:TypeId)(x:LV)(a:St):Option bS:=
 match T t,eN a x with
 |some r,some cs=>if r.agg then some ⟨r.size<=cs.length,.ag (cs.take r.size),a⟩else some ⟨0<cs.length,ki cs,a⟩
 |_,_=>none
def PN(T:az)(t:TypeId)(x i:LV)(a:St):Option bS:=
 match dD T t,i with
 |some e,.atom (.int _ i)=>match T e with
  |some r=>match x with
   |.ms l o n=>some ⟨0<=i/\i<n,.pt l (o+i.toNat*r.size),a⟩
   |x=>match wQ x with
    |some (_,n,cs)=>some ⟨0<=i/\i<n/\i.toNat*r.size<cs.length,.ep (cs.drop (i.toNat*r.size)),a⟩
    |none=>none
  |_=>none
 |_,_=>none
def lN(T:az)(t:TypeId)(x:LV)(f:Nat)(a:St):Option bS:=
 match rV T t with
 |some b=>match b[f]? with
  |some (off,ty)=>match T ty with
   |some r=>match x with
    |.pt l o=>some ⟨r.size≠0,.pt l (o+off),a⟩
    |.ep cs=>some ⟨r.size≠0,.ep (cs.drop off),a⟩
    |.pe _ cs=>some ⟨r.size≠0,.ep (cs.drop off),a⟩
    |_=>none
   |none=>none
  |none=>none
 |_=>none
def Bj(T:az)(t:TypeId)(x:LV)(f:Nat)(a:St):Option bS:=
 match rV T t,x with
 |some fs,.ag cs=>match fs[f]? with
  |some (off,ty)=>match T ty with
   |some r=>if r.agg then some ⟨True,.ag ((cs.drop off).take r.size),a⟩else some ⟨off<cs.length,ki (cs.drop off),a⟩
   |none=>none
  |none=>none
 |_,_=>none
def eI:Option LV->Nat->Option Int
 |none,d=>some d
 |some (.atom (.int _ i)),_=>some i
 |_,_=>none
def As(T:az)(t:TypeId)(x:LV)(d f g:Option LV)(a:St):Option bS:=
 match dD T t with
 |some e=>match T e with
  |some r=>match g with
   |none=>match x with
    |.ms b o n=>match eI d 0,eI f n with
     |some l,some h=>some ⟨0<=l/\l<=h/\h<=n/\0<r.size,.ms b (o+l.toNat*r.size) (h.toNat-l.toNat),a⟩
     |_,_=>none
    |.kap b n c=>match eI d 0,eI f n with
     |some l,some h=>some ⟨0<=l/\l<=h/\h<=c/\0<r.size,if d.isNone then .kap b h.toNat c else .ms b (l.toNat*r.size) (h.toNat-l.toNat),a⟩
     |_,_=>none
    |.nil=>match eI d 0,eI f 0 with
     |some l,some h=>some ⟨l=0/\h=0,.nil,a⟩
     |_,_=>none
    |.qu t o n cs=>match eI d 0,eI f n with
     |some l,some h=>some ⟨0<=l/\l<=h/\h<=n/\r.size=1,.qu t (o+l.toNat) (h.toNat-l.toNat) ((cs.drop l.toNat).take (h.toNat-l.toNat)),a⟩
     |_,_=>none
    |x=>match wQ x with
     |some (_,n,cs)=>match eI d 0,eI f n with
      |some l,some h=>some ⟨0<=l/\l<=h/\h<=n,.sl 0 (h.toNat-l.toNat) ((cs.drop (l.toNat*r.size)).take ((h.toNat-l.toNat)*r.size)),a⟩
      |_,_=>none
     |none=>none
   |some (.atom (.int _ m))=>match d,f,wQ x with
    |none,some (.atom (.int _ h)),some _=>some ⟨m=0/\h=0,.emp,a⟩
    |some (.atom (.int _ l)),some (.atom (.int _ h)),none=>match x with
     |.ms _ _ n=>some ⟨0<=l/\l<=h/\h<=m/\m<=n,.dead,a⟩
     |.kap _ _ c=>some ⟨0<=l/\l<=h/\h<=m/\m<=c,.dead,a⟩
     |_=>none
    |_,_,_=>none
   |_=>none
  |none=>none
 |none=>none
def Vj(t:TypeId)(x:LV)(b:St):Option bS:=
 match dW x with
 |some a=>some ⟨True,.pt b.z 0,b.new (.box t a.length a)⟩
 |none=>none
def GO(T:az)(t:TypeId)(a:St):Option bS:=
 match T t with
 |some r=>some ⟨True,.pt a.z 0,a.new (.box t r.size (r.zero.map cP))⟩
 |none=>none
def Fc(T:az)(t:TypeId)(x v:LV)(a:St):Option bS:=
 match T t,x,dW v with
 |some r,.pt l o,some ds=>match a.H l with
  |.box e s cs=>some ⟨ds.length=r.size/\o+ds.length<=cs.length/\ds.all jP=true,.dead,a.set l (.box e s (cs.take o++ds++cs.drop (o+ds.length)))⟩
  |_=>none
 |_,_,_=>none
def pO(place:Nat->Option (Nat×Nat))(cells:List LV):List (Nat×LV)->Option (List LV)
 |[]=>some cells
 |(i,v)::rest=>
  match place i,dW v with
  |some (off,size),some ds=>if ds.length=size/\off+ds.length<=cells.length then pO place (cells.take off++ds++cells.drop (off+ds.length)) rest else none
  |_,_=>none
def sF(T:az):List (Nat×Nat)->Option (List (Nat×Nat))
 |[]=>some []
 |(off,ty)::r=>match T ty,sF T r with
  |some q,some l=>some ((off,q.size)::l)
  |_,_=>none
def Tx(T:az)(t:Nat):Option Nat:=match T t with
 |some r=>match r.d with|.arr _ e=>some e|_=>none
 |none=>none
def UI{P:Program}{T:az}(b:aZ P T){t e:Nat}(h:Tx T t=some e):∃ n,P.underlying t=some (.array n e):=by
 unfold Tx at h;cases a:T t with
 |none=>grind
 |some r=>
  simp only[a]at h;have:=(b t r a).desc
  grind [eK]
def GJ(T:az)(t:TypeId)(parts:List (Nat×LV))(c:St):Option bS:=
 match rV T t,T t with
 |some fs,some r=>match sF T fs with
  |some d=>match pO (fun i=>d[i]?) (r.zero.map cP) parts with
   |some a=>some ⟨r.agg=true,.ag a,c⟩
   |none=>none
  |none=>none
 |none,some r=>match Tx T t with
  |some e=>match T e with
   |some b=>match pO (fun i=>some (i*b.size,b.size)) (r.zero.map cP) parts with
    |some a=>some ⟨r.agg=true,.ag a,c⟩
    |none=>none
   |none=>none
  |none=>none
 |_,_=>none
def fL(z:List LV):Nat->List LV
 |0=>[]
 |n+1=>z++fL z n
def lX(T:az)(m:Bool)(t:TypeId)(a:Nat)(parts:List (Nat×LV))(b:St):Option bS:=
 match dD T t with
 |some e=>match T e with
  |some r=>match pO (fun i=>some (i*r.size,r.size)) (fL (r.zero.map cP) a) parts with
   |some c=>if m then some ⟨a*r.size<=16777216/\0<r.size,.ms b.z 0 a,b.new (.box e r.size c)⟩
    else some ⟨a*r.size<=16777216/\0<r.size,.sl b.z a c,b.new (.own e r.size a)⟩
   |none=>none
  |none=>none
 |_=>none
def isStr(T:az)(t:TypeId):Bool:=match T t with
 |some r=>match r.d with|.str=>true|_=>false
 |none=>false
def QV{P:Program}{T:az}(b:aZ P T){t:Nat}(h:isStr T t=true):P.underlying t=some .string:=by
 unfold isStr at h;cases a:T t with
 |none=>grind
 |some r=>
  simp only[a]at h;have:=(b t r a).desc
  grind [eK]
def Ek(T:az)(t:TypeId)(x i:LV)(a:St):Option bS:=
 match x,i with
 |.atom (.string s),.atom (.int _ i)=>some ⟨isStr T t=true/\0<=i/\(s[i.toNat]?).isSome=true,.atom (.int .u8 ((s[i.toNat]?).getD 0).toNat),a⟩
 |_,_=>none
def vF(T:az)(t:TypeId)(x i:LV)(b:Bool)(a:St):Option bS:=
 match nI T t with
 |some (k,e)=>match T k,T e,Cg i with
  |some rk,some re,some (ag,ks,u7)=>match x with
   |.mp l=>match a.H l with
    |.map ag' V6 es=>some ⟨rk.ck=some ks/\rk.agg=ag/\ag'=ag/\V6=ks,if b then .tu [(bQ es u7).getD (CB re),.atom (.bool (bQ es u7).isSome)]else(bQ es u7).getD (CB re),a⟩
    |_=>none
   |.atom (.map none)=>some ⟨rk.ck=some ks/\rk.agg=ag,if b then .tu [CB re,.atom (.bool false)]else CB re,a⟩
   |_=>none
  |_,_,_=>none
 |none=>none
def uQ(T:az)(t:TypeId)(x i v:LV)(a:St):Option bS:=
 match nI T t with
 |some (k,_)=>match T k,Cg i with
  |some rk,some (ag,ks,u7)=>match x with
   |.mp l=>match a.H l with
    |.map ag' V6 es=>some ⟨rk.ck=some ks/\rk.agg=ag/\ag'=ag/\V6=ks,.dead,a.set l (.map ag ks (bV es u7 v))⟩
    |_=>none
   |_=>none
  |_,_=>none
 |none=>none
def vH(T:az)(t:TypeId)(d:Option LV)(a:St):Option bS:=
 match nI T t with
 |some (k,_)=>match T k with
  |some b=>match b.ck with
   |some c=>match d with
    |none=>some ⟨True,.mp a.z,a.new (.map b.agg c [])⟩
    |some (.atom (.int _ _))=>some ⟨True,.mp a.z,a.new (.map b.agg c [])⟩
    |_=>none
   |none=>none
  |none=>none
 |none=>none
def Vp(T:az)(t:TypeId)(x:LV)(a:St):Option bS:=
 match dD T t with
 |some _=>match x with
  |.ms _ _ n=>some ⟨True,.atom (.int .i64 n),a⟩
  |.kap _ n _=>some ⟨True,.atom (.int .i64 n),a⟩
  |x=>match wQ x with
   |some (_,n,_)=>some ⟨True,.atom (.int .i64 n),a⟩
   |none=>none
 |none=>none
def Tp(T:az)(t:TypeId)(x:LV)(a:St):Option bS:=
 match nI T t,x with
 |some _,.mp l=>match a.H l with
  |.map _ _ es=>some ⟨True,.atom (.int .i64 es.length),a⟩
  |_=>none
 |_,_=>none
def TV(x y:LV)(c:St):Option bS:=
 match x,y with
 |.atom (.int k a),.atom (.int _ b)=>some ⟨True,.atom (.int k (if b<a then b else a)),c⟩
 |_,_=>none
def Uw(x y:LV)(c:St):Option bS:=
 match x,y with
 |.atom (.int k a),.atom (.int _ b)=>some ⟨True,.atom (.int k (if a<b then b else a)),c⟩
 |_,_=>none
def JY(T:az)(t:TypeId)(a:St)(x:LV):Option (Nat×List LV):=
 match x with
 |.ms l o n=>match dD T t with
  |some e=>match T e with
   |some r=>match a.H l with
    |.box _ _ cs=>some (n,(cs.drop o).take (n*r.size))
    |_=>none
   |none=>none
  |none=>none
 |x=>(wQ x).map fun p=>(p.2.1,p.2.2)
def AE(T:az)(b:Bool)(t:TypeId)(s x:LV)(a:St):Option bS:=
 match dD T t,JY T t a x with
 |some e,some (m,ds)=>match T e with
  |some r=>match s with
   |.nil=>if b then some ⟨ds.length=m*r.size/\ds.all jP=true/\m*r.bytes<=140737488355328/\m<=maxLen/\0<r.size,.ms a.z 0 m,a.new (.box e r.size ds)⟩
    else some ⟨ds.length=m*r.size/\ds.all jP=true/\m*r.bytes<=140737488355328/\m<=maxLen/\0<r.size,.sl a.z m ds,a.new (.own e r.size m)⟩
   |.emp=>if b then some ⟨ds.length=m*r.size/\ds.all jP=true/\m*r.bytes<=140737488355328/\m<=maxLen/\0<r.size,.ms a.z 0 m,a.new (.box e r.size ds)⟩
    else some ⟨ds.length=m*r.size/\ds.all jP=true/\m*r.bytes<=140737488355328/\m<=maxLen/\0<r.size,.sl a.z m ds,a.new (.own e r.size m)⟩
   |.sl q n cs=>match a.H q with
    |.own e' s' n'=>some ⟨e'=e/\s'=r.size/\n'=n/\cs.length=n*r.size/\q≠0/\ds.length=m*r.size/\ds.all jP=true/\(n+m)*r.bytes<=140737488355328/\n+m<=maxLen/\0<r.size,
      .sl a.z (n+m) (cs++ds),(a.set q .dead).new (.own e r.size (n+m))⟩
    |_=>none
   |.kap l n _=>match a.H l with
    |.box e' s' cs=>some ⟨e'=e/\s'=r.size/\n*r.size<=cs.length/\ds.length=m*r.size/\ds.all jP=true/\(n+m)*r.bytes<=140737488355328/\n+m<=maxLen/\0<r.size,
      .ms a.z 0 (n+m),(a.set l .dead).new (.box e r.size (cs.take (n*r.size)++ds))⟩
    |_=>none
   |.ms l o n=>match a.H l with
    |.box e' s' cs=>some ⟨o=0/\e'=e/\s'=r.size/\n*r.size<=cs.length/\ds.length=m*r.size/\ds.all jP=true/\(n+m)*r.bytes<=140737488355328/\n+m<=maxLen/\0<r.size,
      .ms a.z 0 (n+m),(a.set l .dead).new (.box e r.size (cs.take (n*r.size)++ds))⟩
    |_=>none
   |.qu q o n cs=>match a.H q with
    |.que e' n'=>some ⟨e'=e/\r.size=1/\o+n=n'/\cs.length=n/\ds.length=m/\ds.all jP=true/\(n+m)*r.bytes<=140737488355328/\n+m<=maxLen,
      .qu a.z 0 (n+m) (cs++ds),(a.set q .dead).new (.que e (n+m))⟩
    |_=>none
   |_=>none
  |none=>none
 |_,_=>none
def Wm(T:az)(t:TypeId)(x:LV)(a:St):Option bS:=
 match dD T t,x with
 |some _,.nil=>some ⟨True,.atom (.int .i64 0),a⟩
 |some _,.kap _ _ c=>some ⟨True,.atom (.int .i64 c),a⟩
 |_,_=>none
def zQ(T:az)(t b:TypeId)(s x:LV)(a:St):Option bS:=
 match dD T t,NC T b with
 |some e,some _=>match T e with
  |some r=>match s,x with
   |.nil,.atom (.int _ n)=>some ⟨0<n/\n*r.bytes<=140737488355328/\n<=9223372036854775807/\0<r.size,.ms a.z 0 n.toNat,a.new (.box e r.size (fL (r.zero.map cP) n.toNat))⟩
   |_,_=>none
  |none=>none
 |_,_=>none
def nV(T:az)(t:TypeId)(l c:LV)(a:St):Option bS:=
 match dD T t with
 |some e=>match T e with
  |some r=>match l,c with
   |.atom (.int _ n),.atom (.int _ n')=>some ⟨n=n'/\0<=n/\n*r.bytes<=140737488355328/\n<=9223372036854775807/\0<r.size,.ms a.z 0 n.toNat,a.new (.box e r.size (fL (r.zero.map cP) n.toNat))⟩
   |_,_=>none
  |none=>none
 |none=>none
def FD(T:az)(t:TypeId)(x:LV)(a:St):Option bS:=
 match dD T t,x with
 |some e,.ms l o n=>match T e,a.H l with
  |some r,.box e' s cs=>some ⟨o+n*r.size<=cs.length/\0<r.size,.tu [],a.set l (.box e' s (cs.take o++fL (r.zero.map cP) n++cs.drop (o+n*r.size)))⟩
  |_,_=>none
 |_,_=>none
def sameBox:Bool->LV->LV->Bool
 |true,.kap l _ _,.ms l' _ _=>decide (l=l')
 |_,_,_=>false
def uB(_:az)(_:TypeId)(_ _:LV)(_:St):Option bS:=none
def ME(_:az)(_ _:TypeId)(_ _:LV)(_:St):Option bS:=none
def zV(_:az)(_:TypeId)(_ _:LV)(_:St):Option bS:=none
def EF(T:az)(m:Bool)(c:Call)(a:af)(b:St):Option bS:=
 match c.callee,c.args.toList,c.argTypes.toList with
 |.builtin .len,[x],t::_=>match nI T t with
  |none=>Vp T t (aI a x) b
  |some _=>Tp T t (aI a x) b
 |.builtin .min,[x,y],_=>TV (aI a x) (aI a y) b
 |.builtin .max,[x,y],_=>Uw (aI a x) (aI a y) b
 |.builtin .append,[s,x],[t,t']=>if t=t' then(if sameBox m (aI a s) (aI a x)=true then uB T t (aI a s) (aI a x) b else AE T m t (aI a s) (aI a x) b)else zQ T t t' (aI a s) (aI a x) b
 |.builtin .cap,[x],t::_=>Wm T t (aI a x) b
 |.builtin .clear,[x],[t]=>FD T t (aI a x) b
 |.builtin .copy,[x,y],[t,t']=>ME T t t' (aI a x) (aI a y) b
 |.builtin .delete,[x,i],[t,_]=>zV T t (aI a x) (aI a i) b
 |_,_,_=>none
def fy(T:az)(m:Bool)(o:Oper)(e:af)(g:St):Option bS:=
 match o.op with
 |.move x|.assign x=>some ⟨True,aI e x,g⟩
 |.pick c a b=>match aI e c with
  |.atom (.bool t)=>some ⟨True,if t then aI e a else aI e b,g⟩
  |_=>none
 |.binOp op t x y _=>Hw T op t (aI e x) (aI e y) g
 |.unOp op _ x=>VZ op (aI e x) g
 |.convert s d x=>match NC T s,NC T d,aI e x with
  |some _,some k,.atom (.int _ n)=>some ⟨True,.atom (.int k (k.wrap n)),g⟩
  |_,_,_=>none
 |.load t x=>CM T t (aI e x) g
 |.store t x v=>Fc T t (aI e x) (aI e v) g
 |.indexAddr t x i=>PN T t (aI e x) (aI e i) g
 |.fieldAddr t x f=>lN T t (aI e x) f g
 |.field t x f=>Bj T t (aI e x) f g
 |.slice t x lo hi mx=>As T t (aI e x) (lo.map (aI e)) (hi.map (aI e)) (mx.map (aI e)) g
 |.box t x=>Vj t (aI e x) g
 |.alloc t=>GO T t g
 |.build t ps=>GJ T t (ps.toList.map fun p=>(p.1,aI e p.2)) g
 |.buildSlice t n ps=>lX T m t n (ps.toList.map fun p=>(p.1,aI e p.2)) g
 |.makeFunc f first IQ=>if first.isEmpty then some ⟨True,.fn f (IQ.toList.map (aI e)),g⟩else none
 |.extract x i=>match aI e x with
  |.tu vs=>match vs[i]? with|some v=>some ⟨True,v,g⟩|none=>none
  |_=>none
 |.nilCheck x=>match aI e x with
  |.pt l o=>some ⟨True,.pt l o,g⟩
  |.pe l cs=>some ⟨True,.pe l cs,g⟩
  |_=>none
 |.call c=>EF T m c e g
 |.index t x i=>Ek T t (aI e x) (aI e i) g
 |.lookup t x i ok=>vF T t (aI e x) (aI e i) ok g
 |.mapUpdate t x i v=>uQ T t (aI e x) (aI e i) (aI e v) g
 |.insert t x i v=>uQ T t (aI e x) (aI e i) (aI e v) g
 |.makeMap t r=>vH T t (r.map (aI e)) g
 |.makeSlice t l c=>nV T t (aI e l) (aI e c) g
 |_=>none
def aL:Op->Bool
 |.move _|.assign _|.pick ..|.binOp ..|.unOp ..|.convert ..|.load ..|.indexAddr ..|.fieldAddr ..|.field ..|.slice ..|.extract ..|.nilCheck _|.makeFunc ..|.lookup ..|.index ..=>true
 |.call { callee:=.builtin .len,.. }|.call { callee:=.builtin .min,.. }|.call { callee:=.builtin .max,.. }=>true
 |_=>false
end Aw
end Go.Proofs.YtbgngpdonpeboaaGreatDoor
