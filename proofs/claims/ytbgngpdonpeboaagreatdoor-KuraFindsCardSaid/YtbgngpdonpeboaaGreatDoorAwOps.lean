/- Lemmas. -/
import Derived.Test.YtbgngpdonpeboaaGreatDoorAwMem
import Derived.Laws.IdiomCopy
set_option linter.defProp false
namespace Go.Proofs.YtbgngpdonpeboaaGreatDoor
namespace Aw
open Go Go.RowKit
inductive TD where
 |int (k:IntKind)
 |bool
 |str
 |slice (e:Nat)
 |struct (fs:List (Nat×Nat))
 |map (k e:Nat)
 |ptr (e:Nat)
 |arr (n e:Nat)
 |func
 |other
structure bQ where
 agg:Bool
 size:Nat
 bytes:Nat
 zero:List Value
 d:TD
 ck:Option (List IntKind):=none
def bQ.zeroV(r:bQ):Value:=if r.agg then .agg r.zero.toArray else r.zero.headD undef
def fS(P:Program)(t:Nat):TD->Prop
 |.int k=>P.underlying t=some (.int k)
 |.bool=>P.underlying t=some .bool
 |.str=>P.underlying t=some .string
 |.slice e=>P.underlying t=some (.slice e)
 |.struct fs=>∃ F:Array Field,P.underlying t=some (.struct F)/\F.toList.map (fun f=>(f.offset,f.type))=fs
 |.map k e=>P.underlying t=some (.map k e)
 |.ptr e=>P.underlying t=some (.pointer e)
 |.arr n e=>P.underlying t=some (.array n e)
 |.func=>∃ a b c,P.underlying t=some (.func a b c)
 |.other=>True
structure Da(P:Program)(t:Nat)(ag:Bool)(ks:List IntKind):Prop where
 eq:∀(w:World) (u9 bs:PP),u9.length=ks.length->bs.length=ks.length->(Op.equal t (cg ag ks u9) (cg ag ks bs)).run P w=.ok (u9==bs) w
 chk:∀(w:World) (em:Bool) (u9:PP),u9.length=ks.length->(Instr.checkKey em 10000 t (cg ag ks u9)).run P w=.ok () w
 guard:ag=true->P.eqGuardType P.depth t=false
 one:ag=false->ks.length=1
 now:∃ d,P.underlying t=some d/\((∀ u9 bs:PP,u9.length=ks.length->bs.length=ks.length->Instr.sameNow d (cg ag ks u9) (cg ag ks bs)=some (u9==bs))\/
  (∀ u9 bs:PP,u9.length=ks.length->bs.length=ks.length->Instr.sameNow d (cg ag ks u9) (cg ag ks bs)=none))
structure bJ(P:Program)(t:Nat)(r:bQ):Prop where
 agg:∀ w,(isAgg t).run P w=.ok r.agg w
 info:∃ i,P.info? t=some i/\i.size=r.size/\i.bytes=r.bytes/\i.zero=some r.zeroV
 zl:r.zero.length=r.size
 one:r.agg=false->r.size=1
 zone:r.zero.all Value.oneCell'=true
 desc:fS P t r.d
 eqk:∀ ks,r.ck=some ks->Da P t r.agg ks
abbrev bg:=Nat->Option bQ
def bE(P:Program)(T:bg):Prop:=∀ t r,T t=some r->bJ P t r
def JY:List (Nat×bQ)->bg
 |[],_=>none
 |p::l,t=>if t=p.1 then some p.2 else JY l t
def E9(P:Program):List (Nat×bQ)->Prop
 |[]=>True
 |p::l=>bJ P p.1 p.2/\E9 P l
theorem JD{P:Program}:∀(l:List (Nat×bQ)),E9 P l->bE P (JY l)
 |[],_,t,r,h=>by grind [JY]
 |p::l,ha,t,r,h=>by
  simp only[JY]at h
  split at h
  .rename_i hf;injection h with h;subst hf h;exact ha.1
  .exact JD l ha.2 t r h
theorem bJ.sizeOf{P:Program}{t:Nat}{r:bQ}(h:bJ P t r)(w:World):(Go.sizeOf t).run P w=.ok r.size w:=by obtain⟨i,a,b,_,_⟩:=h.info;simp[Go.sizeOf,typeInfo,a,b]
theorem bJ.zeroValue{P:Program}{t:Nat}{r:bQ}(h:bJ P t r)(w:World):(Go.zeroValue t).run P w=.ok r.zeroV w:=by obtain⟨i,a,_,_,b⟩:=h.info;simp[Go.zeroValue,typeInfo,a,b]
def dN(T:bg)(t:Nat):Option Nat:=match T t with
 |some r=>match r.d with|.slice e=>some e|_=>none
 |none=>none
def uJ(T:bg)(t:Nat):Option (List (Nat×Nat)):=match T t with
 |some r=>match r.d with|.struct fs=>some fs|_=>none
 |none=>none
def Qu(T:bg)(t:Nat):Option IntKind:=match T t with
 |some r=>match r.d with|.int k=>some k|_=>none
 |none=>none
def yJ(T:bg)(t:Nat):Bool:=match T t with
 |some r=>match r.d with|.bool=>true|_=>false
 |none=>false
variable{k:IntKind}{e t:Nat}{P:Program}{w:World}{T:bg}
def dL(b:bE P T)(h:dN T t=some e):P.underlying t=some (.slice e):=by
 unfold dN at h;cases a:T t with
 |none=>grind
 |some r=>
  simp only[a]at h;have:=(b t r a).desc
  grind [fS]
def wH(c:bE P T){a:List (Nat×Nat)}(h:uJ T t=some a):∃ F:Array Field,P.underlying t=some (.struct F)/\F.toList.map (fun f=>(f.offset,f.type))=a:=by
 unfold uJ at h;cases b:T t with
 |none=>grind
 |some r=>
  simp only[b]at h;have:=(c t r b).desc
  grind [fS]
def IQ(b:bE P T)(h:Qu T t=some k):P.underlying t=some (.int k):=by
 unfold Qu at h;cases a:T t with
 |none=>grind
 |some r=>
  simp only[a]at h;have:=(b t r a).desc
  grind [fS]
def DR(b:bE P T)(h:yJ T t=true):P.underlying t=some .bool:=by
 unfold yJ at h;cases a:T t with
 |none=>grind
 |some r=>
  simp only[a]at h;have:=(b t r a).desc
  grind [fS]
structure bV where
 c:Prop
 v:LV
 s:St
 [d:Decidable c]
structure AB where
 c:Prop
 v:Value
 [d:Decidable c]
def AP:LV->Option (Nat×Nat×QQ)
 |.sl t n cs=>some (t,n,cs)
 |.nil=>some (0,0,[])
 |.emp=>some (0,0,[])
 |.qu _ _ n cs=>some (0,n,cs)
 |_=>none
def fW(a:St):LV->Option (QQ)
 |.ep cs=>some cs
 |.pe _ cs=>some cs
 |.pt l o=>match a.H l with|.box _ _ cs=>some (cs.drop o)|_=>none
 |_=>none
def oe:QQ->LV
 |[]=>.dead
 |c::_=>c
def eS:LV->Option (QQ)
 |.ag cs=>some cs
 |.dead=>none
 |.tu _=>none
 |.atom (.agg _)=>none
 |.atom (.tuple _)=>none
 |lv=>some [lv]
def kQ:LV->Bool
 |.ag _|.dead|.tu _|.atom (.agg _)|.atom (.tuple _)=>false
 |_=>true
def pJ(T:bg)(t:Nat):Option (Nat×Nat):=match T t with
 |some r=>match r.d with|.map k e=>some (k,e)|_=>none
 |none=>none
def yP(b:bE P T){k:Nat}(h:pJ T t=some (k,e)):P.underlying t=some (.map k e):=by
 unfold pJ at h;cases a:T t with
 |none=>grind
 |some r=>
  simp only[a]at h;have:=(b t r a).desc
  grind [fS]
def jJ:QQ->Option (List IntKind×PP)
 |[]=>some ([],[])
 |.atom (.int k n)::cs=>match jJ cs with
  |some (ks,ns)=>some (k::ks,n::ns)
  |none=>none
 |_=>none
def EZ:LV->Option (Bool×List IntKind×PP)
 |.atom (.int k n)=>some (false,[k],[n])
 |.ag cs=>match jJ cs with
  |some (ks,ns)=>some (true,ks,ns)
  |none=>none
 |_=>none
def bY(a:List (PP×LV))(b:PP):Option LV:=match a with
 |[]=>none
 |p::a=>if b==p.1 then some p.2 else bY a b
def bX(a:List (PP×LV))(b:PP)(v:LV):List (PP×LV):=match a with
 |[]=>[(b,v)]
 |p::a=>if b==p.1 then(b,v)::a else p::bX a b v
def Di(r:bQ):LV:=if r.agg then .ag (r.zero.map dD)else oe (r.zero.map dD)
def AA(k:IntKind)(a b:Int):Int:=k.wrap (BitVec.ofInt k.bits a &&& BitVec.ofInt k.bits b).toNat
def og(k:IntKind)(a b:Int):Int:=k.wrap (BitVec.ofInt k.bits a ||| BitVec.ofInt k.bits b).toNat
def Rk(k:IntKind)(a b:Int):Int:=k.wrap (BitVec.ofInt k.bits a ^^^ BitVec.ofInt k.bits b).toNat
def jF(k:IntKind)(a b:Int):Int:=k.wrap (BitVec.ofInt k.bits a &&& ~~~BitVec.ofInt k.bits b).toNat
def IE(k:IntKind)(a b:Int):Int:=k.wrap (a*2 ^ (min b.toNat k.bits))
def Pr(k:IntKind)(a b:Int):Int:=a.fdiv (2 ^ (min b.toNat k.bits))
def Xx(d:BinOp)(k:IntKind)(a:Int)(c:IntKind)(b:Int):Option AB:=
 match d with
 |.add=>some ⟨k=c,.int k (k.wrap (a+b))⟩
 |.sub=>some ⟨k=c,.int k (k.wrap (a-b))⟩
 |.mul=>some ⟨k=c,.int k (k.wrap (a*b))⟩
 |.quo=>some ⟨k=c/\b≠0,.int k (k.wrap (a.tdiv b))⟩
 |.rem=>some ⟨k=c/\b≠0,.int k (a.tmod b)⟩
 |.shl=>some ⟨0<=b,.int k (IE k a b)⟩
 |.shr=>some ⟨0<=b,.int k (Pr k a b)⟩
 |.eql=>some ⟨k=c,.bool (a==b)⟩
 |.neq=>some ⟨k=c,.bool (a != b)⟩
 |.lss=>some ⟨k=c,.bool (decide (a<b))⟩
 |.leq=>some ⟨k=c,.bool (decide (a<=b))⟩
 |.gtr=>some ⟨k=c,.bool (decide (a > b))⟩
 |.geq=>some ⟨k=c,.bool (decide (a>=b))⟩
 |.and=>some ⟨k=c,.int k (AA k a b)⟩
 |.or=>some ⟨k=c,.int k (og k a b)⟩
 |.xor=>some ⟨k=c,.int k (Rk k a b)⟩
 |.andNot=>some ⟨k=c,.int k (jF k a b)⟩
def LZ{e:BinOp}{f:IntKind}{a b:Int}{t:TypeId}{r:AB}(h:Xx e k a f b=some r)(d:r.c):
 (binOp e t (.int k a) (.int f b)).run P w=.ok r.v w:=by
 cases e<;>simp only[Xx,ap]at h<;>subst h<;>
  first
  |(obtain rfl:=d;simp[binOp,Op.intArith,Op.intBits,Op.intCmp,AA,og,Rk,jF])
  |(obtain⟨rfl,g⟩:=d;simp[binOp,Op.intDiv,g])
  |(have:¬b<0:=by simp only at d;omega
    simp[binOp,Op.shift,this,IE,Pr])
def Kf(d:BinOp)(t:TypeId)(x y:Operand)(k c:IntKind)(a b:Int):(eqGuard d t x y (.int k a) (.int c b)).run P w=.ok () w:=by unfold eqGuard;simp_all
def yI(c:BinOp)(t:TypeId)(x y:Operand)(a b:Bool):(eqGuard c t x y (.bool a) (.bool b)).run P w=.ok () w:=by unfold eqGuard;simp_all
def Ku(T:bg)(t:TypeId):Bool:=match T t with
 |some r=>match r.d with|.ptr _=>true|_=>false
 |none=>false
def Im(b:bE P T)(h:Ku T t=true):∃ e,P.underlying t=some (.pointer e):=by
 unfold Ku at h;cases a:T t with
 |none=>grind
 |some r=>
  simp only[a]at h;have:=(b t r a).desc
  grind [fS]
def TT(T:bg)(t:TypeId):Bool:=match T t with
 |some r=>match r.d with|.func=>true|_=>false
 |none=>false
def Oa(e:bE P T)(h:TT T t=true):∃ a b c,P.underlying t=some (.func a b c):=by
 unfold TT at h;cases d:T t with
 |none=>grind
 |some r=>
  simp only[d]at h;have:=(e t r d).desc
  grind [fS]
def EF(T:bg)(t:TypeId):Bool:=match T t with
 |some r=>match r.d with|.map _ _=>true|_=>false
 |none=>false
def Ew(b:bE P T)(h:EF T t=true):∃ k e,P.underlying t=some (.map k e):=by
 unfold EF at h;cases a:T t with
 |none=>grind
 |some r=>
  simp only[a]at h;have:=(b t r a).desc
  grind [fS]
def xP:LV->Option Bool
 |.fn _ _=>some false
 |.atom .nilFunc=>some true
 |_=>none
def wQ:LV->Option Bool
 |.mp _=>some false
 |.atom (.map none)=>some true
 |_=>none
def nilPtr:LV->Option Bool
 |.pt _ _=>some false
 |.ep _=>some false
 |.pe _ _=>some false
 |.atom (.pointer none)=>some true
 |_=>none
def JC(T:bg)(f:BinOp)(t:TypeId)(x y:LV)(e:St):Option bV:=
 match x,y with
 |.atom (.int k a),.atom (.int k' b)=>(Xx f k a k' b).map fun r=>@bV.mk r.c (.atom r.v) e r.d
 |.atom (.bool a),.atom (.bool b)=>match f with
  |.eql=>some ⟨yJ T t=true,.atom (.bool (a==b)),e⟩
  |.neq=>some ⟨yJ T t=true,.atom (.bool (!(a==b))),e⟩
  |_=>none
 |.ag xs,.ag ys=>match T t,jJ xs,jJ ys with
  |some r,some (ks,u9),some (ks',bs)=>match f with
   |.eql=>some ⟨r.ck=some ks/\ks'=ks/\r.agg=true,.atom (.bool (u9==bs)),e⟩
   |.neq=>some ⟨r.ck=some ks/\ks'=ks/\r.agg=true,.atom (.bool (!(u9==bs))),e⟩
   |_=>none
  |_,_,_=>none
 |.nil,.nil=>match f with
  |.eql=>some ⟨(dN T t).isSome=true,.atom (.bool true),e⟩
  |.neq=>some ⟨(dN T t).isSome=true,.atom (.bool false),e⟩
  |_=>none
 |x,.atom (.map none)=>match wQ x,f with
  |some b,.eql=>some ⟨EF T t=true,.atom (.bool b),e⟩
  |some b,.neq=>some ⟨EF T t=true,.atom (.bool (!b)),e⟩
  |_,_=>none
 |x,.atom (.pointer none)=>match nilPtr x,f with
  |some b,.eql=>some ⟨Ku T t=true,.atom (.bool b),e⟩
  |some b,.neq=>some ⟨Ku T t=true,.atom (.bool (!b)),e⟩
  |_,_=>none
 |x,.atom .nilFunc=>match xP x,f with
  |some b,.eql=>some ⟨TT T t=true,.atom (.bool b),e⟩
  |some b,.neq=>some ⟨TT T t=true,.atom (.bool (!b)),e⟩
  |_,_=>none
 |_,_=>none
def Wq(c:UnOp)(x:LV)(a:St):Option bV:=
 match c,x with
 |.not,.atom (.bool b)=>some ⟨True,.atom (.bool !b),a⟩
 |.neg,.atom (.int k n)=>some ⟨True,.atom (.int k (k.wrap (0-n))),a⟩
 |_,_=>none
def Ce(T:bg)(t:TypeId)(x:LV)(a:St):Option bV:=
 match T t,fW a x with
 |some r,some cs=>if r.agg then some ⟨r.size<=cs.length,.ag (cs.take r.size),a⟩else some ⟨0<cs.length,oe cs,a⟩
 |_,_=>none
def Ue(T:bg)(t:TypeId)(x i:LV)(a:St):Option bV:=
 match dN T t,i with
 |some e,.atom (.int _ i)=>match T e with
  |some r=>match x with
   |.ms l o n=>some ⟨0<=i/\i<n,.pt l (o+i.toNat*r.size),a⟩
   |x=>match AP x with
    |some (_,n,cs)=>some ⟨0<=i/\i<n/\i.toNat*r.size<cs.length,.ep (cs.drop (i.toNat*r.size)),a⟩
    |none=>none
  |_=>none
 |_,_=>none
def mC(T:bg)(t:TypeId)(x:LV)(f:Nat)(a:St):Option bV:=
 match uJ T t with
 |some b=>match b[f]? with
  |some (off,ty)=>match T ty with
   |some r=>match x with
    |.pt l o=>some ⟨r.size≠0,.pt l (o+off),a⟩
    |.ep cs=>some ⟨r.size≠0,.ep (cs.drop off),a⟩
    |.pe _ cs=>some ⟨r.size≠0,.ep (cs.drop off),a⟩
    |_=>none
   |none=>none
  |none=>none
 |_=>none
def CF(T:bg)(t:TypeId)(x:LV)(f:Nat)(a:St):Option bV:=
 match uJ T t,x with
 |some fs,.ag cs=>match fs[f]? with
  |some (off,ty)=>match T ty with
   |some r=>if r.agg then some ⟨True,.ag ((cs.drop off).take r.size),a⟩else some ⟨off<cs.length,oe (cs.drop off),a⟩
   |none=>none
  |none=>none
 |_,_=>none
def fO:Option LV->Nat->Option Int
 |none,d=>some d
 |some (.atom (.int _ i)),_=>some i
 |_,_=>none
def Cx(T:bg)(t:TypeId)(x:LV)(d f g:Option LV)(a:St):Option bV:=
 match dN T t with
 |some e=>match T e with
  |some r=>match g with
   |none=>match x with
    |.ms b o n=>match fO d 0,fO f n with
     |some l,some h=>some ⟨0<=l/\l<=h/\h<=n/\0<r.size,.ms b (o+l.toNat*r.size) (h.toNat-l.toNat),a⟩
     |_,_=>none
    |.kap b n c=>match fO d 0,fO f n with
     |some l,some h=>some ⟨0<=l/\l<=h/\h<=c/\0<r.size,if d.isNone then .kap b h.toNat c else .ms b (l.toNat*r.size) (h.toNat-l.toNat),a⟩
     |_,_=>none
    |.nil=>match fO d 0,fO f 0 with
     |some l,some h=>some ⟨l=0/\h=0,.nil,a⟩
     |_,_=>none
    |.qu t o n cs=>match fO d 0,fO f n with
     |some l,some h=>some ⟨0<=l/\l<=h/\h<=n/\r.size=1,.qu t (o+l.toNat) (h.toNat-l.toNat) ((cs.drop l.toNat).take (h.toNat-l.toNat)),a⟩
     |_,_=>none
    |x=>match AP x with
     |some (_,n,cs)=>match fO d 0,fO f n with
      |some l,some h=>some ⟨0<=l/\l<=h/\h<=n,.sl 0 (h.toNat-l.toNat) ((cs.drop (l.toNat*r.size)).take ((h.toNat-l.toNat)*r.size)),a⟩
      |_,_=>none
     |none=>none
   |some (.atom (.int _ m))=>match d,f,AP x with
    |none,some (.atom (.int _ h)),some _=>some ⟨m=0/\h=0,.emp,a⟩
    |some (.atom (.int _ l)),some (.atom (.int _ h)),none=>match x with
     |.ms _ _ n=>some ⟨0<=l/\l<=h/\h<=m/\m<=n,.dead,a⟩
     |.kap _ _ c=>some ⟨0<=l/\l<=h/\h<=m/\m<=c,.dead,a⟩
     |_=>none
    |_,_,_=>none
   |_=>none
  |none=>none
 |none=>none
def Wu(t:TypeId)(x:LV)(b:St):Option bV:=
 match eS x with
 |some a=>some ⟨True,.pt b.z 0,b.new (.box t a.length a)⟩
 |none=>none
def Gy(T:bg)(t:TypeId)(a:St):Option bV:=
 match T t with
 |some r=>some ⟨True,.pt a.z 0,a.new (.box t r.size (r.zero.map dD))⟩
 |none=>none
def HZ(T:bg)(t:TypeId)(x v:LV)(a:St):Option bV:=
 match T t,x,eS v with
 |some r,.pt l o,some ds=>match a.H l with
  |.box e s cs=>some ⟨ds.length=r.size/\o+ds.length<=cs.length/\ds.all kQ=true,.dead,a.set l (.box e s (cs.take o++ds++cs.drop (o+ds.length)))⟩
  |_=>none
 |_,_,_=>none
def tU(place:Nat->Option (Nat×Nat))(cells:QQ):List (Nat×LV)->Option (QQ)
 |[]=>some cells
 |(i,v)::rest=>
  match place i,eS v with
  |some (off,size),some ds=>if ds.length=size/\off+ds.length<=cells.length then tU place (cells.take off++ds++cells.drop (off+ds.length)) rest else none
  |_,_=>none
def uF(T:bg):List (Nat×Nat)->Option (List (Nat×Nat))
 |[]=>some []
 |(off,ty)::r=>match T ty,uF T r with
  |some q,some l=>some ((off,q.size)::l)
  |_,_=>none
def XO(T:bg)(t:Nat):Option Nat:=match T t with
 |some r=>match r.d with|.arr _ e=>some e|_=>none
 |none=>none
def WM(b:bE P T)(h:XO T t=some e):∃ n,P.underlying t=some (.array n e):=by
 unfold XO at h;cases a:T t with
 |none=>grind
 |some r=>
  simp only[a]at h;have:=(b t r a).desc
  grind [fS]
def Gd(T:bg)(t:TypeId)(parts:List (Nat×LV))(c:St):Option bV:=
 match uJ T t,T t with
 |some fs,some r=>match uF T fs with
  |some d=>match tU (fun i=>d[i]?) (r.zero.map dD) parts with
   |some a=>some ⟨r.agg=true,.ag a,c⟩
   |none=>none
  |none=>none
 |none,some r=>match XO T t with
  |some e=>match T e with
   |some b=>match tU (fun i=>some (i*b.size,b.size)) (r.zero.map dD) parts with
    |some a=>some ⟨r.agg=true,.ag a,c⟩
    |none=>none
   |none=>none
  |none=>none
 |_,_=>none
def gN(z:QQ):Nat->QQ
 |0=>[]
 |n+1=>z++gN z n
def nO(T:bg)(m:Bool)(t:TypeId)(a:Nat)(parts:List (Nat×LV))(b:St):Option bV:=
 match dN T t with
 |some e=>match T e with
  |some r=>match tU (fun i=>some (i*r.size,r.size)) (gN (r.zero.map dD) a) parts with
   |some c=>if m then some ⟨a*r.size<=16777216/\0<r.size,.ms b.z 0 a,b.new (.box e r.size c)⟩
    else some ⟨a*r.size<=16777216/\0<r.size,.sl b.z a c,b.new (.own e r.size a)⟩
   |none=>none
  |none=>none
 |_=>none
def isStr(T:bg)(t:TypeId):Bool:=match T t with
 |some r=>match r.d with|.str=>true|_=>false
 |none=>false
def Ul(b:bE P T)(h:isStr T t=true):P.underlying t=some .string:=by
 unfold isStr at h;cases a:T t with
 |none=>grind
 |some r=>
  simp only[a]at h;have:=(b t r a).desc
  grind [fS]
def HF(T:bg)(t:TypeId)(x i:LV)(a:St):Option bV:=
 match x,i with
 |.atom (.string s),.atom (.int _ i)=>some ⟨isStr T t=true/\0<=i/\(s[i.toNat]?).isSome=true,.atom (.int .u8 ((s[i.toNat]?).getD 0).toNat),a⟩
 |_,_=>none
def xS(T:bg)(t:TypeId)(x i:LV)(b:Bool)(a:St):Option bV:=
 match pJ T t with
 |some (k,e)=>match T k,T e,EZ i with
  |some rk,some re,some (ag,ks,u9)=>match x with
   |.mp l=>match a.H l with
    |.map ag' ks' es=>some ⟨rk.ck=some ks/\rk.agg=ag/\ag'=ag/\ks'=ks,if b then .tu [(bY es u9).getD (Di re),.atom (.bool (bY es u9).isSome)]else(bY es u9).getD (Di re),a⟩
    |_=>none
   |.atom (.map none)=>some ⟨rk.ck=some ks/\rk.agg=ag,if b then .tu [Di re,.atom (.bool false)]else Di re,a⟩
   |_=>none
  |_,_,_=>none
 |none=>none
def yS(T:bg)(t:TypeId)(x i v:LV)(a:St):Option bV:=
 match pJ T t with
 |some (k,_)=>match T k,EZ i with
  |some rk,some (ag,ks,u9)=>match x with
   |.mp l=>match a.H l with
    |.map ag' ks' es=>some ⟨rk.ck=some ks/\rk.agg=ag/\ag'=ag/\ks'=ks,.dead,a.set l (.map ag ks (bX es u9 v))⟩
    |_=>none
   |_=>none
  |_,_=>none
 |none=>none
def xI(T:bg)(t:TypeId)(d:Option LV)(a:St):Option bV:=
 match pJ T t with
 |some (k,_)=>match T k with
  |some b=>match b.ck with
   |some c=>match d with
    |none=>some ⟨True,.mp a.z,a.new (.map b.agg c [])⟩
    |some (.atom (.int _ _))=>some ⟨True,.mp a.z,a.new (.map b.agg c [])⟩
    |_=>none
   |none=>none
  |none=>none
 |none=>none
def WR(T:bg)(t:TypeId)(x:LV)(a:St):Option bV:=
 match dN T t with
 |some _=>match x with
  |.ms _ _ n=>some ⟨True,.atom (.int .i64 n),a⟩
  |.kap _ n _=>some ⟨True,.atom (.int .i64 n),a⟩
  |x=>match AP x with
   |some (_,n,_)=>some ⟨True,.atom (.int .i64 n),a⟩
   |none=>none
 |none=>none
def VY(T:bg)(t:TypeId)(x:LV)(a:St):Option bV:=
 match pJ T t,x with
 |some _,.mp l=>match a.H l with
  |.map _ _ es=>some ⟨True,.atom (.int .i64 es.length),a⟩
  |_=>none
 |_,_=>none
def Vs(x y:LV)(c:St):Option bV:=
 match x,y with
 |.atom (.int k a),.atom (.int _ b)=>some ⟨True,.atom (.int k (if b<a then b else a)),c⟩
 |_,_=>none
def YB(x y:LV)(c:St):Option bV:=
 match x,y with
 |.atom (.int k a),.atom (.int _ b)=>some ⟨True,.atom (.int k (if a<b then b else a)),c⟩
 |_,_=>none
def Mq(T:bg)(t:TypeId)(a:St)(x:LV):Option (Nat×QQ):=
 match x with
 |.ms l o n=>match dN T t with
  |some e=>match T e with
   |some r=>match a.H l with
    |.box _ _ cs=>some (n,(cs.drop o).take (n*r.size))
    |_=>none
   |none=>none
  |none=>none
 |x=>(AP x).map fun p=>(p.2.1,p.2.2)
def BL(T:bg)(b:Bool)(t:TypeId)(s x:LV)(a:St):Option bV:=
 match dN T t,Mq T t a x with
 |some e,some (m,ds)=>match T e with
  |some r=>match s with
   |.nil=>if b then some ⟨ds.length=m*r.size/\ds.all kQ=true/\m*r.bytes<=140737488355328/\m<=maxLen/\0<r.size,.ms a.z 0 m,a.new (.box e r.size ds)⟩
    else some ⟨ds.length=m*r.size/\ds.all kQ=true/\m*r.bytes<=140737488355328/\m<=maxLen/\0<r.size,.sl a.z m ds,a.new (.own e r.size m)⟩
   |.emp=>if b then some ⟨ds.length=m*r.size/\ds.all kQ=true/\m*r.bytes<=140737488355328/\m<=maxLen/\0<r.size,.ms a.z 0 m,a.new (.box e r.size ds)⟩
    else some ⟨ds.length=m*r.size/\ds.all kQ=true/\m*r.bytes<=140737488355328/\m<=maxLen/\0<r.size,.sl a.z m ds,a.new (.own e r.size m)⟩
   |.sl q n cs=>match a.H q with
    |.own e' s' n'=>some ⟨e'=e/\s'=r.size/\n'=n/\cs.length=n*r.size/\q≠0/\ds.length=m*r.size/\ds.all kQ=true/\(n+m)*r.bytes<=140737488355328/\n+m<=maxLen/\0<r.size,
      .sl a.z (n+m) (cs++ds),(a.set q .dead).new (.own e r.size (n+m))⟩
    |_=>none
   |.kap l n _=>match a.H l with
    |.box e' s' cs=>some ⟨e'=e/\s'=r.size/\n*r.size<=cs.length/\ds.length=m*r.size/\ds.all kQ=true/\(n+m)*r.bytes<=140737488355328/\n+m<=maxLen/\0<r.size,
      .ms a.z 0 (n+m),(a.set l .dead).new (.box e r.size (cs.take (n*r.size)++ds))⟩
    |_=>none
   |.ms l o n=>match a.H l with
    |.box e' s' cs=>some ⟨o=0/\e'=e/\s'=r.size/\n*r.size<=cs.length/\ds.length=m*r.size/\ds.all kQ=true/\(n+m)*r.bytes<=140737488355328/\n+m<=maxLen/\0<r.size,
      .ms a.z 0 (n+m),(a.set l .dead).new (.box e r.size (cs.take (n*r.size)++ds))⟩
    |_=>none
   |.qu q o n cs=>match a.H q with
    |.que e' n'=>some ⟨e'=e/\r.size=1/\o+n=n'/\cs.length=n/\ds.length=m/\ds.all kQ=true/\(n+m)*r.bytes<=140737488355328/\n+m<=maxLen,
      .qu a.z 0 (n+m) (cs++ds),(a.set q .dead).new (.que e (n+m))⟩
    |_=>none
   |_=>none
  |none=>none
 |_,_=>none
def Zd(T:bg)(t:TypeId)(x:LV)(a:St):Option bV:=
 match dN T t,x with
 |some _,.nil=>some ⟨True,.atom (.int .i64 0),a⟩
 |some _,.kap _ _ c=>some ⟨True,.atom (.int .i64 c),a⟩
 |_,_=>none
def BM(T:bg)(t b:TypeId)(s x:LV)(a:St):Option bV:=
 match dN T t,Qu T b with
 |some e,some _=>match T e with
  |some r=>match s,x with
   |.nil,.atom (.int _ n)=>some ⟨0<n/\n*r.bytes<=140737488355328/\n<=9223372036854775807/\0<r.size,.ms a.z 0 n.toNat,a.new (.box e r.size (gN (r.zero.map dD) n.toNat))⟩
   |_,_=>none
  |none=>none
 |_,_=>none
def rK(T:bg)(t:TypeId)(l c:LV)(a:St):Option bV:=
 match dN T t with
 |some e=>match T e with
  |some r=>match l,c with
   |.atom (.int _ n),.atom (.int _ n')=>some ⟨n=n'/\0<=n/\n*r.bytes<=140737488355328/\n<=9223372036854775807/\0<r.size,.ms a.z 0 n.toNat,a.new (.box e r.size (gN (r.zero.map dD) n.toNat))⟩
   |_,_=>none
  |none=>none
 |none=>none
def HY(T:bg)(t:TypeId)(x:LV)(a:St):Option bV:=
 match dN T t,x with
 |some e,.ms l o n=>match T e,a.H l with
  |some r,.box e' s cs=>some ⟨o+n*r.size<=cs.length/\0<r.size,.tu [],a.set l (.box e' s (cs.take o++gN (r.zero.map dD) n++cs.drop (o+n*r.size)))⟩
  |_,_=>none
 |_,_=>none
def sameBox:Bool->LV->LV->Bool
 |true,.kap l _ _,.ms l' _ _=>decide (l=l')
 |_,_,_=>false
def xY(_:bg)(_:TypeId)(_ _:LV)(_:St):Option bV:=none
def Od(_:bg)(_ _:TypeId)(_ _:LV)(_:St):Option bV:=none
def BR(_:bg)(_:TypeId)(_ _:LV)(_:St):Option bV:=none
def FX(T:bg)(m:Bool)(c:Call)(a:ah)(b:St):Option bV:=
 match c.callee,c.args.toList,c.argTypes.toList with
 |.builtin .len,[x],t::_=>match pJ T t with
  |none=>WR T t (aM a x) b
  |some _=>VY T t (aM a x) b
 |.builtin .min,[x,y],_=>Vs (aM a x) (aM a y) b
 |.builtin .max,[x,y],_=>YB (aM a x) (aM a y) b
 |.builtin .append,[s,x],[t,t']=>if t=t' then(if sameBox m (aM a s) (aM a x)=true then xY T t (aM a s) (aM a x) b else BL T m t (aM a s) (aM a x) b)else BM T t t' (aM a s) (aM a x) b
 |.builtin .cap,[x],t::_=>Zd T t (aM a x) b
 |.builtin .clear,[x],[t]=>HY T t (aM a x) b
 |.builtin .copy,[x,y],[t,t']=>Od T t t' (aM a x) (aM a y) b
 |.builtin .delete,[x,i],[t,_]=>BR T t (aM a x) (aM a i) b
 |_,_,_=>none
def fX(T:bg)(m:Bool)(o:Oper)(e:ah)(g:St):Option bV:=
 match o.op with
 |.move x|.assign x=>some ⟨True,aM e x,g⟩
 |.pick c a b=>match aM e c with
  |.atom (.bool t)=>some ⟨True,if t then aM e a else aM e b,g⟩
  |_=>none
 |.binOp op t x y _=>JC T op t (aM e x) (aM e y) g
 |.unOp op _ x=>Wq op (aM e x) g
 |.convert s d x=>match Qu T s,Qu T d,aM e x with
  |some _,some k,.atom (.int _ n)=>some ⟨True,.atom (.int k (k.wrap n)),g⟩
  |_,_,_=>none
 |.load t x=>Ce T t (aM e x) g
 |.store t x v=>HZ T t (aM e x) (aM e v) g
 |.indexAddr t x i=>Ue T t (aM e x) (aM e i) g
 |.fieldAddr t x f=>mC T t (aM e x) f g
 |.field t x f=>CF T t (aM e x) f g
 |.slice t x lo hi mx=>Cx T t (aM e x) (lo.map (aM e)) (hi.map (aM e)) (mx.map (aM e)) g
 |.box t x=>Wu t (aM e x) g
 |.alloc t=>Gy T t g
 |.build t ps=>Gd T t (ps.toList.map fun p=>(p.1,aM e p.2)) g
 |.buildSlice t n ps=>nO T m t n (ps.toList.map fun p=>(p.1,aM e p.2)) g
 |.makeFunc f first Kz=>if first.isEmpty then some ⟨True,.fn f (Kz.toList.map (aM e)),g⟩else none
 |.extract x i=>match aM e x with
  |.tu vs=>match vs[i]? with|some v=>some ⟨True,v,g⟩|none=>none
  |_=>none
 |.nilCheck x=>match aM e x with
  |.pt l o=>some ⟨True,.pt l o,g⟩
  |.pe l cs=>some ⟨True,.pe l cs,g⟩
  |_=>none
 |.call c=>FX T m c e g
 |.index t x i=>HF T t (aM e x) (aM e i) g
 |.lookup t x i ok=>xS T t (aM e x) (aM e i) ok g
 |.mapUpdate t x i v=>yS T t (aM e x) (aM e i) (aM e v) g
 |.insert t x i v=>yS T t (aM e x) (aM e i) (aM e v) g
 |.makeMap t r=>xI T t (r.map (aM e)) g
 |.makeSlice t l c=>rK T t (aM e l) (aM e c) g
 |_=>none
def aW:Op->Bool
 |.move _|.assign _|.pick ..|.binOp ..|.unOp ..|.convert ..|.load ..|.indexAddr ..|.fieldAddr ..|.field ..|.slice ..|.extract ..|.nilCheck _|.makeFunc ..|.lookup ..|.index ..=>true
 |.call { callee:=.builtin .len,.. }|.call { callee:=.builtin .min,.. }|.call { callee:=.builtin .max,.. }=>true
 |_=>false
end Aw
end Go.Proofs.YtbgngpdonpeboaaGreatDoor
