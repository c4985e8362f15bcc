/- Lemmas. -/
import Derived.Test.YtbgngpdonpeboaaGreatDoorAwSet
set_option linter.defProp false
namespace Go.Proofs.YtbgngpdonpeboaaGreatDoor
namespace Aw
open Go Go.RowKit
mutual
def z0:LV->LV
 |.sl _ n cs=>.sl 0 n (dl cs)
 |.nil=>.sl 0 0 []
 |.emp=>.sl 0 0 []
 |.ag cs=>.ag (dl cs)
 |.tu cs=>.tu (dl cs)
 |x=>x
def dl:QQ->QQ
 |[]=>[]
 |c::cs=>z0 c::dl cs
end
def rL(l:QQ):dl l=l.map z0:=by
 induction l with
 |nil=>rfl
 |cons x l a=>grind [dl]
mutual
theorem MG{w:World}{g:G}:∀(k:LV) (v:Value),Rep w g k v->Rep w g (z0 k) v
 |.sl t n a,v,h=>by
  simp only[Rep,z0]at h ⊢;obtain⟨A,j,d,e,l,_,m⟩:=h;refine⟨A,j,d,e,l,fun h=>absurd rfl h,fun Tv=>?_⟩;cases a with
  |nil=>grind [dl]
  |cons c a=>obtain⟨b,o,p,q⟩:=m Y;exact⟨b,o,p,Fj b (c::a) o q⟩
 |.nil,v,h=>by
  grind [Rep,z0]
 |.emp,v,h=>by
  grind [Rep,z0]
 |.ag a,v,h=>by simp only[Rep,z0]at h ⊢;obtain⟨f,d,e⟩:=h;exact⟨f,d,BT a f e⟩
 |.tu a,v,h=>by simp only[Rep,z0]at h ⊢;obtain⟨f,d,e⟩:=h;exact⟨f,d,BT a f e⟩
 |.dead,_,h=>h
 |.atom _,_,h=>h
 |.ms _ _ _,_,h=>h
 |.pt _ _,_,h=>h
 |.ep _,_,h=>h
 |.mp _,_,h=>h
 |.fn _ _,_,h=>h
 |.qu _ _ _ _,_,h=>h
 |.pe _ _,_,h=>h
 |.kap _ _ _,_,h=>h
theorem BT{w:World}{g:G}:∀(b:QQ) (d:List Value),aG w g b d->aG w g (dl b) d
 |[],d,h=>h
 |c::b,d,h=>by simp only[aG,dl]at h ⊢;obtain⟨v,a,rfl,e,f⟩:=h;exact⟨v,a,rfl,MG c v e,BT b a f⟩
theorem Fj{w:World}{g:G}(b:Nat):∀(a:QQ) (o:Nat),aR w g b a o->aR w g b (dl a) o
 |[],_,h=>h
 |c::a,o,h=>by simp only[aR,dl]at h ⊢;obtain⟨⟨v,d,e,f⟩,h4⟩:=h;exact⟨⟨v,d,MG c v e,f⟩,Fj b a (o+1) h4⟩
end
variable{f:FuncId}{Q:LV->St->Prop}{args:List LV}{e s:Nat}{P:Program}{d:St}
def cZ(h:aD P f args d fun r a=>Q (z0 r) a):aD P f args d Q:=by refine⟨h.1,fun w g o l n=>(h.2 w g o l n).mono ?_⟩;rintro e p ⟨v,r,a,j,rfl,m,b,c,k⟩;exact⟨v,z0 r,a,j,rfl,m,MG _ _ b,c,k⟩
def IL{a:St}(h:aD P f (dl args) a Q):aD P f args a Q:=
 ⟨h.1,fun w g d b c=>h.2 w g d b (BT _ _ c)⟩
section
variable {P:Program} {T:bg} {N:Nat} {ops:Array Oper} {M B:List Nat} {J:ah->St->Prop} {rest:List Oper} {d:Option Nat} {fr:ah} {st j9:St} {π:List (Nat×Bool×Oper)} {nd:Bool}
theorem vB{f:FuncId}{args a:QQ}{R:LV->St->Prop}(h:aD P f a st R)(c:dl args=a)(e:∀ r b,R r b->cV P T N ops M J rest (bR fr d r) b):DF P T N ops M J rest d fr st f args:=by subst c;exact qF (IL h) e
end
@[simp] theorem Z7(n:Int):z0 (u n)=u n:=rfl
@[simp] theorem Z8(n:Int):z0 (i n)=i n:=rfl
@[simp] theorem vR(l:PP):dl (us l)=us l:=by rw[rL];simp[us]
def DO{w:World}{g:G}{k:St}(f:Inv w g k){l:Nat}{cs h:QQ}(q:k.H l=.box e s cs)(r:h.length=cs.length)(C:∀ t,aG w g cs t->aG w g h t):Inv w g (k.set l (.box e s h)):=by
 have o:∀ x,blk g (k.set l (.box e s h)) x↔blk g k x:=by
  intro x;unfold blk;simp only[St.set];by_cases d:x=l
  .grind
  .grind
 have dS:l<k.z:=EJ f q Y;refine⟨f.z,f.pos,?_,fun x d=>f.lt x ((o x).1 d),fun x y d A=>f.inj x y ((o x).1 d) ((o y).1 A),?_,?_,?_,?_,f.aside.keep (Ext.refl w g) (kI rfl)⟩
 .intro x d;simp only[St.set]at d ⊢;rw[aa O];exact f.fresh x d
 .intro x m p n d;simp only[St.set]at d;by_cases j:x=l
  .grind
  .rw[aa j]at d;exact f.own x m p n d
 .intro x m p c d;simp only[St.set]at d;by_cases j:x=l
  .subst j;rw[ac rfl]at d;injection d with a b c';subst a b c';obtain⟨D,E,F⟩:=f.box x e s cs q
   grind
  .rw[aa j]at d;exact f.box x m p c d
 .intro x ag B v d;simp only[St.set]at d;by_cases j:x=l
  .grind
  .rw[aa j]at d;exact f.mp x ag B v d
 .intro x e n d;simp only[St.set]at d;by_cases j:x=l
  .grind
  .rw[aa j]at d;exact f.qu x e n d
def sM{N:Nat}{Q:AQ}{l:ah}{c:Code}(q f k:Nat)(b post:QQ)(p:d.H q=.box e s (b++.nil::post))
 (h:bq P N c Q l ((d.new (.own f k 0)).set q (.box e s (b++.sl d.z 0 []::post)))):bq P N c Q l d:=by
 refine jQ (fun a w g j r _=>?_) h;have m:=ext_nil w g;have o:Inv w g.addNil (d.new (.own f k 0)):=kJ j _ (.inl ⟨f,k,rfl⟩);have dS:q<d.z:=EJ j p Y;refine⟨g.addNil,DO o (cs:=b++.nil::post) (by grind [cN]) Y (fun y t=>?_),r.mono m,m⟩;obtain⟨v,n,x⟩:=oV b y t;refine x g.addNil _ (Ext.refl _ _) ?_;simp only[Rep]at n ⊢;exact⟨none,0,n,au _,⟨jx _,fun _=>rfl⟩,fun _=>by simp[G.addNil,j.z],fun h=>absurd rfl h⟩
end Aw
end Go.Proofs.YtbgngpdonpeboaaGreatDoor
