/- Slices as mere values; a box whose cells are told otherwise; an empty cell that becomes a row of the call's own. -/
import Derived.Test.YtbgngpdonpeboaaGreatDoorAwSet
set_option linter.defProp false
set_option linter.unusedVariables false
set_option linter.unusedSimpArgs false
namespace Go.Proofs.YtbgngpdonpeboaaGreatDoor
namespace Aw
open Go Go.RowKit
mutual
def z0:LV->LV
 |.sl _ n cs=>.sl 0 n (dw cs)
 |.nil=>.sl 0 0 []
 |.emp=>.sl 0 0 []
 |.ag cs=>.ag (dw cs)
 |.tu cs=>.tu (dw cs)
 |x=>x
def dw:List LV->List LV
 |[]=>[]
 |c::cs=>z0 c::dw cs
end
def oL(l:List LV):dw l=l.map z0:=by
 induction l with
 |nil=>rfl
 |cons x l a=>grind [dw]
mutual
theorem JX{w:World}{g:G}:∀(k:LV) (v:Value),Rep w g k v->Rep w g (z0 k) v
 |.sl t n a,v,h=>by
  simp only[Rep,z0]at h ⊢;obtain⟨A,j,d,e,l,_,m⟩:=h;refine⟨A,j,d,e,l,fun h=>absurd rfl h,fun r=>?_⟩;cases a with
  |nil=>grind [dw]
  |cons c a=>obtain⟨b,o,p,q⟩:=m sS;exact⟨b,o,p,DB b (c::a) o q⟩
 |.nil,v,h=>by
  grind [Rep,z0]
 |.emp,v,h=>by
  grind [Rep,z0]
 |.ag a,v,h=>by simp only[Rep,z0]at h ⊢;obtain⟨f,d,e⟩:=h;exact⟨f,d,zH a f e⟩
 |.tu a,v,h=>by simp only[Rep,z0]at h ⊢;obtain⟨f,d,e⟩:=h;exact⟨f,d,zH a f e⟩
 |.dead,_,h=>h
 |.atom _,_,h=>h
 |.ms _ _ _,_,h=>h
 |.pt _ _,_,h=>h
 |.ep _,_,h=>h
 |.mp _,_,h=>h
 |.fn _ _,_,h=>h
 |.qu _ _ _ _,_,h=>h
 |.pe _ _,_,h=>h
 |.kap _ _ _,_,h=>h
theorem zH{w:World}{g:G}:∀(b:List LV) (d:List Value),aC w g b d->aC w g (dw b) d
 |[],d,h=>h
 |c::b,d,h=>by simp only[aC,dw]at h ⊢;obtain⟨v,a,rfl,e,f⟩:=h;exact⟨v,a,rfl,JX c v e,zH b a f⟩
theorem DB{w:World}{g:G}(b:Nat):∀(a:List LV) (o:Nat),aP w g b a o->aP w g b (dw a) o
 |[],_,h=>h
 |c::a,o,h=>by simp only[aP,dw]at h ⊢;obtain⟨⟨v,d,e,f⟩,h4⟩:=h;exact⟨⟨v,d,JX c v e,f⟩,DB b a (o+1) h4⟩
end
def eS{P:Program}{f:FuncId}{args:List LV}{b:St}{Q:LV->St->Prop}(h:aB P f args b fun r a=>Q (z0 r) a):aB P f args b Q:=by refine⟨h.1,fun w g o l n=>(h.2 w g o l n).mono ?_⟩;rintro e p ⟨v,r,a,j,rfl,m,c,d,k⟩;exact⟨v,z0 r,a,j,rfl,m,JX _ _ c,d,k⟩
def Em{P:Program}{f:FuncId}{args:List LV}{a:St}{Q:LV->St->Prop}(h:aB P f (dw args) a Q):aB P f args a Q:=
 ⟨h.1,fun w g d b c=>h.2 w g d b (zH _ _ c)⟩
section
variable {P:Program} {T:az} {N:Nat} {ops:Array Oper} {M B:List Nat} {J:af->St->Prop} {rest:List Oper} {d:Option Nat} {fr:af} {st j8:St} {π:List (Nat×Bool×Oper)} {nd:Bool}
theorem PG{f:FuncId}{args b:List LV}{R:LV->St->Prop}(h:aB P f b st R)(c:dw args=b)(e:∀ r a,R r a->cG P T N ops M J rest (bL fr d r) a):Bi P T N ops M J rest d fr st f args:=by subst c;exact qF (Em h) e
end
@[simp] theorem I5(n:Int):z0 (u n)=u n:=rfl
@[simp] theorem I6(n:Int):z0 (i n)=i n:=rfl
@[simp] theorem HY(l:AN):dw (us l)=us l:=by rw[oL];simp[us]
def BR{w:World}{g:G}{k:St}(f:Inv w g k){l e s:Nat}{cs h:List LV}(q:k.H l=.box e s cs)(r:h.length=cs.length)(C:∀ t,aC w g cs t->aC w g h t):Inv w g (k.set l (.box e s h)):=by
 have o:∀ x,blk g (k.set l (.box e s h)) x↔blk g k x:=by
  intro x;unfold blk;simp only[St.set];by_cases d:x=l
  .grind
  .grind
 have dF:l<k.z:=Bq f q sS;refine⟨f.z,f.pos,?_,fun x d=>f.lt x ((o x).1 d),fun x y d A=>f.inj x y ((o x).1 d) ((o y).1 A),?_,?_,?_,?_,f.aside.keep (Ext.refl w g) (jM rfl)⟩
 .intro x d;simp only[St.set]at d ⊢;rw[ac oO];exact f.fresh x d
 .intro x m p n d;simp only[St.set]at d;by_cases j:x=l
  .grind
  .rw[ac j]at d;exact f.own x m p n d
 .intro x m p c d;simp only[St.set]at d;by_cases j:x=l
  .subst j;rw[ad rfl]at d;injection d with a b c';subst a b c';obtain⟨D,E,F⟩:=f.box x e s cs q
   grind
  .rw[ac j]at d;exact f.box x m p c d
 .intro x ag B v d;simp only[St.set]at d;by_cases j:x=l
  .grind
  .rw[ac j]at d;exact f.mp x ag B v d
 .intro x e n d;simp only[St.set]at d;by_cases j:x=l
  .grind
  .rw[ac j]at d;exact f.qu x e n d
def HJ{P:Program}{N:Nat}{Q:AQ}{l:af}{d:St}{c:Code}(q f k:Nat){e s:Nat}(b post:List LV)(p:d.H q=.box e s (b++.nil::post))
 (h:bq P N c Q l ((d.new (.own f k 0)).set q (.box e s (b++.sl d.z 0 []::post)))):bq P N c Q l d:=by
 refine iY (fun a w g j r _=>?_) h;have m:=ext_nil w g;have o:Inv w g.addNil (d.new (.own f k 0)):=jF j _ (.inl ⟨f,k,rfl⟩);have dF:q<d.z:=Bq j p sS;refine⟨g.addNil,BR o (cs:=b++.nil::post) (by grind [cB]) sS (fun y t=>?_),r.mono m,m⟩;obtain⟨v,n,x⟩:=nK b y t;refine x g.addNil _ (Ext.refl _ _) ?_;simp only[Rep]at n ⊢;exact⟨none,0,n,au _,⟨je _,fun _=>rfl⟩,fun _=>by simp[G.addNil,j.z],fun h=>absurd rfl h⟩
end Aw
end Go.Proofs.YtbgngpdonpeboaaGreatDoor
