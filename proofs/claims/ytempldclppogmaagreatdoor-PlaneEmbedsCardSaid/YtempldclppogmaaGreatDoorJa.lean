/- Plain lists of numbers: places, least ones, turns. No program. -/
import Derived.RangeFuncBox
import Derived.RangeFuncLeaves
import Derived.Shelf.Abstract
import Derived.WalkKit
import Derived.OwnWalkIn
import Derived.TacticsInMore
import Derived.LoopNIn
import Derived.LoopIn
import Derived.Maps.AppendAt
import Derived.Test.YtempldclppogmaaGreatDoorProg
import Derived.Test.YtempldclppogmaaGreatDoorAwSet
import Derived.IntWalk
set_option linter.unusedVariables false
set_option linter.unusedSimpArgs false
set_option maxHeartbeats 2000000
open Go.Proofs.Tryz
namespace Go.Proofs.YtempldclppogmaaGreatDoor
namespace Pl
def gi(l:List Int)(x:Int):Int:=if x∈l then(l.idxOf x:Int)else -1
theorem Jt{l:List Int}{x:Int}{k:Nat}(hk:k<l.length)(h:l[k]=x)(hn:∀ j (hj:j<k),l[j]'(by omega)≠x):gi l x=k:=by
 have hm:x∈l:=by rw[<- h];exact aAu hk
 unfold gi;rw[aAe hm]
 congr 1
 have h1:l.idxOf x<l.length:=aBa hm;have h2:l[l.idxOf x]=x:=aCb h1;rcases aCJ (l.idxOf x) k with h3|h3|h3
 .exact absurd h2 (hn _ h3)
 .exact h3
 .have:=aEj (p:=fun y=>y==x) (xs:=l) (i:=k) (by simpa[List.idxOf]using h3);simp[h]at this
theorem KT{l:List Int}{x:Int}(hn:∀ j (hj:j<l.length),l[j]≠x):gi l x = -1:=by unfold gi;rw[aAa];intro hm;obtain⟨j,hj,h⟩:=aAy hm;exact hn j hj h
theorem Dv(l:List Int)(x:Int):gi l x<0↔x∉l:=by
 unfold gi
 split
 .rename_i h;simp[h]
 .rename_i h;simp[h]
def mn:List Int->Int
 |[]=>0
 |x::l=>l.foldl (fun a b=>if b<a then b else a) x
theorem uV(l:List Int):∀ a:Int,l.foldl (fun a b=>if b<a then b else a) a<=a/\(∀ x∈l,l.foldl (fun a b=>if b<a then b else a) a<=x)/\(l.foldl (fun a b=>if b<a then b else a) a=a\/l.foldl (fun a b=>if b<a then b else a) a∈l):=by
 induction l with
 |nil=>intro a;simp
 |cons b l ih=>
  intro a;simp only[List.foldl_cons];obtain⟨h1,h2,h3⟩:=ih (if b<a then b else a);have c1:(if b<a then b else a)<=a:=by split<;>omega
  have c2:(if b<a then b else a)<=b:=by split<;>omega
  refine⟨Int.le_trans h1 c1,?_,?_⟩
  .intro x hx;rcases aAf.1 hx with rfl|hx
   .exact Int.le_trans h1 c2
   .exact h2 x hx
  .rcases h3 with h3|h3
   .rw[h3]
    split
    .right;simp
    .left;rfl
   .right;simp[h3]
theorem GG{l:List Int}{x:Int}(hx:x∈l):mn l<=x:=by
 cases l with
 |nil=>simp at hx
 |cons a l=>
  obtain⟨h1,h2,_⟩:=uV l a;rcases aAf.1 hx with rfl|hx
  .exact h1
  .exact h2 x hx
theorem pP{l:List Int}(h:l≠[]):mn l∈l:=by
 cases l with
 |nil=>exact absurd rfl h
 |cons a l=>
  obtain⟨_,_,h3⟩:=uV l a;rcases h3 with h3|h3
  .simp only[mn];rw[h3];simp
  .simp only[mn];exact aAk _ h3
theorem NG{l:List Int}{m:Int}(hm:m∈l)(h:∀ x∈l,m<=x):mn l=m:=by have h1:=GG hm;have h2:=h _ (pP (aCc hm));omega
theorem ME(l:List Int)(x:Int)(h:l≠[]):mn (l++[x])=if x<mn l then x else mn l:=by
 cases l with
 |nil=>exact absurd rfl h
 |cons a l=>rw[List.cons_append,mn,aBo];rfl
theorem Kc(l:List Int)(k:Nat)(h0:0<k)(hk:k<l.length):mn (l.take (k+1))=if l[k] < mn (l.take k)then l[k]else mn (l.take k):=by rw[aAn hk,ME];intro h;have:=congrArg List.length h;rw[aAo,List.length_nil]at this;omega
def rt(l:List Int)(k:Nat):List Int:=l.drop k++l.take k
def nrm(l:List Int):List Int:=rt l (l.idxOf (mn l))
theorem wR(l:List Int)(k:Nat):(rt l k).length=l.length:=by simp[rt];omega
theorem cE(l:List Int):(nrm l).length=l.length:=wR _ _
theorem UO(l:List Int)(k i:Nat)(hk:k<=l.length)(hi:i<l.length):(rt l k)[i]'(by rw[wR];exact hi)=l[(k+i) % l.length]'(aCj _ oO):=by
 unfold rt;by_cases h:i<l.length-k
 .rw[aCs (by simpa using h)];simp only[aCi]
  congr 1
  rw[aAK oO]
 .rw[aBx (by simp;omega)];simp only[aBE,aAN]
  congr 1
  rw[Nat.mod_eq_sub_mod oO,aAK oO];omega
theorem KB(l:List Int)(i:Nat)(hi:i<l.length):(nrm l)[i]'(by rw[cE];exact hi)=l[(l.idxOf (mn l)+i) % l.length]'(aCj _ oO):=
 UO l _ i aDm hi
end Pl
namespace Eu
open Go
def it(f:Int->Int):Nat->Int->Int
 |0,x=>x
 |n+1,x=>it f n (f x)
theorem cT(f:Int->Int)(n:Nat)(x:Int):it f (n+1) x=f (it f n x):=by
 induction n generalizing x with
 |zero=>rfl
 |succ n ih=>exact ih (f x)
theorem oV(f:Int->Int)(m n:Nat)(x:Int):it f (m+n) x=it f m (it f n x):=by
 induction n generalizing x with
 |zero=>rfl
 |succ n ih=>exact ih (f x)
theorem Ue{f:Int->Int}{p:Nat}{x:Int}(h:it f p x=x)(q:Nat):it f (q*p) x=x:=by
 induction q with
 |zero=>rw[aDt];rfl
 |succ q ih=>rw[aDJ,oV,h,ih]
theorem Pn{f:Int->Int}(hi:∀ x y,f x=f y->x=y)(n:Nat){x y:Int}(h:it f n x=it f n y):x=y:=by
 induction n generalizing x y with
 |zero=>exact h
 |succ n ih=>exact hi _ _ (ih h)
def Per(f:Int->Int):Prop:=∀ x,∃ p,0<p/\it f p x=x
def Orb(f:Int->Int)(x y:Int):Prop:=∃ n,it f n x=y
theorem Orb.refl(f:Int->Int)(x:Int):Orb f x x:=⟨0,rfl⟩
theorem Orb.step(f:Int->Int)(x:Int):Orb f x (f x):=⟨1,rfl⟩
theorem Orb.trans{f:Int->Int}{x y z:Int}(h:Orb f x y)(k:Orb f y z):Orb f x z:=by obtain⟨n,rfl⟩:=h;obtain⟨m,rfl⟩:=k;exact⟨m+n,oV f m n x⟩
theorem Orb.symm{f:Int->Int}(hf:Per f){x y:Int}(h:Orb f x y):Orb f y x:=by
 obtain⟨n,rfl⟩:=h;induction n generalizing x with
 |zero=>exact⟨0,rfl⟩
 |succ n ih=>
  refine(ih (x:=f x)).trans ?_;obtain⟨p,hp,h⟩:=hf x;cases p with
  |zero=>omega
  |succ p=>exact⟨p,h⟩
theorem Pj{f:Int->Int}(D:List Int)(hD:∀ x∈D,f x∈D)(hi:∀ x y,f x=f y->x=y)(ho:∀ x,x∉D->f x=x):Per f:=by
 intro x;by_cases hx:x∈D
 .refine aAL fun YI=>?_;have Wx:∀ p,0<p->it f p x≠x:=fun p hp h=>YI ⟨p,hp,h⟩;have Xt:∀ k,it f k x∈D:=by
   intro k;induction k with
   |zero=>exact hx
   |succ k ih=>rw[cT];exact hD _ ih
  have hnd:((List.range (D.length+1)).map fun k=>it f k x).Nodup:=by unfold List.Nodup;rw[aAU];refine aBN.imp fun {i j} hij h=>?_;have h2:j=i+(j-i):=oO;rw[h2,oV]at h;exact Wx (j-i) oO (Pn hi i h).symm
  have:=aAC hnd (l₂:=D) fun y hy=>by obtain⟨k,_,rfl⟩:=aAm.1 hy;exact Xt k
  simp at this;omega
 .exact⟨1,oO,ho x hx⟩
structure Eqv(R:Int->Int->Prop):Prop where
 refl:∀ x,R x x
 symm:∀ {x y},R x y->R y x
 trans:∀ {x y z},R x y->R y z->R x z
theorem Per.eqv{f:Int->Int}(hf:Per f):Eqv (Orb f):=⟨Orb.refl f,Orb.symm hf,Orb.trans⟩
noncomputable def ncl(R:Int->Int->Prop):List Int->Nat
 |[]=>0
 |x::l=>ncl R l+@ite Nat (∃ y∈l,R y x) (Classical.propDecidable _) 0 1
theorem aW{R:Int->Int->Prop}{x:Int}{l:List Int}(h:∃ y∈l,R y x):ncl R (x::l)=ncl R l:=by simp only[ncl];rw[aAe h];rfl
theorem aO{R:Int->Int->Prop}{x:Int}{l:List Int}(h:¬∃ y∈l,R y x):ncl R (x::l)=ncl R l+1:=by simp only[ncl];rw[aAa h]
theorem iI{R S:Int->Int->Prop}{l:List Int}(h:∀ x∈l,∀ y∈l,(R x y↔S x y)):ncl R l=ncl S l:=by
 induction l with
 |nil=>rfl
 |cons x l ih=>
  have ih':=ih fun a ha b hb=>h a (aAk _ ha) b (aAk _ hb);by_cases hx:∃ y∈l,R y x
  .rw[aW hx,aW,ih'];obtain⟨y,hy,hr⟩:=hx;exact⟨y,hy,(h y (aAk _ hy) x aAq).1 hr⟩
  .rw[aO hx,aO,ih'];rintro⟨y,hy,hr⟩;exact hx ⟨y,hy,(h y (aAk _ hy) x aAq).2 hr⟩
theorem mI{R:Int->Int->Prop}(hR:Eqv R){l l':List Int}(h:l.Perm l'):ncl R l=ncl R l':=by
 induction h with
 |nil=>rfl
 |@cons x l1 l2 h ih=>
  by_cases hx:∃ y∈l1,R y x
  .rw[aW hx,aW,ih];obtain⟨y,hy,hr⟩:=hx;exact⟨y,h.mem_iff.1 hy,hr⟩
  .rw[aO hx,aO,ih];rintro⟨y,hy,hr⟩;exact hx ⟨y,h.mem_iff.2 hy,hr⟩
 |swap x y l=>
  by_cases YH:R x y
  .have YX:=hR.symm YH;rw[aW ⟨x,aAq,YH⟩,aW ⟨y,aAq,YX⟩];by_cases hx:∃ z∈l,R z x
   .rw[aW hx,aW];obtain⟨z,hz,hr⟩:=hx;exact⟨z,hz,hR.trans hr YH⟩
   .rw[aO hx,aO];rintro⟨z,hz,hr⟩;exact hx ⟨z,hz,hR.trans hr YX⟩
  .have YX:¬R y x:=fun h=>YH (hR.symm h);have e1:(∃ z∈x::l,R z y)↔∃ z∈l,R z y:=by
    constructor
    .rintro⟨z,hz,hr⟩;rcases aAf.1 hz with rfl|hz
     .exact absurd hr YH
     .exact⟨z,hz,hr⟩
    .rintro⟨z,hz,hr⟩;exact⟨z,aAk _ hz,hr⟩
   have e2:(∃ z∈y::l,R z x)↔∃ z∈l,R z x:=by
    constructor
    .rintro⟨z,hz,hr⟩;rcases aAf.1 hz with rfl|hz
     .exact absurd hr YX
     .exact⟨z,hz,hr⟩
    .rintro⟨z,hz,hr⟩;exact⟨z,aAk _ hz,hr⟩
   by_cases hx:∃ z∈l,R z x
   .rw[aW (x:=x) (l:=y::l) (e2.2 hx)];by_cases hy:∃ z∈l,R z y
    .rw[aW (x:=y) (l:=x::l) (e1.2 hy),aW hx,aW hy]
    .rw[aO (x:=y) (l:=x::l) (fun h=>hy (e1.1 h)),aW hx,aO hy]
   .rw[aO (x:=x) (l:=y::l) (fun h=>hx (e2.1 h))];by_cases hy:∃ z∈l,R z y
    .rw[aW (x:=y) (l:=x::l) (e1.2 hy),aO hx,aW hy]
    .rw[aO (x:=y) (l:=x::l) (fun h=>hy (e1.1 h)),aO hx,aO hy]
 |trans _ _ h1 h2=>exact h1.trans h2
def Mg(R:Int->Int->Prop)(a b x y:Int):Prop:=R x y\/(R x a/\R b y)\/(R x b/\R a y)
theorem Mg.eqv{R:Int->Int->Prop}(hR:Eqv R)(a b:Int):Eqv (Mg R a b):=by
 refine⟨fun x=>.inl (hR.refl x),?_,?_⟩
 .rintro x y (h|⟨h1,h2⟩|⟨h1,h2⟩)
  .exact .inl (hR.symm h)
  .exact .inr (.inr ⟨hR.symm h2,hR.symm h1⟩)
  .exact .inr (.inl ⟨hR.symm h2,hR.symm h1⟩)
 .rintro x y z (h|⟨h1,h2⟩|⟨h1,h2⟩) (k|⟨k1,k2⟩|⟨k1,k2⟩)
  .exact .inl (hR.trans h k)
  .exact .inr (.inl ⟨hR.trans h k1,k2⟩)
  .exact .inr (.inr ⟨hR.trans h k1,k2⟩)
  .exact .inr (.inl ⟨h1,hR.trans h2 k⟩)
  .exact .inr (.inl ⟨h1,k2⟩)
  .exact .inl (hR.trans h1 k2)
  .exact .inr (.inr ⟨h1,hR.trans h2 k⟩)
  .exact .inl (hR.trans h1 k2)
  .exact .inr (.inr ⟨h1,k2⟩)
theorem Mg.same{R:Int->Int->Prop}(hR:Eqv R){a b:Int}(h:R a b)(x y:Int):Mg R a b x y↔R x y:=by
 constructor
 .rintro(k|⟨k1,k2⟩|⟨k1,k2⟩)
  .exact k
  .exact hR.trans (hR.trans k1 h) k2
  .exact hR.trans (hR.trans k1 (hR.symm h)) k2
 .exact .inl
theorem Mg.le{R S:Int->Int->Prop}(hS:Eqv S){a b:Int}(YA:S a b)(h:∀ x y,R x y->S x y){x y:Int}(k:Mg R a b x y):S x y:=by
 rcases k with k|⟨k1,k2⟩|⟨k1,k2⟩
 .exact h _ _ k
 .exact hS.trans (hS.trans (h _ _ k1) YA) (h _ _ k2)
 .exact hS.trans (hS.trans (h _ _ k1) (hS.symm YA)) (h _ _ k2)
theorem vL{R:Int->Int->Prop}(hR:Eqv R){a b:Int}(YA:¬R a b){l:List Int}(ha:a∈l)(hb:b∈l):ncl R l=ncl (Mg R a b) l+1:=by
 have Wx:b≠a:=by rintro rfl;exact YA (hR.refl _)
 have key:∀ rest:List Int,ncl R (rest++[a,b])=ncl (Mg R a b) (rest++[a,b])+1:=by
  intro rest;induction rest with
  |nil=>
   have h1:ncl R [a,b]=2:=by
    rw[aO,aO]
    .rfl
    .rintro⟨y,hy,_⟩;cases hy
    .rintro⟨y,hy,hr⟩;rw[aAl]at hy;subst hy;exact YA (hR.symm hr)
   have h2:ncl (Mg R a b) [a,b]=1:=by
    rw[aW,aO]
    .rfl
    .rintro⟨y,hy,_⟩;cases hy
    .exact⟨b,sS,.inr (.inr ⟨hR.refl _,hR.refl _⟩)⟩
   rw[List.nil_append,h1,h2]
  |cons x rest ih=>
   rw[List.cons_append];have haL:a∈rest++[a,b]:=sS;have hbL:b∈rest++[a,b]:=sS;by_cases hx:∃ y∈rest++[a,b],R y x
   .rw[aW hx,aW,ih];obtain⟨y,hy,hr⟩:=hx;exact⟨y,hy,.inl hr⟩
   .rw[aO hx,aO,ih];rintro⟨y,hy,hr|⟨_,hr⟩|⟨_,hr⟩⟩
    .exact hx ⟨y,hy,hr⟩
    .exact hx ⟨b,hbL,hr⟩
    .exact hx ⟨a,haL,hr⟩
 have p1:l.Perm (a::l.erase a):=aDK ha;have p2:(l.erase a).Perm (b::(l.erase a).erase b):=aDK ((aEA Wx).2 hb);have p3:l.Perm (((l.erase a).erase b)++[a,b]):=(p1.trans (p2.cons a)).trans (aBR (l₁:=[a,b]));rw[mI hR p3,mI (Mg.eqv hR a b) p3];exact key _
theorem Cm{R:Int->Int->Prop}{t l:List Int}(ht:∀ x∈t,∀ y∈t,R x y)(hl:∀ x∈t,∀ y∈l,¬R y x):ncl R (t++l)=ncl R l+if t=[]then 0 else 1:=by
 induction t with
 |nil=>simp
 |cons x t ih=>
  have ih':=ih (fun a ha b hb=>ht a (aAk _ ha) b (aAk _ hb)) (fun a ha=>hl a (aAk _ ha));rw[List.cons_append,aAa sS];cases t with
  |nil=>rw[List.nil_append,aO];rintro⟨y,hy,hr⟩;exact hl x aAq y hy hr
  |cons z t=>rw[aW ⟨z,sS,ht z sS x sS⟩,ih',aAa sS]
theorem Ab{R:Int->Int->Prop}:∀(ts:List (List Int)),(∀ t∈ts,∀ x∈t,∀ y∈t,R x y)->ts.Pairwise (fun t t'=>∀ x∈t,∀ y∈t',¬R y x)->ncl R ts.flatten=(ts.filter fun t=>decide (t≠[])).length
 |[],_,_=>rfl
 |t::ts,h1,h2=>by
  rw[aBc]at h2;rw[List.flatten_cons,Cm (h1 t aAq),Ab ts (fun t ht=>h1 t (aAk _ ht)) h2.2]
  .by_cases ht:t=[]
   .simp[ht]
   .simp[ht]
  .intro x hx y hy;obtain⟨t',F0,P5⟩:=aAZ.1 hy;exact h2.1 t' F0 x hx y P5
def sw(a b x:Int):Int:=if x=a then b else if x=b then a else x
theorem CA(a b:Int):sw a b a=b:=by simp[sw]
theorem FO(a b:Int):sw a b b=a:=by unfold sw;by_cases h:b=a<;>simp[h]
theorem uF{a b x:Int}(h1:x≠a)(h2:x≠b):sw a b x=x:=by simp[sw,h1,h2]
theorem Og(a b x:Int):sw a b (sw a b x)=x:=by
 by_cases h1:x=a
 .subst h1;rw[CA,FO]
 .by_cases h2:x=b
  .subst h2;rw[FO,CA]
  .rw[uF h1 h2,uF h1 h2]
theorem UQ(a b:Int){x y:Int}(h:sw a b x=sw a b y):x=y:=by rw[<- Og a b x,h,Og]
theorem least{P:Nat->Prop}{n:Nat}(h:P n):∃ m,P m/\∀ k,k<m->¬P k:=by
 induction n using Nat.strongRecOn with
 |ind n ih=>
  by_cases hk:∃ k,k<n/\P k
  .obtain⟨k,h1,h2⟩:=hk;exact ih k h1 h2
  .exact⟨n,h,fun k h1 h2=>hk ⟨k,h1,h2⟩⟩
section
variable {f f':Int->Int} {a b:Int}
theorem NF(A6:∀ x,f' x=f (sw a b x))(YA:a≠b)(h:Orb f b a):¬Orb f' a b:=by
 obtain⟨n0,h0⟩:=h;obtain⟨n,hn,Yp⟩:=least (P:=fun n=>it f n b=a) h0;have p8:n≠0:=by rintro rfl;exact YA hn.symm
 have K1:∀ i,0<i->i<=n->it f i b≠b:=by intro i hi Xt hb;have:n=(n-i)+i:=oO;rw[this,oV,hb]at hn;exact Yp (n-i) oO hn
 have Xk:∀ x,(∃ i,0<i/\i<=n/\x=it f i b)->∃ i,0<i/\i<=n/\f' x=it f i b:=by
  rintro x ⟨i,hi,Xt,rfl⟩;rcases aAB i n with h1|h1
  .refine⟨i+1,oO,oO,?_⟩;rw[A6,uF (Yp i h1) (K1 i hi Xt),cT]
  .obtain rfl:i=n:=oO;exact⟨1,oO,oO,by rw[A6,hn,CA];rfl⟩
 rintro⟨k,hk⟩;have hall:∀ k,∃ i,0<i/\i<=n/\it f' k a=it f i b:=by
  intro k;induction k with
  |zero=>exact⟨n,oO,aAi _,hn.symm⟩
  |succ k ih=>rw[cT];exact Xk _ ih
 obtain⟨i,h1,h2,h3⟩:=hall k;rw[hk]at h3;exact K1 i h1 h2 h3.symm
theorem ON(hf:Per f)(A6:∀ x,f' x=f (sw a b x))(h:¬Orb f b a):Orb f' a b:=by
 obtain⟨p,hp,h0⟩:=hf b;obtain⟨n,⟨p8,hn⟩,Yp⟩:=least (P:=fun n=>0<n/\it f n b=b) ⟨hp,h0⟩;have key:∀ k,0<k->k<=n->it f' k a=it f k b:=by
  intro k;induction k with
  |zero=>intro h;omega
  |succ k ih=>
   intro _ hk;rcases aCY k with rfl|h0
   .show f' a=f b;rw[A6,CA]
   .rw[cT,ih h0 oO,A6,uF (fun e=>h ⟨k,e⟩) (fun e=>Yp k oO ⟨h0,e⟩),cT f k b]
 exact⟨n,by rw[key n p8 (aAi _),hn]⟩
theorem QT(hf:Per f)(A6:∀ x,f' x=f (sw a b x)){x y:Int}(h:Orb f' x y):Mg (Orb f) a b x y:=by
 have hE:=Mg.eqv hf.eqv a b;obtain⟨n,rfl⟩:=h;induction n generalizing x with
 |zero=>exact hE.refl _
 |succ n ih=>
  refine hE.trans ?_ (ih (x:=f' x));rw[A6];by_cases h1:x=a
  .subst h1;rw[CA];exact .inr (.inl ⟨Orb.refl _ _,Orb.step _ _⟩)
  .by_cases h2:x=b
   .subst h2;rw[FO];exact .inr (.inr ⟨Orb.refl _ _,Orb.step _ _⟩)
   .rw[uF h1 h2];exact .inl (Orb.step _ _)
theorem KJ(hf:Per f)(Zh:Per f')(A6:∀ x,f' x=f (sw a b x))(x y:Int):Mg (Orb f) a b x y↔Mg (Orb f') a b x y:=by
 have hb:∀ x,f x=f' (sw a b x):=fun x=>by rw[A6,Og]
 constructor
 .exact Mg.le (Mg.eqv Zh.eqv a b) (.inr (.inl ⟨Orb.refl _ _,Orb.refl _ _⟩)) fun x y h=>QT Zh hb h
 .exact Mg.le (Mg.eqv hf.eqv a b) (.inr (.inl ⟨Orb.refl _ _,Orb.refl _ _⟩)) fun x y h=>QT hf A6 h
theorem wL{D:List Int}(hf:Per f)(Zh:Per f')(A6:∀ x,f' x=f (sw a b x))(YA:a≠b)(ha:a∈D)(hb:b∈D)(h:Orb f a b):ncl (Orb f') D=ncl (Orb f) D+1:=by
 rw[vL Zh.eqv (NF A6 YA (Orb.symm hf h)) ha hb]
 congr 1
 refine iI fun x _ y _=>?_;rw[<- KJ hf Zh A6,Mg.same hf.eqv h]
theorem Ai{D:List Int}(hf:Per f)(Zh:Per f')(A6:∀ x,f' x=f (sw a b x))(ha:a∈D)(hb:b∈D)(h:¬Orb f a b):ncl (Orb f) D=ncl (Orb f') D+1:=by
 have h':Orb f' a b:=ON hf A6 fun k=>h (Orb.symm hf k);rw[vL hf.eqv h ha hb]
 congr 1
 refine iI fun x _ y _=>?_;rw[KJ hf Zh A6,Mg.same Zh.eqv h']
end
def kO(f:Int->Int)(d:Int)(L:List Int):Prop:=∃ p,0<p/\L=(List.range p).map (fun k=>it f k d)/\it f p d=d/\∀ q,0<q->q<p->it f q d≠d
theorem PJ{f:Int->Int}(hf:Per f)(d:Int):∃ L,kO f d L:=by obtain⟨p,hp,h0⟩:=hf d;obtain⟨n,⟨p8,hn⟩,Yp⟩:=least (P:=fun n=>0<n/\it f n d=d) ⟨hp,h0⟩;exact⟨_,n,p8,rfl,hn,fun q h1 h2 h3=>Yp q h2 ⟨h1,h3⟩⟩
theorem Hv{f:Int->Int}{d:Int}{p:Nat}(hp:0<p)(h:it f p d=d)(n:Nat):it f n d=it f (n % p) d:=by
 have h1:n=n % p+n / p*p:=by have:=Nat.mod_add_div n p;rw[aBI]at this;omega
 conv=>lhs;rw[h1,oV,Ue h]
theorem kO.mem{f:Int->Int}{d:Int}{L:List Int}(h:kO f d L){x:Int}:x∈L↔Orb f d x:=by
 obtain⟨p,hp,rfl,h1,h2⟩:=h;rw[aAm];constructor
 .rintro⟨k,_,rfl⟩;exact⟨k,rfl⟩
 .rintro⟨n,rfl⟩;exact⟨n % p,aAX.2 (aCj _ hp),(Hv hp h1 n).symm⟩
theorem kO.nodup{f:Int->Int}(hi:∀ x y,f x=f y->x=y){d:Int}{L:List Int}(h:kO f d L):L.Nodup:=by obtain⟨p,hp,rfl,h1,h2⟩:=h;unfold List.Nodup;rw[aAU];refine(aBN (n:=p)).imp_of_mem fun {i j} Yo hj hij h=>?_;rw[aAX]at Yo hj;have e:j=i+(j-i):=oO;rw[e,oV]at h;exact h2 (j-i) oO oO (Pn hi i h).symm
theorem kO.ne{f:Int->Int}{d:Int}{L:List Int}(h:kO f d L):L≠[]:=by obtain⟨p,hp,rfl,h1,h2⟩:=h;intro h;have:=congrArg List.length h;simp at this;omega
end Eu
namespace Pl
def sw(c:List Int)(a b:Nat):List Int:=(c.set a (c.getD b 0)).set b (c.getD a 0)
theorem vJ(c:List Int)(a b:Nat):(sw c a b).length=c.length:=by simp[sw]
theorem bV(c:List Int)(a b j:Nat)(ha:a<c.length)(hb:b<c.length):(sw c a b).getD j 0=if j=b then c.getD a 0 else if j=a then c.getD b 0 else c.getD j 0:=by
 unfold sw;simp only[aAc,aDg];by_cases h1:b=j
 .subst h1;simp[hb]
 .by_cases h2:a=j
  .subst h2;simp[h1,ha,aDi h1]
  .simp[h1,h2,aDi h1,aDi h2]
theorem Qm(c:List Int)(a b:Nat)(ha:a<c.length)(hb:b<c.length):(sw c a b).Perm c:=by unfold sw;have h:=List.set_set_perm ha hb;simp only[aAc,aAd ha,aAd hb,Option.getD_some];exact h
inductive Pm(a b:Nat)(l:List Int):List Int->Prop
 |refl:Pm a b l l
 |step {m:List Int} (h:Pm a b l m) (x y:Nat) (hx:a<=x) (Zm:x<b) (hy:a<=y) (P5:y<b) (hb:b<=l.length):Pm a b l (sw m x y)
theorem Pm.len{a b:Nat}{l m:List Int}(h:Pm a b l m):m.length=l.length:=by
 induction h with
 |refl=>rfl
 |step h x y _ _ _ _ _ ih=>rw[vJ];exact ih
theorem Pm.out{a b:Nat}{l m:List Int}(h:Pm a b l m)(j:Nat)(hj:j<a\/b<=j):m.getD j 0=l.getD j 0:=by
 induction h with
 |refl=>rfl
 |step h x y h1 h2 h3 h4 h5 ih=>have:=h.len;rw[bV _ _ _ _ oO oO,aAa oO,aAa oO];exact ih
theorem Pm.trans{a b:Nat}{l m n:List Int}(h:Pm a b l m)(k:Pm a b m n):Pm a b l n:=by
 induction k with
 |refl=>exact h
 |step k x y h1 h2 h3 h4 h5 ih=>have:=h.len;exact ih.step x y h1 h2 h3 h4 oO
theorem Pm.wide{a b a' b':Nat}{l m:List Int}(h:Pm a b l m)(ha:a'<=a)(hb:b<=b')(hl:b'<=l.length):Pm a' b' l m:=by
 induction h with
 |refl=>exact .refl
 |step k x y h1 h2 h3 h4 h5 ih=>exact ih.step x y oO oO oO oO hl
theorem Pm.perm{a b:Nat}{l m:List Int}(h:Pm a b l m):m.Perm l:=by
 induction h with
 |refl=>exact .refl _
 |step k x y h1 h2 h3 h4 h5 ih=>have:=k.len;exact(Qm _ _ _ oO oO).trans ih
theorem Pm.all{a b:Nat}{l m:List Int}(h:Pm a b l m)(P:Int->Prop)(hP:∀ j,a<=j->j<b->P (l.getD j 0))(j:Nat)(h1:a<=j)(h2:j<b):P (m.getD j 0):=by
 induction h generalizing j with
 |refl=>exact hP j h1 h2
 |step k x y g1 g2 g3 g4 g5 ih=>
  have:=k.len;rw[bV _ _ _ _ oO oO];by_cases e1:j=y
  .rw[aAe e1];exact ih x g1 g2
  .rw[aAa e1];by_cases e2:j=x
   .rw[aAe e2];exact ih y g3 g4
   .rw[aAa e2];exact ih j h1 h2
theorem Pm.one{a b:Nat}{l:List Int}(x y:Nat)(hx:a<=x)(Zm:x<b)(hy:a<=y)(P5:y<b)(hb:b<=l.length):Pm a b l (sw l x y):=Pm.refl.step x y hx Zm hy P5 hb
def Srt(a b:Nat)(l:List Int):Prop:=∀ p q,a<=p->p<q->q<b->l.getD p 0<=l.getD q 0
def Ins(a j i:Nat)(d:List Int):Prop:=∀ p q,a<=p->p<q->q<=i->q≠j->d.getD p 0<=d.getD q 0
theorem Srt.ins{a i:Nat}{d:List Int}(h:Srt a i d):Ins a i i d:=fun p q h1 h2 h3 h4=>h p q h1 h2 oO
theorem Ins.step{a j i:Nat}{d:List Int}(h:Ins a j i d)(hj:a<j)(hi:j<=i)(hil:i<d.length)(dN:d.getD j 0<d.getD (j-1) 0):Ins a (j-1) i (sw d j (j-1)):=by
 intro p q h1 h2 h3 h4;rw[bV _ _ _ _ oO oO,bV _ _ _ _ oO oO];by_cases e1:q=j
 .rw[aAa h4,aAe e1];by_cases e2:p=j-1
  .rw[aAe e2];omega
  .rw[aAa e2,aAa oO];exact h p (j-1) h1 oO oO oO
 .rw[aAa h4,aAa e1];by_cases e2:p=j-1
  .rw[aAe e2];exact h j q oO oO h3 e1
  .rw[aAa e2];by_cases e3:p=j
   .rw[aAe e3];exact h (j-1) q oO oO h3 e1
   .rw[aAa e3];exact h p q h1 h2 h3 e1
theorem Ins.done{a j i:Nat}{d:List Int}(h:Ins a j i d)(hj:a<=j)(hs:j=a\/¬d.getD j 0<d.getD (j-1) 0):Srt a (i+1) d:=by
 intro p q h1 h2 h3;by_cases e:q=j
 .subst e;have h5:¬d.getD q 0<d.getD (q-1) 0:=by rcases hs with hs|hs;omega;exact hs
  by_cases e2:p=q-1
  .subst e2;omega
  .have:=h p (q-1) h1 oO oO oO;omega
 .exact h p q h1 h2 oO e
def nA(lo hi f:Nat)(d:List Int):Prop:=∀ k c,lo<=k->(c=2*k+1\/c=2*k+2)->c<hi->d.getD (f+c) 0<=d.getD (f+k) 0
def sD(lo hi f r:Nat)(d:List Int):Prop:=(∀ k c,lo<=k->k≠r->(c=2*k+1\/c=2*k+2)->c<hi->d.getD (f+c) 0<=d.getD (f+k) 0)/\
 (∀ k c,lo<=k->(r=2*k+1\/r=2*k+2)->(c=2*r+1\/c=2*r+2)->c<hi->d.getD (f+c) 0<=d.getD (f+k) 0)
theorem nA.x{lo hi f:Nat}{d:List Int}(h:nA (lo+1) hi f d):sD lo hi f lo d:=
 ⟨fun k c h1 h2 h3 h4=>h k c oO h3 h4,fun k c h1 h2 h3 h4=>by omega⟩
theorem sD.leaf{lo hi f r:Nat}{d:List Int}(h:sD lo hi f r d)(hr:hi<=2*r+1):nA lo hi f d:=by intro k c h1 h2 h3;exact h.1 k c h1 oO h2 h3
theorem sD.big{lo hi f r:Nat}{d:List Int}(h:sD lo hi f r d)(hr:∀ c,(c=2*r+1\/c=2*r+2)->c<hi->d.getD (f+c) 0<=d.getD (f+r) 0):nA lo hi f d:=by
 intro k c h1 h2 h3;by_cases e:k=r
 .subst e;exact hr c h2 h3
 .exact h.1 k c h1 e h2 h3
theorem sD.step{lo hi f r c:Nat}{d:List Int}(h:sD lo hi f r d)(x9:lo<=r)(hc:c=2*r+1\/c=2*r+2)(hci:c<hi)(hl:f+hi<=d.length)(hm:∀ x,(x=2*r+1\/x=2*r+2)->x<hi->d.getD (f+x) 0<=d.getD (f+c) 0)
 (dN:d.getD (f+r) 0<d.getD (f+c) 0):sD lo hi f c (sw d (f+r) (f+c)):=by
 constructor
 .intro k x h1 h2 h3 h4;rw[bV _ _ _ _ oO oO,bV _ _ _ _ oO oO];by_cases e1:k=r
  .subst e1;rw[aAa (show ¬f+k=f+c by omega),aAe (rfl:f+k=f+k)];by_cases e2:x=c
   .rw[aAe oO];omega
   .rw[aAa oO,aAa oO];exact hm x h3 h4
  .rw[aAa (show ¬f+k=f+c by omega),aAa (show ¬f+k=f+r by omega)];by_cases e2:x=r
   .subst e2;rw[aAa oO,aAe (rfl:f+x=f+x)];exact h.2 k c h1 h3 hc hci
   .rw[aAa oO,aAa oO];exact h.1 k x h1 e1 h3 h4
 .intro k x h1 h2 h3 h4;have e1:k=r:=oO;subst e1;rw[bV _ _ _ _ oO oO,bV _ _ _ _ oO oO];rw[aAa oO,aAa oO,aAa (show ¬f+k=f+c by omega),aAe (rfl:f+k=f+k)];exact h.1 c x oO oO h3 h4
theorem nA.top{hi f:Nat}{d:List Int}(h:nA 0 hi f d):∀ c,c<hi->d.getD (f+c) 0<=d.getD f 0:=by
 intro c;induction c using Nat.strongRecOn with
 |ind c ih=>
  intro hc;by_cases h0:c=0
  .subst h0;simp
  .have h1:=h ((c-1) / 2) c oO oO hc;have h2:=ih ((c-1) / 2) oO oO;omega
theorem nA.pop{j f:Nat}{c:List Int}(h:nA 0 (j+1) f c)(hl:f+j<c.length):nA 1 j f (sw c f (f+j)):=by intro k x h1 h2 h3;rw[bV _ _ _ _ oO oO,bV _ _ _ _ oO oO];rw[aAa oO,aAa oO,aAa oO,aAa oO];exact h k x oO h2 oO
theorem CT{hi f j:Nat}{c c2:List Int}(hH:nA 0 (j+1) f c)(ho:∀ p q,p<q->j+1<=q->q<hi->c.getD (f+p) 0<=c.getD (f+q) 0)(hj:j<hi)(hl:f+hi<=c.length)(hp:Pm f (f+j) (sw c f (f+j)) c2):
 ∀ p q,p<q->j<=q->q<hi->c2.getD (f+p) 0<=c2.getD (f+q) 0:=by
 intro p q h1 h2 h3;have g:=fun x=>bV c f (f+j) x oO oO;rw[hp.out (f+q) oO,g (f+q)];by_cases e:q=j
 .subst e;rw[aAe rfl];refine hp.all (fun x=>x<=c.getD f 0) (fun x h4 h5=>?_) (f+p) oO oO;rw[g,aAa oO];by_cases e2:x=f
  .rw[aAe e2];exact hH.top q oO
  .rw[aAa e2];have:=hH.top (x-f) oO
   rwa [show f+(x-f)=x by omega]at this
 .rw[aAa oO,aAa oO];by_cases e2:p<j
  .refine hp.all (fun x=>x<=c.getD (f+q) 0) (fun x h4 h5=>?_) (f+p) oO oO;rw[g,aAa oO];by_cases e3:x=f
   .rw[aAe e3];exact ho j q oO oO h3
   .rw[aAa e3];have:=ho (x-f) q oO oO h3
    rwa [show f+(x-f)=x by omega]at this
  .rw[hp.out (f+p) oO,g];by_cases e3:p=j
   .rw[aAe oO];have:=ho 0 q oO oO h3
    rwa [Nat.add_zero]at this
   .rw[aAa oO,aAa oO];exact ho p q h1 oO h3
theorem NL{a m b:Nat}{d:List Int}(h1:Srt a m d)(h2:Srt (m+1) b d)(h3:∀ p,a<=p->p<m->d.getD p 0<=d.getD m 0)(h4:∀ q,m<q->q<b->d.getD m 0<=d.getD q 0):Srt a b d:=by
 intro p q k1 k2 k3;rcases aCJ p m with e|e|e
 .rcases aCJ q m with e'|e'|e'
  .exact h1 p q k1 k2 e'
  .subst e';exact h3 p k1 e
  .have:=h3 p k1 e;have:=h4 q e' k3;omega
 .subst e;exact h4 q k2 k3
 .exact h2 p q oO k2 k3
def Lo(P:Int->Bool)(c:List Int)(a m:Nat):Prop:=∀ p,a<p->p<m->P (c.getD p 0)=true
def Hi(P:Int->Bool)(c:List Int)(m b:Nat):Prop:=∀ p,m<p->p<b->P (c.getD p 0)=false
theorem Lo.more{P:Int->Bool}{c:List Int}{a m:Nat}(h:Lo P c a m)(hm:P (c.getD m 0)=true):Lo P c a (m+1):=by
 intro p h1 h2;by_cases e:p=m
 .rw[e];exact hm
 .exact h p h1 oO
theorem Hi.more{P:Int->Bool}{c:List Int}{m b:Nat}(h:Hi P c m b)(h0:0<m)(hm:P (c.getD m 0)=false):Hi P c (m-1) b:=by
 intro p h1 h2;by_cases e:p=m
 .rw[e];exact hm
 .exact h p oO h2
theorem Lo.swp{P:Int->Bool}{c:List Int}{a k m:Nat}(h:Lo P c a k)(hkm:k<m)(hm:m<c.length)(hp:P (c.getD m 0)=true):Lo P (sw c k m) a (k+1):=by
 intro p h1 h2;rw[bV _ _ _ _ oO oO,aAa oO];by_cases e:p=k
 .rw[aAe e];exact hp
 .rw[aAa e];exact h p h1 oO
theorem Hi.swp{P:Int->Bool}{c:List Int}{k m b:Nat}(h:Hi P c m b)(hkm:k<m)(hm:m<c.length)(hp:P (c.getD k 0)=false):Hi P (sw c k m) (m-1) b:=by
 intro p h1 h2;rw[bV _ _ _ _ oO oO];by_cases e:p=m
 .rw[aAe e];exact hp
 .rw[aAa e,aAa oO];exact h p oO h2
def PY(P:Int->Bool)(c:List Int)(a m b:Nat):Prop:=(∀ p,a<=p->p<m->P (c.getD p 0)=true)/\(∀ p,m<p->p<b->P (c.getD p 0)=false)
def uC(c:List Int)(a m b:Nat)(x:Int):Prop:=(∀ p,a<=p->p<m->c.getD p 0<=x)/\(∀ p,m<=p->p<b->x<c.getD p 0)
def cA(c:List Int)(a m b:Nat):Prop:=PY (fun v=>decide (v<c.getD m 0)) c a m b
theorem lK{P:Int->Bool}{c:List Int}{a m b:Nat}(h1:Lo P c a (m+1))(h2:Hi P c m b)(ham:a<=m)(u5:m<b)(hb:b<=c.length):PY P (sw c m a) a m b/\(sw c m a).getD m 0=c.getD a 0:=by
 refine⟨⟨fun p k1 k2=>?_,fun p k1 k2=>?_⟩,?_⟩
 .rw[bV _ _ _ _ oO oO];by_cases e:p=a
  .rw[aAe e];exact h1 m oO oO
  .rw[aAa e,aAa oO];exact h1 p oO oO
 .rw[bV _ _ _ _ oO oO,aAa oO,aAa oO];exact h2 p k1 k2
 .rw[bV _ _ _ _ oO oO];by_cases e:m=a
  .rw[aAe e,e]
  .rw[aAa e,aAe rfl]
theorem HF{l:List Int}(h:Srt 0 l.length l):l.Pairwise (·<=·):=by
 refine aAG.2 fun p q hp hq A7=>?_;have:=h p q oO A7 hq
 rwa [aAc,aAc,aAd hp,aAd hq]at this
theorem IQ{l m:List Int}(h:l.Pairwise (·<=·))(k:m.Pairwise (·<=·))(hp:l.Perm m):l=m:=
 hp.eq_of_pairwise (fun a b _ _ h1 h2=>by omega) h k
end Pl
namespace Rg
open Go Go.RowKit Go.Shelf
attribute [local go_sem] Oper.semAt_some
def upto(zs:List Int)(k:Nat):List Int:=(List.range k).map fun j=>zs[j]?.getD 0
theorem DT(zs:List Int)(k:Nat):upto zs (k+1)=upto zs k++[zs[k]?.getD 0]:=by simp[upto,aDL]
theorem Hl(zs:List Int)(k:Nat):(upto zs k).length=k:=by simp[upto]
theorem PM(zs:List Int):upto zs zs.length=zs:=by
 apply aCO
 .simp[upto]
 .intro i h1 h2;simp[upto,h2]
set_option maxRecDepth 100000 in
theorem JV(F:Fence)(n:Nat)(h7:F.fn 140)(o7:F.round=none)(hn:1<=n)(l Bs C1 b off len cap:Nat)(zs:List Int)(hlen:len<=1048576)(hb:b<C1)(J Jx:List Int->World->Prop)
 (hY:∀ pre x W,J pre W->pre.length<len->YieldAt F (n-1) prog l #[.int .u32 x] W fun e W'=>
   (e=.returned (.bool true)/\J (pre++[x]) W'/\Below C1 W W')\/(e=.returned (.bool false)/\Jx (pre++[x]) W'))
 (W:World) (hBs:W.cell? ⟨Bs,0,none⟩=some (.slice (some ⟨b,off,none⟩) len cap)) (hc:∀ j,j<len->W.cell? ⟨b,off+j,none⟩=some (.int .u32 (zs[j]?.getD 0))) (h0:J [] W):
 CallsIn F n prog 140 #[.func (.yield l) #[] #[],.pointer (some ⟨Bs,0,none⟩)] W fun e W'=>(∃ v,e=.returned v)/\
  ((∃ ys,ys=upto zs len/\J ys W')\/(∃ pre,(∃ k,k<=len/\pre=upto zs k)/\Jx pre W')):=by
 refine callsIn_of_wp func140 rfl h7 ?_ o7;simp only[ntmps140,aBd,List.length_cons,List.length_nil,Nat.reduceAdd,Nat.reduceSub,aBF,Array.replicate_zero,aBQ,aBJ,List.nil_append,List.cons_append]
 gi_wp2
 gi_loopw [7] (fun i wr=>∃ k:Nat,k<=len/\i=.int .i64 k/\J (upto zs k) wr/\Below C1 W wr)
  (fun i _=>len-(intOf i).toNat)
 case atStart=>exact⟨0,aBr _,rfl,h0,Below.refl _ _⟩
 case round=>
  obtain⟨k,hk,rfl,hJs,YK⟩:=hrel;have hcx:k<len->wr.cell? ⟨b,off+k,none⟩=some (.int .u32 (zs[k]?.getD 0)):=fun h=>(YK.cell (p:=⟨b,off+k,none⟩) hb).trans (hc k h);by_cases dN:k<len
  .obtain⟨fn,tmps,assign,body,hy,hR⟩:=hY _ (zs[k]?.getD 0) wr hJs (by rw[Hl];exact dN);have hcx':=hcx dN
   gi_wp2
   refine hR.mono ?_;rintro e W3 (⟨rfl,hJ3,Xq⟩|⟨rfl,hJx3⟩)
   .gi_wp2
    go_roundw
    case rel=>exact⟨k+1,oO,sS,by rw[DT];exact hJ3,YK.trans Xq⟩
    case measure=>simp[intOf];omega
   .gi_wp2
    refine bodyPost_ret (results_none rfl _ _ _) rfl ?_;exact⟨⟨_,rfl⟩,.inr ⟨_,⟨k+1,oO,(DT _ _).symm⟩,hJx3⟩⟩
  .obtain rfl:k=len:=oO
   gi_wp2
   go_end0
   exact⟨⟨_,rfl⟩,.inl ⟨_,rfl,hJs⟩⟩
set_option maxRecDepth 100000 in
theorem Ba(F:Fence)(n:Nat)(h7:F.fn 140)(o7:F.round=none)(l Bs:Nat)(J:List Int->World->Prop)(W:World)(A:Option Addr)(cap:Nat)(hBs:W.cell? ⟨Bs,0,none⟩=some (.slice A 0 cap))(h0:J [] W):
 CallsIn F n prog 140 #[.func (.yield l) #[] #[],.pointer (some ⟨Bs,0,none⟩)] W fun e W'=>(∃ v,e=.returned v)/\J [] W':=by
 refine callsIn_of_wp func140 rfl h7 ?_ o7;simp only[ntmps140,aBd,List.length_cons,List.length_nil,Nat.reduceAdd,Nat.reduceSub,aBF,Array.replicate_zero,aBQ,aBJ,List.nil_append,List.cons_append]
 gi_wp2
 gi_loopw [7] (fun i wr=>i=.int .i64 0/\J [] wr) (fun _ _=>0)
 case atStart=>exact⟨rfl,h0⟩
 case round=>
  obtain⟨rfl,hJs⟩:=hrel
  gi_wp2
  go_end0
  exact⟨⟨_,rfl⟩,hJs⟩
def IE(C1:Nat)(W:World)(sv:Value)(zs:List Int):Prop:=
 (zs=[]/\∃ A cap,sv=.slice A 0 cap)\/∃ b off cap,sv=.slice (some ⟨b,off,none⟩) zs.length cap/\b<C1/\∀ j,j<zs.length->W.cell? ⟨b,off+j,none⟩=some (.int .u32 (zs[j]?.getD 0))
theorem IE.below{C1:Nat}{A B:World}(h:Below C1 A B){sv:Value}{zs:List Int}:IE C1 A sv zs->IE C1 B sv zs
 |.inl e=>.inl e
 |.inr ⟨b,off,cap,e,hb,hc⟩=>.inr ⟨b,off,cap,e,hb,fun j hj=>(h.cell (p:=⟨b,off+j,none⟩) hb).trans (hc j hj)⟩
theorem Ep(F:Fence)(n:Nat)(h7:F.fn 140)(o7:F.round=none)(hn:1<=n)(Bs C1:Nat)(sv:Value)(zs:List Int)(hlen:zs.length<=1048576)(w:World)(hBs:Bs<w.heap.size)(hn₀:C1<=w.heap.size)
 (hc:w.cell? ⟨Bs,0,none⟩=some sv) (hI:IE C1 w sv zs):
 SeqStopsK F n prog 140 #[.pointer (some ⟨Bs,0,none⟩)] (fun x:Int=>#[Value.int .u32 x]) (Below C1) (fun ys=>ys=zs) (fun _=>True) zs.length w:=fun l J Jx W hW _ _ hY h0=>by
 have x8:=(hW.cell (p:=⟨Bs,0,none⟩) hBs).trans hc;rcases hI.below (hW.mono hn₀)with⟨rfl,A,cap,rfl⟩|⟨b,off,cap,rfl,hb,ZJ⟩
 .exact(Ba F n h7 o7 l Bs J W A cap x8 h0).mono fun e W' ⟨he,hj⟩=>⟨he,.inl ⟨_,rfl,hj⟩⟩
 .refine(JV F n h7 o7 hn l Bs C1 b off zs.length cap zs hlen hb J Jx hY W x8 ZJ h0).mono ?_;rintro e W' ⟨he,⟨ys,rfl,hj⟩|⟨pre,⟨k,hk,rfl⟩,hj⟩⟩
  .exact⟨he,.inl ⟨_,PM zs,hj⟩⟩
  .exact⟨he,.inr ⟨_,trivial,hj⟩⟩
theorem Ni:(prog.info? 34).map (fun i=>(i.zero,i.size,i.bytes))=some (some (.int .u32 0),1,4):=by kernel_rfl
set_option maxRecDepth 100000 in
theorem Dw(F:Fence)(n:Nat)(h3:F.fn 121)(h7:F.fn 140)(o7:F.round=none)(hn:3<=n)(Bs:Nat)(sv:Value)(zs:List Int)(hlen:zs.length<=1048576)(w:World)(hBs:Bs<w.heap.size)
 (hc:w.cell? ⟨Bs,0,none⟩=some sv) (hI:IE w.heap.size w sv zs):
 CallsIn F n prog 121 #[.slice none 0 0,.func (.func 140) #[] #[.pointer (some ⟨Bs,0,none⟩)]] w fun e W'=>∃ v,e=.returned v/\W'.ownsRow w.heap.size 34 1 v zs.length (zs.map (Value.int .u32))/\Below w.heap.size w W':=by
 have h1:1<=n:=oO;obtain⟨i0,hi,F4,hz1,hz2⟩:=info_parts Ni;refine callsIn_of_wp_marks func121 rfl h3 ?_ o7;simp only[ntmps121,aBd,List.length_cons,List.length_nil,Nat.reduceAdd,Nat.reduceSub,aBF,Array.replicate_zero,aBQ,aBJ,List.nil_append,List.cons_append]
 gi_wp2
 have bO:=Boxed.new w 22 (.slice none 0 0);have P2:Below w.heap.size w (w.alloc (.cells #[.slice none 0 0] 22)):=(Below.refl _ w).alloc (aAi _) _
 refine wpIn_rangeFunc_ownG o7 h1 (gf:=140) (lb:=#[.pointer (some ⟨Bs,0,none⟩)]) rfl h7 (enters_of func140 (by kernel_rfl) rfl)
  (Ep F (n-1) h7 o7 oO Bs w.heap.size sv zs hlen _ (by simp;omega) sS ((P2.cell (p:=⟨Bs,0,none⟩) hBs).trans hc) (hI.below P2)) belowK_t (belowK_b sS) (Below.refl _ _) (fun _=>rfl)
  (fun pre W=>(∃ v,Boxed W w.heap.size 22 v/\W.ownsRow w.heap.size 34 1 v pre.length (pre.map (Value.int .u32))/\True)/\Below w.heap.size w W)
  (fun _ _ _=>False)
  (OwnFrom.and (Own.from (holdsRow_own w.heap.size w.heap.size 22 34 1 (fun pre:List Int=>pre.length) (fun pre:List Int=>pre.map (Value.int .u32)) (fun _ _=>True)) _) (ownFrom_below (aAi _) sS))
  (fun _ _ _ _ _ hs _ _=>hs)
  ⟨⟨_,bO,World.ownsRow_nil _ _ _ _,trivial⟩,P2⟩
  (fun x=>{ tmps:=#[.slice none 0 0,.func (.func 140) #[] #[.pointer (some ⟨Bs,0,none⟩)],.pointer (some ⟨w.heap.size,0,none⟩),undef,.slice none 0 0,.int .u32 x,.func (.func 140) #[] #[.pointer (some ⟨Bs,0,none⟩)],.int .u32 x,undef,undef,undef,undef,undef],defers:=[] }) ?assign ?body ?done ?stop
 case assign=>
  intro l x W K hK
  gi_wp2
  exact hK
 case body=>
  rintro l pre x W ⟨⟨v,hv,Rp,_⟩,hB⟩ dN;have hc:=hv.cell
  gi_wp2_with (gi_at_builtin;refine wpListIn_append_own _ rfl _ _ 22 rfl w.heap.size 34 i0 (.int .u32 0) 1 4 underlying22 hi F4 hz1 hz2 rfl (by decide) _ _ _ rfl (Rp.alloc _) ⟨W.heap.size,0,none⟩ 1 1 [.int .u32 x] rfl rfl (cell_one_new _ _ _) (by simp[Value.oneCell']) (by simp only[maxLen];omega) oO (by have:=hB.size;simp;omega) ?_;intro v' w1 E5 n9 _;obtain⟨g',cap',rfl⟩:=ownsRow_succ E5;obtain⟨F9,hv2,Q7,Xx,c7⟩:=hv.appended (by decide) Rp hB.size (aAi _) E5 n9;have A4:=F9.cell;have hf1:=F9.frozen)
  exact⟨Xx.from _,c7,⟨_,hv2,by simpa using Q7,trivial⟩,hB.trans c7⟩
 case done=>
  rintro D ys W hD rfl ⟨⟨v,hv,Rp,_⟩,hB⟩ hK;have hc:=hv.cell
  gi_wp2
  refine⟨sS,.inl ⟨_,_,rfl,run_takeDeferred hK,?_⟩⟩;exact⟨_,results_tmp rfl _ _ _,v,rfl,ownsRow_putObj Rp _ hK rfl,hB.trans (belowK_b (w:=w) (aAi _) W D _ _ (by simp at hD;omega) hK rfl rfl)⟩
 case stop=>
  rintro D c pre W _ _ h _;exact h.elim
set_option maxRecDepth 100000 in
theorem Ie(F:Fence)(n:Nat)(h2:F.fn 78)(h3:F.fn 121)(h7:F.fn 140)(o7:F.round=none)(hn:4<=n)(Bs:Nat)(sv:Value)(zs:List Int)(hlen:zs.length<=1048576)(w:World)(hBs:Bs<w.heap.size)
 (hc:w.cell? ⟨Bs,0,none⟩=some sv) (hI:IE w.heap.size w sv zs):
 CallsIn F n prog 78 #[.func (.func 140) #[] #[.pointer (some ⟨Bs,0,none⟩)]] w fun e W'=>∃ v,e=.returned v/\W'.ownsRow w.heap.size 34 1 v zs.length (zs.map (Value.int .u32))/\Below w.heap.size w W':=by
 have h1:1<=n:=oO;refine callsIn_of_wp func78 rfl h2 ?_ o7;simp only[ntmps78,aBd,List.length_cons,List.length_nil,Nat.reduceAdd,Nat.reduceSub,aBF,Array.replicate_zero,aBQ,aBJ,List.nil_append,List.cons_append]
 gi_wp2_with (gi_at_call 121;refine(Dw F (n-1) h3 h7 o7 oO Bs sv zs hlen _ hBs hc hI).mono ?_;rintro e w' ⟨v,rfl,Rp,I3⟩)
 go_ret
 exact⟨v,rfl,Rp,I3⟩
end Rg
namespace Aw
open Go Go.RowKit
def tw(d:Int):Int:=if d % 2=0 then d+1 else d-1
theorem wrap_u32(n:Int):IntKind.u32.wrap n=n % 4294967296:=by simp[IntKind.wrap,IntKind.signed,IntKind.bits]
theorem wrap_i64(n:Int)(h1 : -9223372036854775808<=n)(h2:n<=9223372036854775807):IntKind.i64.wrap n=n:=by
 simp only[IntKind.wrap,IntKind.signed,IntKind.bits];simp
 split<;>omega
theorem RG(a:Int)(e:Int)(h0:0<=a)(h1:a<4294967296)(ha:a % 2=0)(he:e=0\/e=1):gor .u32 a e=a+e:=by
 unfold gor IntKind.bits;obtain⟨n,rfl⟩:=aCT h0;rw[wrap_u32,BitVec.toNat_or];have e1:(BitVec.ofInt 32 (n:Int)).toNat=n:=by rw[BitVec.ofInt_natCast,aCZ];exact aAK oO
 rw[e1];rcases he with rfl|rfl
 .simp;omega
 .have e2:(BitVec.ofInt 32 1).toNat=1:=by decide
  have:n ||| 1=n+1:=by
   apply aBV;intro j;cases j with
   |zero=>simp;omega
   |succ j=>rw[Nat.testBit_or];simp[aCm];congr 1;omega
  rw[e2,this];omega
theorem Rk(e:Int):wT .i64 e 1=e % 2:=by
 show IntKind.i64.wrap ((BitVec.ofInt 64 e &&& BitVec.ofInt 64 1).toNat:Int)=_;have e2:(BitVec.ofInt 64 1).toNat=1:=by decide
 rw[BitVec.toNat_and,e2,Nat.and_one_is_mod,wrap_i64 _ oO oO,BitVec.toNat_ofInt];omega
theorem SY(a:Int):ED .u32 a 1=a*2 % 4294967296:=by unfold ED;rw[wrap_u32];rfl
theorem Of(id e:Int)(st:St):
 aB prog 32 [u id,i e] st fun r st'=>r=u (id*2 % 4294967296+e % 2)/\st'=st:=by
 refine zN func32 ntmps32 [.tmp 4] ?_
 (repeat' (first|apply qS|(refine qR (zZ ?_);simp[])|(refine zE ?_;intro J hJ;simp[];refine zJ hJ ?_)))
 rw[SY,Rk,wrap_u32,RG _ _ oO oO oO oO];omega
end Aw
namespace Aw
open Go Go.RowKit Pl
theorem qN(k:Nat)(h:k<9223372036854775807):IntKind.i64.wrap ((k:Int)+1)=((k+1:Nat):Int):=by rw[wrap_i64 _ oO oO];omega
theorem dX(l:List Int)(k:Nat)(hk:k<l.length):(us l).drop k=u l[k]::us (l.drop (k+1)):=by rw[us,<- aCk,aAM hk];rfl
theorem qG(l:List Int)(k:Nat)(hk:k<l.length):(us l).drop k=u (l.getD k 0)::us (l.drop (k+1)):=by rw[dX l k hk];simp[hk]
theorem sF{l:List Int}{d:Int}(h:d∈l):gi l d=((l.idxOf d:Nat):Int):=by unfold gi;rw[aAe h]
theorem At{l:List Int}{d:Int}(h:¬d∈l):gi l d = -1:=by unfold gi;rw[aAa h]
theorem Od(a b c:Nat)(h:a % b=c):((a:Int).tmod (b:Int))=(c:Int):=by rw[<- h];exact(Int.ofNat_tmod a b).symm
theorem aN(l:List Int)(j:Nat)(hj:j<l.length):l.getD j 0=l[j]:=by rw[aAc,aAd hj];rfl
theorem St.ext'{a b:St}(h:a.next=b.next)(k:∀ x,a.H x=b.H x):a=b:=by cases a;cases b;simp only at h k;subst h;congr;funext x;exact k x
def small(l:List Int):Prop:=l.length<=1048576
theorem Index(l:List Int)(t:Nat)(x:Int)(st:St)(hl:small l):
 aB prog 90 [.sl t l.length (us l),u x] st fun r st'=>r=i (gi l x)/\st'=st:=by
 unfold small at hl;refine zN func90 ntmps90 [.tmp 4] ?_
 (repeat' (first|apply qS|apply qB|(refine zE ?_;intro J hJ;simp[];refine zJ hJ ?_)))
 refine qL (fun n fr st'=>∃ k:Nat,k<=l.length/\n=l.length-k/\fr 0=.sl t l.length (us l)/\fr 1=u x/\fr 7=i l.length/\fr 8=i k/\st'=st/\∀ j (hj:j<l.length),j<k->l[j]≠x) l.length ?_ ?_
 .exact⟨0,oO,oO,sS,sS,sS,sS,rfl,fun j _ h=>by omega⟩
 rintro n fr st' ⟨k,hk,rfl,h0,h1,h7,h8,rfl,YI⟩ JJ hJJ;by_cases dN:k<l.length
 .have hd:=dX l k dN;have hw:=qN k oO
  (repeat' (first|apply qS|apply qB|refine qK (zZ ?_)|(refine qR (zZ ?_);simp[h0,h1,h7,h8,dN,hd,hw])|(apply qC;simp[h0,h1,h7,h8,dN,hd,hw];(try with_reducible refine⟨?_,?_⟩)<;>(try with_reducible intro hc))|(refine zE ?_;intro J hJ;simp[h0,h1,h7,h8,dN,hd,hw];refine zJ hJ ?_)))
  .exact(Jt dN hc.symm (fun j hj=>YI j oO hj)).symm
  .refine hJJ _ _ _ ?_ ⟨k+1,oO,rfl,by simp[h0],by simp[h1],by simp[h7],sS,rfl,fun j hj I6=>?_⟩
   .omega
   .rcases aAB j k with h|h
    .exact YI j hj h
    .obtain rfl:j=k:=oO;exact fun h=>hc h.symm
 ·(repeat' (first|apply qS|refine qX (zZ ?_)|(refine qR (zZ ?_);simp[h0,h1,h7,h8,dN])|(apply qC;simp[h0,h1,h7,h8,dN])|(refine zE ?_;intro J hJ;simp[h0,h1,h7,h8,dN];refine zJ hJ ?_)))
  exact(KT (fun j hj=>YI j hj oO)).symm
theorem Uc(l:List Int)(t:Nat)(x:Int)(st:St)(hl:small l):
 aB prog 87 [.sl t l.length (us l),u x] st fun r st'=>r=i (gi l x)/\st'=st:=by
 unfold small at hl;refine zN func87 ntmps87 [.tmp 4] ?_
 (repeat' (first|apply qS|apply qB|(refine zE ?_;intro J hJ;simp[];refine zJ hJ ?_)))
 refine qL (fun n fr st'=>∃ k:Nat,k<=l.length/\n=l.length-k/\fr 7=.sl t l.length (us l)/\fr 1=u x/\fr 8=i l.length/\fr 9=i k/\st'=st/\∀ j (hj:j<l.length),j<k->l[j]≠x) l.length ?_ ?_
 .exact⟨0,oO,oO,sS,sS,sS,sS,rfl,fun j _ h=>by omega⟩
 rintro n fr st' ⟨k,hk,rfl,h0,h1,h7,h8,rfl,YI⟩ JJ hJJ;by_cases dN:k<l.length
 .have hd:=dX l k dN;have hw:=qN k oO
  (repeat' (first|apply qS|apply qB|refine qK (zZ ?_)|(refine qR (zZ ?_);simp[h0,h1,h7,h8,dN,hd,hw])|(apply qC;simp[h0,h1,h7,h8,dN,hd,hw];(try with_reducible refine⟨?_,?_⟩)<;>(try with_reducible intro hc))|(refine zE ?_;intro J hJ;simp[h0,h1,h7,h8,dN,hd,hw];refine zJ hJ ?_)))
  .exact(Jt dN hc (fun j hj=>YI j oO hj)).symm
  .refine hJJ _ _ _ ?_ ⟨k+1,oO,rfl,by simp[h0],by simp[h1],by simp[h7],sS,rfl,fun j hj I6=>?_⟩
   .omega
   .rcases aAB j k with h|h
    .exact YI j hj h
    .obtain rfl:j=k:=oO;exact hc
 ·(repeat' (first|apply qS|refine qX (zZ ?_)|(refine qR (zZ ?_);simp[h0,h1,h7,h8,dN])|(apply qC;simp[h0,h1,h7,h8,dN])|(refine zE ?_;intro J hJ;simp[h0,h1,h7,h8,dN];refine zJ hJ ?_)))
  exact(KT (fun j hj=>YI j hj oO)).symm
theorem Kn(l:List Int)(h:0<l.length):hdL (us l)=u l[0]:=by
 cases l with
 |nil=>simp at h
 |cons a l=>rfl
theorem Min(l:List Int)(t:Nat)(st:St)(hl:small l)(h0:l≠[]):
 aB prog 81 [.sl t l.length (us l)] st fun r st'=>r=u (mn l)/\st'=st:=by
 unfold small at hl;have Yi:0<l.length:=aBi.2 h0;have hd0:=Kn l Yi;refine zN func81 ntmps81 [.tmp 2] ?_
 (repeat' (first|apply qS|apply qB|refine qK (zZ ?_)|(apply qC;simp[Yi,hd0];(try with_reducible refine⟨?_,?_⟩)<;>(try with_reducible intro hc)<;>try (exfalso;omega))|(refine zE ?_;intro J hJ;simp[Yi,hd0];refine zJ hJ ?_)))
 refine qL (fun n fr st'=>∃ k:Nat,0<k/\k<=l.length/\n=l.length-k/\fr 0=.sl t l.length (us l)/\fr 4=i k/\fr 3=u (mn (l.take k))/\st'=st) (l.length-1) ?_ ?_
 .refine⟨1,oO,oO,oO,sS,sS,?_,rfl⟩;cases l with
  |nil=>simp at Yi
  |cons a l=>simp[mn]
 rintro n fr st' ⟨k,Yj,hk,rfl,S6,h4,h3,rfl⟩ JJ hJJ;by_cases dN:k<l.length
 .have hd:=dX l k dN;have hw:=qN k oO
  (repeat' (first|apply qS|apply qB|refine qK (zZ ?_)|(apply qC;simp[S6,h3,h4,dN,hd,hw])|(refine zE ?_;intro J hJ;simp[S6,h3,h4,dN,hd,hw];refine zJ hJ ?_)))
  refine hJJ _ _ _ ?_ ⟨k+1,oO,oO,rfl,by simp[S6],sS,by simp[Kc l k Yj dN],rfl⟩;omega
 ·(repeat' (first|apply qS|refine qX (zZ ?_)|(refine qR (zZ ?_);simp[S6,h3,h4,dN])|(apply qC;simp[S6,h3,h4,dN])|(refine zE ?_;intro J hJ;simp[S6,h3,h4,dN];refine zJ hJ ?_)))
  rw[aAr oO]
theorem Fi(a b:List Int)(t t':Nat)(st:St)(hl:small a):
 aB prog 11 [.sl t a.length (us a),.sl t' b.length (us b)] st fun r st'=>r=bb (decide (a=b))/\st'=st:=by
 unfold small at hl;refine zN func11 ntmps11 [.tmp 4] ?_;by_cases YA:a.length=b.length
 .have hab':((a.length:Int) != (b.length:Int))=false:=by simp[YA]
  (repeat' (first|apply qS|apply qB|refine qK (zZ ?_)|(apply qC;simp[YA])|(refine zE ?_;intro J hJ;simp[YA];refine zJ hJ ?_)))
  refine qL (fun n fr st'=>∃ k:Nat,k<=a.length/\n=a.length-k/\fr 0=.sl t a.length (us a)/\fr 1=.sl t' b.length (us b)/\fr 12=i a.length/\fr 13=i k/\st'=st/\∀ j (hj:j<a.length),j<k->a[j]=b[j]'(by omega)) a.length ?_ ?_
  .exact⟨0,oO,oO,by simp[YA],by simp[YA],by simp[YA],sS,rfl,fun j _ h=>by omega⟩
  rintro n fr st' ⟨k,hk,rfl,h0,h1,h7,h8,rfl,YI⟩ JJ hJJ;by_cases dN:k<a.length
  .have Xy:k<b.length:=oO;have hd:=dX a k dN;have Yw:=dX b k Xy;have hw:=qN k oO
   (repeat' (first|apply qS|apply qB|refine qK (zZ ?_)|(refine qR (zZ ?_);simp[h0,h1,h7,h8,dN,Xy,hd,Yw,hw])|(apply qC;simp[h0,h1,h7,h8,dN,Xy,hd,Yw,hw];(try with_reducible refine⟨?_,?_⟩)<;>(try with_reducible intro hc))|((first|(refine zE ?_;intro J hJ)|(refine w_q ?_;intro J hJ));simp[h0,h1,h7,h8,dN,Xy,hd,Yw,hw];refine zJ hJ ?_)))
   .intro h;apply hc;simp[h]
   .refine hJJ _ _ _ ?_ ⟨k+1,oO,rfl,by simp[h0],by simp[h1],by simp[h7],sS,rfl,fun j hj I6=>?_⟩
    .omega
    .rcases aAB j k with h|h
     .exact YI j hj h
     .obtain rfl:j=k:=oO;exact hc
  ·(repeat' (first|apply qS|refine qX (zZ ?_)|(refine qR (zZ ?_);simp[h0,h1,h7,h8,dN])|(apply qC;simp[h0,h1,h7,h8,dN])|(refine zE ?_;intro J hJ;simp[h0,h1,h7,h8,dN];refine zJ hJ ?_)))
   exact aCO YA (fun j hj _=>YI j hj oO)
 ·(repeat' (first|apply qS|(refine qR (zZ ?_);simp[YA])|(apply qC;simp[YA];(try with_reducible refine⟨?_,?_⟩)<;>(try with_reducible intro hc)<;>try (exfalso;omega))|(refine zE ?_;intro J hJ;simp[YA];refine zJ hJ ?_)))
  intro h;exact YA (by rw[h])
theorem wrap_small(n:Int)(h0:0<=n)(h1:n<=9223372036854775807):IntKind.i64.wrap n=n:=wrap_i64 n oO h1
theorem XL(n:Int)(st:St)(h0:0<=n)(h1:n<=4194304):
 aB prog 197 [.nil,i n] st fun r st'=>∃ l cs,r=.ms l 0 0/\st.next<=l/\st'.H l=.box 34 1 cs/\aA st st':=by
 have hw:=wrap_small n h0 oO;have hw':IntKind.i64.wrap 0=0:=by decide
 refine iQ 34 1 ?_;refine zN func197 ntmps197 [.tmp 4] ?_;by_cases hp:0<n
 ·(repeat' (first|apply qS|refine qK (zZ ?_)|(refine qR (zZ ?_);simp[hw,hw',hp])|(apply qC;simp[hw,hw',hp];(try with_reducible refine⟨?_,?_⟩)<;>(try with_reducible intro hc)<;>try (exfalso;omega))|(refine zE ?_;intro J hJ;simp[hw,hw',hp];(repeat refine ca ?_);refine zJ hJ ?_)))
  exact aA.new _ _
 ·(repeat' (first|apply qS|refine qK (zZ ?_)|(refine qR (zZ ?_);simp[hw,hw',hp])|(apply qC;simp[hw,hw',hp];(try with_reducible refine⟨?_,?_⟩)<;>(try with_reducible intro hc)<;>try (exfalso;omega))|(refine zE ?_;intro J hJ;simp[hw,hw',hp];refine zJ hJ ?_)))
  exact aA.new _ _
abbrev rows(ls:List (Nat×List Int)):List LV:=ls.map fun p=>.sl p.1 p.2.length (us p.2)
def total(ls:List (Nat×List Int)):Nat:=(ls.map fun p=>p.2.length).sum
def flat(ls:List (Nat×List Int)):List Int:=(ls.map fun p=>p.2).flatten
theorem xG(ls:List (Nat×List Int)):(flat ls).length=total ls:=by
 induction ls with
 |nil=>rfl
 |cons p ls ih=>simp[flat,total,Function.comp_def]at ih ⊢
theorem BA(ls:List (Nat×List Int))(k:Nat)(hk:k<ls.length):total (ls.take (k+1))=total (ls.take k)+ls[k].2.length:=by rw[aAn hk,total,aAv,List.sum_append];simp only[total,aAj,aBz,List.sum_cons,List.sum_nil,Nat.add_zero]
theorem Ll(ls:List (Nat×List Int))(k:Nat)(hk:k<ls.length):flat (ls.take (k+1))=flat (ls.take k)++ls[k].2:=by rw[aAn hk,flat,aAv,aBZ];simp only[flat,aAj,aBz,List.flatten_cons,List.flatten_nil,aAP]
theorem rZ(ls:List (Nat×List Int))(k:Nat):total (ls.take k)<=total ls:=by
 have h:total ls=total (ls.take k)+total (ls.drop k):=by
  conv=>lhs;rw[<- aAH k ls]
  rw[total,aAv,List.sum_append];rfl
 omega
theorem Cg(ls:List (Nat×List Int))(k:Nat)(hk:k<ls.length):(rows ls).drop k=.sl ls[k].1 ls[k].2.length (us ls[k].2)::rows (ls.drop (k+1)):=by rw[rows,<- aCk,aAM hk];rfl
theorem Io(a:List Int):(us a).all gR=true:=by simp[us,gR]
theorem Ru(ls:List (Nat×List Int))(t:Nat)(st:St)(hn:ls.length<=1048576)(hl:total ls<=4194304):
 aB prog 175 [.sl t ls.length (rows ls)] st fun r st'=>∃ l,r=.ms l 0 (flat ls).length/\st.next<=l/\st'.H l=.box 34 1 (us (flat ls))/\aA st st':=by
 refine zN func175 ntmps175 [.tmp 2] ?_
 (repeat' (first|apply qS|apply qB|(refine zE ?_;intro J hJ;simp[];refine zJ hJ ?_)))
 refine qL (fun n fr st'=>∃ k:Nat,k<=ls.length/\n=ls.length-k/\fr 0=.sl t ls.length (rows ls)/\fr 9=.sl t ls.length (rows ls)/\fr 10=i ls.length/\fr 11=i k/\fr 3=i (total (ls.take k))/\st'=st) ls.length ?_ ?_
 .exact⟨0,oO,oO,sS,sS,sS,sS,by simp[total],rfl⟩
 rintro n fr Yt ⟨k,hk,rfl,h0,h9,K2,h11,h3,rfl⟩ JJ hJJ;by_cases dN:k<ls.length
 .have hd:=Cg ls k dN;have hw:=qN k oO;have ht:=BA ls k dN;have Xr:=rZ ls (k+1);have ZP:IntKind.i64.wrap ((total (ls.take k):Int)+(ls[k].2.length:Int))=(total (ls.take (k+1)):Int):=by rw[wrap_small _ oO oO];omega
  clear ht
  (repeat' (first|apply qS|apply qB|refine qK (zZ ?_)|(apply qC;simp[h0,h9,K2,h11,h3,dN,hd,hw,ZP];(try with_reducible refine⟨?_,?_⟩)<;>(try with_reducible intro hc)<;>try (exfalso;omega))|(refine zE ?_;intro J hJ;simp[h0,h9,K2,h11,h3,dN,hd,hw,ZP];refine zJ hJ ?_)))
  refine hJJ _ _ _ ?_ ⟨k+1,oO,rfl,by simp[h0],by simp[h9],by simp[K2],sS,sS,rfl⟩;omega
 .have ZA:k=ls.length:=oO;have YP:ls.take k=ls:=aAr oO;rw[YP]at h3;clear hJJ
  (repeat' (first|apply qS|refine qX (zZ ?_)|(apply qC;simp[h0,h9,K2,h11,h3,dN])|(refine zE ?_;intro J hJ;simp[h0,h9,K2,h11,h3,dN];(try refine zJ hJ ?_))))
  refine qF (XL (total ls) _ oO oO) ?_;rintro r st' ⟨l0,cs0,rfl,v7,hH0,Xm⟩
  (repeat' (first|apply qS|apply qB|((first|(refine zE ?_;intro J hJ)|(apply aD));simp[h0];refine zJ hJ ?_)))
  refine JM 0 hH0 ?_;refine qL (fun n fr st2=>∃ k:Nat,k<=ls.length/\n=ls.length-k/\fr 25=.sl t ls.length (rows ls)/\fr 26=i ls.length/\fr 27=i k/\∃ l,fr 6=.ms l 0 (flat (ls.take k)).length/\st2.H l=.box 34 1 (us (flat (ls.take k)))/\Yt.next<=l/\aA Yt st2) ls.length ?_ ?_
  .exact⟨0,oO,oO,by simp[h0],sS,sS,l0,by simp[flat],by simp[flat],v7,Xm.set v7 _⟩
  clear h0 h9 K2 h11 h3 dN hH0 Xm v7 fr hk ZA YP;rintro n fr st2 ⟨k,hk,rfl,h25,h26,h27,l,h6,hH,hlt0,Xm⟩ JJ hJJ;by_cases dN:k<ls.length
  .have hd:=Cg ls k dN;have hw:=qN k oO;have ht:=BA ls k dN;have Xr:=rZ ls (k+1);have hf:=Ll ls k dN;have F5:=xG (ls.take (k+1));have hfl':=xG (ls.take k);have Yx:=Io (ls[k].2)
   (repeat' (first|apply qS|apply qB|refine qK (zZ ?_)|(apply qC;simp[h25,h26,h27,h6,hH,dN,hd,hw,Yx])|(refine zE ?_;intro J hJ;simp[h25,h26,h27,h6,hH,dN,hd,hw,Yx];(repeat refine ca ?_);refine zJ hJ ?_)))
   refine hJJ _ _ _ ?_ ⟨k+1,oO,rfl,by simp[h25],by simp[h26],sS,st2.next,?_,?_,Xm.next,(Xm.set hlt0 _).trans (aA.new _ _)⟩
   .omega
   .simp[hf]
   .simp[hf]
  .have ZA:k=ls.length:=oO;have YP:ls.take k=ls:=aAr oO;rw[YP]at h6 hH;clear hJJ
   (repeat' (first|apply qS|refine qX (zZ ?_)|(refine qR (zZ ?_);simp[h25,h26,h27,h6,dN])|(apply qC;simp[h25,h26,h27,h6,dN])|(refine zE ?_;intro J hJ;simp[h25,h26,h27,h6,dN];refine zJ hJ ?_)))
   exact⟨hlt0,hH,Xm⟩
theorem TO(ls:List (Nat×List Int))(t:Nat)(st:St)(hn:ls.length<=1048576)(hl:total ls<=4194304):
 aB prog 175 [.sl t ls.length (rows ls)] st fun r st'=>r=.sl 0 (flat ls).length (us (flat ls))/\aA st st':=by
 refine cD ((Ru ls t st hn hl).mono ?_);rintro r st' ⟨l,rfl,dN,hH,hk⟩;exact⟨l,_,_,1,_,rfl,hH,sS,by simp[aAr],hk.set dN _⟩
theorem UY(a:List Int)(t:Nat)(st:St)(hl:small a):
 aB prog 69 [.sl t a.length (us a)] st fun r st'=>∃ l,r=.ms l 0 a.length/\st.next<=l/\st'.H l=.box 34 1 (us a)/\aA st st':=by
 unfold small at hl;refine iQ 34 1 ?_;have Yx:=Io a;refine zN func69 ntmps69 [.tmp 2] ?_
 (repeat' (first|apply qS|refine qK (zZ ?_)|(refine qR (zZ ?_);simp[Yx])|(apply qC;simp[Yx])|(refine w_e [5] ?_;intro J hJ;simp only[];simp[Yx];(repeat refine ca ?_);((try with_reducible refine⟨?_,?_⟩)<;>(try with_reducible intro Yc)<;>refine zJ hJ ?_<;>clear hJ J<;>try subst Yc))))
 .exact((aA.new _ _).set (aAi _) _).trans (aA.new _ _)
 .exact aA.new _ _
theorem PU(a:List Int)(t:Nat)(st:St)(hl:small a):
 aB prog 69 [.sl t a.length (us a)] st fun r st'=>r=.sl 0 a.length (us a)/\aA st st':=by
 refine cD ((UY a t st hl).mono ?_);rintro r st' ⟨l,rfl,dN,hH,hk⟩;exact⟨l,_,_,1,_,rfl,hH,sS,by simp[aAr],hk.set dN _⟩
def nx(l:List Int)(d:Int):Int:=if d∈l then l.getD ((l.idxOf d+1) % l.length) 0 else 0
def pv(l:List Int)(d:Int):Int:=if d∈l then l.getD ((l.idxOf d+(l.length-1)) % l.length) 0 else 0
theorem Oi(l:List Int)(t:Nat)(d:Int)(st:St)(hl:small l):
 aB prog 178 [.sl t l.length (us l),u d] st fun r st'=>r=u (nx l d)/\st'=st:=by
 refine zN func178 ntmps178 [.tmp 4] ?_
 (repeat' (first|apply qS|(refine zE ?_;intro J hJ;simp[];(try refine zJ hJ ?_))))
 refine qE (Uc l t d _ hl) (by simp[]) ?_;rintro r st' ⟨rfl,rfl⟩;unfold small at hl;by_cases hd:d∈l
 .have hi:=aBa hd;have Yc:=aCc hd;rw[sF hd];have YK:nx l d=l.getD ((l.idxOf d+1) % l.length) 0:=by unfold nx;rw[aAe hd]
  generalize hk:l.idxOf d=k at *;have hw:=qN k oO;generalize Xn:k+1=k1 at *;by_cases he:k1=l.length
  .have Zs:=Kn l oO;rw[he,aDu]at YK;rw[he]at hw;have Yi:0<l.length:=oO
   (repeat' (first|apply qS|refine qK (zZ ?_)|(refine qR (zZ ?_);simp[hw,Zs,he,Yi,YK,Yc])|(apply qC;simp[hw,Zs,he,Yi,YK,Yc];(try with_reducible refine⟨?_,?_⟩)<;>(try with_reducible intro hc)<;>try (exfalso;omega))|((first|(refine zE ?_;intro J hJ)|(apply aD));simp[hw,Zs,he,Yi,YK,Yc];refine zJ hJ ?_)))
  .rw[aAK oO]at YK;have dN:k1<l.length:=oO;have Zs:=qG l k1 dN;have Wx:((k1:Int)==(l.length:Int))=false:=by simp;omega
   (repeat' (first|apply qS|refine qK (zZ ?_)|(refine qR (zZ ?_);simp[hw,Zs,Wx,dN,YK,Yc])|(apply qC;simp[hw,Zs,Wx,dN,YK,Yc];(try with_reducible refine⟨?_,?_⟩)<;>(try with_reducible intro hc)<;>try (exfalso;omega))|((first|(refine zE ?_;intro J hJ)|(apply aD));simp[hw,Zs,Wx,dN,YK,Yc];refine zJ hJ ?_)))
 .rw[At hd];have YK:nx l d=0:=by unfold nx;rw[aAa hd]
  (repeat' (first|apply qS|(refine qR (zZ ?_);simp[YK])|(apply qC;simp[YK])|((first|(refine zE ?_;intro J hJ)|(apply aD));simp[YK];refine zJ hJ ?_)))
theorem gM{t:List Int}(hn:t.Nodup){j:Nat}(hj:j<t.length):nx t t[j]=t[(j+1) % t.length]'(aCj _ oO):=by unfold nx;rw[aAe (aAu hj),hn.idxOf_getElem j hj,aN _ _ (aCj _ oO)]
theorem IK{t:List Int}{d:Int}(hd:d∈t):nx t d∈t:=by unfold nx;have:0<t.length:=aEk hd;rw[aAe hd,aN _ _ (aCj _ this)];exact aAu _
theorem Np{t:List Int}(hn:t.Nodup){d e:Int}(hd:d∈t)(he:e∈t)(h:nx t d=nx t e):d=e:=by
 obtain⟨j,hj,rfl⟩:=aAy hd;obtain⟨k,hk,rfl⟩:=aAy he;rw[gM hn hj,gM hn hk]at h;have h1:=congrArg t.idxOf h;rw[hn.idxOf_getElem,hn.idxOf_getElem]at h1;have h2:j=k:=by
  rcases aAB (j+1) t.length with a|a
  .rw[aAK a]at h1;rcases aAB (k+1) t.length with b|b
   .rw[aAK b]at h1;omega
   .rw[show k+1=t.length by omega,aDu]at h1;omega
  .rw[show j+1=t.length by omega,aDu]at h1;rcases aAB (k+1) t.length with b|b
   .rw[aAK b]at h1;omega
   .omega
 subst h2;rfl
theorem VF{t:List Int}(hn:t.Nodup){j:Nat}(hj:j<t.length)(k:Nat):Eu.it (nx t) k t[j]=t[(j+k) % t.length]'(aCj _ oO):=by
 induction k with
 |zero=>simp only[Eu.it,Nat.add_zero,aAK hj]
 |succ k ih=>
  rw[Eu.cT,ih,gM hn]
  congr 1
  rw[Nat.mod_add_mod];rfl
theorem Pp{t:List Int}(hn:t.Nodup){d e:Int}(hd:d∈t)(he:e∈t):Eu.Orb (nx t) d e:=by
 obtain⟨j,hj,rfl⟩:=aAy hd;obtain⟨k,hk,rfl⟩:=aAy he;refine⟨t.length-j+k,?_⟩;rw[VF hn hj]
 congr 1
 rw[show j+(t.length-j+k)=t.length+k by omega,Nat.add_mod_left,aAK hk]
theorem To(l:List Int):(us l).length=l.length:=by simp[us]
theorem from_(l:List Int)(t k:Nat)(st:St)(hl:small l)(hk:k<=l.length):
 aB prog 125 [.sl t l.length (us l),i k] st fun r st'=>r=.sl 0 l.length (us (rt l k))/\aA st st':=by
 unfold small at hl;refine zN func125 ntmps125 [.tmp 4] ?_
 (repeat' (first|apply qS|(refine zE ?_;intro J hJ;simp[hk];refine zJ hJ ?_)))
 (refine MG mL [] 6 (by kernel_rfl) (by kernel_rfl) rfl rfl ?_;intro J hJ;simp[hk];skip;skip)
 refine qE (TO [(0,l.drop k),(0,l.take k)] st.next _ sS (by simp[total];omega)) (by simp[aAr,aCt hk]) ?_;rintro r st' ⟨rfl,Xm⟩;have hf:flat [(0,l.drop k),(0,l.take k)]=rt l k:=by simp[flat,rt]
 rw[hf,wR]
 (repeat' (first|(refine qR (zZ ?_);simp[])|(apply aD;simp[];refine zJ hJ ?_)))
 exact(aA.new _ _).trans Xm
theorem Oe(l:List Int)(t:Nat)(st:St)(hl:small l):
 aB prog 85 [.sl t l.length (us l)] st fun r st'=>r=.sl 0 l.length (us (nrm l))/\aA st st':=by
 refine xZ ?_;refine zN func85 ntmps85 [.tmp 2] ?_;cases l with
 |nil=>
  (repeat' (first|apply qS|(refine qR (zZ ?_);simp[])|(apply qC;simp[])|(refine zE ?_;intro J hJ;simp[];refine zJ hJ ?_)))
  exact⟨by decide,aA.refl _⟩
 |cons a l'=>
  (repeat' (first|apply qS|refine qK (zZ ?_)|(apply qC;simp[];(try with_reducible refine⟨?_,?_⟩)<;>(try with_reducible intro hc)<;>try (exfalso;omega))|(refine zE ?_;intro J hJ;simp[];(try refine zJ hJ ?_))))
  refine qE (Min (a::l') t _ hl sS) (by simp[]) ?_;rintro r st' ⟨rfl,rfl⟩
  (repeat' (apply aD;simp[]))
  refine qE (Index (a::l') t (mn (a::l')) _ hl) (by simp[]) ?_;rintro r st' ⟨rfl,rfl⟩
  (repeat' (apply aD;simp[]))
  have hg:gi (a::l') (mn (a::l'))=(((a::l').idxOf (mn (a::l')):Nat):Int):=by unfold gi;rw[aAe (pP sS)]
  rw[hg];refine qE (from_ (a::l') t ((a::l').idxOf (mn (a::l'))) _ hl aDm) (by simp[]) ?_;rintro r st' ⟨rfl,Xm⟩
  (repeat' (first|(refine qR (zZ ?_);simp[])|(apply aD;simp[];refine zJ hJ ?_)))
  exact⟨rfl,Xm⟩
def ins(l:List Int)(b:Int)(m:List Int):List Int:=(if b∈l then l.take (l.idxOf b+1)++m++l.drop (l.idxOf b+1)else l++m)
def lat(l:List Int)(k:Nat):Nat:=(l.take k).idxOf (mn (l.take k))
theorem UC(l:List Int)(k:Nat)(hk:k<l.length):lat l k<l.length:=by unfold lat;have:=aDm (a:=mn (l.take k)) (l:=l.take k);simp at this;omega
theorem Qk(l:List Int)(k:Nat)(h0:0<k)(hk:k<=l.length):l.getD (lat l k) 0=mn (l.take k):=by
 have Wx:l.take k≠[]:=by intro h;have:=congrArg List.length h;rw[aAo,List.length_nil]at this;omega
 have h1:=aBa (pP Wx);have h2:(l.take k)[(l.take k).idxOf (mn (l.take k))]=mn (l.take k):=aCb h1;rw[aBE]at h2;unfold lat;rw[aAo]at h1;rw[aAc,aAd oO];exact h2
theorem NT(l:List Int)(k:Nat)(hk:k<l.length):lat l (k+1)=if l.getD k 0<l.getD (lat l k) 0 then k else lat l k:=by
 have hg:l.getD k 0=l[k]:=by rw[aAc,aAd hk];rfl
 rcases aCY k with rfl|h0
 .have:lat l 0=0:=by simp[lat]
  rw[this,aAa oO];unfold lat;cases l with
  |nil=>simp at hk
  |cons a l=>simp[mn]
 .rw[Qk l k h0 oO,hg];have Wx:l.take k≠[]:=by intro h;have:=congrArg List.length h;rw[aAo,List.length_nil]at this;omega
  have hm:=Kc l k h0 hk;unfold lat;rw[hm];rw[aAn hk];by_cases hc:l[k] < mn (l.take k)
  .rw[aAe hc,aAe hc];have hnot:¬l[k]∈l.take k:=fun h=>by have:=GG h;omega
   rw[aCx,aAa hnot];simp;omega
  .rw[aAa hc,aAa hc];rw[aCx,aAe (pP Wx)]
theorem Sm(l:List Int):lat l l.length=l.idxOf (mn l):=by unfold lat;rw[aAQ]
theorem Nc(l:List Int)(k:Nat)(hk:k<l.length):(nrm l).take (k+1)=(nrm l).take k++[l.getD ((l.idxOf (mn l)+k) % l.length) 0]:=by rw[aAn (by rw[cE];exact hk),KB l k hk,aAc,aAd (aCj _ oO)];rfl
theorem HS(l:List Int)(t:Nat)(st:St)(hl:small l):
 aB prog 86 [.sl t l.length (us l)] st fun r st'=>∃ q,r=.ms q 0 l.length/\st.next<=q/\st'.H q=.box 34 1 (us (nrm l))/\aA st st':=by
 unfold small at hl;refine zN func86 ntmps86 [.tmp 2] ?_
 (repeat' (first|apply qS|apply qB|(refine zE ?_;intro J hJ;simp[];refine zJ hJ ?_)))
 refine qL (fun n fr st'=>∃ k:Nat,k<=l.length/\n=l.length-k/\fr 0=.sl t l.length (us l)/\fr 8=.sl t l.length (us l)/\fr 9=i l.length/\fr 10=i k/\fr 3=i (lat l k)/\st'=st) l.length ?_ ?_
 .exact⟨0,oO,oO,sS,sS,sS,sS,by simp[lat],rfl⟩
 rintro n fr Yt ⟨k,hk,rfl,h0,h8,h9,K2,h3,rfl⟩ JJ hJJ;by_cases dN:k<l.length
 .have hd:=qG l k dN;have hw:=qN k oO;have o6:=UC l k dN;have YQ:=qG l (lat l k) o6;have YL:=NT l k dN;generalize hj:lat l k=j at *
  (repeat' (first|apply qS|apply qB|refine qK (zZ ?_)|(apply qC;simp[h0,h8,h9,K2,h3,dN,o6,hd,YQ,hw];(try with_reducible refine⟨?_,?_⟩)<;>(try with_reducible intro hc))|(refine zE ?_;intro J hJ;simp[h0,h8,h9,K2,h3,dN,o6,hd,YQ,hw];refine zJ hJ ?_)))
  .refine hJJ _ _ _ ?_ ⟨k+1,oO,rfl,by simp[h0],by simp[h8],by simp[h9],sS,?_,rfl⟩
   .omega
   .rw[YL,aAe (by simpa[dN,o6]using hc)];simp
  .refine hJJ _ _ _ ?_ ⟨k+1,oO,rfl,by simp[h0],by simp[h8],by simp[h9],sS,?_,rfl⟩
   .omega
   .rw[YL,aAa (by simpa[dN,o6]using hc)];simp[h3]
 .have ZA:k=l.length:=oO;rw[ZA,Sm]at h3;clear hJJ
  (repeat' (first|apply qS|apply qB|refine qX (zZ ?_)|(apply qC;simp[h0,h8,h9,K2,h3,dN])|(refine zE ?_;intro J hJ;simp[h0,h8,h9,K2,h3,dN];refine zJ hJ ?_)))
  refine tI 6 34 1 sS ?_;refine qL (fun n fr st2=>∃ k:Nat,k<=l.length/\n=l.length-k/\fr 0=.sl t l.length (us l)/\fr 3=i (l.idxOf (mn l))/\fr 24=i l.length/\fr 25=i k/\∃ q,fr 6=.ms q 0 k/\st2.H q=.box 34 1 (us ((nrm l).take k))/\Yt.next<=q/\q<st2.next/\aA Yt st2) l.length ?_ ?_
  .exact⟨0,oO,oO,by simp[h0],by simp[h3],sS,sS,Yt.next,sS,sS,aAi _,sS,aA.new _ _⟩
  clear h0 h8 h9 K2 h3 dN hk ZA fr k;rintro n fr st2 ⟨k,hk,rfl,h0,h3,h24,h25,q,h6,hH,hq,Zv,Xm⟩ JJ hJJ;by_cases dN:k<l.length
  .have hg:=Nc l k dN;have hil:=aDm (a:=mn l) (l:=l);generalize hx:l.idxOf (mn l)=x at *;have hj:=aCj (x+k) (show 0<l.length by omega);have hw:=qN k oO;have ZP:IntKind.i64.wrap ((x:Int)+(k:Int))=((x+k:Nat):Int):=zW;generalize hy:x+k=y at *;have ht:=Od y l.length _ rfl;generalize hz:y % l.length=z at *;have hd:=qG l z hj;have Yc:¬l=[]:=fun h=>by rw[h]at dN;simp at dN
   have Yp:min k (nrm l).length=k:=by rw[cE];omega
   have K5:¬q=st2.next:=oO
   (repeat' (first|apply qS|apply qB|refine qK (zZ ?_)|(apply qC;simp[h0,h3,h24,h25,h6,hH,dN,hj,hw,ZP,ht,hd,Yc,cE,Yp,K5])|(refine zE ?_;intro J hJ;simp[h0,h3,h24,h25,h6,hH,dN,hj,hw,ZP,ht,hd,Yc,cE,Yp,K5];(repeat refine ca ?_);refine zJ hJ ?_)))
   refine hJJ _ _ _ ?_ ⟨k+1,oO,rfl,by simp[h0],by simp[h3],by simp[h24],sS,st2.next+1,sS,?_,by have:=Xm.next;omega,sS,((Xm.trans (aA.new _ _)).set hq _).trans (aA.new _ _)⟩
   .omega
   .simp[hg,hj,aBS]
  .have ZA:k=l.length:=oO;rw[ZA,aAr (by rw[cE];exact aAi _)]at hH;rw[ZA]at h6;clear hJJ
   (repeat' (first|apply qS|refine qX (zZ ?_)|(refine qR (zZ ?_);simp[h0,h3,h24,h25,h6,dN])|(apply qC;simp[h0,h3,h24,h25,h6,dN])|(refine zE ?_;intro J hJ;simp[h0,h3,h24,h25,h6,dN];refine zJ hJ ?_)))
   exact⟨hq,hH,Xm⟩
theorem Ae(l:List Int)(t:Nat)(st:St)(hl:small l):
 aB prog 86 [.sl t l.length (us l)] st fun r st'=>r=.sl 0 l.length (us (nrm l))/\aA st st':=by
 refine cD ((HS l t st hl).mono ?_);rintro r st' ⟨q,rfl,dN,hH,hk⟩;exact⟨q,_,_,1,_,rfl,hH,by simp[cE],by simp[aAr,cE],hk.set dN _⟩
theorem PN(c:List Int)(k:Nat)(x:Int)(hk:k<c.length):(c.set k x).take (k+1)=c.take k++[x]:=by rw[aAn (by simpa using hk),List.getElem_set_self];rw[List.take_set_of_le (aAi _)]
theorem set_drop(c:List Int)(k j:Nat)(x:Int)(h:k<=j):(c.set k x).drop (j+1)=c.drop (j+1):=by rw[aEL oO]
theorem Dc(c:List Int)(k:Nat)(x:Int)(hk:k<c.length):(us c).take k++u x::(us c).drop (k+1)=us (c.set k x):=by simp only[us];rw[<- aEI,<- aCk,aBH,aAe hk];simp
theorem St.set_set(st:St)(q:Nat)(a b:cI):(st.set q a).set q b=st.set q b:=St.ext' rfl fun y=>by by_cases hy:y=q<;>simp[hy]
def swp(c:List Int)(a b:Nat):List Int:=(c.set a (c.getD b 0)).set b (c.getD a 0)
theorem JD(c:List Int)(a b:Nat):(swp c a b).length=c.length:=by simp[swp]
theorem SU(c:List Int)(a b j:Nat)(ha:a<c.length)(hb:b<c.length):(swp c a b).getD j 0=if j=b then c.getD a 0 else if j=a then c.getD b 0 else c.getD j 0:=by
 unfold swp;simp only[aAc,aDg];by_cases h1:b=j
 .subst h1;simp[hb]
 .by_cases h2:a=j
  .subst h2;simp[h1,ha,aDi h1]
  .simp[h1,h2,aDi h1,aDi h2]
theorem UX(c:List Int)(a b:Nat)(ha:a<c.length)(hb:b<c.length):us (swp c a b)=((us c).set a (u (c.getD b 0))).set b (u (c.getD a 0)):=by unfold swp;simp only[us,aEP]
theorem tcd(cs:List LV)(o:Nat)(v:LV)(h:o<cs.length):cs.take o++v::cs.drop (o+1)=cs.set o v:=by rw[aBH,aAe h]
theorem TZ(l c:List Int)(hl:c.length=l.length)(h:∀ j,j<l.length->c.getD j 0=l.getD (l.length-1-j) 0):c=l.reverse:=by apply aCO (by simp[hl]);intro j h1 h2;have:=h j oO;rw[aAc,aAc,aAd h1,aAd oO]at this;rw[List.getElem_reverse];simpa using this
theorem zM(l:List Int)(q:Nat)(st:St)(hl:small l)(hH:st.H q=.box 34 1 (us l)):
 aB prog 83 [.ms q 0 l.length] st fun r st'=>st'=st.set q (.box 34 1 (us l.reverse)):=by
 unfold small at hl;have ZE:IntKind.i64.wrap ((l.length:Int)-1)=(l.length:Int)-1:=zW;refine zN func83 ntmps83 [] ?_
 (repeat' (first|apply qS|apply qB|(refine zE ?_;intro J hJ;simp[ZE];refine zJ hJ ?_)))
 refine qL (fun n fr st'=>∃(k:Nat) (c:List Int),n=l.length-k/\k<=l.length/\fr 0=.ms q 0 l.length/\fr 2=i k/\fr 3=i ((l.length:Int)-1-k)/\c.length=l.length/\st'=st.set q (.box 34 1 (us c))/\∀ j,j<l.length->c.getD j 0=if j<k\/l.length<=j+k then l.getD (l.length-1-j) 0 else l.getD j 0) l.length ?_ ?_
 .refine⟨0,l,oO,oO,sS,sS,sS,rfl,St.ext' rfl fun x=>by by_cases hx:x=q<;>simp[hx,hH],fun j hj=>?_⟩;rw[aAa oO]
 rintro n fr Yt ⟨k,c,rfl,hk,h0,h2,h3,hc,rfl,Xt⟩ JJ hJJ;by_cases dN:(k:Int)<(l.length:Int)-1-k
 .obtain⟨m,hm⟩:∃ m:Nat,(l.length:Int)-1-k=m:=⟨l.length-1-k,oO⟩;rw[hm]at h3 dN;have ZP:=qN k oO;have hw3:IntKind.i64.wrap ((m:Int)-1)=(m:Int)-1:=zW;have hd:=qG c k oO;have YQ:=qG c m oO;have P8:k<l.length:=oO;have ZK:m<l.length:=oO
  (repeat' (first|apply qS|apply qB|refine qK (zZ ?_)|(apply qC;simp[h0,h2,h3,dN])|(refine zE ?_;intro J hJ;simp[h0,h2,h3,dN];refine zJ hJ ?_)))
  (refine zS [] [q] [0,2,4,6,8,10,12,14,16,18,20,22,24,27,28,31] ?_;intro J hJ;simp[h0,h2,h3,P8,ZK,hc,hd,YQ];(repeat refine ca ?_);refine zJ hJ ?_)
  (repeat' (refine zE ?_;intro J hJ;simp[h2,h3,ZP,hw3];refine zJ hJ ?_))
  refine hJJ _ _ _ ?_ ⟨k+1,swp c k m,rfl,oO,by simp[h0],sS,?_,by rw[JD];exact hc,St.ext' rfl fun y=>?_,fun j hj=>?_⟩
  .omega
  .simp only[vQ];simp;omega
  .by_cases hy:y=q
   .subst hy;have hlen:(us c).length=l.length:=by simp[hc]
    simp only[bN,reduceIte,UX c k m oO oO];rw[tcd (us c) k _ oO,tcd _ m _ (by simp;omega)];simp[hc,P8,ZK]
   .simp[hy]
  .rw[SU c k m j oO oO,Xt k P8,Xt m ZK,Xt j hj];by_cases h1:j=m
   .rw[aAe h1,aAa oO,aAe oO];congr 1;omega
   .rw[aAa h1];by_cases h2:j=k
    .rw[aAe h2,aAa oO,aAe oO];congr 1;omega
    .rw[aAa h2];by_cases h3:j<k\/l.length<=j+k
     .rw[aAe h3,aAe oO]
     .rw[aAa h3,aAa oO]
 .have hcr:c=l.reverse:=?_
  .subst hcr;clear hJJ
   (repeat' (first|apply qS|refine qX (zZ ?_)|(apply qC;simp[h0,h2,h3,dN])|(refine zE ?_;intro J hJ;simp[h0,h2,h3,dN];refine zJ hJ ?_)))
   simp
  refine TZ l c hc ?_;intro j hj;rw[Xt j hj];by_cases h:j<k\/l.length<=j+k
  .rw[aAe h]
  .rw[aAa h]
   congr 1
   omega
theorem isNaN(x:Int)(st:St):aB prog 97 [u x] st fun r st'=>r=bb false/\st'=st:=by
 refine zN func97 ntmps97 [.tmp 2] ?_
 (repeat' (first|apply qS|(refine qR (zZ ?_);simp[])|(refine zE ?_;intro J hJ;simp[];refine zJ hJ ?_)))
theorem tP(x y:Int)(st:St):aB prog 172 [u x,u y] st fun r st'=>r=bb (decide (x<y))/\st'=st:=by
 refine zN func172 ntmps172 [.tmp 4] ?_
 (repeat' (first|apply qS|(refine zE ?_;intro J hJ;simp[];(try refine zJ hJ ?_))))
 refine qF (isNaN x _) ?_;rintro r st' ⟨rfl,rfl⟩
 (repeat' (first|(refine qR (zZ ?_);simp[])|(apply aD;simp[];refine zJ hJ ?_)))
theorem aH(k:Nat)(h0:0<k)(h:k<9223372036854775807):IntKind.i64.wrap ((k:Int)-1)=((k-1:Nat):Int):=by rw[wrap_i64 _ oO oO];omega
abbrev bx(st:St)(q:Nat)(c:List Int):St:=st.set q (.box 34 1 (us c))
theorem fB{st:St}{q:Nat}{c:List Int}(h:st.H q=.box 34 1 (us c)):st=bx st q c:=
 St.ext' rfl fun x=>by by_cases hx:x=q<;>simp[hx,h]
theorem dM(st:St)(q:Nat)(c:List Int)(k m:Nat){x y:Int}(hk:k<c.length)(hm:m<c.length)(hx:c.getD k 0=x)(hy:c.getD m 0=y):
 ((bx st q c).set q (.box 34 1 (List.take k (us c)++.atom (.int .u32 y)::List.drop (k+1) (us c)))).set q
   (.box 34 1 (List.take m (List.take k (us c)++.atom (.int .u32 y)::List.drop (k+1) (us c))++.atom (.int .u32 x)::List.drop (m+1) (List.take k (us c)++.atom (.int .u32 y)::List.drop (k+1) (us c))))=bx st q (sw c k m):=by
 have e:List.take k (us c)++.atom (.int .u32 y)::List.drop (k+1) (us c)=us (c.set k y):=Dc c k y hk;rw[e,Dc (c.set k y) m x (by simpa using hm)];unfold bx sw;rw[hx,hy];exact St.ext' rfl fun z=>by by_cases hz:z=q<;>simp[hz]
theorem insertionSort(l:List Int)(q a b:Nat)(st:St)(hl:small l)(ha:a<=b)(hb:b<=l.length)(hH:st.H q=.box 34 1 (us l)):
 aB prog 166 [.ms q 0 l.length,i a,i b] st fun r st'=>∃ c,st'=bx st q c/\Pm a b l c/\Srt a b c:=by
 unfold small at hl;refine zN func166 ntmps166 [] ?_;have H8:=qN a oO
 (repeat' (first|apply qS|apply qB|(refine zE ?_;intro J hJ;simp[H8];refine zJ hJ ?_)))
 refine qL (fun n fr st'=>∃(k:Nat) (c:List Int),a<k/\n=b-k/\fr 0=.ms q 0 l.length/\fr 1=i a/\fr 2=i b/\fr 6=i k/\st'=bx st q c/\Pm a b l c/\Srt a k c) (b-(a+1)) ?_ ?_
 .exact⟨a+1,l,oO,rfl,sS,sS,sS,sS,fB hH,.refl,fun p q h1 h2 h3=>by omega⟩
 rintro n fr Yt ⟨k,c,o8,rfl,f0,f1,f2,f6,rfl,Xi,hs⟩ JJ hJJ;have Xk:=Xi.len;by_cases dN:k<b;rotate_left
 .clear hJJ;have Xy:¬(k:Int)<(b:Int):=oO
  (repeat' (first|apply qS|refine qX (zZ ?_)|(apply qC;simp[f0,f1,f2,f6,dN])|(refine zE ?_;intro J hJ;simp[f0,f1,f2,f6,dN];refine zJ hJ ?_)))
  exact⟨trivial,c,rfl,Xi,fun p q h1 h2 h3=>hs p q h1 h2 oO⟩
 have ZE:=qN k oO
 (repeat' (first|apply qS|apply qB|refine qK (zZ ?_)|(apply qC;simp[f0,f1,f2,f6,dN])|(refine zE ?_;intro J hJ;simp[f0,f1,f2,f6,dN];refine zJ hJ ?_)))
 refine qL (fun n fr st'=>∃(j:Nat) (c:List Int),a<=j/\j<=k/\j=n/\fr 0=.ms q 0 l.length/\fr 1=i a/\fr 2=i b/\fr 6=i k/\fr 7=i j/\st'=bx st q c/\Pm a b l c/\Ins a j k c) k ?_ ?_
 .exact⟨k,c,oO,oO,rfl,by simp[f0],by simp[f1],by simp[f2],by simp[f6],sS,rfl,Xi,hs.ins⟩
 clear f0 f1 f2 f6 hs Xi Xk c fr;rintro n fr Yt ⟨j,c,haj,I6,rfl,f0,f1,f2,f6,f7,rfl,Xi,hI⟩ JJ2 v8;have Xk:=Xi.len;by_cases hj:a<j;rotate_left
 .clear v8;have hj':¬(a:Int)<(j:Int):=oO
  (repeat (apply qS));(refine zS [] [q] [0,2,4,6,8,10,12,14,16,18,20,22,24,27,28] ?_;intro J hJ;simp[f0,f1,f2,f6,f7,hj];refine zJ hJ ?_)
  (repeat' (first|refine qX (zZ ?_)|(apply qC;simp[f6,ZE])|(refine zE ?_;intro J hJ;simp[f6,ZE];refine zJ hJ ?_)))
  exact hJJ (b-(k+1)) _ _ oO ⟨k+1,c,oO,rfl,by simp[f0],by simp[f1],by simp[f2],sS,rfl,Xi,hI.done haj (.inl oO)⟩
 have ZP:=aH j oO oO;have Z6:j<l.length:=oO;have hjl1:j-1<l.length:=oO;have hd:=qG c j oO;have YQ:=qG c (j-1) oO;have hI1:=hI.step hj I6 oO;have hI2:=hI.done haj;have Yz:=Xi.step j (j-1) oO oO oO oO oO;generalize hx:c.getD j 0=x at *;generalize hy:c.getD (j-1) 0=y at *
 (repeat (apply qS));(refine zS [] [q] [0,2,4,6,8,10,12,14,16,18,20,22,24,27,28] ?_;intro J hJ;simp[f0,f1,f2,f6,f7,hj,ZP,Z6,hjl1,Xk,hd,YQ])
 refine aJ (tP x y _) ?_;rintro r s2 ⟨rfl,rfl⟩;refine⟨fun _=>by simp,?_⟩;by_cases hcd:x<y;rotate_left
 .clear v8
  (apply aV;simp[hcd];refine zJ hJ ?_)
  (repeat' (first|refine qX (zZ ?_)|(apply qC;simp[f6,ZE])|(refine zE ?_;intro J hJ;simp[f6,ZE];refine zJ hJ ?_)))
  exact hJJ (b-(k+1)) _ _ oO ⟨k+1,c,oO,rfl,by simp[f0],by simp[f1],by simp[f2],sS,rfl,Xi,hI2 (.inr hcd)⟩
 clear hJJ
 (apply aV;simp[hcd];refine zJ hJ ?_)
 (repeat' (first|apply qS|apply qB|refine qK (zZ ?_)|(apply qC;simp[])))
 (refine zS [] [q] [0,2,4,6,8,10,12,14,16,18,20,22,24,26,28,31,32,35] ?_;intro J hJ;simp[f0,f1,f2,f6,f7,ZP,Z6,hjl1,Xk,hd,YQ];(repeat refine ca ?_);refine zJ hJ ?_)
 (repeat' (refine zE ?_;intro J hJ;simp[f7,ZP];refine zJ hJ ?_))
 exact v8 (j-1) _ _ oO ⟨j-1,sw c j (j-1),oO,oO,rfl,by simp[f0],by simp[f1],by simp[f2],by simp[f6],sS,dM st q c j (j-1) oO oO hx hy,Yz,hI1 hcd⟩
theorem jJ(l:List Int)(q a b:Nat)(st:St)(hl:small l)(ha:a<=b)(hb:b<=l.length)(h0:0<b)(hH:st.H q=.box 34 1 (us l)):
 aB prog 170 [.ms q 0 l.length,i a,i b] st fun r st'=>∃ c,st'=bx st q c/\Pm a b l c:=by
 unfold small at hl;refine zN func170 ntmps170 [] ?_;have H8:=aH b oO oO
 (repeat' (first|apply qS|apply qB|(refine zE ?_;intro J hJ;simp[H8];refine zJ hJ ?_)))
 refine qL (fun n fr st'=>∃(k m:Nat) (c:List Int),a<=k/\m<b/\m=n/\fr 0=.ms q 0 l.length/\fr 6=i k/\fr 7=i m/\st'=bx st q c/\Pm a b l c) (b-1) ?_ ?_
 .exact⟨a,b-1,l,oO,oO,rfl,sS,sS,sS,fB hH,.refl⟩
 rintro n fr Yt ⟨k,m,c,o8,u5,rfl,f0,f6,f7,rfl,Xi⟩ JJ hJJ;have Xk:=Xi.len;by_cases dN:k<m;rotate_left
 .clear hJJ
  (repeat' (first|apply qS|refine qX (zZ ?_)|(apply qC;simp[f0,f6,f7,dN])|(refine zE ?_;intro J hJ;simp[f0,f6,f7,dN];refine zJ hJ ?_)))
  exact⟨trivial,c,rfl,Xi⟩
 have ZE:=qN k oO;have ZP:=aH m oO oO;have P8:k<l.length:=oO;have ZK:m<l.length:=oO;have hd:=qG c k oO;have YQ:=qG c m oO;have Yz:=Xi.step k m oO oO oO oO oO;generalize hx:c.getD k 0=x at *;generalize hy:c.getD m 0=y at *
 (repeat' (first|apply qS|apply qB|refine qK (zZ ?_)|(apply qC;simp[f0,f6,f7,dN])|(refine zE ?_;intro J hJ;simp[f0,f6,f7,dN];refine zJ hJ ?_)))
 (refine zS [] [q] [0,2,4,6,8,10,12,14,16,18,20,22,24,27,28,31] ?_;intro J hJ;simp[f0,f6,f7,P8,ZK,Xk,hd,YQ];(repeat refine ca ?_);refine zJ hJ ?_)
 (repeat' (first|apply qS|(refine zE ?_;intro J hJ;simp[f6,f7,ZE,ZP];refine zJ hJ ?_)))
 exact hJJ (m-1) _ _ oO ⟨k+1,m-1,sw c k m,oO,oO,rfl,by simp[f0],sS,sS,dM st q c k m oO oO hx hy,Yz⟩
theorem bB{P:Program}{N:Nat}{Q:AQ}{k:List fS}{fr:Frm}{st:St}{x y:Code}(I:Frm->St->Prop)(h1:AWp P N x (AK P N (fun e f s=>e=.normal/\I f s) []) fr st)(h2:∀ fr st,I fr st->AWp P N y (AK P N Q k) fr st):
 AWp P N x (AK P N Q (.code y::k)) fr st:=by
 refine cZ h1 ?_;rintro e Xj st' ⟨rfl,hI⟩;rw[iK];exact h2 _ _ hI
theorem pJ(st:St)(q:Nat)(c:List Int)(k m:Nat){x y:Int}(hk:k<c.length)(hm:m<c.length)(hx:c.getD k 0=x)(hy:c.getD m 0=y):
 (st.set q (.box 34 1 (List.take k (us c)++.atom (.int .u32 y)::List.drop (k+1) (us c)))).set q
   (.box 34 1 (List.take m (List.take k (us c)++.atom (.int .u32 y)::List.drop (k+1) (us c))++.atom (.int .u32 x)::List.drop (m+1) (List.take k (us c)++.atom (.int .u32 y)::List.drop (k+1) (us c))))=bx st q (sw c k m):=by
 rw[<- dM st q c k m hk hm hx hy];exact St.ext' rfl fun z=>by by_cases hz:z=q<;>simp[hz]
theorem HQ{P:Program}{N:Nat}{Q:AQ}{k:List fS}{fr:Frm}{st:St}{x y z:Code}(I:Frm->St->Prop)(h1:AWp P N x (AK P N (fun e f s=>e=.normal/\I f s) [.code y]) fr st)(h2:∀ fr st,I fr st->AWp P N z (AK P N Q k) fr st):
 AWp P N x (AK P N Q (.code y::.code z::k)) fr st:=by
 refine cZ h1 ?_;rintro e Xj st' h;cases e with
 |normal=>rw[iK]at h ⊢;refine cZ h ?_;rintro e Zr st2 ⟨rfl,h⟩;rw[iK];exact h2 _ _ h
 |_=>exact absurd h.1 sS
def Sf(c:List Int)(f r hi ch:Nat):Prop:=∀ x,(x=2*r+1\/x=2*r+2)->x<hi->c.getD (f+x) 0<=c.getD (f+ch) 0
theorem mP(l:List Int)(q lo hi f:Nat)(st:St)(hl:small l)(hb:f+hi<=l.length)(x9:lo<=l.length)(hh:nA (lo+1) hi f l)(hH:st.H q=.box 34 1 (us l)):
 aB prog 194 [.ms q 0 l.length,i lo,i hi,i f] st fun r st'=>∃ c,st'=bx st q c/\Pm (f+lo) (f+hi) l c/\nA lo hi f c:=by
 unfold small at hl;refine zN func194 ntmps194 [] ?_
 (repeat' (first|apply qS|apply qB|(refine zE ?_;intro J hJ;simp[];refine zJ hJ ?_)))
 refine qL (fun n fr st'=>∃(r:Nat) (c:List Int),lo<=r/\r<=l.length/\n=hi-r/\fr 0=.ms q 0 l.length/\fr 2=i hi/\fr 3=i f/\fr 8=i r/\st'=bx st q c/\Pm (f+lo) (f+hi) l c/\sD lo hi f r c) (hi-lo) ?_ ?_
 .exact⟨lo,l,aAi _,x9,rfl,sS,sS,sS,sS,fB hH,.refl,hh.x⟩
 rintro n fr Yt ⟨r,c,hlr,Z3,rfl,f0,f2,f3,f8,rfl,Xi,hX⟩ JJ hJJ;have Xk:=Xi.len;obtain⟨m,hm⟩:∃ m:Nat,m=2*r+1:=⟨_,rfl⟩;obtain⟨m2,P6⟩:∃ m:Nat,m=2*r+2:=⟨_,rfl⟩;have w1:IntKind.i64.wrap (2*(r:Int))=2*(r:Int):=zW;have w2:IntKind.i64.wrap (2*(r:Int)+1)=(m:Int):=zW;have w3:IntKind.i64.wrap ((m:Int)+1)=(m2:Int):=zW;by_cases hmh:hi<=m
 .clear hJJ
  (repeat' (first|apply qS|apply qB|refine qX (zZ ?_)|(apply qC;simp[f0,f2,f3,f8,w1,w2,hmh])|(refine zE ?_;intro J hJ;simp[f0,f2,f3,f8,w1,w2,hmh];refine zJ hJ ?_)))
  exact⟨trivial,c,rfl,Xi,hX.leaf oO⟩
 obtain⟨x1,hx1⟩:∃ x:Nat,x=f+m:=⟨_,rfl⟩;obtain⟨x2,Ys⟩:∃ x:Nat,x=f+m2:=⟨_,rfl⟩;obtain⟨x0,ZX⟩:∃ x:Nat,x=f+r:=⟨_,rfl⟩;have w4:IntKind.i64.wrap ((f:Int)+(m:Int))=(x1:Int):=zW;have w5:IntKind.i64.wrap ((x1:Int)+1)=(x2:Int):=zW;have w6:IntKind.i64.wrap ((f:Int)+(r:Int))=(x0:Int):=zW
 (repeat' (first|apply qS|apply qB|(refine zE ?_;intro J hJ;simp[f0,f2,f3,f8,w1,w2,hmh];refine zJ hJ ?_)))
 (apply qC;simp[])
 (repeat' (first|apply qS|refine qK (zZ ?_)))
 refine HQ (fun Zr st2=>st2=bx st q c/\Zr 0=.ms q 0 l.length/\Zr 2=i hi/\Zr 3=i f/\Zr 8=i r/\∃ ch:Nat,Zr 9=i ch/\(ch=2*r+1\/ch=2*r+2)/\ch<hi/\Sf c f r hi ch) ?_ ?_
 .by_cases h2h:m2<hi;rotate_left
  ·(refine zS [] [q] [0,2,4,6,8,10,12,14,16,18,20,22,24,26,28,30,32,34,37,38] ?_;intro J hJ;simp[f0,f2,f3,f8,w3,h2h];refine zJ hJ ?_)
   (repeat' (first|refine qK (zZ ?_)|(apply qC;simp[f0])))
   refine⟨trivial,trivial,by simp[f0],by simp[f2],by simp[f3],by simp[f8],m,sS,oO,oO,fun x h1 h2=>?_⟩;rw[show x=m by omega];exact aCg _
  have Xu:=qG c x1 oO;have YQ:=qG c x2 oO;have G3:x1<l.length:=oO;have C4:x2<l.length:=oO;generalize D8:c.getD x1 0=y1 at *;generalize j7:c.getD x2 0=y2 at *
  (refine zS [] [q] [0,2,4,6,8,10,12,14,16,18,20,22,24,26,28,30,32,34,37,38] ?_;intro J hJ;simp[f0,f2,f3,f8,w3,w4,w5,h2h,G3,C4,Xk,Xu,YQ])
  refine aJ (tP y1 y2 _) ?_;rintro r1 s2 ⟨rfl,rfl⟩;refine⟨fun _=>by simp,?_⟩;by_cases Y9:y1<y2
  ·(apply aV;simp[Y9];refine zJ hJ ?_)
   (repeat' (first|(apply qC;simp[w3])|(refine zE ?_;intro J hJ;simp[w3];refine zJ hJ ?_)))
   refine⟨trivial,trivial,by simp[f0],by simp[f2],by simp[f3],by simp[f8],m2,sS,oO,oO,fun x h1 h2=>?_⟩;rcases(show x=m\/x=m2 by omega)with rfl|rfl
   .rw[<- hx1,<- Ys,D8,j7];omega
   .exact aCg _
  ·(apply aV;simp[Y9];refine zJ hJ ?_)
   (repeat' (first|refine qK (zZ ?_)|(apply qC;simp[])))
   refine⟨trivial,trivial,by simp[f0],by simp[f2],by simp[f3],by simp[f8],m,sS,oO,oO,fun x h1 h2=>?_⟩;rcases(show x=m\/x=m2 by omega)with rfl|rfl
   .exact aCg _
   .rw[<- hx1,<- Ys,D8,j7];omega
 clear f0 f2 f3 f8 w1 w2 w3 w4 w5 hx1 Ys x1 x2 fr;rintro fr st2 ⟨rfl,f0,f2,f3,f8,ch,f9,v5,hchi,O2⟩;obtain⟨x1,hx1⟩:∃ x:Nat,x=f+ch:=⟨_,rfl⟩;have w4:IntKind.i64.wrap ((f:Int)+(ch:Int))=(x1:Int):=zW;have Xu:=qG c x1 oO;have hd0:=qG c x0 oO;have G3:x1<l.length:=oO;have v7:x0<l.length:=oO;unfold Sf at O2;have YR:=hX.step (c:=ch) hlr v5 hchi oO O2;have Yz:=Xi.step x0 x1 oO oO oO oO oO;have hbig:=hX.big;rw[<- ZX,<- hx1]at YR;rw[<- ZX]at hbig;rw[<- hx1]at O2;generalize S9:c.getD x0 0=y0 at *;generalize D8:c.getD x1 0=y1 at *
 (repeat (apply qS));(refine zS [] [q] [0,2,4,6,8,10,12,14,16,18,20,22,25,26] ?_;intro J hJ;simp[f0,f2,f3,f8,f9,w4,w6,G3,v7,Xk,Xu,hd0])
 refine aJ (tP y0 y1 _) ?_;rintro r1 s2 ⟨rfl,rfl⟩;refine⟨fun _=>by simp,?_⟩;by_cases Y9:y0<y1;rotate_left
 .clear hJJ
  (apply aV;simp[Y9];refine zJ hJ ?_)
  (repeat' (first|(refine qR (zZ ?_);simp[])|(apply qC;simp[])))
  exact⟨c,rfl,Xi,hbig fun x h1 h2=>by have:=O2 x h1 h2;omega⟩
 (apply aV;simp[Y9];refine zJ hJ ?_)
 (repeat' (first|apply qS|refine qK (zZ ?_)|(apply qC;simp[])))
 (refine zS [] [q] [0,2,4,6,8,10,12,14,16,18,20,22,24,26,28,30,32,34,36,38,40,43,44,47] ?_;intro J hJ;simp[f0,f2,f3,f8,f9,w4,w6,G3,v7,Xk,Xu,hd0];(repeat refine ca ?_);refine zJ hJ ?_)
 (repeat' (refine zE ?_;intro J hJ;simp[f9];refine zJ hJ ?_))
 exact hJJ (hi-ch) _ _ oO ⟨ch,sw c x0 x1,oO,oO,rfl,by simp[f0],by simp[f2],by simp[f3],sS,dM st q c x0 x1 oO oO S9 D8,Yz,YR Y9⟩
end Aw
end Go.Proofs.YtempldclppogmaaGreatDoor
