/- Plain lists of numbers: places, least ones, turns. No program. -/
import Derived.RangeFuncBox
import Derived.RangeFuncLeaves
import Derived.Shelf.Abstract
import Derived.WalkKit
import Derived.OwnWalkIn
import Derived.TacticsInMore
import Derived.LoopNIn
import Derived.LoopIn
import Derived.Maps.AppendAt
import Derived.Test.YtempldclppogmaaGreatDoorProg
import Derived.Test.YtempldclppogmaaGreatDoorAwSet
import Derived.IntWalk
set_option linter.unusedVariables false
set_option linter.unusedSimpArgs false
set_option maxHeartbeats 2000000
open Go.Proofs.Tryz
namespace Go.Proofs.YtempldclppogmaaGreatDoor
namespace Pl
def gi(l:List Int)(x:Int):Int:=if x∈l then(l.idxOf x:Int)else -1
theorem RH{l:List Int}{x:Int}{k:Nat}(hk:k<l.length)(h:l[k]=x)(hn:∀ j (hj:j<k),l[j]'(by omega)≠x):gi l x=k:=by
 have hm:x∈l:=by rw[<- h];exact aAA hk
 unfold gi;rw[aAe hm]
 congr 1
 have h1:l.idxOf x<l.length:=aBl hm;have h2:l[l.idxOf x]=x:=aCn h1;rcases aCx (l.idxOf x) k with h3|h3|h3
 .exact absurd h2 (hn _ h3)
 .exact h3
 .have:=aEs (p:=fun y=>y==x) (xs:=l) (i:=k) (by simpa[List.idxOf]using h3);simp[h]at this
theorem Qf{l:List Int}{x:Int}(hn:∀ j (hj:j<l.length),l[j]≠x):gi l x = -1:=by unfold gi;rw[aAa];intro hm;obtain⟨j,hj,h⟩:=aAB hm;exact hn j hj h
theorem Bf(l:List Int)(x:Int):gi l x<0↔x∉l:=by
 unfold gi
 split
 .rename_i h;simp[h]
 .rename_i h;simp[h]
def mn:List Int->Int
 |[]=>0
 |x::l=>l.foldl (fun a b=>if b<a then b else a) x
theorem uJ(l:List Int):∀ a:Int,l.foldl (fun a b=>if b<a then b else a) a<=a/\(∀ x∈l,l.foldl (fun a b=>if b<a then b else a) a<=x)/\(l.foldl (fun a b=>if b<a then b else a) a=a\/l.foldl (fun a b=>if b<a then b else a) a∈l):=by
 induction l with
 |nil=>intro a;simp
 |cons b l ih=>
  intro a;simp only[List.foldl_cons];obtain⟨h1,h2,h3⟩:=ih (if b<a then b else a);have c1:(if b<a then b else a)<=a:=by split<;>omega
  have c2:(if b<a then b else a)<=b:=by split<;>omega
  refine⟨Int.le_trans h1 c1,?_,?_⟩
  .intro x hx;rcases aAf.1 hx with rfl|hx
   .exact Int.le_trans h1 c2
   .exact h2 x hx
  .rcases h3 with h3|h3
   .rw[h3]
    split
    .right;simp
    .left;rfl
   .right;simp[h3]
theorem Pw{l:List Int}{x:Int}(hx:x∈l):mn l<=x:=by
 cases l with
 |nil=>simp at hx
 |cons a l=>
  obtain⟨h1,h2,_⟩:=uJ l a;rcases aAf.1 hx with rfl|hx
  .exact h1
  .exact h2 x hx
theorem xB{l:List Int}(h:l≠[]):mn l∈l:=by
 cases l with
 |nil=>exact absurd rfl h
 |cons a l=>
  obtain⟨_,_,h3⟩:=uJ l a;rcases h3 with h3|h3
  .simp only[mn];rw[h3];simp
  .simp only[mn];exact aAj _ h3
theorem TH{l:List Int}{m:Int}(hm:m∈l)(h:∀ x∈l,m<=x):mn l=m:=by have h1:=Pw hm;have h2:=h _ (xB (aCo hm));omega
theorem MY(l:List Int)(x:Int)(h:l≠[]):mn (l++[x])=if x<mn l then x else mn l:=by
 cases l with
 |nil=>exact absurd rfl h
 |cons a l=>rw[List.cons_append,mn,aBm];rfl
theorem Rr(l:List Int)(k:Nat)(h0:0<k)(hk:k<l.length):mn (l.take (k+1))=if l[k] < mn (l.take k)then l[k]else mn (l.take k):=by rw[aAn hk,MY];intro h;have:=congrArg List.length h;rw[aAq,List.length_nil]at this;omega
def rt(l:List Int)(k:Nat):List Int:=l.drop k++l.take k
def nrm(l:List Int):List Int:=rt l (l.idxOf (mn l))
theorem vK(l:List Int)(k:Nat):(rt l k).length=l.length:=by simp[rt];omega
theorem tD(l:List Int):(nrm l).length=l.length:=vK _ _
theorem TP(l:List Int)(k i:Nat)(hk:k<=l.length)(hi:i<l.length):(rt l k)[i]'(by rw[vK];exact hi)=l[(k+i) % l.length]'(aCD _ oO):=by
 unfold rt;by_cases h:i<l.length-k
 .rw[aCt (by simpa using h)];simp only[aCh]
  congr 1
  rw[aAM oO]
 .rw[aBA (by simp;omega)];simp only[aBP,aAP]
  congr 1
  rw[Nat.mod_eq_sub_mod oO,aAM oO];omega
theorem SF(l:List Int)(i:Nat)(hi:i<l.length):(nrm l)[i]'(by rw[tD];exact hi)=l[(l.idxOf (mn l)+i) % l.length]'(aCD _ oO):=
 TP l _ i aEH hi
end Pl
namespace Eu
open Go
def it(f:Int->Int):Nat->Int->Int
 |0,x=>x
 |n+1,x=>it f n (f x)
theorem cJ(f:Int->Int)(n:Nat)(x:Int):it f (n+1) x=f (it f n x):=by
 induction n generalizing x with
 |zero=>rfl
 |succ n ih=>exact ih (f x)
theorem mN(f:Int->Int)(m n:Nat)(x:Int):it f (m+n) x=it f m (it f n x):=by
 induction n generalizing x with
 |zero=>rfl
 |succ n ih=>exact ih (f x)
theorem Ua{f:Int->Int}{p:Nat}{x:Int}(h:it f p x=x)(q:Nat):it f (q*p) x=x:=by
 induction q with
 |zero=>rw[aDs];rfl
 |succ q ih=>rw[aDM,mN,h,ih]
theorem UN{f:Int->Int}(hi:∀ x y,f x=f y->x=y)(n:Nat){x y:Int}(h:it f n x=it f n y):x=y:=by
 induction n generalizing x y with
 |zero=>exact h
 |succ n ih=>exact hi _ _ (ih h)
def Per(f:Int->Int):Prop:=∀ x,∃ p,0<p/\it f p x=x
def Orb(f:Int->Int)(x y:Int):Prop:=∃ n,it f n x=y
theorem Orb.refl(f:Int->Int)(x:Int):Orb f x x:=⟨0,rfl⟩
theorem Orb.step(f:Int->Int)(x:Int):Orb f x (f x):=⟨1,rfl⟩
theorem Orb.trans{f:Int->Int}{x y z:Int}(h:Orb f x y)(k:Orb f y z):Orb f x z:=by obtain⟨n,rfl⟩:=h;obtain⟨m,rfl⟩:=k;exact⟨m+n,mN f m n x⟩
theorem Orb.symm{f:Int->Int}(hf:Per f){x y:Int}(h:Orb f x y):Orb f y x:=by
 obtain⟨n,rfl⟩:=h;induction n generalizing x with
 |zero=>exact⟨0,rfl⟩
 |succ n ih=>
  refine(ih (x:=f x)).trans ?_;obtain⟨p,hp,h⟩:=hf x;cases p with
  |zero=>omega
  |succ p=>exact⟨p,h⟩
theorem Nk{f:Int->Int}(D:List Int)(hD:∀ x∈D,f x∈D)(hi:∀ x y,f x=f y->x=y)(ho:∀ x,x∉D->f x=x):Per f:=by
 intro x;by_cases hx:x∈D
 .refine aAG fun YD=>?_;have Wu:∀ p,0<p->it f p x≠x:=fun p hp h=>YD ⟨p,hp,h⟩;have Xl:∀ k,it f k x∈D:=by
   intro k;induction k with
   |zero=>exact hx
   |succ k ih=>rw[cJ];exact hD _ ih
  have hnd:((List.range (D.length+1)).map fun k=>it f k x).Nodup:=by unfold List.Nodup;rw[aAV];refine aBY.imp fun {i j} hij h=>?_;have h2:j=i+(j-i):=oO;rw[h2,mN]at h;exact Wu (j-i) oO (UN hi i h).symm
  have:=aAF hnd (l₂:=D) fun y hy=>by obtain⟨k,_,rfl⟩:=aAm.1 hy;exact Xl k
  simp at this;omega
 .exact⟨1,oO,ho x hx⟩
structure Eqv(R:Int->Int->Prop):Prop where
 refl:∀ x,R x x
 symm:∀ {x y},R x y->R y x
 trans:∀ {x y z},R x y->R y z->R x z
theorem Per.eqv{f:Int->Int}(hf:Per f):Eqv (Orb f):=⟨Orb.refl f,Orb.symm hf,Orb.trans⟩
noncomputable def ncl(R:Int->Int->Prop):List Int->Nat
 |[]=>0
 |x::l=>ncl R l+@ite Nat (∃ y∈l,R y x) (Classical.propDecidable _) 0 1
theorem bA{R:Int->Int->Prop}{x:Int}{l:List Int}(h:∃ y∈l,R y x):ncl R (x::l)=ncl R l:=by simp only[ncl];rw[aAe h];rfl
theorem aP{R:Int->Int->Prop}{x:Int}{l:List Int}(h:¬∃ y∈l,R y x):ncl R (x::l)=ncl R l+1:=by simp only[ncl];rw[aAa h]
theorem dP{R S:Int->Int->Prop}{l:List Int}(h:∀ x∈l,∀ y∈l,(R x y↔S x y)):ncl R l=ncl S l:=by
 induction l with
 |nil=>rfl
 |cons x l ih=>
  have ih':=ih fun a ha b hb=>h a (aAj _ ha) b (aAj _ hb);by_cases hx:∃ y∈l,R y x
  .rw[bA hx,bA,ih'];obtain⟨y,hy,hr⟩:=hx;exact⟨y,hy,(h y (aAj _ hy) x aAo).1 hr⟩
  .rw[aP hx,aP,ih'];rintro⟨y,hy,hr⟩;exact hx ⟨y,hy,(h y (aAj _ hy) x aAo).2 hr⟩
theorem uR{R:Int->Int->Prop}(hR:Eqv R){l l':List Int}(h:l.Perm l'):ncl R l=ncl R l':=by
 induction h with
 |nil=>rfl
 |@cons x l1 l2 h ih=>
  by_cases hx:∃ y∈l1,R y x
  .rw[bA hx,bA,ih];obtain⟨y,hy,hr⟩:=hx;exact⟨y,h.mem_iff.1 hy,hr⟩
  .rw[aP hx,aP,ih];rintro⟨y,hy,hr⟩;exact hx ⟨y,h.mem_iff.2 hy,hr⟩
 |swap x y l=>
  by_cases YK:R x y
  .have YV:=hR.symm YK;rw[bA ⟨x,aAo,YK⟩,bA ⟨y,aAo,YV⟩];by_cases hx:∃ z∈l,R z x
   .rw[bA hx,bA];obtain⟨z,hz,hr⟩:=hx;exact⟨z,hz,hR.trans hr YK⟩
   .rw[aP hx,aP];rintro⟨z,hz,hr⟩;exact hx ⟨z,hz,hR.trans hr YV⟩
  .have YV:¬R y x:=fun h=>YK (hR.symm h);have e1:(∃ z∈x::l,R z y)↔∃ z∈l,R z y:=by
    constructor
    .rintro⟨z,hz,hr⟩;rcases aAf.1 hz with rfl|hz
     .exact absurd hr YK
     .exact⟨z,hz,hr⟩
    .rintro⟨z,hz,hr⟩;exact⟨z,aAj _ hz,hr⟩
   have e2:(∃ z∈y::l,R z x)↔∃ z∈l,R z x:=by
    constructor
    .rintro⟨z,hz,hr⟩;rcases aAf.1 hz with rfl|hz
     .exact absurd hr YV
     .exact⟨z,hz,hr⟩
    .rintro⟨z,hz,hr⟩;exact⟨z,aAj _ hz,hr⟩
   by_cases hx:∃ z∈l,R z x
   .rw[bA (x:=x) (l:=y::l) (e2.2 hx)];by_cases hy:∃ z∈l,R z y
    .rw[bA (x:=y) (l:=x::l) (e1.2 hy),bA hx,bA hy]
    .rw[aP (x:=y) (l:=x::l) (fun h=>hy (e1.1 h)),bA hx,aP hy]
   .rw[aP (x:=x) (l:=y::l) (fun h=>hx (e2.1 h))];by_cases hy:∃ z∈l,R z y
    .rw[bA (x:=y) (l:=x::l) (e1.2 hy),aP hx,bA hy]
    .rw[aP (x:=y) (l:=x::l) (fun h=>hy (e1.1 h)),aP hx,aP hy]
 |trans _ _ h1 h2=>exact h1.trans h2
def Mg(R:Int->Int->Prop)(a b x y:Int):Prop:=R x y\/(R x a/\R b y)\/(R x b/\R a y)
theorem Mg.eqv{R:Int->Int->Prop}(hR:Eqv R)(a b:Int):Eqv (Mg R a b):=by
 refine⟨fun x=>.inl (hR.refl x),?_,?_⟩
 .rintro x y (h|⟨h1,h2⟩|⟨h1,h2⟩)
  .exact .inl (hR.symm h)
  .exact .inr (.inr ⟨hR.symm h2,hR.symm h1⟩)
  .exact .inr (.inl ⟨hR.symm h2,hR.symm h1⟩)
 .rintro x y z (h|⟨h1,h2⟩|⟨h1,h2⟩) (k|⟨k1,k2⟩|⟨k1,k2⟩)
  .exact .inl (hR.trans h k)
  .exact .inr (.inl ⟨hR.trans h k1,k2⟩)
  .exact .inr (.inr ⟨hR.trans h k1,k2⟩)
  .exact .inr (.inl ⟨h1,hR.trans h2 k⟩)
  .exact .inr (.inl ⟨h1,k2⟩)
  .exact .inl (hR.trans h1 k2)
  .exact .inr (.inr ⟨h1,hR.trans h2 k⟩)
  .exact .inl (hR.trans h1 k2)
  .exact .inr (.inr ⟨h1,k2⟩)
theorem Mg.same{R:Int->Int->Prop}(hR:Eqv R){a b:Int}(h:R a b)(x y:Int):Mg R a b x y↔R x y:=by
 constructor
 .rintro(k|⟨k1,k2⟩|⟨k1,k2⟩)
  .exact k
  .exact hR.trans (hR.trans k1 h) k2
  .exact hR.trans (hR.trans k1 (hR.symm h)) k2
 .exact .inl
theorem Mg.le{R S:Int->Int->Prop}(hS:Eqv S){a b:Int}(YC:S a b)(h:∀ x y,R x y->S x y){x y:Int}(k:Mg R a b x y):S x y:=by
 rcases k with k|⟨k1,k2⟩|⟨k1,k2⟩
 .exact h _ _ k
 .exact hS.trans (hS.trans (h _ _ k1) YC) (h _ _ k2)
 .exact hS.trans (hS.trans (h _ _ k1) (hS.symm YC)) (h _ _ k2)
theorem sO{R:Int->Int->Prop}(hR:Eqv R){a b:Int}(YC:¬R a b){l:List Int}(ha:a∈l)(hb:b∈l):ncl R l=ncl (Mg R a b) l+1:=by
 have Wu:b≠a:=by rintro rfl;exact YC (hR.refl _)
 have key:∀ rest:List Int,ncl R (rest++[a,b])=ncl (Mg R a b) (rest++[a,b])+1:=by
  intro rest;induction rest with
  |nil=>
   have h1:ncl R [a,b]=2:=by
    rw[aP,aP]
    .rfl
    .rintro⟨y,hy,_⟩;cases hy
    .rintro⟨y,hy,hr⟩;rw[aAl]at hy;subst hy;exact YC (hR.symm hr)
   have h2:ncl (Mg R a b) [a,b]=1:=by
    rw[bA,aP]
    .rfl
    .rintro⟨y,hy,_⟩;cases hy
    .exact⟨b,sS,.inr (.inr ⟨hR.refl _,hR.refl _⟩)⟩
   rw[List.nil_append,h1,h2]
  |cons x rest ih=>
   rw[List.cons_append];have haL:a∈rest++[a,b]:=sS;have hbL:b∈rest++[a,b]:=sS;by_cases hx:∃ y∈rest++[a,b],R y x
   .rw[bA hx,bA,ih];obtain⟨y,hy,hr⟩:=hx;exact⟨y,hy,.inl hr⟩
   .rw[aP hx,aP,ih];rintro⟨y,hy,hr|⟨_,hr⟩|⟨_,hr⟩⟩
    .exact hx ⟨y,hy,hr⟩
    .exact hx ⟨b,hbL,hr⟩
    .exact hx ⟨a,haL,hr⟩
 have p1:l.Perm (a::l.erase a):=aEI ha;have p2:(l.erase a).Perm (b::(l.erase a).erase b):=aEI ((List.mem_erase_of_ne Wu).2 hb);have p3:l.Perm (((l.erase a).erase b)++[a,b]):=(p1.trans (p2.cons a)).trans (aBS (l₁:=[a,b]));rw[uR hR p3,uR (Mg.eqv hR a b) p3];exact key _
theorem Ck{R:Int->Int->Prop}{t l:List Int}(ht:∀ x∈t,∀ y∈t,R x y)(hl:∀ x∈t,∀ y∈l,¬R y x):ncl R (t++l)=ncl R l+if t=[]then 0 else 1:=by
 induction t with
 |nil=>simp
 |cons x t ih=>
  have ih':=ih (fun a ha b hb=>ht a (aAj _ ha) b (aAj _ hb)) (fun a ha=>hl a (aAj _ ha));rw[List.cons_append,aAa sS];cases t with
  |nil=>rw[List.nil_append,aP];rintro⟨y,hy,hr⟩;exact hl x aAo y hy hr
  |cons z t=>rw[bA ⟨z,sS,ht z sS x sS⟩,ih',aAa sS]
theorem AJ{R:Int->Int->Prop}:∀(ts:List (List Int)),(∀ t∈ts,∀ x∈t,∀ y∈t,R x y)->ts.Pairwise (fun t t'=>∀ x∈t,∀ y∈t',¬R y x)->ncl R ts.flatten=(ts.filter fun t=>decide (t≠[])).length
 |[],_,_=>rfl
 |t::ts,h1,h2=>by
  rw[aBg]at h2;rw[List.flatten_cons,Ck (h1 t aAo),AJ ts (fun t ht=>h1 t (aAj _ ht)) h2.2]
  .by_cases ht:t=[]
   .simp[ht]
   .simp[ht]
  .intro x hx y hy;obtain⟨t',F0,O4⟩:=aAY.1 hy;exact h2.1 t' F0 x hx y O4
def sw(a b x:Int):Int:=if x=a then b else if x=b then a else x
theorem Bb(a b:Int):sw a b a=b:=by simp[sw]
theorem FE(a b:Int):sw a b b=a:=by unfold sw;by_cases h:b=a<;>simp[h]
theorem tA{a b x:Int}(h1:x≠a)(h2:x≠b):sw a b x=x:=by simp[sw,h1,h2]
theorem Pq(a b x:Int):sw a b (sw a b x)=x:=by
 by_cases h1:x=a
 .subst h1;rw[Bb,FE]
 .by_cases h2:x=b
  .subst h2;rw[FE,Bb]
  .rw[tA h1 h2,tA h1 h2]
theorem Te(a b:Int){x y:Int}(h:sw a b x=sw a b y):x=y:=by rw[<- Pq a b x,h,Pq]
theorem least{P:Nat->Prop}{n:Nat}(h:P n):∃ m,P m/\∀ k,k<m->¬P k:=by
 induction n using Nat.strongRecOn with
 |ind n ih=>
  by_cases hk:∃ k,k<n/\P k
  .obtain⟨k,h1,h2⟩:=hk;exact ih k h1 h2
  .exact⟨n,h,fun k h1 h2=>hk ⟨k,h1,h2⟩⟩
section
variable {f f':Int->Int} {a b:Int}
theorem Lz(u5:∀ x,f' x=f (sw a b x))(YC:a≠b)(h:Orb f b a):¬Orb f' a b:=by
 obtain⟨n0,h0⟩:=h;obtain⟨n,hn,ZP⟩:=least (P:=fun n=>it f n b=a) h0;have u9:n≠0:=by rintro rfl;exact YC hn.symm
 have J8:∀ i,0<i->i<=n->it f i b≠b:=by intro i hi Xl hb;have:n=(n-i)+i:=oO;rw[this,mN,hb]at hn;exact ZP (n-i) oO hn
 have Xh:∀ x,(∃ i,0<i/\i<=n/\x=it f i b)->∃ i,0<i/\i<=n/\f' x=it f i b:=by
  rintro x ⟨i,hi,Xl,rfl⟩;rcases aAN i n with h1|h1
  .refine⟨i+1,oO,oO,?_⟩;rw[u5,tA (ZP i h1) (J8 i hi Xl),cJ]
  .obtain rfl:i=n:=oO;exact⟨1,oO,oO,by rw[u5,hn,Bb];rfl⟩
 rintro⟨k,hk⟩;have hall:∀ k,∃ i,0<i/\i<=n/\it f' k a=it f i b:=by
  intro k;induction k with
  |zero=>exact⟨n,oO,aAk _,hn.symm⟩
  |succ k ih=>rw[cJ];exact Xh _ ih
 obtain⟨i,h1,h2,h3⟩:=hall k;rw[hk]at h3;exact J8 i h1 h2 h3.symm
theorem OX(hf:Per f)(u5:∀ x,f' x=f (sw a b x))(h:¬Orb f b a):Orb f' a b:=by
 obtain⟨p,hp,h0⟩:=hf b;obtain⟨n,⟨u9,hn⟩,ZP⟩:=least (P:=fun n=>0<n/\it f n b=b) ⟨hp,h0⟩;have key:∀ k,0<k->k<=n->it f' k a=it f k b:=by
  intro k;induction k with
  |zero=>intro h;omega
  |succ k ih=>
   intro _ hk;rcases aDt k with rfl|h0
   .show f' a=f b;rw[u5,Bb]
   .rw[cJ,ih h0 oO,u5,tA (fun e=>h ⟨k,e⟩) (fun e=>ZP k oO ⟨h0,e⟩),cJ f k b]
 exact⟨n,by rw[key n u9 (aAk _),hn]⟩
theorem Pf(hf:Per f)(u5:∀ x,f' x=f (sw a b x)){x y:Int}(h:Orb f' x y):Mg (Orb f) a b x y:=by
 have hE:=Mg.eqv hf.eqv a b;obtain⟨n,rfl⟩:=h;induction n generalizing x with
 |zero=>exact hE.refl _
 |succ n ih=>
  refine hE.trans ?_ (ih (x:=f' x));rw[u5];by_cases h1:x=a
  .subst h1;rw[Bb];exact .inr (.inl ⟨Orb.refl _ _,Orb.step _ _⟩)
  .by_cases h2:x=b
   .subst h2;rw[FE];exact .inr (.inr ⟨Orb.refl _ _,Orb.step _ _⟩)
   .rw[tA h1 h2];exact .inl (Orb.step _ _)
theorem Jm(hf:Per f)(ZY:Per f')(u5:∀ x,f' x=f (sw a b x))(x y:Int):Mg (Orb f) a b x y↔Mg (Orb f') a b x y:=by
 have hb:∀ x,f x=f' (sw a b x):=fun x=>by rw[u5,Pq]
 constructor
 .exact Mg.le (Mg.eqv ZY.eqv a b) (.inr (.inl ⟨Orb.refl _ _,Orb.refl _ _⟩)) fun x y h=>Pf ZY hb h
 .exact Mg.le (Mg.eqv hf.eqv a b) (.inr (.inl ⟨Orb.refl _ _,Orb.refl _ _⟩)) fun x y h=>Pf hf u5 h
theorem rJ{D:List Int}(hf:Per f)(ZY:Per f')(u5:∀ x,f' x=f (sw a b x))(YC:a≠b)(ha:a∈D)(hb:b∈D)(h:Orb f a b):ncl (Orb f') D=ncl (Orb f) D+1:=by
 rw[sO ZY.eqv (Lz u5 YC (Orb.symm hf h)) ha hb]
 congr 1
 refine dP fun x _ y _=>?_;rw[<- Jm hf ZY u5,Mg.same hf.eqv h]
theorem tU{D:List Int}(hf:Per f)(ZY:Per f')(u5:∀ x,f' x=f (sw a b x))(ha:a∈D)(hb:b∈D)(h:¬Orb f a b):ncl (Orb f) D=ncl (Orb f') D+1:=by
 have h':Orb f' a b:=OX hf u5 fun k=>h (Orb.symm hf k);rw[sO hf.eqv h ha hb]
 congr 1
 refine dP fun x _ y _=>?_;rw[Jm hf ZY u5,Mg.same ZY.eqv h']
end
theorem Hz{f:Int->Int}{d:Int}{p:Nat}(hp:0<p)(h:it f p d=d)(n:Nat):it f n d=it f (n % p) d:=by
 have h1:n=n % p+n / p*p:=by have:=Nat.mod_add_div n p;rw[aBI]at this;omega
 conv=>lhs;rw[h1,mN,Ua h]
end Eu
namespace Pl
def sw(c:List Int)(a b:Nat):List Int:=(c.set a (c.getD b 0)).set b (c.getD a 0)
theorem xF(c:List Int)(a b:Nat):(sw c a b).length=c.length:=by simp[sw]
theorem bZ(c:List Int)(a b j:Nat)(ha:a<c.length)(hb:b<c.length):(sw c a b).getD j 0=if j=b then c.getD a 0 else if j=a then c.getD b 0 else c.getD j 0:=by
 unfold sw;simp only[aAc,aDd];by_cases h1:b=j
 .subst h1;simp[hb]
 .by_cases h2:a=j
  .subst h2;simp[h1,ha,aDi h1]
  .simp[h1,h2,aDi h1,aDi h2]
theorem RU(c:List Int)(a b:Nat)(ha:a<c.length)(hb:b<c.length):(sw c a b).Perm c:=by unfold sw;have h:=List.set_set_perm ha hb;simp only[aAc,aAd ha,aAd hb,Option.getD_some];exact h
inductive Pm(a b:Nat)(l:List Int):List Int->Prop
 |refl:Pm a b l l
 |step {m:List Int} (h:Pm a b l m) (x y:Nat) (hx:a<=x) (Zn:x<b) (hy:a<=y) (O4:y<b) (hb:b<=l.length):Pm a b l (sw m x y)
theorem Pm.len{a b:Nat}{l m:List Int}(h:Pm a b l m):m.length=l.length:=by
 induction h with
 |refl=>rfl
 |step h x y _ _ _ _ _ ih=>rw[xF];exact ih
theorem Pm.out{a b:Nat}{l m:List Int}(h:Pm a b l m)(j:Nat)(hj:j<a\/b<=j):m.getD j 0=l.getD j 0:=by
 induction h with
 |refl=>rfl
 |step h x y h1 h2 h3 h4 h5 ih=>have:=h.len;rw[bZ _ _ _ _ oO oO,aAa oO,aAa oO];exact ih
theorem Pm.trans{a b:Nat}{l m n:List Int}(h:Pm a b l m)(k:Pm a b m n):Pm a b l n:=by
 induction k with
 |refl=>exact h
 |step k x y h1 h2 h3 h4 h5 ih=>have:=h.len;exact ih.step x y h1 h2 h3 h4 oO
theorem Pm.wide{a b a' b':Nat}{l m:List Int}(h:Pm a b l m)(ha:a'<=a)(hb:b<=b')(hl:b'<=l.length):Pm a' b' l m:=by
 induction h with
 |refl=>exact .refl
 |step k x y h1 h2 h3 h4 h5 ih=>exact ih.step x y oO oO oO oO hl
theorem Pm.perm{a b:Nat}{l m:List Int}(h:Pm a b l m):m.Perm l:=by
 induction h with
 |refl=>exact .refl _
 |step k x y h1 h2 h3 h4 h5 ih=>have:=k.len;exact(RU _ _ _ oO oO).trans ih
theorem Pm.all{a b:Nat}{l m:List Int}(h:Pm a b l m)(P:Int->Prop)(hP:∀ j,a<=j->j<b->P (l.getD j 0))(j:Nat)(h1:a<=j)(h2:j<b):P (m.getD j 0):=by
 induction h generalizing j with
 |refl=>exact hP j h1 h2
 |step k x y g1 g2 g3 g4 g5 ih=>
  have:=k.len;rw[bZ _ _ _ _ oO oO];by_cases e1:j=y
  .rw[aAe e1];exact ih x g1 g2
  .rw[aAa e1];by_cases e2:j=x
   .rw[aAe e2];exact ih y g3 g4
   .rw[aAa e2];exact ih j h1 h2
theorem Pm.one{a b:Nat}{l:List Int}(x y:Nat)(hx:a<=x)(Zn:x<b)(hy:a<=y)(O4:y<b)(hb:b<=l.length):Pm a b l (sw l x y):=Pm.refl.step x y hx Zn hy O4 hb
def Srt(a b:Nat)(l:List Int):Prop:=∀ p q,a<=p->p<q->q<b->l.getD p 0<=l.getD q 0
def Ins(a j i:Nat)(d:List Int):Prop:=∀ p q,a<=p->p<q->q<=i->q≠j->d.getD p 0<=d.getD q 0
theorem Srt.ins{a i:Nat}{d:List Int}(h:Srt a i d):Ins a i i d:=fun p q h1 h2 h3 h4=>h p q h1 h2 oO
theorem Ins.step{a j i:Nat}{d:List Int}(h:Ins a j i d)(hj:a<j)(hi:j<=i)(hil:i<d.length)(GD:d.getD j 0<d.getD (j-1) 0):Ins a (j-1) i (sw d j (j-1)):=by
 intro p q h1 h2 h3 h4;rw[bZ _ _ _ _ oO oO,bZ _ _ _ _ oO oO];by_cases e1:q=j
 .rw[aAa h4,aAe e1];by_cases e2:p=j-1
  .rw[aAe e2];omega
  .rw[aAa e2,aAa oO];exact h p (j-1) h1 oO oO oO
 .rw[aAa h4,aAa e1];by_cases e2:p=j-1
  .rw[aAe e2];exact h j q oO oO h3 e1
  .rw[aAa e2];by_cases e3:p=j
   .rw[aAe e3];exact h (j-1) q oO oO h3 e1
   .rw[aAa e3];exact h p q h1 h2 h3 e1
theorem Ins.done{a j i:Nat}{d:List Int}(h:Ins a j i d)(hj:a<=j)(hs:j=a\/¬d.getD j 0<d.getD (j-1) 0):Srt a (i+1) d:=by
 intro p q h1 h2 h3;by_cases e:q=j
 .subst e;have h5:¬d.getD q 0<d.getD (q-1) 0:=by rcases hs with hs|hs;omega;exact hs
  by_cases e2:p=q-1
  .subst e2;omega
  .have:=h p (q-1) h1 oO oO oO;omega
 .exact h p q h1 h2 oO e
def mV(lo hi f:Nat)(d:List Int):Prop:=∀ k c,lo<=k->(c=2*k+1\/c=2*k+2)->c<hi->d.getD (f+c) 0<=d.getD (f+k) 0
def rV(lo hi f r:Nat)(d:List Int):Prop:=(∀ k c,lo<=k->k≠r->(c=2*k+1\/c=2*k+2)->c<hi->d.getD (f+c) 0<=d.getD (f+k) 0)/\
 (∀ k c,lo<=k->(r=2*k+1\/r=2*k+2)->(c=2*r+1\/c=2*r+2)->c<hi->d.getD (f+c) 0<=d.getD (f+k) 0)
theorem mV.x{lo hi f:Nat}{d:List Int}(h:mV (lo+1) hi f d):rV lo hi f lo d:=
 ⟨fun k c h1 h2 h3 h4=>h k c oO h3 h4,fun k c h1 h2 h3 h4=>by omega⟩
theorem rV.leaf{lo hi f r:Nat}{d:List Int}(h:rV lo hi f r d)(hr:hi<=2*r+1):mV lo hi f d:=by intro k c h1 h2 h3;exact h.1 k c h1 oO h2 h3
theorem rV.big{lo hi f r:Nat}{d:List Int}(h:rV lo hi f r d)(hr:∀ c,(c=2*r+1\/c=2*r+2)->c<hi->d.getD (f+c) 0<=d.getD (f+r) 0):mV lo hi f d:=by
 intro k c h1 h2 h3;by_cases e:k=r
 .subst e;exact hr c h2 h3
 .exact h.1 k c h1 e h2 h3
theorem rV.step{lo hi f r c:Nat}{d:List Int}(h:rV lo hi f r d)(C1:lo<=r)(hc:c=2*r+1\/c=2*r+2)(hci:c<hi)(hl:f+hi<=d.length)(hm:∀ x,(x=2*r+1\/x=2*r+2)->x<hi->d.getD (f+x) 0<=d.getD (f+c) 0)
 (GD:d.getD (f+r) 0<d.getD (f+c) 0):rV lo hi f c (sw d (f+r) (f+c)):=by
 constructor
 .intro k x h1 h2 h3 h4;rw[bZ _ _ _ _ oO oO,bZ _ _ _ _ oO oO];by_cases e1:k=r
  .subst e1;rw[aAa (show ¬f+k=f+c by omega),aAe (rfl:f+k=f+k)];by_cases e2:x=c
   .rw[aAe oO];omega
   .rw[aAa oO,aAa oO];exact hm x h3 h4
  .rw[aAa (show ¬f+k=f+c by omega),aAa (show ¬f+k=f+r by omega)];by_cases e2:x=r
   .subst e2;rw[aAa oO,aAe (rfl:f+x=f+x)];exact h.2 k c h1 h3 hc hci
   .rw[aAa oO,aAa oO];exact h.1 k x h1 e1 h3 h4
 .intro k x h1 h2 h3 h4;have e1:k=r:=oO;subst e1;rw[bZ _ _ _ _ oO oO,bZ _ _ _ _ oO oO];rw[aAa oO,aAa oO,aAa (show ¬f+k=f+c by omega),aAe (rfl:f+k=f+k)];exact h.1 c x oO oO h3 h4
theorem mV.top{hi f:Nat}{d:List Int}(h:mV 0 hi f d):∀ c,c<hi->d.getD (f+c) 0<=d.getD f 0:=by
 intro c;induction c using Nat.strongRecOn with
 |ind c ih=>
  intro hc;by_cases h0:c=0
  .subst h0;simp
  .have h1:=h ((c-1) / 2) c oO oO hc;have h2:=ih ((c-1) / 2) oO oO;omega
theorem mV.pop{j f:Nat}{c:List Int}(h:mV 0 (j+1) f c)(hl:f+j<c.length):mV 1 j f (sw c f (f+j)):=by intro k x h1 h2 h3;rw[bZ _ _ _ _ oO oO,bZ _ _ _ _ oO oO];rw[aAa oO,aAa oO,aAa oO,aAa oO];exact h k x oO h2 oO
theorem Db{hi f j:Nat}{c c2:List Int}(hH:mV 0 (j+1) f c)(ho:∀ p q,p<q->j+1<=q->q<hi->c.getD (f+p) 0<=c.getD (f+q) 0)(hj:j<hi)(hl:f+hi<=c.length)(hp:Pm f (f+j) (sw c f (f+j)) c2):
 ∀ p q,p<q->j<=q->q<hi->c2.getD (f+p) 0<=c2.getD (f+q) 0:=by
 intro p q h1 h2 h3;have g:=fun x=>bZ c f (f+j) x oO oO;rw[hp.out (f+q) oO,g (f+q)];by_cases e:q=j
 .subst e;rw[aAe rfl];refine hp.all (fun x=>x<=c.getD f 0) (fun x h4 h5=>?_) (f+p) oO oO;rw[g,aAa oO];by_cases e2:x=f
  .rw[aAe e2];exact hH.top q oO
  .rw[aAa e2];have:=hH.top (x-f) oO
   rwa [show f+(x-f)=x by omega]at this
 .rw[aAa oO,aAa oO];by_cases e2:p<j
  .refine hp.all (fun x=>x<=c.getD (f+q) 0) (fun x h4 h5=>?_) (f+p) oO oO;rw[g,aAa oO];by_cases e3:x=f
   .rw[aAe e3];exact ho j q oO oO h3
   .rw[aAa e3];have:=ho (x-f) q oO oO h3
    rwa [show f+(x-f)=x by omega]at this
  .rw[hp.out (f+p) oO,g];by_cases e3:p=j
   .rw[aAe oO];have:=ho 0 q oO oO h3
    rwa [Nat.add_zero]at this
   .rw[aAa oO,aAa oO];exact ho p q h1 oO h3
theorem NV{a m b:Nat}{d:List Int}(h1:Srt a m d)(h2:Srt (m+1) b d)(h3:∀ p,a<=p->p<m->d.getD p 0<=d.getD m 0)(h4:∀ q,m<q->q<b->d.getD m 0<=d.getD q 0):Srt a b d:=by
 intro p q k1 k2 k3;rcases aCx p m with e|e|e
 .rcases aCx q m with e'|e'|e'
  .exact h1 p q k1 k2 e'
  .subst e';exact h3 p k1 e
  .have:=h3 p k1 e;have:=h4 q e' k3;omega
 .subst e;exact h4 q k2 k3
 .exact h2 p q oO k2 k3
def Lo(P:Int->Bool)(c:List Int)(a m:Nat):Prop:=∀ p,a<p->p<m->P (c.getD p 0)=true
def Hi(P:Int->Bool)(c:List Int)(m b:Nat):Prop:=∀ p,m<p->p<b->P (c.getD p 0)=false
theorem Lo.more{P:Int->Bool}{c:List Int}{a m:Nat}(h:Lo P c a m)(hm:P (c.getD m 0)=true):Lo P c a (m+1):=by
 intro p h1 h2;by_cases e:p=m
 .rw[e];exact hm
 .exact h p h1 oO
theorem Hi.more{P:Int->Bool}{c:List Int}{m b:Nat}(h:Hi P c m b)(h0:0<m)(hm:P (c.getD m 0)=false):Hi P c (m-1) b:=by
 intro p h1 h2;by_cases e:p=m
 .rw[e];exact hm
 .exact h p oO h2
theorem Lo.swp{P:Int->Bool}{c:List Int}{a k m:Nat}(h:Lo P c a k)(hkm:k<m)(hm:m<c.length)(hp:P (c.getD m 0)=true):Lo P (sw c k m) a (k+1):=by
 intro p h1 h2;rw[bZ _ _ _ _ oO oO,aAa oO];by_cases e:p=k
 .rw[aAe e];exact hp
 .rw[aAa e];exact h p h1 oO
theorem Hi.swp{P:Int->Bool}{c:List Int}{k m b:Nat}(h:Hi P c m b)(hkm:k<m)(hm:m<c.length)(hp:P (c.getD k 0)=false):Hi P (sw c k m) (m-1) b:=by
 intro p h1 h2;rw[bZ _ _ _ _ oO oO];by_cases e:p=m
 .rw[aAe e];exact hp
 .rw[aAa e,aAa oO];exact h p oO h2
def OE(P:Int->Bool)(c:List Int)(a m b:Nat):Prop:=(∀ p,a<=p->p<m->P (c.getD p 0)=true)/\(∀ p,m<p->p<b->P (c.getD p 0)=false)
def uE(c:List Int)(a m b:Nat)(x:Int):Prop:=(∀ p,a<=p->p<m->c.getD p 0<=x)/\(∀ p,m<=p->p<b->x<c.getD p 0)
def cD(c:List Int)(a m b:Nat):Prop:=OE (fun v=>decide (v<c.getD m 0)) c a m b
theorem lN{P:Int->Bool}{c:List Int}{a m b:Nat}(h1:Lo P c a (m+1))(h2:Hi P c m b)(ham:a<=m)(Zf:m<b)(hb:b<=c.length):OE P (sw c m a) a m b/\(sw c m a).getD m 0=c.getD a 0:=by
 refine⟨⟨fun p k1 k2=>?_,fun p k1 k2=>?_⟩,?_⟩
 .rw[bZ _ _ _ _ oO oO];by_cases e:p=a
  .rw[aAe e];exact h1 m oO oO
  .rw[aAa e,aAa oO];exact h1 p oO oO
 .rw[bZ _ _ _ _ oO oO,aAa oO,aAa oO];exact h2 p k1 k2
 .rw[bZ _ _ _ _ oO oO];by_cases e:m=a
  .rw[aAe e,e]
  .rw[aAa e,aAe rfl]
theorem HR{l:List Int}(h:Srt 0 l.length l):l.Pairwise (·<=·):=by
 refine aAJ.2 fun p q hp hq B6=>?_;have:=h p q oO B6 hq
 rwa [aAc,aAc,aAd hp,aAd hq]at this
theorem As{l m:List Int}(h:l.Pairwise (·<=·))(k:m.Pairwise (·<=·))(hp:l.Perm m):l=m:=
 hp.eq_of_pairwise (fun a b _ _ h1 h2=>by omega) h k
end Pl
namespace Rg
open Go Go.RowKit Go.Shelf
attribute [local go_sem] Oper.semAt_some
def upto(zs:List Int)(k:Nat):List Int:=(List.range k).map fun j=>zs[j]?.getD 0
theorem DH(zs:List Int)(k:Nat):upto zs (k+1)=upto zs k++[zs[k]?.getD 0]:=by simp[upto,aEn]
theorem HV(zs:List Int)(k:Nat):(upto zs k).length=k:=by simp[upto]
theorem PB(zs:List Int):upto zs zs.length=zs:=by
 apply aEg
 .simp[upto]
 .intro i h1 h2;simp[upto,h2]
set_option maxRecDepth 100000 in
theorem JV(F:Fence)(n:Nat)(h7:F.fn 140)(o6:F.round=none)(hn:1<=n)(l Bs A4 b off len cap:Nat)(zs:List Int)(hlen:len<=1048576)(hb:b<A4)(J Jx:List Int->World->Prop)
 (hY:∀ pre x W,J pre W->pre.length<len->YieldAt F (n-1) prog l #[.int .u32 x] W fun e W'=>
   (e=.returned (.bool true)/\J (pre++[x]) W'/\Below A4 W W')\/(e=.returned (.bool false)/\Jx (pre++[x]) W'))
 (W:World) (hBs:W.cell? ⟨Bs,0,none⟩=some (.slice (some ⟨b,off,none⟩) len cap)) (hc:∀ j,j<len->W.cell? ⟨b,off+j,none⟩=some (.int .u32 (zs[j]?.getD 0))) (h0:J [] W):
 CallsIn F n prog 140 #[.func (.yield l) #[] #[],.pointer (some ⟨Bs,0,none⟩)] W fun e W'=>(∃ v,e=.returned v)/\
  ((∃ ys,ys=upto zs len/\J ys W')\/(∃ pre,(∃ k,k<=len/\pre=upto zs k)/\Jx pre W')):=by
 refine callsIn_of_wp func140 rfl h7 ?_ o6;simp only[ntmps140,aBc,List.length_cons,List.length_nil,Nat.reduceAdd,Nat.reduceSub,aBF,Array.replicate_zero,aBQ,aBK,List.nil_append,List.cons_append]
 gi_wp2
 gi_loopw [7] (fun i wr=>∃ k:Nat,k<=len/\i=.int .i64 k/\J (upto zs k) wr/\Below A4 W wr)
  (fun i _=>len-(intOf i).toNat)
 case atStart=>exact⟨0,aBs _,rfl,h0,Below.refl _ _⟩
 case round=>
  obtain⟨k,hk,rfl,hJs,YN⟩:=hrel;have hcx:k<len->wr.cell? ⟨b,off+k,none⟩=some (.int .u32 (zs[k]?.getD 0)):=fun h=>(YN.cell (p:=⟨b,off+k,none⟩) hb).trans (hc k h);by_cases GD:k<len
  .obtain⟨fn,tmps,assign,body,hy,hR⟩:=hY _ (zs[k]?.getD 0) wr hJs (by rw[HV];exact GD);have hcx':=hcx GD
   gi_wp2
   refine hR.mono ?_;rintro e W3 (⟨rfl,hJ3,Xv⟩|⟨rfl,hJx3⟩)
   .gi_wp2
    go_roundw
    case rel=>exact⟨k+1,oO,sS,by rw[DH];exact hJ3,YN.trans Xv⟩
    case measure=>simp[intOf];omega
   .gi_wp2
    refine bodyPost_ret (results_none rfl _ _ _) rfl ?_;exact⟨⟨_,rfl⟩,.inr ⟨_,⟨k+1,oO,(DH _ _).symm⟩,hJx3⟩⟩
  .obtain rfl:k=len:=oO
   gi_wp2
   go_end0
   exact⟨⟨_,rfl⟩,.inl ⟨_,rfl,hJs⟩⟩
set_option maxRecDepth 100000 in
theorem Bc(F:Fence)(n:Nat)(h7:F.fn 140)(o6:F.round=none)(l Bs:Nat)(J:List Int->World->Prop)(W:World)(A:Option Addr)(cap:Nat)(hBs:W.cell? ⟨Bs,0,none⟩=some (.slice A 0 cap))(h0:J [] W):
 CallsIn F n prog 140 #[.func (.yield l) #[] #[],.pointer (some ⟨Bs,0,none⟩)] W fun e W'=>(∃ v,e=.returned v)/\J [] W':=by
 refine callsIn_of_wp func140 rfl h7 ?_ o6;simp only[ntmps140,aBc,List.length_cons,List.length_nil,Nat.reduceAdd,Nat.reduceSub,aBF,Array.replicate_zero,aBQ,aBK,List.nil_append,List.cons_append]
 gi_wp2
 gi_loopw [7] (fun i wr=>i=.int .i64 0/\J [] wr) (fun _ _=>0)
 case atStart=>exact⟨rfl,h0⟩
 case round=>
  obtain⟨rfl,hJs⟩:=hrel
  gi_wp2
  go_end0
  exact⟨⟨_,rfl⟩,hJs⟩
def IG(A4:Nat)(W:World)(sv:Value)(zs:List Int):Prop:=
 (zs=[]/\∃ A cap,sv=.slice A 0 cap)\/∃ b off cap,sv=.slice (some ⟨b,off,none⟩) zs.length cap/\b<A4/\∀ j,j<zs.length->W.cell? ⟨b,off+j,none⟩=some (.int .u32 (zs[j]?.getD 0))
theorem IG.below{A4:Nat}{A B:World}(h:Below A4 A B){sv:Value}{zs:List Int}:IG A4 A sv zs->IG A4 B sv zs
 |.inl e=>.inl e
 |.inr ⟨b,off,cap,e,hb,hc⟩=>.inr ⟨b,off,cap,e,hb,fun j hj=>(h.cell (p:=⟨b,off+j,none⟩) hb).trans (hc j hj)⟩
theorem EL(F:Fence)(n:Nat)(h7:F.fn 140)(o6:F.round=none)(hn:1<=n)(Bs A4:Nat)(sv:Value)(zs:List Int)(hlen:zs.length<=1048576)(w:World)(hBs:Bs<w.heap.size)(hn₀:A4<=w.heap.size)
 (hc:w.cell? ⟨Bs,0,none⟩=some sv) (hI:IG A4 w sv zs):
 SeqStopsK F n prog 140 #[.pointer (some ⟨Bs,0,none⟩)] (fun x:Int=>#[Value.int .u32 x]) (Below A4) (fun ys=>ys=zs) (fun _=>True) zs.length w:=fun l J Jx W hW _ _ hY h0=>by
 have C8:=(hW.cell (p:=⟨Bs,0,none⟩) hBs).trans hc;rcases hI.below (hW.mono hn₀)with⟨rfl,A,cap,rfl⟩|⟨b,off,cap,rfl,hb,ZC⟩
 .exact(Bc F n h7 o6 l Bs J W A cap C8 h0).mono fun e W' ⟨he,hj⟩=>⟨he,.inl ⟨_,rfl,hj⟩⟩
 .refine(JV F n h7 o6 hn l Bs A4 b off zs.length cap zs hlen hb J Jx hY W C8 ZC h0).mono ?_;rintro e W' ⟨he,⟨ys,rfl,hj⟩|⟨pre,⟨k,hk,rfl⟩,hj⟩⟩
  .exact⟨he,.inl ⟨_,PB zs,hj⟩⟩
  .exact⟨he,.inr ⟨_,trivial,hj⟩⟩
theorem NW:(prog.info? 34).map (fun i=>(i.zero,i.size,i.bytes))=some (some (.int .u32 0),1,4):=by kernel_rfl
set_option maxRecDepth 100000 in
theorem Ea(F:Fence)(n:Nat)(h3:F.fn 121)(h7:F.fn 140)(o6:F.round=none)(hn:3<=n)(Bs:Nat)(sv:Value)(zs:List Int)(hlen:zs.length<=1048576)(w:World)(hBs:Bs<w.heap.size)
 (hc:w.cell? ⟨Bs,0,none⟩=some sv) (hI:IG w.heap.size w sv zs):
 CallsIn F n prog 121 #[.slice none 0 0,.func (.func 140) #[] #[.pointer (some ⟨Bs,0,none⟩)]] w fun e W'=>∃ v,e=.returned v/\W'.ownsRow w.heap.size 34 1 v zs.length (zs.map (Value.int .u32))/\Below w.heap.size w W':=by
 have h1:1<=n:=oO;obtain⟨i0,hi,I2,hz1,hz2⟩:=info_parts NW;refine callsIn_of_wp_marks func121 rfl h3 ?_ o6;simp only[ntmps121,aBc,List.length_cons,List.length_nil,Nat.reduceAdd,Nat.reduceSub,aBF,Array.replicate_zero,aBQ,aBK,List.nil_append,List.cons_append]
 gi_wp2
 have bO:=Boxed.new w 22 (.slice none 0 0);have L3:Below w.heap.size w (w.alloc (.cells #[.slice none 0 0] 22)):=(Below.refl _ w).alloc (aAk _) _
 refine wpIn_rangeFunc_ownG o6 h1 (gf:=140) (lb:=#[.pointer (some ⟨Bs,0,none⟩)]) rfl h7 (enters_of func140 (by kernel_rfl) rfl)
  (EL F (n-1) h7 o6 oO Bs w.heap.size sv zs hlen _ (by simp;omega) sS ((L3.cell (p:=⟨Bs,0,none⟩) hBs).trans hc) (hI.below L3)) belowK_t (belowK_b sS) (Below.refl _ _) (fun _=>rfl)
  (fun pre W=>(∃ v,Boxed W w.heap.size 22 v/\W.ownsRow w.heap.size 34 1 v pre.length (pre.map (Value.int .u32))/\True)/\Below w.heap.size w W)
  (fun _ _ _=>False)
  (OwnFrom.and (Own.from (holdsRow_own w.heap.size w.heap.size 22 34 1 (fun pre:List Int=>pre.length) (fun pre:List Int=>pre.map (Value.int .u32)) (fun _ _=>True)) _) (ownFrom_below (aAk _) sS))
  (fun _ _ _ _ _ hs _ _=>hs)
  ⟨⟨_,bO,World.ownsRow_nil _ _ _ _,trivial⟩,L3⟩
  (fun x=>{ tmps:=#[.slice none 0 0,.func (.func 140) #[] #[.pointer (some ⟨Bs,0,none⟩)],.pointer (some ⟨w.heap.size,0,none⟩),undef,.slice none 0 0,.int .u32 x,.func (.func 140) #[] #[.pointer (some ⟨Bs,0,none⟩)],.int .u32 x,undef,undef,undef,undef,undef],defers:=[] }) ?assign ?body ?done ?stop
 case assign=>
  intro l x W K hK
  gi_wp2
  exact hK
 case body=>
  rintro l pre x W ⟨⟨v,hv,RN,_⟩,hB⟩ GD;have hc:=hv.cell
  gi_wp2_with (gi_at_builtin;refine wpListIn_append_own _ rfl _ _ 22 rfl w.heap.size 34 i0 (.int .u32 0) 1 4 underlying22 hi I2 hz1 hz2 rfl (by decide) _ _ _ rfl (RN.alloc _) ⟨W.heap.size,0,none⟩ 1 1 [.int .u32 x] rfl rfl (cell_one_new _ _ _) (by simp[Value.oneCell']) (by simp only[maxLen];omega) oO (by have:=hB.size;simp;omega) ?_;intro v' w1 E3 c7 _;obtain⟨g',cap',rfl⟩:=ownsRow_succ E3;obtain⟨F5,hv2,V4,Xq,u7⟩:=hv.appended (by decide) RN hB.size (aAk _) E3 c7;have ZK:=F5.cell;have hf1:=F5.frozen)
  exact⟨Xq.from _,u7,⟨_,hv2,by simpa using V4,trivial⟩,hB.trans u7⟩
 case done=>
  rintro D ys W hD rfl ⟨⟨v,hv,RN,_⟩,hB⟩ hK;have hc:=hv.cell
  gi_wp2
  refine⟨sS,.inl ⟨_,_,rfl,run_takeDeferred hK,?_⟩⟩;exact⟨_,results_tmp rfl _ _ _,v,rfl,ownsRow_putObj RN _ hK rfl,hB.trans (belowK_b (w:=w) (aAk _) W D _ _ (by simp at hD;omega) hK rfl rfl)⟩
 case stop=>
  rintro D c pre W _ _ h _;exact h.elim
set_option maxRecDepth 100000 in
theorem It(F:Fence)(n:Nat)(h2:F.fn 78)(h3:F.fn 121)(h7:F.fn 140)(o6:F.round=none)(hn:4<=n)(Bs:Nat)(sv:Value)(zs:List Int)(hlen:zs.length<=1048576)(w:World)(hBs:Bs<w.heap.size)
 (hc:w.cell? ⟨Bs,0,none⟩=some sv) (hI:IG w.heap.size w sv zs):
 CallsIn F n prog 78 #[.func (.func 140) #[] #[.pointer (some ⟨Bs,0,none⟩)]] w fun e W'=>∃ v,e=.returned v/\W'.ownsRow w.heap.size 34 1 v zs.length (zs.map (Value.int .u32))/\Below w.heap.size w W':=by
 have h1:1<=n:=oO;refine callsIn_of_wp func78 rfl h2 ?_ o6;simp only[ntmps78,aBc,List.length_cons,List.length_nil,Nat.reduceAdd,Nat.reduceSub,aBF,Array.replicate_zero,aBQ,aBK,List.nil_append,List.cons_append]
 gi_wp2_with (gi_at_call 121;refine(Ea F (n-1) h3 h7 o6 oO Bs sv zs hlen _ hBs hc hI).mono ?_;rintro e w' ⟨v,rfl,RN,H8⟩)
 go_ret
 exact⟨v,rfl,RN,H8⟩
end Rg
namespace Aw
open Go Go.RowKit
def tw(d:Int):Int:=if d % 2=0 then d+1 else d-1
theorem wrap_u32(n:Int):IntKind.u32.wrap n=n % 4294967296:=by simp[IntKind.wrap,IntKind.signed,IntKind.bits]
theorem wrap_i64(n:Int)(h1 : -9223372036854775808<=n)(h2:n<=9223372036854775807):IntKind.i64.wrap n=n:=by
 simp only[IntKind.wrap,IntKind.signed,IntKind.bits];simp
 split<;>omega
theorem RZ(a:Int)(e:Int)(h0:0<=a)(h1:a<4294967296)(ha:a % 2=0)(he:e=0\/e=1):gor .u32 a e=a+e:=by
 unfold gor IntKind.bits;obtain⟨n,rfl⟩:=aCQ h0;rw[wrap_u32,BitVec.toNat_or];have e1:(BitVec.ofInt 32 (n:Int)).toNat=n:=by rw[BitVec.ofInt_natCast,aCV];exact aAM oO
 rw[e1];rcases he with rfl|rfl
 .simp;omega
 .have e2:(BitVec.ofInt 32 1).toNat=1:=by decide
  have:n ||| 1=n+1:=by
   apply aBW;intro j;cases j with
   |zero=>simp;omega
   |succ j=>rw[Nat.testBit_or];simp[aCk];congr 1;omega
  rw[e2,this];omega
theorem Sf(e:Int):xE .i64 e 1=e % 2:=by
 show IntKind.i64.wrap ((BitVec.ofInt 64 e &&& BitVec.ofInt 64 1).toNat:Int)=_;have e2:(BitVec.ofInt 64 1).toNat=1:=by decide
 rw[BitVec.toNat_and,e2,Nat.and_one_is_mod,wrap_i64 _ oO oO,BitVec.toNat_ofInt];omega
theorem Rx(a:Int):EO .u32 a 1=a*2 % 4294967296:=by unfold EO;rw[wrap_u32];rfl
theorem Of(id e:Int)(st:St):
 aB prog 32 [u id,i e] st fun r st'=>r=u (id*2 % 4294967296+e % 2)/\st'=st:=by
 refine zN func32 ntmps32 [.tmp 4] ?_
 (repeat' (first|apply qS|(refine qR (zZ ?_);simp[])|(refine zE ?_;intro J hJ;simp[];refine zJ hJ ?_)))
 rw[Rx,Sf,wrap_u32,RZ _ _ oO oO oO oO];omega
end Aw
namespace Aw
open Go Go.RowKit Pl
theorem qN(k:Nat)(h:k<9223372036854775807):IntKind.i64.wrap ((k:Int)+1)=((k+1:Nat):Int):=by rw[wrap_i64 _ oO oO];omega
theorem jS(l:List Int)(k:Nat)(hk:k<l.length):(us l).drop k=u l[k]::us (l.drop (k+1)):=by rw[us,<- aCi,aAO hk];rfl
theorem qG(l:List Int)(k:Nat)(hk:k<l.length):(us l).drop k=u (l.getD k 0)::us (l.drop (k+1)):=by rw[jS l k hk];simp[hk]
theorem Eb{l:List Int}{d:Int}(h:d∈l):gi l d=((l.idxOf d:Nat):Int):=by unfold gi;rw[aAe h]
theorem Og{l:List Int}{d:Int}(h:¬d∈l):gi l d = -1:=by unfold gi;rw[aAa h]
theorem bG(l:List Int)(j:Nat)(hj:j<l.length):l.getD j 0=l[j]:=by rw[aAc,aAd hj];rfl
theorem St.ext'{a b:St}(h:a.next=b.next)(k:∀ x,a.H x=b.H x):a=b:=by cases a;cases b;simp only at h k;subst h;congr;funext x;exact k x
def small(l:List Int):Prop:=l.length<=1048576
theorem Index(l:List Int)(t:Nat)(x:Int)(st:St)(hl:small l):
 aB prog 90 [.sl t l.length (us l),u x] st fun r st'=>r=i (gi l x)/\st'=st:=by
 unfold small at hl;refine zN func90 ntmps90 [.tmp 4] ?_
 (repeat' (first|apply qS|apply qB|(refine zE ?_;intro J hJ;simp[];refine zJ hJ ?_)))
 refine qL (fun n fr st'=>∃ k:Nat,k<=l.length/\n=l.length-k/\fr 0=.sl t l.length (us l)/\fr 1=u x/\fr 7=i l.length/\fr 8=i k/\st'=st/\∀ j (hj:j<l.length),j<k->l[j]≠x) l.length ?_ ?_
 .exact⟨0,oO,oO,sS,sS,sS,sS,rfl,fun j _ h=>by omega⟩
 rintro n fr st' ⟨k,hk,rfl,h0,h1,h7,h8,rfl,YD⟩ JJ hJJ;by_cases GD:k<l.length
 .have hd:=jS l k GD;have hw:=qN k oO
  (repeat' (first|apply qS|apply qB|refine qK (zZ ?_)|(refine qR (zZ ?_);simp[h0,h1,h7,h8,GD,hd,hw])|(apply qC;simp[h0,h1,h7,h8,GD,hd,hw];(try with_reducible refine⟨?_,?_⟩)<;>(try with_reducible intro hc))|(refine zE ?_;intro J hJ;simp[h0,h1,h7,h8,GD,hd,hw];refine zJ hJ ?_)))
  .exact(RH GD hc.symm (fun j hj=>YD j oO hj)).symm
  .refine hJJ _ _ _ ?_ ⟨k+1,oO,rfl,by simp[h0],by simp[h1],by simp[h7],sS,rfl,fun j hj K8=>?_⟩
   .omega
   .rcases aAN j k with h|h
    .exact YD j hj h
    .obtain rfl:j=k:=oO;exact fun h=>hc h.symm
 ·(repeat' (first|apply qS|refine qX (zZ ?_)|(refine qR (zZ ?_);simp[h0,h1,h7,h8,GD])|(apply qC;simp[h0,h1,h7,h8,GD])|(refine zE ?_;intro J hJ;simp[h0,h1,h7,h8,GD];refine zJ hJ ?_)))
  exact(Qf (fun j hj=>YD j hj oO)).symm
theorem Qv(l:List Int)(h:0<l.length):hdL (us l)=u l[0]:=by
 cases l with
 |nil=>simp at h
 |cons a l=>rfl
theorem Min(l:List Int)(t:Nat)(st:St)(hl:small l)(h0:l≠[]):
 aB prog 81 [.sl t l.length (us l)] st fun r st'=>r=u (mn l)/\st'=st:=by
 unfold small at hl;have ZA:0<l.length:=aBb.2 h0;have hd0:=Qv l ZA;refine zN func81 ntmps81 [.tmp 2] ?_
 (repeat' (first|apply qS|apply qB|refine qK (zZ ?_)|(apply qC;simp[ZA,hd0];(try with_reducible refine⟨?_,?_⟩)<;>(try with_reducible intro hc)<;>try (exfalso;omega))|(refine zE ?_;intro J hJ;simp[ZA,hd0];refine zJ hJ ?_)))
 refine qL (fun n fr st'=>∃ k:Nat,0<k/\k<=l.length/\n=l.length-k/\fr 0=.sl t l.length (us l)/\fr 4=i k/\fr 3=u (mn (l.take k))/\st'=st) (l.length-1) ?_ ?_
 .refine⟨1,oO,oO,oO,sS,sS,?_,rfl⟩;cases l with
  |nil=>simp at ZA
  |cons a l=>simp[mn]
 rintro n fr st' ⟨k,Ye,hk,rfl,S6,h4,h3,rfl⟩ JJ hJJ;by_cases GD:k<l.length
 .have hd:=jS l k GD;have hw:=qN k oO
  (repeat' (first|apply qS|apply qB|refine qK (zZ ?_)|(apply qC;simp[S6,h3,h4,GD,hd,hw])|(refine zE ?_;intro J hJ;simp[S6,h3,h4,GD,hd,hw];refine zJ hJ ?_)))
  refine hJJ _ _ _ ?_ ⟨k+1,oO,oO,rfl,by simp[S6],sS,by simp[Rr l k Ye GD],rfl⟩;omega
 ·(repeat' (first|apply qS|refine qX (zZ ?_)|(refine qR (zZ ?_);simp[S6,h3,h4,GD])|(apply qC;simp[S6,h3,h4,GD])|(refine zE ?_;intro J hJ;simp[S6,h3,h4,GD];refine zJ hJ ?_)))
  rw[aAv oO]
theorem wrap_small(n:Int)(h0:0<=n)(h1:n<=9223372036854775807):IntKind.i64.wrap n=n:=wrap_i64 n oO h1
theorem XA(n:Int)(st:St)(h0:0<=n)(h1:n<=4194304):
 aB prog 197 [.nil,i n] st fun r st'=>∃ l cs,r=.ms l 0 0/\st.next<=l/\st'.H l=.box 34 1 cs/\aA st st':=by
 have hw:=wrap_small n h0 oO;have K5:IntKind.i64.wrap 0=0:=by decide
 refine jD 34 1 ?_;refine zN func197 ntmps197 [.tmp 4] ?_;by_cases hp:0<n
 ·(repeat' (first|apply qS|refine qK (zZ ?_)|(refine qR (zZ ?_);simp[hw,K5,hp])|(apply qC;simp[hw,K5,hp];(try with_reducible refine⟨?_,?_⟩)<;>(try with_reducible intro hc)<;>try (exfalso;omega))|(refine zE ?_;intro J hJ;simp[hw,K5,hp];(repeat refine ca ?_);refine zJ hJ ?_)))
  exact aA.new _ _
 ·(repeat' (first|apply qS|refine qK (zZ ?_)|(refine qR (zZ ?_);simp[hw,K5,hp])|(apply qC;simp[hw,K5,hp];(try with_reducible refine⟨?_,?_⟩)<;>(try with_reducible intro hc)<;>try (exfalso;omega))|(refine zE ?_;intro J hJ;simp[hw,K5,hp];refine zJ hJ ?_)))
  exact aA.new _ _
abbrev rows(ls:List (Nat×List Int)):List LV:=ls.map fun p=>.sl p.1 p.2.length (us p.2)
def total(ls:List (Nat×List Int)):Nat:=(ls.map fun p=>p.2.length).sum
def flat(ls:List (Nat×List Int)):List Int:=(ls.map fun p=>p.2).flatten
theorem yE(ls:List (Nat×List Int)):(flat ls).length=total ls:=by
 induction ls with
 |nil=>rfl
 |cons p ls ih=>simp[flat,total,Function.comp_def]at ih ⊢
theorem BC(ls:List (Nat×List Int))(k:Nat)(hk:k<ls.length):total (ls.take (k+1))=total (ls.take k)+ls[k].2.length:=by rw[aAn hk,total,aAu,List.sum_append];simp only[total,aAi,aBt,List.sum_cons,List.sum_nil,Nat.add_zero]
theorem MX(ls:List (Nat×List Int))(k:Nat)(hk:k<ls.length):flat (ls.take (k+1))=flat (ls.take k)++ls[k].2:=by rw[aAn hk,flat,aAu,aCb];simp only[flat,aAi,aBt,List.flatten_cons,List.flatten_nil,aAK]
theorem sF(ls:List (Nat×List Int))(k:Nat):total (ls.take k)<=total ls:=by
 have h:total ls=total (ls.take k)+total (ls.drop k):=by
  conv=>lhs;rw[<- aAH k ls]
  rw[total,aAu,List.sum_append];rfl
 omega
theorem Cd(ls:List (Nat×List Int))(k:Nat)(hk:k<ls.length):(rows ls).drop k=.sl ls[k].1 ls[k].2.length (us ls[k].2)::rows (ls.drop (k+1)):=by rw[rows,<- aCi,aAO hk];rfl
theorem JB(a:List Int):(us a).all gW=true:=by simp[us,gW]
theorem SD(ls:List (Nat×List Int))(t:Nat)(st:St)(hn:ls.length<=1048576)(hl:total ls<=4194304):
 aB prog 175 [.sl t ls.length (rows ls)] st fun r st'=>∃ l,r=.ms l 0 (flat ls).length/\st.next<=l/\st'.H l=.box 34 1 (us (flat ls))/\aA st st':=by
 refine zN func175 ntmps175 [.tmp 2] ?_
 (repeat' (first|apply qS|apply qB|(refine zE ?_;intro J hJ;simp[];refine zJ hJ ?_)))
 refine qL (fun n fr st'=>∃ k:Nat,k<=ls.length/\n=ls.length-k/\fr 0=.sl t ls.length (rows ls)/\fr 9=.sl t ls.length (rows ls)/\fr 10=i ls.length/\fr 11=i k/\fr 3=i (total (ls.take k))/\st'=st) ls.length ?_ ?_
 .exact⟨0,oO,oO,sS,sS,sS,sS,by simp[total],rfl⟩
 rintro n fr Yy ⟨k,hk,rfl,h0,h9,V8,h11,h3,rfl⟩ JJ hJJ;by_cases GD:k<ls.length
 .have hd:=Cd ls k GD;have hw:=qN k oO;have ht:=BC ls k GD;have Xm:=sF ls (k+1);have ZV:IntKind.i64.wrap ((total (ls.take k):Int)+(ls[k].2.length:Int))=(total (ls.take (k+1)):Int):=by rw[wrap_small _ oO oO];omega
  clear ht
  (repeat' (first|apply qS|apply qB|refine qK (zZ ?_)|(apply qC;simp[h0,h9,V8,h11,h3,GD,hd,hw,ZV];(try with_reducible refine⟨?_,?_⟩)<;>(try with_reducible intro hc)<;>try (exfalso;omega))|(refine zE ?_;intro J hJ;simp[h0,h9,V8,h11,h3,GD,hd,hw,ZV];refine zJ hJ ?_)))
  refine hJJ _ _ _ ?_ ⟨k+1,oO,rfl,by simp[h0],by simp[h9],by simp[V8],sS,sS,rfl⟩;omega
 .have ZU:k=ls.length:=oO;have Xx:ls.take k=ls:=aAv oO;rw[Xx]at h3;clear hJJ
  (repeat' (first|apply qS|refine qX (zZ ?_)|(apply qC;simp[h0,h9,V8,h11,h3,GD])|(refine zE ?_;intro J hJ;simp[h0,h9,V8,h11,h3,GD];(try refine zJ hJ ?_))))
  refine qF (XA (total ls) _ oO oO) ?_;rintro r st' ⟨l0,cs0,rfl,Zu,hH0,Xt⟩
  (repeat' (first|apply qS|apply qB|((first|(refine zE ?_;intro J hJ)|(apply aF));simp[h0];refine zJ hJ ?_)))
  refine JA 0 hH0 ?_;refine qL (fun n fr st2=>∃ k:Nat,k<=ls.length/\n=ls.length-k/\fr 25=.sl t ls.length (rows ls)/\fr 26=i ls.length/\fr 27=i k/\∃ l,fr 6=.ms l 0 (flat (ls.take k)).length/\st2.H l=.box 34 1 (us (flat (ls.take k)))/\Yy.next<=l/\aA Yy st2) ls.length ?_ ?_
  .exact⟨0,oO,oO,by simp[h0],sS,sS,l0,by simp[flat],by simp[flat],Zu,Xt.set Zu _⟩
  clear h0 h9 V8 h11 h3 GD hH0 Xt Zu fr hk ZU Xx;rintro n fr st2 ⟨k,hk,rfl,h25,h26,h27,l,h6,hH,hlt0,Xt⟩ JJ hJJ;by_cases GD:k<ls.length
  .have hd:=Cd ls k GD;have hw:=qN k oO;have ht:=BC ls k GD;have Xm:=sF ls (k+1);have hf:=MX ls k GD;have C0:=yE (ls.take (k+1));have hfl':=yE (ls.take k);have Yr:=JB (ls[k].2)
   (repeat' (first|apply qS|apply qB|refine qK (zZ ?_)|(apply qC;simp[h25,h26,h27,h6,hH,GD,hd,hw,Yr])|(refine zE ?_;intro J hJ;simp[h25,h26,h27,h6,hH,GD,hd,hw,Yr];(repeat refine ca ?_);refine zJ hJ ?_)))
   refine hJJ _ _ _ ?_ ⟨k+1,oO,rfl,by simp[h25],by simp[h26],sS,st2.next,?_,?_,Xt.next,(Xt.set hlt0 _).trans (aA.new _ _)⟩
   .omega
   .simp[hf]
   .simp[hf]
  .have ZU:k=ls.length:=oO;have Xx:ls.take k=ls:=aAv oO;rw[Xx]at h6 hH;clear hJJ
   (repeat' (first|apply qS|refine qX (zZ ?_)|(refine qR (zZ ?_);simp[h25,h26,h27,h6,GD])|(apply qC;simp[h25,h26,h27,h6,GD])|(refine zE ?_;intro J hJ;simp[h25,h26,h27,h6,GD];refine zJ hJ ?_)))
   exact⟨hlt0,hH,Xt⟩
theorem UO(ls:List (Nat×List Int))(t:Nat)(st:St)(hn:ls.length<=1048576)(hl:total ls<=4194304):
 aB prog 175 [.sl t ls.length (rows ls)] st fun r st'=>r=.sl 0 (flat ls).length (us (flat ls))/\aA st st':=by
 refine cG ((SD ls t st hn hl).mono ?_);rintro r st' ⟨l,rfl,GD,hH,hk⟩;exact⟨l,_,_,1,_,rfl,hH,sS,by simp[aAv],hk.set GD _⟩
theorem Tv(a:List Int)(t:Nat)(st:St)(hl:small a):
 aB prog 69 [.sl t a.length (us a)] st fun r st'=>∃ l,r=.ms l 0 a.length/\st.next<=l/\st'.H l=.box 34 1 (us a)/\aA st st':=by
 unfold small at hl;refine jD 34 1 ?_;have Yr:=JB a;refine zN func69 ntmps69 [.tmp 2] ?_
 (repeat' (first|apply qS|refine qK (zZ ?_)|(refine qR (zZ ?_);simp[Yr])|(apply qC;simp[Yr])|(refine w_e [5] ?_;intro J hJ;simp only[];simp[Yr];(repeat refine ca ?_);((try with_reducible refine⟨?_,?_⟩)<;>(try with_reducible intro ZG)<;>refine zJ hJ ?_<;>clear hJ J<;>try subst ZG))))
 .exact((aA.new _ _).set (aAk _) _).trans (aA.new _ _)
 .exact aA.new _ _
theorem QJ(a:List Int)(t:Nat)(st:St)(hl:small a):
 aB prog 69 [.sl t a.length (us a)] st fun r st'=>r=.sl 0 a.length (us a)/\aA st st':=by
 refine cG ((Tv a t st hl).mono ?_);rintro r st' ⟨l,rfl,GD,hH,hk⟩;exact⟨l,_,_,1,_,rfl,hH,sS,by simp[aAv],hk.set GD _⟩
def nx(l:List Int)(d:Int):Int:=if d∈l then l.getD ((l.idxOf d+1) % l.length) 0 else 0
def pv(l:List Int)(d:Int):Int:=if d∈l then l.getD ((l.idxOf d+(l.length-1)) % l.length) 0 else 0
theorem gB{t:List Int}(hn:t.Nodup){j:Nat}(hj:j<t.length):nx t t[j]=t[(j+1) % t.length]'(aCD _ oO):=by unfold nx;rw[aAe (aAA hj),hn.idxOf_getElem j hj,bG _ _ (aCD _ oO)]
theorem IU{t:List Int}{d:Int}(hd:d∈t):nx t d∈t:=by unfold nx;have:0<t.length:=aEt hd;rw[aAe hd,bG _ _ (aCD _ this)];exact aAA _
theorem QC{t:List Int}(hn:t.Nodup){d e:Int}(hd:d∈t)(he:e∈t)(h:nx t d=nx t e):d=e:=by
 obtain⟨j,hj,rfl⟩:=aAB hd;obtain⟨k,hk,rfl⟩:=aAB he;rw[gB hn hj,gB hn hk]at h;have h1:=congrArg t.idxOf h;rw[hn.idxOf_getElem,hn.idxOf_getElem]at h1;have h2:j=k:=by
  rcases aAN (j+1) t.length with a|a
  .rw[aAM a]at h1;rcases aAN (k+1) t.length with b|b
   .rw[aAM b]at h1;omega
   .rw[show k+1=t.length by omega,aDN]at h1;omega
  .rw[show j+1=t.length by omega,aDN]at h1;rcases aAN (k+1) t.length with b|b
   .rw[aAM b]at h1;omega
   .omega
 subst h2;rfl
theorem Ux{t:List Int}(hn:t.Nodup){j:Nat}(hj:j<t.length)(k:Nat):Eu.it (nx t) k t[j]=t[(j+k) % t.length]'(aCD _ oO):=by
 induction k with
 |zero=>simp only[Eu.it,Nat.add_zero,aAM hj]
 |succ k ih=>
  rw[Eu.cJ,ih,gB hn]
  congr 1
  rw[Nat.mod_add_mod];rfl
theorem IP{t:List Int}(hn:t.Nodup){d e:Int}(hd:d∈t)(he:e∈t):Eu.Orb (nx t) d e:=by
 obtain⟨j,hj,rfl⟩:=aAB hd;obtain⟨k,hk,rfl⟩:=aAB he;refine⟨t.length-j+k,?_⟩;rw[Ux hn hj]
 congr 1
 rw[show j+(t.length-j+k)=t.length+k by omega,Nat.add_mod_left,aAM hk]
theorem Ny(l:List Int):(us l).length=l.length:=by simp[us]
theorem from_(l:List Int)(t k:Nat)(st:St)(hl:small l)(hk:k<=l.length):
 aB prog 125 [.sl t l.length (us l),i k] st fun r st'=>r=.sl 0 l.length (us (rt l k))/\aA st st':=by
 unfold small at hl;refine zN func125 ntmps125 [.tmp 4] ?_
 (repeat' (first|apply qS|(refine zE ?_;intro J hJ;simp[hk];refine zJ hJ ?_)))
 (refine MF nB [] 6 (by kernel_rfl) (by kernel_rfl) rfl rfl ?_;intro J hJ;simp[hk];skip;skip)
 refine qE (UO [(0,l.drop k),(0,l.take k)] st.next _ sS (by simp[total];omega)) (by simp[aAv,aCu hk]) ?_;rintro r st' ⟨rfl,Xt⟩;have hf:flat [(0,l.drop k),(0,l.take k)]=rt l k:=by simp[flat,rt]
 rw[hf,vK]
 (repeat' (first|(refine qR (zZ ?_);simp[])|(apply aF;simp[];refine zJ hJ ?_)))
 exact(aA.new _ _).trans Xt
theorem Ob(l:List Int)(t:Nat)(st:St)(hl:small l):
 aB prog 85 [.sl t l.length (us l)] st fun r st'=>r=.sl 0 l.length (us (nrm l))/\aA st st':=by
 refine xO ?_;refine zN func85 ntmps85 [.tmp 2] ?_;cases l with
 |nil=>
  (repeat' (first|apply qS|(refine qR (zZ ?_);simp[])|(apply qC;simp[])|(refine zE ?_;intro J hJ;simp[];refine zJ hJ ?_)))
  exact⟨by decide,aA.refl _⟩
 |cons a l'=>
  (repeat' (first|apply qS|refine qK (zZ ?_)|(apply qC;simp[];(try with_reducible refine⟨?_,?_⟩)<;>(try with_reducible intro hc)<;>try (exfalso;omega))|(refine zE ?_;intro J hJ;simp[];(try refine zJ hJ ?_))))
  refine qE (Min (a::l') t _ hl sS) (by simp[]) ?_;rintro r st' ⟨rfl,rfl⟩
  (repeat' (apply aF;simp[]))
  refine qE (Index (a::l') t (mn (a::l')) _ hl) (by simp[]) ?_;rintro r st' ⟨rfl,rfl⟩
  (repeat' (apply aF;simp[]))
  have hg:gi (a::l') (mn (a::l'))=(((a::l').idxOf (mn (a::l')):Nat):Int):=by unfold gi;rw[aAe (xB sS)]
  rw[hg];refine qE (from_ (a::l') t ((a::l').idxOf (mn (a::l'))) _ hl aEH) (by simp[]) ?_;rintro r st' ⟨rfl,Xt⟩
  (repeat' (first|(refine qR (zZ ?_);simp[])|(apply aF;simp[];refine zJ hJ ?_)))
  exact⟨rfl,Xt⟩
def ins(l:List Int)(b:Int)(m:List Int):List Int:=(if b∈l then l.take (l.idxOf b+1)++m++l.drop (l.idxOf b+1)else l++m)
theorem OJ(c:List Int)(k:Nat)(x:Int)(hk:k<c.length):(c.set k x).take (k+1)=c.take k++[x]:=by rw[aAn (by simpa using hk),List.getElem_set_self];rw[List.take_set_of_le (aAk _)]
theorem set_drop(c:List Int)(k j:Nat)(x:Int)(h:k<=j):(c.set k x).drop (j+1)=c.drop (j+1):=by rw[aER oO]
theorem De(c:List Int)(k:Nat)(x:Int)(hk:k<c.length):(us c).take k++u x::(us c).drop (k+1)=us (c.set k x):=by simp only[us];rw[<- aEO,<- aCi,aBG,aAe hk];simp
theorem St.set_set(st:St)(q:Nat)(a b:cI):(st.set q a).set q b=st.set q b:=St.ext' rfl fun y=>by by_cases hy:y=q<;>simp[hy]
def swp(c:List Int)(a b:Nat):List Int:=(c.set a (c.getD b 0)).set b (c.getD a 0)
theorem IV(c:List Int)(a b:Nat):(swp c a b).length=c.length:=by simp[swp]
theorem RJ(c:List Int)(a b j:Nat)(ha:a<c.length)(hb:b<c.length):(swp c a b).getD j 0=if j=b then c.getD a 0 else if j=a then c.getD b 0 else c.getD j 0:=by
 unfold swp;simp only[aAc,aDd];by_cases h1:b=j
 .subst h1;simp[hb]
 .by_cases h2:a=j
  .subst h2;simp[h1,ha,aDi h1]
  .simp[h1,h2,aDi h1,aDi h2]
theorem Uh(c:List Int)(a b:Nat)(ha:a<c.length)(hb:b<c.length):us (swp c a b)=((us c).set a (u (c.getD b 0))).set b (u (c.getD a 0)):=by unfold swp;simp only[us,aEU]
theorem tcd(cs:List LV)(o:Nat)(v:LV)(h:o<cs.length):cs.take o++v::cs.drop (o+1)=cs.set o v:=by rw[aBG,aAe h]
theorem UC(l c:List Int)(hl:c.length=l.length)(h:∀ j,j<l.length->c.getD j 0=l.getD (l.length-1-j) 0):c=l.reverse:=by apply aEg (by simp[hl]);intro j h1 h2;have:=h j oO;rw[aAc,aAc,aAd h1,aAd oO]at this;rw[List.getElem_reverse];simpa using this
theorem tY(l:List Int)(q:Nat)(st:St)(hl:small l)(hH:st.H q=.box 34 1 (us l)):
 aB prog 83 [.ms q 0 l.length] st fun r st'=>st'=st.set q (.box 34 1 (us l.reverse)):=by
 unfold small at hl;have Yt:IntKind.i64.wrap ((l.length:Int)-1)=(l.length:Int)-1:=zW;refine zN func83 ntmps83 [] ?_
 (repeat' (first|apply qS|apply qB|(refine zE ?_;intro J hJ;simp[Yt];refine zJ hJ ?_)))
 refine qL (fun n fr st'=>∃(k:Nat) (c:List Int),n=l.length-k/\k<=l.length/\fr 0=.ms q 0 l.length/\fr 2=i k/\fr 3=i ((l.length:Int)-1-k)/\c.length=l.length/\st'=st.set q (.box 34 1 (us c))/\∀ j,j<l.length->c.getD j 0=if j<k\/l.length<=j+k then l.getD (l.length-1-j) 0 else l.getD j 0) l.length ?_ ?_
 .refine⟨0,l,oO,oO,sS,sS,sS,rfl,St.ext' rfl fun x=>by by_cases hx:x=q<;>simp[hx,hH],fun j hj=>?_⟩;rw[aAa oO]
 rintro n fr Yy ⟨k,c,rfl,hk,h0,h2,h3,hc,rfl,Xl⟩ JJ hJJ;by_cases GD:(k:Int)<(l.length:Int)-1-k
 .obtain⟨m,hm⟩:∃ m:Nat,(l.length:Int)-1-k=m:=⟨l.length-1-k,oO⟩;rw[hm]at h3 GD;have ZV:=qN k oO;have hw3:IntKind.i64.wrap ((m:Int)-1)=(m:Int)-1:=zW;have hd:=qG c k oO;have YM:=qG c m oO;have K7:k<l.length:=oO;have Yw:m<l.length:=oO
  (repeat' (first|apply qS|apply qB|refine qK (zZ ?_)|(apply qC;simp[h0,h2,h3,GD])|(refine zE ?_;intro J hJ;simp[h0,h2,h3,GD];refine zJ hJ ?_)))
  (refine zS [] [q] [0,2,4,6,8,10,12,14,16,18,20,22,24,27,28,31] ?_;intro J hJ;simp[h0,h2,h3,K7,Yw,hc,hd,YM];(repeat refine ca ?_);refine zJ hJ ?_)
  (repeat' (refine zE ?_;intro J hJ;simp[h2,h3,ZV,hw3];refine zJ hJ ?_))
  refine hJJ _ _ _ ?_ ⟨k+1,swp c k m,rfl,oO,by simp[h0],sS,?_,by rw[IV];exact hc,St.ext' rfl fun y=>?_,fun j hj=>?_⟩
  .omega
  .simp only[xG];simp;omega
  .by_cases hy:y=q
   .subst hy;have hlen:(us c).length=l.length:=by simp[hc]
    simp only[bF,reduceIte,Uh c k m oO oO];rw[tcd (us c) k _ oO,tcd _ m _ (by simp;omega)];simp[hc,K7,Yw]
   .simp[hy]
  .rw[RJ c k m j oO oO,Xl k K7,Xl m Yw,Xl j hj];by_cases h1:j=m
   .rw[aAe h1,aAa oO,aAe oO];congr 1;omega
   .rw[aAa h1];by_cases h2:j=k
    .rw[aAe h2,aAa oO,aAe oO];congr 1;omega
    .rw[aAa h2];by_cases h3:j<k\/l.length<=j+k
     .rw[aAe h3,aAe oO]
     .rw[aAa h3,aAa oO]
 .have hcr:c=l.reverse:=?_
  .subst hcr;clear hJJ
   (repeat' (first|apply qS|refine qX (zZ ?_)|(apply qC;simp[h0,h2,h3,GD])|(refine zE ?_;intro J hJ;simp[h0,h2,h3,GD];refine zJ hJ ?_)))
   simp
  refine UC l c hc ?_;intro j hj;rw[Xl j hj];by_cases h:j<k\/l.length<=j+k
  .rw[aAe h]
  .rw[aAa h]
   congr 1
   omega
theorem isNaN(x:Int)(st:St):aB prog 97 [u x] st fun r st'=>r=bb false/\st'=st:=by
 refine zN func97 ntmps97 [.tmp 2] ?_
 (repeat' (first|apply qS|(refine qR (zZ ?_);simp[])|(refine zE ?_;intro J hJ;simp[];refine zJ hJ ?_)))
theorem uW(x y:Int)(st:St):aB prog 172 [u x,u y] st fun r st'=>r=bb (decide (x<y))/\st'=st:=by
 refine zN func172 ntmps172 [.tmp 4] ?_
 (repeat' (first|apply qS|(refine zE ?_;intro J hJ;simp[];(try refine zJ hJ ?_))))
 refine qF (isNaN x _) ?_;rintro r st' ⟨rfl,rfl⟩
 (repeat' (first|(refine qR (zZ ?_);simp[])|(apply aF;simp[];refine zJ hJ ?_)))
theorem aG(k:Nat)(h0:0<k)(h:k<9223372036854775807):IntKind.i64.wrap ((k:Int)-1)=((k-1:Nat):Int):=by rw[wrap_i64 _ oO oO];omega
abbrev bx(st:St)(q:Nat)(c:List Int):St:=st.set q (.box 34 1 (us c))
theorem fH{st:St}{q:Nat}{c:List Int}(h:st.H q=.box 34 1 (us c)):st=bx st q c:=
 St.ext' rfl fun x=>by by_cases hx:x=q<;>simp[hx,h]
theorem dL(st:St)(q:Nat)(c:List Int)(k m:Nat){x y:Int}(hk:k<c.length)(hm:m<c.length)(hx:c.getD k 0=x)(hy:c.getD m 0=y):
 ((bx st q c).set q (.box 34 1 (List.take k (us c)++.atom (.int .u32 y)::List.drop (k+1) (us c)))).set q
   (.box 34 1 (List.take m (List.take k (us c)++.atom (.int .u32 y)::List.drop (k+1) (us c))++.atom (.int .u32 x)::List.drop (m+1) (List.take k (us c)++.atom (.int .u32 y)::List.drop (k+1) (us c))))=bx st q (sw c k m):=by
 have e:List.take k (us c)++.atom (.int .u32 y)::List.drop (k+1) (us c)=us (c.set k y):=De c k y hk;rw[e,De (c.set k y) m x (by simpa using hm)];unfold bx sw;rw[hx,hy];exact St.ext' rfl fun z=>by by_cases hz:z=q<;>simp[hz]
theorem insertionSort(l:List Int)(q a b:Nat)(st:St)(hl:small l)(ha:a<=b)(hb:b<=l.length)(hH:st.H q=.box 34 1 (us l)):
 aB prog 166 [.ms q 0 l.length,i a,i b] st fun r st'=>∃ c,st'=bx st q c/\Pm a b l c/\Srt a b c:=by
 unfold small at hl;refine zN func166 ntmps166 [] ?_;have G7:=qN a oO
 (repeat' (first|apply qS|apply qB|(refine zE ?_;intro J hJ;simp[G7];refine zJ hJ ?_)))
 refine qL (fun n fr st'=>∃(k:Nat) (c:List Int),a<k/\n=b-k/\fr 0=.ms q 0 l.length/\fr 1=i a/\fr 2=i b/\fr 6=i k/\st'=bx st q c/\Pm a b l c/\Srt a k c) (b-(a+1)) ?_ ?_
 .exact⟨a+1,l,oO,rfl,sS,sS,sS,sS,fH hH,.refl,fun p q h1 h2 h3=>by omega⟩
 rintro n fr Yy ⟨k,c,n9,rfl,f0,f1,f2,f6,rfl,Xf,hs⟩ JJ hJJ;have Xh:=Xf.len;by_cases GD:k<b;rotate_left
 .clear hJJ;have YG:¬(k:Int)<(b:Int):=oO
  (repeat' (first|apply qS|refine qX (zZ ?_)|(apply qC;simp[f0,f1,f2,f6,GD])|(refine zE ?_;intro J hJ;simp[f0,f1,f2,f6,GD];refine zJ hJ ?_)))
  exact⟨trivial,c,rfl,Xf,fun p q h1 h2 h3=>hs p q h1 h2 oO⟩
 have Yt:=qN k oO
 (repeat' (first|apply qS|apply qB|refine qK (zZ ?_)|(apply qC;simp[f0,f1,f2,f6,GD])|(refine zE ?_;intro J hJ;simp[f0,f1,f2,f6,GD];refine zJ hJ ?_)))
 refine qL (fun n fr st'=>∃(j:Nat) (c:List Int),a<=j/\j<=k/\j=n/\fr 0=.ms q 0 l.length/\fr 1=i a/\fr 2=i b/\fr 6=i k/\fr 7=i j/\st'=bx st q c/\Pm a b l c/\Ins a j k c) k ?_ ?_
 .exact⟨k,c,oO,oO,rfl,by simp[f0],by simp[f1],by simp[f2],by simp[f6],sS,rfl,Xf,hs.ins⟩
 clear f0 f1 f2 f6 hs Xf Xh c fr;rintro n fr Yy ⟨j,c,haj,K8,rfl,f0,f1,f2,f6,f7,rfl,Xf,hI⟩ JJ2 K1;have Xh:=Xf.len;by_cases hj:a<j;rotate_left
 .clear K1;have hj':¬(a:Int)<(j:Int):=oO
  (repeat (apply qS));(refine zS [] [q] [0,2,4,6,8,10,12,14,16,18,20,22,24,27,28] ?_;intro J hJ;simp[f0,f1,f2,f6,f7,hj];refine zJ hJ ?_)
  (repeat' (first|refine qX (zZ ?_)|(apply qC;simp[f6,Yt])|(refine zE ?_;intro J hJ;simp[f6,Yt];refine zJ hJ ?_)))
  exact hJJ (b-(k+1)) _ _ oO ⟨k+1,c,oO,rfl,by simp[f0],by simp[f1],by simp[f2],sS,rfl,Xf,hI.done haj (.inl oO)⟩
 have ZV:=aG j oO oO;have Y9:j<l.length:=oO;have hjl1:j-1<l.length:=oO;have hd:=qG c j oO;have YM:=qG c (j-1) oO;have hI1:=hI.step hj K8 oO;have hI2:=hI.done haj;have Yo:=Xf.step j (j-1) oO oO oO oO oO;generalize hx:c.getD j 0=x at *;generalize hy:c.getD (j-1) 0=y at *
 (repeat (apply qS));(refine zS [] [q] [0,2,4,6,8,10,12,14,16,18,20,22,24,27,28] ?_;intro J hJ;simp[f0,f1,f2,f6,f7,hj,ZV,Y9,hjl1,Xh,hd,YM])
 refine aK (uW x y _) ?_;rintro r s2 ⟨rfl,rfl⟩;refine⟨fun _=>by simp,?_⟩;by_cases hcd:x<y;rotate_left
 .clear K1
  (apply aS;simp[hcd];refine zJ hJ ?_)
  (repeat' (first|refine qX (zZ ?_)|(apply qC;simp[f6,Yt])|(refine zE ?_;intro J hJ;simp[f6,Yt];refine zJ hJ ?_)))
  exact hJJ (b-(k+1)) _ _ oO ⟨k+1,c,oO,rfl,by simp[f0],by simp[f1],by simp[f2],sS,rfl,Xf,hI2 (.inr hcd)⟩
 clear hJJ
 (apply aS;simp[hcd];refine zJ hJ ?_)
 (repeat' (first|apply qS|apply qB|refine qK (zZ ?_)|(apply qC;simp[])))
 (refine zS [] [q] [0,2,4,6,8,10,12,14,16,18,20,22,24,26,28,31,32,35] ?_;intro J hJ;simp[f0,f1,f2,f6,f7,ZV,Y9,hjl1,Xh,hd,YM];(repeat refine ca ?_);refine zJ hJ ?_)
 (repeat' (refine zE ?_;intro J hJ;simp[f7,ZV];refine zJ hJ ?_))
 exact K1 (j-1) _ _ oO ⟨j-1,sw c j (j-1),oO,oO,rfl,by simp[f0],by simp[f1],by simp[f2],by simp[f6],sS,dL st q c j (j-1) oO oO hx hy,Yo,hI1 hcd⟩
theorem jX(l:List Int)(q a b:Nat)(st:St)(hl:small l)(ha:a<=b)(hb:b<=l.length)(h0:0<b)(hH:st.H q=.box 34 1 (us l)):
 aB prog 170 [.ms q 0 l.length,i a,i b] st fun r st'=>∃ c,st'=bx st q c/\Pm a b l c:=by
 unfold small at hl;refine zN func170 ntmps170 [] ?_;have G7:=aG b oO oO
 (repeat' (first|apply qS|apply qB|(refine zE ?_;intro J hJ;simp[G7];refine zJ hJ ?_)))
 refine qL (fun n fr st'=>∃(k m:Nat) (c:List Int),a<=k/\m<b/\m=n/\fr 0=.ms q 0 l.length/\fr 6=i k/\fr 7=i m/\st'=bx st q c/\Pm a b l c) (b-1) ?_ ?_
 .exact⟨a,b-1,l,oO,oO,rfl,sS,sS,sS,fH hH,.refl⟩
 rintro n fr Yy ⟨k,m,c,n9,Zf,rfl,f0,f6,f7,rfl,Xf⟩ JJ hJJ;have Xh:=Xf.len;by_cases GD:k<m;rotate_left
 .clear hJJ
  (repeat' (first|apply qS|refine qX (zZ ?_)|(apply qC;simp[f0,f6,f7,GD])|(refine zE ?_;intro J hJ;simp[f0,f6,f7,GD];refine zJ hJ ?_)))
  exact⟨trivial,c,rfl,Xf⟩
 have Yt:=qN k oO;have ZV:=aG m oO oO;have K7:k<l.length:=oO;have Yw:m<l.length:=oO;have hd:=qG c k oO;have YM:=qG c m oO;have Yo:=Xf.step k m oO oO oO oO oO;generalize hx:c.getD k 0=x at *;generalize hy:c.getD m 0=y at *
 (repeat' (first|apply qS|apply qB|refine qK (zZ ?_)|(apply qC;simp[f0,f6,f7,GD])|(refine zE ?_;intro J hJ;simp[f0,f6,f7,GD];refine zJ hJ ?_)))
 (refine zS [] [q] [0,2,4,6,8,10,12,14,16,18,20,22,24,27,28,31] ?_;intro J hJ;simp[f0,f6,f7,K7,Yw,Xh,hd,YM];(repeat refine ca ?_);refine zJ hJ ?_)
 (repeat' (first|apply qS|(refine zE ?_;intro J hJ;simp[f6,f7,Yt,ZV];refine zJ hJ ?_)))
 exact hJJ (m-1) _ _ oO ⟨k+1,m-1,sw c k m,oO,oO,rfl,by simp[f0],sS,sS,dL st q c k m oO oO hx hy,Yo⟩
theorem bC{P:Program}{N:Nat}{Q:AQ}{k:List fU}{fr:Frm}{st:St}{x y:Code}(I:Frm->St->Prop)(h1:AWp P N x (AK P N (fun e f s=>e=.normal/\I f s) []) fr st)(h2:∀ fr st,I fr st->AWp P N y (AK P N Q k) fr st):
 AWp P N x (AK P N Q (.code y::k)) fr st:=by
 refine cY h1 ?_;rintro e Xg st' ⟨rfl,hI⟩;rw[iR];exact h2 _ _ hI
theorem pZ(st:St)(q:Nat)(c:List Int)(k m:Nat){x y:Int}(hk:k<c.length)(hm:m<c.length)(hx:c.getD k 0=x)(hy:c.getD m 0=y):
 (st.set q (.box 34 1 (List.take k (us c)++.atom (.int .u32 y)::List.drop (k+1) (us c)))).set q
   (.box 34 1 (List.take m (List.take k (us c)++.atom (.int .u32 y)::List.drop (k+1) (us c))++.atom (.int .u32 x)::List.drop (m+1) (List.take k (us c)++.atom (.int .u32 y)::List.drop (k+1) (us c))))=bx st q (sw c k m):=by
 rw[<- dL st q c k m hk hm hx hy];exact St.ext' rfl fun z=>by by_cases hz:z=q<;>simp[hz]
theorem GI{P:Program}{N:Nat}{Q:AQ}{k:List fU}{fr:Frm}{st:St}{x y z:Code}(I:Frm->St->Prop)(h1:AWp P N x (AK P N (fun e f s=>e=.normal/\I f s) [.code y]) fr st)(h2:∀ fr st,I fr st->AWp P N z (AK P N Q k) fr st):
 AWp P N x (AK P N Q (.code y::.code z::k)) fr st:=by
 refine cY h1 ?_;rintro e Xg st' h;cases e with
 |normal=>rw[iR]at h ⊢;refine cY h ?_;rintro e Zq st2 ⟨rfl,h⟩;rw[iR];exact h2 _ _ h
 |_=>exact absurd h.1 sS
def Qa(c:List Int)(f r hi ch:Nat):Prop:=∀ x,(x=2*r+1\/x=2*r+2)->x<hi->c.getD (f+x) 0<=c.getD (f+ch) 0
theorem nG(l:List Int)(q lo hi f:Nat)(st:St)(hl:small l)(hb:f+hi<=l.length)(C1:lo<=l.length)(hh:mV (lo+1) hi f l)(hH:st.H q=.box 34 1 (us l)):
 aB prog 194 [.ms q 0 l.length,i lo,i hi,i f] st fun r st'=>∃ c,st'=bx st q c/\Pm (f+lo) (f+hi) l c/\mV lo hi f c:=by
 unfold small at hl;refine zN func194 ntmps194 [] ?_
 (repeat' (first|apply qS|apply qB|(refine zE ?_;intro J hJ;simp[];refine zJ hJ ?_)))
 refine qL (fun n fr st'=>∃(r:Nat) (c:List Int),lo<=r/\r<=l.length/\n=hi-r/\fr 0=.ms q 0 l.length/\fr 2=i hi/\fr 3=i f/\fr 8=i r/\st'=bx st q c/\Pm (f+lo) (f+hi) l c/\rV lo hi f r c) (hi-lo) ?_ ?_
 .exact⟨lo,l,aAk _,C1,rfl,sS,sS,sS,sS,fH hH,.refl,hh.x⟩
 rintro n fr Yy ⟨r,c,hlr,hrl,rfl,f0,f2,f3,f8,rfl,Xf,hX⟩ JJ hJJ;have Xh:=Xf.len;obtain⟨m,hm⟩:∃ m:Nat,m=2*r+1:=⟨_,rfl⟩;obtain⟨m2,X4⟩:∃ m:Nat,m=2*r+2:=⟨_,rfl⟩;have w1:IntKind.i64.wrap (2*(r:Int))=2*(r:Int):=zW;have w2:IntKind.i64.wrap (2*(r:Int)+1)=(m:Int):=zW;have w3:IntKind.i64.wrap ((m:Int)+1)=(m2:Int):=zW;by_cases hmh:hi<=m
 .clear hJJ
  (repeat' (first|apply qS|apply qB|refine qX (zZ ?_)|(apply qC;simp[f0,f2,f3,f8,w1,w2,hmh])|(refine zE ?_;intro J hJ;simp[f0,f2,f3,f8,w1,w2,hmh];refine zJ hJ ?_)))
  exact⟨trivial,c,rfl,Xf,hX.leaf oO⟩
 obtain⟨x1,hx1⟩:∃ x:Nat,x=f+m:=⟨_,rfl⟩;obtain⟨x2,Ys⟩:∃ x:Nat,x=f+m2:=⟨_,rfl⟩;obtain⟨x0,ZF⟩:∃ x:Nat,x=f+r:=⟨_,rfl⟩;have w4:IntKind.i64.wrap ((f:Int)+(m:Int))=(x1:Int):=zW;have w5:IntKind.i64.wrap ((x1:Int)+1)=(x2:Int):=zW;have w6:IntKind.i64.wrap ((f:Int)+(r:Int))=(x0:Int):=zW
 (repeat' (first|apply qS|apply qB|(refine zE ?_;intro J hJ;simp[f0,f2,f3,f8,w1,w2,hmh];refine zJ hJ ?_)))
 (apply qC;simp[])
 (repeat' (first|apply qS|refine qK (zZ ?_)))
 refine GI (fun Zq st2=>st2=bx st q c/\Zq 0=.ms q 0 l.length/\Zq 2=i hi/\Zq 3=i f/\Zq 8=i r/\∃ ch:Nat,Zq 9=i ch/\(ch=2*r+1\/ch=2*r+2)/\ch<hi/\Qa c f r hi ch) ?_ ?_
 .by_cases h2h:m2<hi;rotate_left
  ·(refine zS [] [q] [0,2,4,6,8,10,12,14,16,18,20,22,24,26,28,30,32,34,37,38] ?_;intro J hJ;simp[f0,f2,f3,f8,w3,h2h];refine zJ hJ ?_)
   (repeat' (first|refine qK (zZ ?_)|(apply qC;simp[f0])))
   refine⟨trivial,trivial,by simp[f0],by simp[f2],by simp[f3],by simp[f8],m,sS,oO,oO,fun x h1 h2=>?_⟩;rw[show x=m by omega];exact aCe _
  have Xn:=qG c x1 oO;have YM:=qG c x2 oO;have F6:x1<l.length:=oO;have E0:x2<l.length:=oO;generalize D4:c.getD x1 0=y1 at *;generalize p7:c.getD x2 0=y2 at *
  (refine zS [] [q] [0,2,4,6,8,10,12,14,16,18,20,22,24,26,28,30,32,34,37,38] ?_;intro J hJ;simp[f0,f2,f3,f8,w3,w4,w5,h2h,F6,E0,Xh,Xn,YM])
  refine aK (uW y1 y2 _) ?_;rintro r1 s2 ⟨rfl,rfl⟩;refine⟨fun _=>by simp,?_⟩;by_cases Z0:y1<y2
  ·(apply aS;simp[Z0];refine zJ hJ ?_)
   (repeat' (first|(apply qC;simp[w3])|(refine zE ?_;intro J hJ;simp[w3];refine zJ hJ ?_)))
   refine⟨trivial,trivial,by simp[f0],by simp[f2],by simp[f3],by simp[f8],m2,sS,oO,oO,fun x h1 h2=>?_⟩;rcases(show x=m\/x=m2 by omega)with rfl|rfl
   .rw[<- hx1,<- Ys,D4,p7];omega
   .exact aCe _
  ·(apply aS;simp[Z0];refine zJ hJ ?_)
   (repeat' (first|refine qK (zZ ?_)|(apply qC;simp[])))
   refine⟨trivial,trivial,by simp[f0],by simp[f2],by simp[f3],by simp[f8],m,sS,oO,oO,fun x h1 h2=>?_⟩;rcases(show x=m\/x=m2 by omega)with rfl|rfl
   .exact aCe _
   .rw[<- hx1,<- Ys,D4,p7];omega
 clear f0 f2 f3 f8 w1 w2 w3 w4 w5 hx1 Ys x1 x2 fr;rintro fr st2 ⟨rfl,f0,f2,f3,f8,ch,f9,r9,hchi,O1⟩;obtain⟨x1,hx1⟩:∃ x:Nat,x=f+ch:=⟨_,rfl⟩;have w4:IntKind.i64.wrap ((f:Int)+(ch:Int))=(x1:Int):=zW;have Xn:=qG c x1 oO;have hd0:=qG c x0 oO;have F6:x1<l.length:=oO;have Zu:x0<l.length:=oO;unfold Qa at O1;have YH:=hX.step (c:=ch) hlr r9 hchi oO O1;have Yo:=Xf.step x0 x1 oO oO oO oO oO;have hbig:=hX.big;rw[<- ZF,<- hx1]at YH;rw[<- ZF]at hbig;rw[<- hx1]at O1;generalize Q9:c.getD x0 0=y0 at *;generalize D4:c.getD x1 0=y1 at *
 (repeat (apply qS));(refine zS [] [q] [0,2,4,6,8,10,12,14,16,18,20,22,25,26] ?_;intro J hJ;simp[f0,f2,f3,f8,f9,w4,w6,F6,Zu,Xh,Xn,hd0])
 refine aK (uW y0 y1 _) ?_;rintro r1 s2 ⟨rfl,rfl⟩;refine⟨fun _=>by simp,?_⟩;by_cases Z0:y0<y1;rotate_left
 .clear hJJ
  (apply aS;simp[Z0];refine zJ hJ ?_)
  (repeat' (first|(refine qR (zZ ?_);simp[])|(apply qC;simp[])))
  exact⟨c,rfl,Xf,hbig fun x h1 h2=>by have:=O1 x h1 h2;omega⟩
 (apply aS;simp[Z0];refine zJ hJ ?_)
 (repeat' (first|apply qS|refine qK (zZ ?_)|(apply qC;simp[])))
 (refine zS [] [q] [0,2,4,6,8,10,12,14,16,18,20,22,24,26,28,30,32,34,36,38,40,43,44,47] ?_;intro J hJ;simp[f0,f2,f3,f8,f9,w4,w6,F6,Zu,Xh,Xn,hd0];(repeat refine ca ?_);refine zJ hJ ?_)
 (repeat' (refine zE ?_;intro J hJ;simp[f9];refine zJ hJ ?_))
 exact hJJ (hi-ch) _ _ oO ⟨ch,sw c x0 x1,oO,oO,rfl,by simp[f0],by simp[f2],by simp[f3],sS,dL st q c x0 x1 oO oO Q9 D4,Yo,YH Z0⟩
def VN(c:List Int)(f j hi:Nat):Prop:=∀ p q,p<q->j<=q->q<hi->c.getD (f+p) 0<=c.getD (f+q) 0
theorem vD(l:List Int)(q a b:Nat)(st:St)(hl:small l)(ha:a<b)(hb:b<=l.length)(hH:st.H q=.box 34 1 (us l)):
 aB prog 167 [.ms q 0 l.length,i a,i b] st fun r st'=>∃ c,st'=bx st q c/\Pm a b l c/\Srt a b c:=by
 have p8:=hl;unfold small at hl;obtain⟨n,hn⟩:∃ n:Nat,n=b-a:=⟨_,rfl⟩;obtain⟨n1,Yi⟩:∃ n:Nat,n=b-a-1:=⟨_,rfl⟩;obtain⟨n2,Zk⟩:∃ n:Nat,n=n1 / 2:=⟨_,rfl⟩;have w1:IntKind.i64.wrap ((b:Int)-(a:Int))=(n:Int):=zW;have w2:IntKind.i64.wrap ((n:Int)-1)=(n1:Int):=zW;have w3:IntKind.i64.wrap ((n1:Int) / 2)=(n2:Int):=by rw[show(n1:Int) / 2=((n1 / 2:Nat):Int) from rfl,<- Zk];exact wrap_i64 _ oO oO
 refine zN func167 ntmps167 [] ?_
 (repeat' (first|apply qS|apply qB|(refine zE ?_;intro J hJ;simp[w1,w2,w3];refine zJ hJ ?_)))
 refine qL (fun m fr st'=>∃(c:List Int),m<=n2+1/\fr 0=.ms q 0 l.length/\fr 6=i a/\fr 7=i 0/\fr 8=i n/\fr 9=i ((m:Int)-1)/\st'=bx st q c/\Pm a b l c/\mV m n a c) (n2+1) ?_ ?_
 .exact⟨l,oO,sS,sS,sS,sS,sS,fH hH,.refl,fun k x h1 h2 h3=>by omega⟩
 rintro m fr Yy ⟨c,hm,f0,f6,f7,f8,f9,rfl,Xf,hh⟩ JJ hJJ;have Xh:=Xf.len;cases m with
 |succ m=>
  have T0:fr 9=i (m:Int):=by rw[f9];congr 2;omega
  have w4:IntKind.i64.wrap ((m:Int)-1)=(m:Int)-1:=zW;have u6:(0:Int)<=(m:Int):=oO
  (repeat' (first|apply qS|apply qB|refine qK (zZ ?_)|(apply qC;simp[f0,f6,f7,f8,T0,u6])|(refine zE ?_;intro J hJ;simp[f0,f6,f7,f8,T0,u6];(try refine zJ hJ ?_))))
  rw[<- Xh];refine qF (nG c q m n a _ (by unfold small;omega) oO oO hh sS) ?_;rintro r s2 ⟨c2,rfl,YE,hh2⟩;rw[Xh]
  (repeat' ((first|(refine zE ?_;intro J hJ)|(apply aF));simp[T0,w4];refine zJ hJ ?_))
  exact hJJ m _ _ oO ⟨c2,oO,by simp[f0],by simp[f6],by simp[f7],by simp[f8],sS,St.set_set _ _ _ _,Xf.trans (YE.wide oO oO oO),hh2⟩
 |zero=>
  clear hJJ;have T0:fr 9=i (-1):=by rw[f9];rfl
  (repeat' (first|apply qS|apply qB|refine qX (zZ ?_)|(apply qC;simp[f0,f6,f7,f8,T0,w2])|(refine zE ?_;intro J hJ;simp[f0,f6,f7,f8,T0,w2];refine zJ hJ ?_)))
  refine qL (fun m fr st'=>∃(c:List Int),m<=n/\fr 0=.ms q 0 l.length/\fr 6=i a/\fr 7=i 0/\fr 10=i ((m:Int)-1)/\st'=bx st q c/\Pm a b l c/\mV 0 m a c/\VN c a m n) n ?_ ?_
  .exact⟨c,aAk _,by simp[f0],by simp[f6],by simp[f7],by simp;omega,rfl,Xf,hh,fun p q h1 h2 h3=>by omega⟩
  clear f0 f6 f7 f8 f9 T0 Xf hh Xh c fr;rintro m fr Yy ⟨c,hm,f0,f6,f7,f10,rfl,Xf,hh,B7⟩ JJ hJJ;have Xh:=Xf.len;cases m with
  |zero=>
   have n6:fr 10=i (-1):=by rw[f10];rfl
   (repeat' (first|apply qS|refine qX (zZ ?_)|(apply qC;simp[n6])|(refine zE ?_;intro J hJ;simp[n6];refine zJ hJ ?_)))
   refine⟨trivial,c,rfl,Xf,fun p q h1 h2 h3=>?_⟩;have:=B7 (p-a) (q-a) oO oO oO
   rwa [show a+(p-a)=p by omega,show a+(q-a)=q by omega]at this
  |succ m=>
   have n6:fr 10=i (m:Int):=by rw[f10];congr 2;omega
   have w4:IntKind.i64.wrap ((m:Int)-1)=(m:Int)-1:=zW;have u6:(0:Int)<=(m:Int):=oO;obtain⟨x1,hx1⟩:∃ x:Nat,x=a+m:=⟨_,rfl⟩;have w5:IntKind.i64.wrap ((a:Int)+(m:Int))=(x1:Int):=zW;have hd0:=qG c a oO;have Xn:=qG c x1 oO;have Zu:a<l.length:=oO;have F6:x1<l.length:=oO;have hpop:=hh.pop oO;have Yu:=fun c2=>Db (c2:=c2) hh B7 oO oO;have Yo:=Xf.step a x1 oO oO oO oO oO;rw[<- hx1]at hpop Yu;have D5:=xF c a x1;have YP:=fun x y=>dL st q c a x1 (x:=x) (y:=y) oO oO;generalize Q9:c.getD a 0=y0 at *;generalize D4:c.getD x1 0=y1 at *;have Xy:=YP y0 y1 rfl rfl
   (repeat' (first|apply qS|apply qB|refine qK (zZ ?_)|(apply qC;simp[f0,f6,f7,n6,u6])|(refine zE ?_;intro J hJ;simp[f0,f6,f7,n6,u6];refine zJ hJ ?_)))
   (refine zS [] [q] [0,2,4,6,8,10,12,14,16,18,20,22,24,26,28,30,32,35,36,39] ?_;intro J hJ;simp[f0,f6,f7,n6,w5,Zu,F6,Xh,hd0,Xn];(repeat refine ca ?_);refine zJ hJ ?_)
   rw[Xy];generalize ZK:sw c a x1=c1 at *
   (repeat' (refine zE ?_;intro J hJ;simp[f0,f6,f7,n6]))
   rw[<- Xh,<- D5];refine qF (nG c1 q 0 m a _ (by unfold small;omega) oO oO hpop sS) ?_;rintro r s2 ⟨c2,rfl,YE,hh2⟩;rw[D5,Xh]
   (repeat' ((first|(refine zE ?_;intro J hJ)|(apply aF));simp[n6,w4];refine zJ hJ ?_))
   exact hJJ m _ _ oO ⟨c2,oO,by simp[f0],by simp[f6],by simp[f7],sS,St.set_set _ _ _ _,Yo.trans (YE.wide oO oO oO),hh2,Yu c2 (by rw[hx1];exact YE)⟩
end Aw
end Go.Proofs.YtempldclppogmaaGreatDoor
