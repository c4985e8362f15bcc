/- Plain lists of numbers: places, least ones, turns. No program. -/
import Derived.RangeFuncBox
import Derived.RangeFuncLeaves
import Derived.Shelf.Abstract
import Derived.WalkKit
import Derived.OwnWalkIn
import Derived.TacticsInMore
import Derived.LoopNIn
import Derived.LoopIn
import Derived.Maps.AppendAt
import Derived.Test.YtbgngpdonpeboaaGreatDoorProg
import Derived.Test.YtbgngpdonpeboaaGreatDoorAwSet
import Derived.IntWalk
set_option linter.unusedVariables false
set_option linter.unusedSimpArgs false
set_option maxHeartbeats 2000000
open Go.Proofs.Tryz
namespace Go.Proofs.YtbgngpdonpeboaaGreatDoor
namespace Pl
def gi(l:List Int)(x:Int):Int:=if x∈l then(l.idxOf x:Int)else -1
theorem LK{l:List Int}{x:Int}{k:Nat}(hk:k<l.length)(h:l[k]=x)(hn:∀ j (hj:j<k),l[j]'(by omega)≠x):gi l x=k:=by
 have hm:x∈l:=by rw[<- h];exact aAz hk
 unfold gi;rw[aAk hm]
 congr 1
 have h1:l.idxOf x<l.length:=aAR hm;have h2:l[l.idxOf x]=x:=aBA h1;rcases aCk (l.idxOf x) k with h3|h3|h3
 .grind
 .omega
 .have:=aDW (p:=fun y=>y==x) (xs:=l) (i:=k) (by simpa[List.idxOf]using h3)
  grind
theorem Lw{l:List Int}{x:Int}(hn:∀ j (hj:j<l.length),l[j]≠x):gi l x = -1:=by
 grind [gi]
theorem FD(l:List Int)(x:Int):gi l x<0↔x∉l:=by
 grind [gi]
def mn:List Int->Int
 |[]=>0
 |x::l=>l.foldl (fun a b=>if b<a then b else a) x
theorem uM(l:List Int):∀ a:Int,l.foldl (fun a b=>if b<a then b else a) a<=a/\(∀ x∈l,l.foldl (fun a b=>if b<a then b else a) a<=x)/\(l.foldl (fun a b=>if b<a then b else a) a=a\/l.foldl (fun a b=>if b<a then b else a) a∈l):=by
 induction l with
 |nil=>grind
 |cons b l ih=>
  intro a;simp only[List.foldl_cons];obtain⟨h1,h2,h3⟩:=ih (if b<a then b else a);have c1:(if b<a then b else a)<=a:=by split<;>omega
  have c2:(if b<a then b else a)<=b:=by split<;>omega
  refine⟨Int.le_trans h1 c1,?_,?_⟩
  .grind
  grind
theorem Kz{l:List Int}{x:Int}(hx:x∈l):mn l<=x:=by
 cases l with
 |nil=>grind
 |cons a l=>
  obtain⟨h1,h2,_⟩:=uM l a;rcases aAe.1 hx with rfl|hx
  .exact h1
  .exact h2 x hx
theorem sF{l:List Int}(h:l≠[]):mn l∈l:=by
 cases l with
 |nil=>grind
 |cons a l=>
  obtain⟨_,_,h3⟩:=uM l a
  grind [mn]
theorem VA{l:List Int}{m:Int}(hm:m∈l)(h:∀ x∈l,m<=x):mn l=m:=by
 have h1:=Kz hm
 grind [sF,List.ne_nil_of_mem]
theorem NV(l:List Int)(x:Int)(h:l≠[]):mn (l++[x])=if x<mn l then x else mn l:=by
 cases l with
 |nil=>grind
 |cons a l=>grind [mn]
theorem KQ(l:List Int)(k:Nat)(h0:0<k)(hk:k<l.length):mn (l.take (k+1))=if l[k] < mn (l.take k)then l[k]else mn (l.take k):=by
 rw[aAp hk,NV]
 grind [List.length_nil]
def rt(l:List Int)(k:Nat):List Int:=l.drop k++l.take k
def nrm(l:List Int):List Int:=rt l (l.idxOf (mn l))
theorem wI(l:List Int)(k:Nat):(rt l k).length=l.length:=by grind [rt]
theorem cJ(l:List Int):(nrm l).length=l.length:=wI _ _
theorem WI(l:List Int)(k i:Nat)(hk:k<=l.length)(hi:i<l.length):(rt l k)[i]'(by rw[wI];exact hi)=l[(k+i) % l.length]'(aBY _ oO):=by
 unfold rt;by_cases h:i<l.length-k
 .rw[List.getElem_append_left (by simpa using h)];simp only[aCl]
  congr 1
  rw[aAM oO]
 .rw[List.getElem_append_right (by simp;omega)];simp only[aBG,aAO]
  congr 1
  rw[Nat.mod_eq_sub_mod oO,aAM oO];omega
theorem KF(l:List Int)(i:Nat)(hi:i<l.length):(nrm l)[i]'(by grind [cJ])=l[(l.idxOf (mn l)+i) % l.length]'(aBY _ oO):=
 WI l _ i aCP hi
end Pl
namespace Eu
open Go
def it(f:Int->Int):Nat->Int->Int
 |0,x=>x
 |n+1,x=>it f n (f x)
theorem bW(f:Int->Int)(n:Nat)(x:Int):it f (n+1) x=f (it f n x):=by
 induction n generalizing x with
 |zero=>rfl
 |succ n ih=>exact ih (f x)
theorem jK(f:Int->Int)(m n:Nat)(x:Int):it f (m+n) x=it f m (it f n x):=by
 induction n generalizing x with
 |zero=>rfl
 |succ n ih=>exact ih (f x)
theorem Jy{f:Int->Int}{p:Nat}{x:Int}(h:it f p x=x)(q:Nat):it f (q*p) x=x:=by
 induction q with
 |zero=>rw[aEw];rfl
 |succ q ih=>grind [Nat.succ_mul,jK]
theorem EK{f:Int->Int}(hi:∀ x y,f x=f y->x=y)(n:Nat){x y:Int}(h:it f n x=it f n y):x=y:=by
 induction n generalizing x y with
 |zero=>exact h
 |succ n ih=>exact hi _ _ (ih h)
def Per(f:Int->Int):Prop:=∀ x,∃ p,0<p/\it f p x=x
def Orb(f:Int->Int)(x y:Int):Prop:=∃ n,it f n x=y
theorem Orb.refl(f:Int->Int)(x:Int):Orb f x x:=⟨0,rfl⟩
theorem Orb.step(f:Int->Int)(x:Int):Orb f x (f x):=⟨1,rfl⟩
theorem Orb.trans{f:Int->Int}{x y z:Int}(h:Orb f x y)(k:Orb f y z):Orb f x z:=by obtain⟨n,rfl⟩:=h;obtain⟨m,rfl⟩:=k;exact⟨m+n,jK f m n x⟩
theorem Orb.symm{f:Int->Int}(hf:Per f){x y:Int}(h:Orb f x y):Orb f y x:=by
 obtain⟨n,rfl⟩:=h;induction n generalizing x with
 |zero=>exact⟨0,rfl⟩
 |succ n ih=>
  refine(ih (x:=f x)).trans ?_;obtain⟨p,hp,h⟩:=hf x;cases p with
  |zero=>omega
  |succ p=>exact⟨p,h⟩
theorem Per.inj{f:Int->Int}(hf:Per f){x y:Int}(h:f x=f y):x=y:=by
 obtain⟨p,hp,h1⟩:=hf x;obtain⟨q,hq,h2⟩:=hf y;have h3:=Jy h1 q;have h4:=Jy h2 p;rw[aBT]at h4;obtain⟨k,hk⟩:∃ k,q*p=k+1:=⟨q*p-1,by have:=aDk hq hp;omega⟩
 grind [it]
theorem Qz{f:Int->Int}(D:List Int)(hD:∀ x∈D,f x∈D)(hi:∀ x y,f x=f y->x=y)(ho:∀ x,x∉D->f x=x):Per f:=by
 intro x;by_cases hx:x∈D
 .refine aAI fun x9=>?_;have Zy:∀ p,0<p->it f p x≠x:=fun p hp h=>x9 ⟨p,hp,h⟩;have c8:∀ k,it f k x∈D:=by
   intro k;induction k with
   |zero=>exact hx
   |succ k ih=>grind [bW]
  have hnd:((List.range (D.length+1)).map fun k=>it f k x).Nodup:=by unfold List.Nodup;rw[aAU];refine aBD.imp fun {i j} hij h=>?_;have h2:j=i+(j-i):=oO;rw[h2,jK]at h;exact Zy (j-i) oO (EK hi i h).symm
  have:=aAy hnd (l₂:=D) fun y hy=>by
   grind
  grind
 .exact⟨1,oO,ho x hx⟩
structure Eqv(R:Int->Int->Prop):Prop where
 refl:∀ x,R x x
 symm:∀ {x y},R x y->R y x
 trans:∀ {x y z},R x y->R y z->R x z
theorem Per.eqv{f:Int->Int}(hf:Per f):Eqv (Orb f):=⟨Orb.refl f,Orb.symm hf,Orb.trans⟩
noncomputable def ncl(R:Int->Int->Prop):List Int->Nat
 |[]=>0
 |x::l=>ncl R l+@ite Nat (∃ y∈l,R y x) (Classical.propDecidable _) 0 1
theorem aT{R:Int->Int->Prop}{x:Int}{l:List Int}(h:∃ y∈l,R y x):ncl R (x::l)=ncl R l:=by
 grind [ncl]
theorem aM{R:Int->Int->Prop}{x:Int}{l:List Int}(h:¬∃ y∈l,R y x):ncl R (x::l)=ncl R l+1:=by
 grind [ncl]
theorem dH{R S:Int->Int->Prop}{l:List Int}(h:∀ x∈l,∀ y∈l,(R x y↔S x y)):ncl R l=ncl S l:=by
 induction l with
 |nil=>rfl
 |cons x l ih=>
  have ih':=ih fun a ha b hb=>h a (aAc _ ha) b (aAc _ hb);by_cases hx:∃ y∈l,R y x
  .grind [aT]
  grind [aM]
theorem oU{R:Int->Int->Prop}(hR:Eqv R){l l':List Int}(h:l.Perm l'):ncl R l=ncl R l':=by
 induction h with
 |nil=>rfl
 |@cons x l1 l2 h ih=>
  by_cases hx:∃ y∈l1,R y x
  .grind [aT]
  grind [aM]
 |swap x y l=>
  by_cases D4:R x y
  .have M3:=hR.symm D4;rw[aT ⟨x,aAf,D4⟩,aT ⟨y,aAf,M3⟩];by_cases hx:∃ z∈l,R z x
   .rw[aT hx,aT];obtain⟨z,hz,hr⟩:=hx;exact⟨z,hz,hR.trans hr D4⟩
   .rw[aM hx,aM];rintro⟨z,hz,hr⟩;exact hx ⟨z,hz,hR.trans hr M3⟩
  .have M3:¬R y x:=fun h=>D4 (hR.symm h);have e1:(∃ z∈x::l,R z y)↔∃ z∈l,R z y:=by
    constructor
    .grind
    .grind
   have e2:(∃ z∈y::l,R z x)↔∃ z∈l,R z x:=by
    constructor
    .grind
    .grind
   by_cases hx:∃ z∈l,R z x
   .rw[aT (x:=x) (l:=y::l) (e2.2 hx)];by_cases hy:∃ z∈l,R z y
    .grind [aT]
    grind [aM,aT]
   .rw[aM (x:=x) (l:=y::l) (fun h=>hx (e2.1 h))];by_cases hy:∃ z∈l,R z y
    .grind [aT,aM]
    grind [aM]
 |trans _ _ h1 h2=>omega
def Mg(R:Int->Int->Prop)(a b x y:Int):Prop:=R x y\/(R x a/\R b y)\/(R x b/\R a y)
theorem Mg.eqv{R:Int->Int->Prop}(hR:Eqv R)(a b:Int):Eqv (Mg R a b):=by
 refine⟨fun x=>.inl (hR.refl x),?_,?_⟩
 .rintro x y (h|⟨h1,h2⟩|⟨h1,h2⟩)
  .exact .inl (hR.symm h)
  .exact .inr (.inr ⟨hR.symm h2,hR.symm h1⟩)
  .exact .inr (.inl ⟨hR.symm h2,hR.symm h1⟩)
 .rintro x y z (h|⟨h1,h2⟩|⟨h1,h2⟩) (k|⟨k1,k2⟩|⟨k1,k2⟩)
  .exact .inl (hR.trans h k)
  .exact .inr (.inl ⟨hR.trans h k1,k2⟩)
  .exact .inr (.inr ⟨hR.trans h k1,k2⟩)
  .exact .inr (.inl ⟨h1,hR.trans h2 k⟩)
  .exact .inr (.inl ⟨h1,k2⟩)
  .exact .inl (hR.trans h1 k2)
  .exact .inr (.inr ⟨h1,hR.trans h2 k⟩)
  .exact .inl (hR.trans h1 k2)
  .exact .inr (.inr ⟨h1,k2⟩)
theorem Mg.same{R:Int->Int->Prop}(hR:Eqv R){a b:Int}(h:R a b)(x y:Int):Mg R a b x y↔R x y:=by
 constructor
 .rintro(k|⟨k1,k2⟩|⟨k1,k2⟩)
  .exact k
  .exact hR.trans (hR.trans k1 h) k2
  .exact hR.trans (hR.trans k1 (hR.symm h)) k2
 .exact .inl
theorem Mg.le{R S:Int->Int->Prop}(hS:Eqv S){a b:Int}(x7:S a b)(h:∀ x y,R x y->S x y){x y:Int}(k:Mg R a b x y):S x y:=by
 rcases k with k|⟨k1,k2⟩|⟨k1,k2⟩
 .grind
 .exact hS.trans (hS.trans (h _ _ k1) x7) (h _ _ k2)
 .exact hS.trans (hS.trans (h _ _ k1) (hS.symm x7)) (h _ _ k2)
theorem wX{R:Int->Int->Prop}(hR:Eqv R){a b:Int}(x7:¬R a b){l:List Int}(ha:a∈l)(hb:b∈l):ncl R l=ncl (Mg R a b) l+1:=by
 have Zy:b≠a:=by rintro rfl;exact x7 (hR.refl _)
 have key:∀ rest:List Int,ncl R (rest++[a,b])=ncl (Mg R a b) (rest++[a,b])+1:=by
  intro rest;induction rest with
  |nil=>
   have h1:ncl R [a,b]=2:=by
    rw[aM,aM]
    .rfl
    .grind
    .rintro⟨y,hy,hr⟩;rw[aAi]at hy;subst hy;exact x7 (hR.symm hr)
   have h2:ncl (Mg R a b) [a,b]=1:=by
    rw[aT,aM]
    .rfl
    .grind
    .exact⟨b,sS,.inr (.inr ⟨hR.refl _,hR.refl _⟩)⟩
   grind
  |cons x rest ih=>
   rw[List.cons_append];have haL:a∈rest++[a,b]:=sS;have hbL:b∈rest++[a,b]:=sS;by_cases hx:∃ y∈rest++[a,b],R y x
   .rw[aT hx,aT,ih];obtain⟨y,hy,hr⟩:=hx;exact⟨y,hy,.inl hr⟩
   .rw[aM hx,aM,ih];rintro⟨y,hy,hr|⟨_,hr⟩|⟨_,hr⟩⟩
    .grind
    .grind
    grind
 have p1:l.Perm (a::l.erase a):=aDx ha;have p2:(l.erase a).Perm (b::(l.erase a).erase b):=aDx ((aEk Zy).2 hb);have p3:l.Perm (((l.erase a).erase b)++[a,b]):=(p1.trans (p2.cons a)).trans (aBp (l₁:=[a,b]))
 grind [oU,Mg.eqv]
theorem Df{R:Int->Int->Prop}{t l:List Int}(ht:∀ x∈t,∀ y∈t,R x y)(hl:∀ x∈t,∀ y∈l,¬R y x):ncl R (t++l)=ncl R l+if t=[]then 0 else 1:=by
 induction t with
 |nil=>simp
 |cons x t ih=>
  have ih':=ih (fun a ha b hb=>ht a (aAc _ ha) b (aAc _ hb)) (fun a ha=>hl a (aAc _ ha));rw[List.cons_append,aAa sS];cases t with
  |nil=>
   grind [aM]
  |cons z t=>rw[aT ⟨z,sS,ht z sS x sS⟩,ih',aAa sS]
theorem Bd{R:Int->Int->Prop}:∀(ts:List (List Int)),(∀ t∈ts,∀ x∈t,∀ y∈t,R x y)->ts.Pairwise (fun t t'=>∀ x∈t,∀ y∈t',¬R y x)->ncl R ts.flatten=(ts.filter fun t=>decide (t≠[])).length
 |[],_,_=>rfl
 |t::ts,h1,h2=>by
  rw[aBl]at h2;rw[List.flatten_cons,Df (h1 t aAf),Bd ts (fun t ht=>h1 t (aAc _ ht)) h2.2]
  .grind
  grind [List.mem_flatten]
def sw(a b x:Int):Int:=if x=a then b else if x=b then a else x
theorem Jv(a b:Int):sw a b a=b:=by simp[sw]
theorem Om(a b:Int):sw a b b=a:=by
 grind [sw]
theorem Br{a b x:Int}(h1:x≠a)(h2:x≠b):sw a b x=x:=by grind [sw]
theorem VI(a b x:Int):sw a b (sw a b x)=x:=by
 grind [Jv,Om,Br]
theorem WD(a b:Int){x y:Int}(h:sw a b x=sw a b y):x=y:=by grind [VI]
theorem least{P:Nat->Prop}{n:Nat}(h:P n):∃ m,P m/\∀ k,k<m->¬P k:=by
 induction n using Nat.strongRecOn with
 |ind n ih=>
  grind
section
variable {f f':Int->Int} {a b:Int}
theorem Nw(O3:∀ x,f' x=f (sw a b x))(x7:a≠b)(h:Orb f b a):¬Orb f' a b:=by
 obtain⟨n0,h0⟩:=h;obtain⟨n,hn,F8⟩:=least (P:=fun n=>it f n b=a) h0;have P6:n≠0:=by rintro rfl;exact x7 hn.symm
 have hbb:∀ i,0<i->i<=n->it f i b≠b:=by intro i hi c8 hb;have:n=(n-i)+i:=oO;rw[this,jK,hb]at hn;exact F8 (n-i) oO hn
 have o8:∀ x,(∃ i,0<i/\i<=n/\x=it f i b)->∃ i,0<i/\i<=n/\f' x=it f i b:=by
  rintro x ⟨i,hi,c8,rfl⟩;rcases aAK i n with h1|h1
  .grind [Br,bW]
  .obtain rfl:i=n:=oO;exact⟨1,oO,oO,by rw[O3,hn,Jv];rfl⟩
 rintro⟨k,hk⟩;have hall:∀ k,∃ i,0<i/\i<=n/\it f' k a=it f i b:=by
  intro k;induction k with
  |zero=>exact⟨n,oO,aAl _,hn.symm⟩
  |succ k ih=>rw[bW];exact o8 _ ih
 obtain⟨i,h1,h2,h3⟩:=hall k
 grind
theorem PU(hf:Per f)(O3:∀ x,f' x=f (sw a b x))(h:¬Orb f b a):Orb f' a b:=by
 obtain⟨p,hp,h0⟩:=hf b;obtain⟨n,⟨P6,hn⟩,F8⟩:=least (P:=fun n=>0<n/\it f n b=b) ⟨hp,h0⟩;have key:∀ k,0<k->k<=n->it f' k a=it f k b:=by
  intro k;induction k with
  |zero=>omega
  |succ k ih=>
   intro _ hk;rcases aCs k with rfl|h0
   .show f' a=f b
    grind [Jv]
   .rw[bW,ih h0 oO,O3,Br (fun e=>h ⟨k,e⟩) (fun e=>F8 k oO ⟨h0,e⟩),bW f k b]
 exact⟨n,by grind⟩
theorem RK(hf:Per f)(O3:∀ x,f' x=f (sw a b x)){x y:Int}(h:Orb f' x y):Mg (Orb f) a b x y:=by
 have hE:=Mg.eqv hf.eqv a b;obtain⟨n,rfl⟩:=h;induction n generalizing x with
 |zero=>exact hE.refl _
 |succ n ih=>
  refine hE.trans ?_ (ih (x:=f' x));rw[O3];by_cases h1:x=a
  .subst h1;rw[Jv];exact .inr (.inl ⟨Orb.refl _ _,Orb.step _ _⟩)
  .by_cases h2:x=b
   .subst h2;rw[Om];exact .inr (.inr ⟨Orb.refl _ _,Orb.step _ _⟩)
   .rw[Br h1 h2];exact .inl (Orb.step _ _)
theorem Kv(hf:Per f)(O1:Per f')(O3:∀ x,f' x=f (sw a b x))(x y:Int):Mg (Orb f) a b x y↔Mg (Orb f') a b x y:=by
 have hb:∀ x,f x=f' (sw a b x):=fun x=>by grind [VI]
 constructor
 .exact Mg.le (Mg.eqv O1.eqv a b) (.inr (.inl ⟨Orb.refl _ _,Orb.refl _ _⟩)) fun x y h=>RK O1 hb h
 .exact Mg.le (Mg.eqv hf.eqv a b) (.inr (.inl ⟨Orb.refl _ _,Orb.refl _ _⟩)) fun x y h=>RK hf O3 h
theorem vY{D:List Int}(hf:Per f)(O1:Per f')(O3:∀ x,f' x=f (sw a b x))(x7:a≠b)(ha:a∈D)(hb:b∈D)(h:Orb f a b):ncl (Orb f') D=ncl (Orb f) D+1:=by
 rw[wX O1.eqv (Nw O3 x7 (Orb.symm hf h)) ha hb]
 congr 1
 refine dH fun x _ y _=>?_;rw[<- Kv hf O1 O3,Mg.same hf.eqv h]
theorem AW{D:List Int}(hf:Per f)(O1:Per f')(O3:∀ x,f' x=f (sw a b x))(ha:a∈D)(hb:b∈D)(h:¬Orb f a b):ncl (Orb f) D=ncl (Orb f') D+1:=by
 have h':Orb f' a b:=PU hf O3 fun k=>h (Orb.symm hf k);rw[wX hf.eqv h ha hb]
 congr 1
 refine dH fun x _ y _=>?_;rw[Kv hf O1 O3,Mg.same O1.eqv h']
end
def kW(f:Int->Int)(d:Int)(L:List Int):Prop:=∃ p,0<p/\L=(List.range p).map (fun k=>it f k d)/\it f p d=d/\∀ q,0<q->q<p->it f q d≠d
theorem PV{f:Int->Int}(hf:Per f)(d:Int):∃ L,kW f d L:=by obtain⟨p,hp,h0⟩:=hf d;obtain⟨n,⟨P6,hn⟩,F8⟩:=least (P:=fun n=>0<n/\it f n d=d) ⟨hp,h0⟩;exact⟨_,n,P6,rfl,hn,fun q h1 h2 h3=>F8 q h2 ⟨h1,h3⟩⟩
theorem Jk{f:Int->Int}{d:Int}{p:Nat}(hp:0<p)(h:it f p d=d)(n:Nat):it f n d=it f (n % p) d:=by
 grind [Nat.mod_add_div,Nat.mul_comm,jK,Jy]
theorem kW.mem{f:Int->Int}{d:Int}{L:List Int}(h:kW f d L){x:Int}:x∈L↔Orb f d x:=by
 obtain⟨p,hp,rfl,h1,h2⟩:=h;rw[aAj];constructor
 .rintro⟨k,_,rfl⟩;exact⟨k,rfl⟩
 .rintro⟨n,rfl⟩;exact⟨n % p,aBb.2 (aBY _ hp),(Jk hp h1 n).symm⟩
theorem kW.nodup{f:Int->Int}(hi:∀ x y,f x=f y->x=y){d:Int}{L:List Int}(h:kW f d L):L.Nodup:=by
 obtain⟨p,hp,rfl,h1,h2⟩:=h;unfold List.Nodup;rw[aAU];refine(aBD (n:=p)).imp_of_mem fun {i j} D8 hj hij h=>?_;rw[aBb]at D8 hj;have e:j=i+(j-i):=oO
 grind [jK,EK]
theorem kW.ne{f:Int->Int}{d:Int}{L:List Int}(h:kW f d L):L≠[]:=by obtain⟨p,hp,rfl,h1,h2⟩:=h;intro h;simp_all
end Eu
namespace Pl
def sw(c:List Int)(a b:Nat):List Int:=(c.set a (c.getD b 0)).set b (c.getD a 0)
theorem DI(c:List Int)(a b:Nat):(sw c a b).length=c.length:=by simp[sw]
theorem cQ(c:List Int)(a b j:Nat)(ha:a<c.length)(hb:b<c.length):(sw c a b).getD j 0=if j=b then c.getD a 0 else if j=a then c.getD b 0 else c.getD j 0:=by
 grind [sw]
theorem TZ(c:List Int)(a b:Nat)(ha:a<c.length)(hb:b<c.length):(sw c a b).Perm c:=by
 grind [sw]
inductive Pm(a b:Nat)(l:List Int):List Int->Prop
 |refl:Pm a b l l
 |step {m:List Int} (h:Pm a b l m) (x y:Nat) (hx:a<=x) (L9:x<b) (hy:a<=y) (hy':y<b) (hb:b<=l.length):Pm a b l (sw m x y)
theorem Pm.len{a b:Nat}{l m:List Int}(h:Pm a b l m):m.length=l.length:=by
 induction h with
 |refl=>rfl
 |step h x y _ _ _ _ _ ih=>grind [DI]
theorem Pm.out{a b:Nat}{l m:List Int}(h:Pm a b l m)(j:Nat)(hj:j<a\/b<=j):m.getD j 0=l.getD j 0:=by
 induction h with
 |refl=>rfl
 |step h x y h1 h2 h3 h4 h5 ih=>
  have:=h.len
  grind [cQ]
theorem Pm.trans{a b:Nat}{l m n:List Int}(h:Pm a b l m)(k:Pm a b m n):Pm a b l n:=by
 induction k with
 |refl=>exact h
 |step k x y h1 h2 h3 h4 h5 ih=>have:=h.len;exact ih.step x y h1 h2 h3 h4 oO
theorem Pm.wide{a b a' b':Nat}{l m:List Int}(h:Pm a b l m)(ha:a'<=a)(hb:b<=b')(hl:b'<=l.length):Pm a' b' l m:=by
 induction h with
 |refl=>exact .refl
 |step k x y h1 h2 h3 h4 h5 ih=>exact ih.step x y oO oO oO oO hl
theorem Pm.perm{a b:Nat}{l m:List Int}(h:Pm a b l m):m.Perm l:=by
 induction h with
 |refl=>grind
 |step k x y h1 h2 h3 h4 h5 ih=>have:=k.len;grind [TZ]
theorem Pm.all{a b:Nat}{l m:List Int}(h:Pm a b l m)(P:Int->Prop)(hP:∀ j,a<=j->j<b->P (l.getD j 0))(j:Nat)(h1:a<=j)(h2:j<b):P (m.getD j 0):=by
 induction h generalizing j with
 |refl=>grind
 |step k x y g1 g2 g3 g4 g5 ih=>
  have:=k.len
  grind [cQ]
theorem Pm.one{a b:Nat}{l:List Int}(x y:Nat)(hx:a<=x)(L9:x<b)(hy:a<=y)(hy':y<b)(hb:b<=l.length):Pm a b l (sw l x y):=Pm.refl.step x y hx L9 hy hy' hb
def Srt(a b:Nat)(l:List Int):Prop:=∀ p q,a<=p->p<q->q<b->l.getD p 0<=l.getD q 0
def Ins(a j i:Nat)(d:List Int):Prop:=∀ p q,a<=p->p<q->q<=i->q≠j->d.getD p 0<=d.getD q 0
theorem Srt.ins{a i:Nat}{d:List Int}(h:Srt a i d):Ins a i i d:=fun p q h1 h2 h3 h4=>h p q h1 h2 oO
theorem Ins.step{a j i:Nat}{d:List Int}(h:Ins a j i d)(hj:a<j)(hi:j<=i)(hil:i<d.length)(dQ:d.getD j 0<d.getD (j-1) 0):Ins a (j-1) i (sw d j (j-1)):=by
 intro p q h1 h2 h3 h4;rw[cQ _ _ _ _ oO oO,cQ _ _ _ _ oO oO];by_cases e1:q=j
 .rw[aAa h4,aAk e1];by_cases e2:p=j-1
  .omega
  .rw[aAa e2,aAa oO];exact h p (j-1) h1 oO oO oO
 .rw[aAa h4,aAa e1];by_cases e2:p=j-1
  .rw[aAk e2];exact h j q oO oO h3 e1
  .rw[aAa e2];by_cases e3:p=j
   .rw[aAk e3];exact h (j-1) q oO oO h3 e1
   .rw[aAa e3];exact h p q h1 h2 h3 e1
theorem Ins.done{a j i:Nat}{d:List Int}(h:Ins a j i d)(hj:a<=j)(hs:j=a\/¬d.getD j 0<d.getD (j-1) 0):Srt a (i+1) d:=by
 intro p q h1 h2 h3;by_cases e:q=j
 .subst e;have h5:¬d.getD q 0<d.getD (q-1) 0:=by rcases hs with hs|hs;omega;exact hs
  by_cases e2:p=q-1
  .grind
  .have:=h p (q-1) h1 oO oO oO;omega
 .exact h p q h1 h2 oO e
def tP(lo hi f:Nat)(d:List Int):Prop:=∀ k c,lo<=k->(c=2*k+1\/c=2*k+2)->c<hi->d.getD (f+c) 0<=d.getD (f+k) 0
def uO(lo hi f r:Nat)(d:List Int):Prop:=(∀ k c,lo<=k->k≠r->(c=2*k+1\/c=2*k+2)->c<hi->d.getD (f+c) 0<=d.getD (f+k) 0)/\
 (∀ k c,lo<=k->(r=2*k+1\/r=2*k+2)->(c=2*r+1\/c=2*r+2)->c<hi->d.getD (f+c) 0<=d.getD (f+k) 0)
theorem tP.x{lo hi f:Nat}{d:List Int}(h:tP (lo+1) hi f d):uO lo hi f lo d:=
 ⟨fun k c h1 h2 h3 h4=>h k c oO h3 h4,fun k c h1 h2 h3 h4=>by omega⟩
theorem uO.leaf{lo hi f r:Nat}{d:List Int}(h:uO lo hi f r d)(hr:hi<=2*r+1):tP lo hi f d:=by intro k c h1 h2 h3;exact h.1 k c h1 oO h2 h3
theorem uO.big{lo hi f r:Nat}{d:List Int}(h:uO lo hi f r d)(hr:∀ c,(c=2*r+1\/c=2*r+2)->c<hi->d.getD (f+c) 0<=d.getD (f+r) 0):tP lo hi f d:=by
 intro k c h1 h2 h3;by_cases e:k=r
 .grind
 .exact h.1 k c h1 e h2 h3
theorem uO.step{lo hi f r c:Nat}{d:List Int}(h:uO lo hi f r d)(U1:lo<=r)(hc:c=2*r+1\/c=2*r+2)(hci:c<hi)(hl:f+hi<=d.length)(hm:∀ x,(x=2*r+1\/x=2*r+2)->x<hi->d.getD (f+x) 0<=d.getD (f+c) 0)
 (dQ:d.getD (f+r) 0<d.getD (f+c) 0):uO lo hi f c (sw d (f+r) (f+c)):=by
 constructor
 .intro k x h1 h2 h3 h4;rw[cQ _ _ _ _ oO oO,cQ _ _ _ _ oO oO];by_cases e1:k=r
  .grind
  .rw[aAa (show ¬f+k=f+c by omega),aAa (show ¬f+k=f+r by omega)];by_cases e2:x=r
   .subst e2;rw[aAa oO,aAk (rfl:f+x=f+x)];exact h.2 k c h1 h3 hc hci
   .rw[aAa oO,aAa oO];exact h.1 k x h1 e1 h3 h4
 .intro k x h1 h2 h3 h4;have e1:k=r:=oO;subst e1;rw[cQ _ _ _ _ oO oO,cQ _ _ _ _ oO oO];rw[aAa oO,aAa oO,aAa (show ¬f+k=f+c by omega),aAk (rfl:f+k=f+k)];exact h.1 c x oO oO h3 h4
theorem tP.top{hi f:Nat}{d:List Int}(h:tP 0 hi f d):∀ c,c<hi->d.getD (f+c) 0<=d.getD f 0:=by
 intro c;induction c using Nat.strongRecOn with
 |ind c ih=>
  intro hc;by_cases h0:c=0
  .grind
  .have h1:=h ((c-1) / 2) c oO oO hc
   grind
theorem tP.pop{j f:Nat}{c:List Int}(h:tP 0 (j+1) f c)(hl:f+j<c.length):tP 1 j f (sw c f (f+j)):=by intro k x h1 h2 h3;rw[cQ _ _ _ _ oO oO,cQ _ _ _ _ oO oO];rw[aAa oO,aAa oO,aAa oO,aAa oO];exact h k x oO h2 oO
theorem Ml{hi f j:Nat}{c c2:List Int}(hH:tP 0 (j+1) f c)(ho:∀ p q,p<q->j+1<=q->q<hi->c.getD (f+p) 0<=c.getD (f+q) 0)(hj:j<hi)(hl:f+hi<=c.length)(hp:Pm f (f+j) (sw c f (f+j)) c2):
 ∀ p q,p<q->j<=q->q<hi->c2.getD (f+p) 0<=c2.getD (f+q) 0:=by
 intro p q h1 h2 h3;have g:=fun x=>cQ c f (f+j) x oO oO;rw[hp.out (f+q) oO,g (f+q)];by_cases e:q=j
 .subst e;rw[aAk rfl];refine hp.all (fun x=>x<=c.getD f 0) (fun x h4 h5=>?_) (f+p) oO oO;rw[g,aAa oO];by_cases e2:x=f
  .rw[aAk e2];exact hH.top q oO
  .rw[aAa e2];have:=hH.top (x-f) oO;simp_all
 .rw[aAa oO,aAa oO];by_cases e2:p<j
  .refine hp.all (fun x=>x<=c.getD (f+q) 0) (fun x h4 h5=>?_) (f+p) oO oO;rw[g,aAa oO];by_cases e3:x=f
   .grind
   .rw[aAa e3];have:=ho (x-f) q oO oO h3;simp_all
  .rw[hp.out (f+p) oO,g];by_cases e3:p=j
   .rw[aAk oO];have:=ho 0 q oO oO h3;omega
   grind
theorem QT{a m b:Nat}{d:List Int}(h1:Srt a m d)(h2:Srt (m+1) b d)(h3:∀ p,a<=p->p<m->d.getD p 0<=d.getD m 0)(h4:∀ q,m<q->q<b->d.getD m 0<=d.getD q 0):Srt a b d:=by
 intro p q k1 k2 k3;rcases aCk p m with e|e|e
 .rcases aCk q m with e'|e'|e'
  .exact h1 p q k1 k2 e'
  .grind
  grind
 .grind
 .exact h2 p q oO k2 k3
def Lo(P:Int->Bool)(c:List Int)(a m:Nat):Prop:=∀ p,a<p->p<m->P (c.getD p 0)=true
def Hi(P:Int->Bool)(c:List Int)(m b:Nat):Prop:=∀ p,m<p->p<b->P (c.getD p 0)=false
theorem Lo.more{P:Int->Bool}{c:List Int}{a m:Nat}(h:Lo P c a m)(hm:P (c.getD m 0)=true):Lo P c a (m+1):=by
 intro p h1 h2;by_cases e:p=m
 .grind
 .exact h p h1 oO
theorem Hi.more{P:Int->Bool}{c:List Int}{m b:Nat}(h:Hi P c m b)(h0:0<m)(hm:P (c.getD m 0)=false):Hi P c (m-1) b:=by
 intro p h1 h2;by_cases e:p=m
 .grind
 .exact h p oO h2
theorem Lo.swp{P:Int->Bool}{c:List Int}{a k m:Nat}(h:Lo P c a k)(hkm:k<m)(hm:m<c.length)(hp:P (c.getD m 0)=true):Lo P (sw c k m) a (k+1):=by
 intro p h1 h2;rw[cQ _ _ _ _ oO oO,aAa oO];by_cases e:p=k
 .grind
 .rw[aAa e];exact h p h1 oO
theorem Hi.swp{P:Int->Bool}{c:List Int}{k m b:Nat}(h:Hi P c m b)(hkm:k<m)(hm:m<c.length)(hp:P (c.getD k 0)=false):Hi P (sw c k m) (m-1) b:=by
 intro p h1 h2;rw[cQ _ _ _ _ oO oO];by_cases e:p=m
 .grind
 .rw[aAa e,aAa oO];exact h p oO h2
def PM(P:Int->Bool)(c:List Int)(a m b:Nat):Prop:=(∀ p,a<=p->p<m->P (c.getD p 0)=true)/\(∀ p,m<p->p<b->P (c.getD p 0)=false)
def GU(c:List Int)(a m b:Nat)(x:Int):Prop:=(∀ p,a<=p->p<m->c.getD p 0<=x)/\(∀ p,m<=p->p<b->x<c.getD p 0)
def cT(c:List Int)(a m b:Nat):Prop:=PM (fun v=>decide (v<c.getD m 0)) c a m b
theorem xM{P:Int->Bool}{c:List Int}{a m b:Nat}(h1:Lo P c a (m+1))(h2:Hi P c m b)(ham:a<=m)(V3:m<b)(hb:b<=c.length):PM P (sw c m a) a m b/\(sw c m a).getD m 0=c.getD a 0:=by
 refine⟨⟨fun p k1 k2=>?_,fun p k1 k2=>?_⟩,?_⟩
 .rw[cQ _ _ _ _ oO oO];by_cases e:p=a
  .rw[aAk e];exact h1 m oO oO
  .rw[aAa e,aAa oO];exact h1 p oO oO
 .rw[cQ _ _ _ _ oO oO,aAa oO,aAa oO];exact h2 p k1 k2
 grind [cQ]
theorem PG{l:List Int}(h:Srt 0 l.length l):l.Pairwise (·<=·):=by
 refine aAB.2 fun p q hp hq hpq=>?_;have:=h p q oO hpq hq
 grind
theorem Jb{l m:List Int}(h:l.Pairwise (·<=·))(k:m.Pairwise (·<=·))(hp:l.Perm m):l=m:=
 hp.eq_of_pairwise (fun a b _ _ h1 h2=>by omega) h k
end Pl
namespace Rg
open Go Go.RowKit Go.Shelf
attribute [local go_sem] Oper.semAt_some
def upto(zs:List Int)(k:Nat):List Int:=(List.range k).map fun j=>zs[j]?.getD 0
theorem Dp(zs:List Int)(k:Nat):upto zs (k+1)=upto zs k++[zs[k]?.getD 0]:=by simp[upto,aDy]
theorem IE(zs:List Int)(k:Nat):(upto zs k).length=k:=by simp[upto]
theorem Po(zs:List Int):upto zs zs.length=zs:=by
 apply aDp
 .simp[upto]
 grind [upto]
set_option maxRecDepth 100000 in
theorem JH(F:Fence)(n:Nat)(h7:F.fn 204)(M6:F.round=none)(hn:1<=n)(l Bs Q6 b off len cap:Nat)(zs:List Int)(hlen:len<=1048576)(hb:b<Q6)(J Jx:List Int->World->Prop)
 (hY:∀ pre x W,J pre W->pre.length<len->YieldAt F (n-1) prog l #[.int .u32 x] W fun e W'=>
   (e=.returned (.bool true)/\J (pre++[x]) W'/\Below Q6 W W')\/(e=.returned (.bool false)/\Jx (pre++[x]) W'))
 (W:World) (hBs:W.cell? ⟨Bs,0,none⟩=some (.slice (some ⟨b,off,none⟩) len cap)) (hc:∀ j,j<len->W.cell? ⟨b,off+j,none⟩=some (.int .u32 (zs[j]?.getD 0))) (h0:J [] W):
 CallsIn F n prog 204 #[.func (.yield l) #[] #[],.pointer (some ⟨Bs,0,none⟩)] W fun e W'=>(∃ v,e=.returned v)/\
  ((∃ ys,ys=upto zs len/\J ys W')\/(∃ pre,(∃ k,k<=len/\pre=upto zs k)/\Jx pre W')):=by
 refine callsIn_of_wp func204 rfl h7 ?_ M6;simp only[ntmps204,aAV,List.length_cons,List.length_nil,Nat.reduceAdd,Nat.reduceSub,aBw,Array.replicate_zero,aBH,aBy,List.nil_append,List.cons_append]
 gi_wp2
 gi_loopw [7] (fun i wr=>∃ k:Nat,k<=len/\i=.int .i64 k/\J (upto zs k) wr/\Below Q6 W wr)
  (fun i _=>len-(intOf i).toNat)
 case atStart=>exact⟨0,aBE _,rfl,h0,Below.refl _ _⟩
 case round=>
  obtain⟨k,hk,rfl,hJs,D9⟩:=hrel;have hcx:k<len->wr.cell? ⟨b,off+k,none⟩=some (.int .u32 (zs[k]?.getD 0)):=fun h=>(D9.cell (p:=⟨b,off+k,none⟩) hb).trans (hc k h);by_cases dQ:k<len
  .obtain⟨fn,tmps,assign,body,hy,hR⟩:=hY _ (zs[k]?.getD 0) wr hJs (by grind [IE]);have hcx':=hcx dQ
   gi_wp2
   refine hR.mono ?_;rintro e W3 (⟨rfl,hJ3,o9⟩|⟨rfl,hJx3⟩)
   .gi_wp2
    go_roundw
    case rel=>exact⟨k+1,oO,sS,by grind [Dp],D9.trans o9⟩
    grind [intOf]
   .gi_wp2
    refine bodyPost_ret (results_none rfl _ _ _) rfl ?_;exact⟨⟨_,rfl⟩,.inr ⟨_,⟨k+1,oO,(Dp _ _).symm⟩,hJx3⟩⟩
  .obtain rfl:k=len:=oO
   gi_wp2
   go_end0
   grind
set_option maxRecDepth 100000 in
theorem BU(F:Fence)(n:Nat)(h7:F.fn 204)(M6:F.round=none)(l Bs:Nat)(J:List Int->World->Prop)(W:World)(A:Option Addr)(cap:Nat)(hBs:W.cell? ⟨Bs,0,none⟩=some (.slice A 0 cap))(h0:J [] W):
 CallsIn F n prog 204 #[.func (.yield l) #[] #[],.pointer (some ⟨Bs,0,none⟩)] W fun e W'=>(∃ v,e=.returned v)/\J [] W':=by
 refine callsIn_of_wp func204 rfl h7 ?_ M6;simp only[ntmps204,aAV,List.length_cons,List.length_nil,Nat.reduceAdd,Nat.reduceSub,aBw,Array.replicate_zero,aBH,aBy,List.nil_append,List.cons_append]
 gi_wp2
 gi_loopw [7] (fun i wr=>i=.int .i64 0/\J [] wr) (fun _ _=>0)
 case atStart=>grind
 case round=>
  obtain⟨rfl,hJs⟩:=hrel
  gi_wp2
  go_end0
  grind
def Ints(Q6:Nat)(W:World)(sv:Value)(zs:List Int):Prop:=
 (zs=[]/\∃ A cap,sv=.slice A 0 cap)\/∃ b off cap,sv=.slice (some ⟨b,off,none⟩) zs.length cap/\b<Q6/\∀ j,j<zs.length->W.cell? ⟨b,off+j,none⟩=some (.int .u32 (zs[j]?.getD 0))
theorem Ints.below{Q6:Nat}{A B:World}(h:Below Q6 A B){sv:Value}{zs:List Int}:Ints Q6 A sv zs->Ints Q6 B sv zs
 |.inl e=>.inl e
 |.inr ⟨b,off,cap,e,hb,hc⟩=>.inr ⟨b,off,cap,e,hb,fun j hj=>(h.cell (p:=⟨b,off+j,none⟩) hb).trans (hc j hj)⟩
theorem FT(F:Fence)(n:Nat)(h7:F.fn 204)(M6:F.round=none)(hn:1<=n)(Bs Q6:Nat)(sv:Value)(zs:List Int)(hlen:zs.length<=1048576)(w:World)(hBs:Bs<w.heap.size)(hn₀:Q6<=w.heap.size)
 (hc:w.cell? ⟨Bs,0,none⟩=some sv) (hI:Ints Q6 w sv zs):
 SeqStopsK F n prog 204 #[.pointer (some ⟨Bs,0,none⟩)] (fun x:Int=>#[Value.int .u32 x]) (Below Q6) (fun ys=>ys=zs) (fun _=>True) zs.length w:=fun l J Jx W hW _ _ hY h0=>by
 have V1:=(hW.cell (p:=⟨Bs,0,none⟩) hBs).trans hc;rcases hI.below (hW.mono hn₀)with⟨rfl,A,cap,rfl⟩|⟨b,off,cap,rfl,hb,I0⟩
 .exact(BU F n h7 M6 l Bs J W A cap V1 h0).mono fun e W' ⟨he,hj⟩=>⟨he,.inl ⟨_,rfl,hj⟩⟩
 .refine(JH F n h7 M6 hn l Bs Q6 b off zs.length cap zs hlen hb J Jx hY W V1 I0 h0).mono ?_
  grind [Po]
theorem SF:(prog.info? 34).map (fun i=>(i.zero,i.size,i.bytes))=some (some (.int .u32 0),1,4):=by kernel_rfl
set_option maxRecDepth 100000 in
theorem Ek(F:Fence)(n:Nat)(h3:F.fn 147)(h7:F.fn 204)(M6:F.round=none)(hn:3<=n)(Bs:Nat)(sv:Value)(zs:List Int)(hlen:zs.length<=1048576)(w:World)(hBs:Bs<w.heap.size)
 (hc:w.cell? ⟨Bs,0,none⟩=some sv) (hI:Ints w.heap.size w sv zs):
 CallsIn F n prog 147 #[.slice none 0 0,.func (.func 204) #[] #[.pointer (some ⟨Bs,0,none⟩)]] w fun e W'=>∃ v,e=.returned v/\W'.ownsRow w.heap.size 34 1 v zs.length (zs.map (Value.int .u32))/\Below w.heap.size w W':=by
 have h1:1<=n:=oO;obtain⟨i0,hi,hz0,hz1,hz2⟩:=info_parts SF;refine callsIn_of_wp_marks func147 rfl h3 ?_ M6;simp only[ntmps147,aAV,List.length_cons,List.length_nil,Nat.reduceAdd,Nat.reduceSub,aBw,Array.replicate_zero,aBH,aBy,List.nil_append,List.cons_append]
 gi_wp2
 have bO:=Boxed.new w 22 (.slice none 0 0);have hB0:Below w.heap.size w (w.alloc (.cells #[.slice none 0 0] 22)):=(Below.refl _ w).alloc (aAl _) _
 refine wpIn_rangeFunc_ownG M6 h1 (gf:=204) (lb:=#[.pointer (some ⟨Bs,0,none⟩)]) rfl h7 (enters_of func204 (by kernel_rfl) rfl)
  (FT F (n-1) h7 M6 oO Bs w.heap.size sv zs hlen _ (by simp;omega) sS ((hB0.cell (p:=⟨Bs,0,none⟩) hBs).trans hc) (hI.below hB0)) belowK_t (belowK_b sS) (Below.refl _ _) (fun _=>rfl)
  (fun pre W=>(∃ v,Boxed W w.heap.size 22 v/\W.ownsRow w.heap.size 34 1 v pre.length (pre.map (Value.int .u32))/\True)/\Below w.heap.size w W)
  (fun _ _ _=>False)
  (OwnFrom.and (Own.from (holdsRow_own w.heap.size w.heap.size 22 34 1 (fun pre:List Int=>pre.length) (fun pre:List Int=>pre.map (Value.int .u32)) (fun _ _=>True)) _) (ownFrom_below (aAl _) sS))
  (fun _ _ _ _ _ hs _ _=>hs)
  ⟨⟨_,bO,World.ownsRow_nil _ _ _ _,trivial⟩,hB0⟩
  (fun x=>{ tmps:=#[.slice none 0 0,.func (.func 204) #[] #[.pointer (some ⟨Bs,0,none⟩)],.pointer (some ⟨w.heap.size,0,none⟩),undef,.slice none 0 0,.int .u32 x,.func (.func 204) #[] #[.pointer (some ⟨Bs,0,none⟩)],.int .u32 x,undef,undef,undef,undef,undef],defers:=[] }) ?assign ?body ?done ?stop
 case assign=>
  intro l x W K hK
  gi_wp2
  omega
 case body=>
  rintro l pre x W ⟨⟨v,hv,Ut,_⟩,hB⟩ dQ;have hc:=hv.cell
  gi_wp2_with (gi_at_builtin;refine wpListIn_append_own _ rfl _ _ 22 rfl w.heap.size 34 i0 (.int .u32 0) 1 4 underlying22 hi hz0 hz1 hz2 rfl (by decide) _ _ _ rfl (Ut.alloc _) ⟨W.heap.size,0,none⟩ 1 1 [.int .u32 x] rfl rfl (cell_one_new _ _ _) (by simp[Value.oneCell']) (by grind [maxLen]) oO (by have:=hB.size;simp;omega) ?_;intro v' w1 U0 N7 _;obtain⟨g',cap',rfl⟩:=ownsRow_succ U0;obtain⟨U7,hv2,hr2,u5,P3⟩:=hv.appended (by decide) Ut hB.size (aAl _) U0 N7;have V6:=U7.cell;have hf1:=U7.frozen)
  exact⟨u5.from _,P3,⟨_,hv2,by grind,trivial⟩,hB.trans P3⟩
 case done=>
  rintro D ys W hD rfl ⟨⟨v,hv,Ut,_⟩,hB⟩ hK;have hc:=hv.cell
  gi_wp2
  refine⟨sS,.inl ⟨_,_,rfl,run_takeDeferred hK,?_⟩⟩;exact⟨_,results_tmp rfl _ _ _,v,rfl,ownsRow_putObj Ut _ hK rfl,hB.trans (belowK_b (w:=w) (aAl _) W D _ _ (by simp at hD;omega) hK rfl rfl)⟩
 grind
set_option maxRecDepth 100000 in
theorem JS(F:Fence)(n:Nat)(h2:F.fn 104)(h3:F.fn 147)(h7:F.fn 204)(M6:F.round=none)(hn:4<=n)(Bs:Nat)(sv:Value)(zs:List Int)(hlen:zs.length<=1048576)(w:World)(hBs:Bs<w.heap.size)
 (hc:w.cell? ⟨Bs,0,none⟩=some sv) (hI:Ints w.heap.size w sv zs):
 CallsIn F n prog 104 #[.func (.func 204) #[] #[.pointer (some ⟨Bs,0,none⟩)]] w fun e W'=>∃ v,e=.returned v/\W'.ownsRow w.heap.size 34 1 v zs.length (zs.map (Value.int .u32))/\Below w.heap.size w W':=by
 have h1:1<=n:=oO;refine callsIn_of_wp func104 rfl h2 ?_ M6;simp only[ntmps104,aAV,List.length_cons,List.length_nil,Nat.reduceAdd,Nat.reduceSub,aBw,Array.replicate_zero,aBH,aBy,List.nil_append,List.cons_append]
 gi_wp2_with (gi_at_call 147;refine(Ek F (n-1) h3 h7 M6 oO Bs sv zs hlen _ hBs hc hI).mono ?_;rintro e w' ⟨v,rfl,Ut,Y6⟩)
 go_ret
 simp_all
end Rg
namespace Aw
open Go Go.RowKit
def tw(d:Int):Int:=if d % 2=0 then d+1 else d-1
theorem wrap_u32(n:Int):IntKind.u32.wrap n=n % 4294967296:=by simp[IntKind.wrap,IntKind.signed,IntKind.bits]
theorem wrap_i64(n:Int)(h1 : -9223372036854775808<=n)(h2:n<=9223372036854775807):IntKind.i64.wrap n=n:=by
 simp only[IntKind.wrap,IntKind.signed,IntKind.bits];simp
 split<;>omega
theorem Us(a:Int)(e:Int)(h0:0<=a)(h1:a<4294967296)(ha:a % 2=0)(he:e=0\/e=1):gor .u32 a e=a+e:=by
 unfold gor IntKind.bits;obtain⟨n,rfl⟩:=aCD h0;rw[wrap_u32,BitVec.toNat_or];have e1:(BitVec.ofInt 32 (n:Int)).toNat=n:=by rw[BitVec.ofInt_natCast,aDc];exact aAM oO
 rw[e1];rcases he with rfl|rfl
 .simp;omega
 .have e2:(BitVec.ofInt 32 1).toNat=1:=by decide
  have:n ||| 1=n+1:=by
   apply aBM;intro j;cases j with
   |zero=>simp;omega
   |succ j=>rw[Nat.testBit_or];simp[aDM];congr 1;omega
  rw[e2,this];omega
theorem TU(e:Int):vL .i64 e 1=e % 2:=by
 show IntKind.i64.wrap ((BitVec.ofInt 64 e &&& BitVec.ofInt 64 1).toNat:Int)=_;have e2:(BitVec.ofInt 64 1).toNat=1:=by decide
 rw[BitVec.toNat_and,e2,Nat.and_one_is_mod,wrap_i64 _ oO oO,BitVec.toNat_ofInt];omega
theorem Sk(a:Int):Er .u32 a 1=a*2 % 4294967296:=by unfold Er;rw[wrap_u32];rfl
theorem Of(id e:Int)(st:St):
 aB prog 93 [u id,i e] st fun r st'=>r=u (id*2 % 4294967296+e % 2)/\st'=st:=by
 refine zN func93 ntmps93 [.tmp 4] ?_;refine xw0 ?_;rw[Sk,TU,wrap_u32,Us _ _ oO oO oO oO];omega
end Aw
namespace Aw
open Go Go.RowKit Pl
theorem qN(k:Nat)(h:k<9223372036854775807):IntKind.i64.wrap ((k:Int)+1)=((k+1:Nat):Int):=by rw[wrap_i64 _ oO oO];omega
theorem eI(l:List Int)(k:Nat)(hk:k<l.length):(us l).drop k=u l[k]::us (l.drop (k+1)):=by rw[us,<- aCF,aAL hk];rfl
theorem qG(l:List Int)(k:Nat)(hk:k<l.length):(us l).drop k=u (l.getD k 0)::us (l.drop (k+1)):=by rw[eI l k hk];simp[hk]
theorem sO{l:List Int}{d:Int}(h:d∈l):gi l d=((l.idxOf d:Nat):Int):=by unfold gi;rw[aAk h]
theorem BZ{l:List Int}{d:Int}(h:¬d∈l):gi l d = -1:=by unfold gi;rw[aAa h]
theorem Pg(a b c:Nat)(h:a % b=c):((a:Int).tmod (b:Int))=(c:Int):=by rw[<- h];exact(Int.ofNat_tmod a b).symm
theorem bB(l:List Int)(j:Nat)(hj:j<l.length):l.getD j 0=l[j]:=by rw[aAg,aAh hj];rfl
theorem St.ext'{a b:St}(h:a.next=b.next)(k:∀ x,a.H x=b.H x):a=b:=by cases a;cases b;simp only at h k;subst h;congr;funext x;exact k x
def small(l:List Int):Prop:=l.length<=1048576
theorem Index(l:List Int)(t:Nat)(x:Int)(st:St)(hl:small l):
 aB prog 40 [.sl t l.length (us l),u x] st fun r st'=>r=i (gi l x)/\st'=st:=by
 unfold small at hl;refine zN func40 ntmps40 [.tmp 4] ?_;refine xw0 ?_;refine qL (fun n fr st'=>∃ k:Nat,k<=l.length/\n=l.length-k/\fr 0=.sl t l.length (us l)/\fr 1=u x/\fr 7=i l.length/\fr 8=i k/\st'=st/\∀ j (hj:j<l.length),j<k->l[j]≠x) l.length ?_ ?_
 .exact⟨0,oO,oO,sS,sS,sS,sS,rfl,fun j _ h=>by omega⟩
 rintro n fr st' ⟨k,hk,rfl,h0,h1,h7,h8,rfl,x9⟩ JJ hJJ;by_cases dQ:k<l.length
 .have hd:=eI l k dQ;have hw:=qN k oO
  (repeat' (first|apply qS|apply qB|refine qK (zZ ?_)|(refine qR (zZ ?_);simp[h0,h1,h7,h8,dQ,hd,hw])|(apply qC;simp[h0,h1,h7,h8,dQ,hd,hw];(try with_reducible refine⟨?_,?_⟩)<;>(try with_reducible intro hc))|(refine zE ?_;intro J hJ;simp[h0,h1,h7,h8,dQ,hd,hw];refine zJ hJ ?_)))
  .exact(LK dQ hc.symm (fun j hj=>x9 j oO hj)).symm
  .refine hJJ _ _ _ ?_ ⟨k+1,oO,rfl,sF1 h0,sF1 h1,sF1 h7,sS,rfl,fun j hj X9=>?_⟩
   .omega
   .rcases aAK j k with h|h
    .exact x9 j hj h
    .obtain rfl:j=k:=oO;exact fun h=>hc h.symm
 .refine xw5 h0 h1 h7 h8 dQ ?_;exact(Lw (fun j hj=>x9 j hj oO)).symm
theorem Wg(l:List Int)(t:Nat)(x:Int)(st:St)(hl:small l):
 aB prog 72 [.sl t l.length (us l),u x] st fun r st'=>r=i (gi l x)/\st'=st:=by
 unfold small at hl;refine zN func72 ntmps72 [.tmp 4] ?_;refine xw0 ?_;refine qL (fun n fr st'=>∃ k:Nat,k<=l.length/\n=l.length-k/\fr 7=.sl t l.length (us l)/\fr 1=u x/\fr 8=i l.length/\fr 9=i k/\st'=st/\∀ j (hj:j<l.length),j<k->l[j]≠x) l.length ?_ ?_
 .exact⟨0,oO,oO,sS,sS,sS,sS,rfl,fun j _ h=>by omega⟩
 rintro n fr st' ⟨k,hk,rfl,h0,h1,h7,h8,rfl,x9⟩ JJ hJJ;by_cases dQ:k<l.length
 .have hd:=eI l k dQ;have hw:=qN k oO
  (repeat' (first|apply qS|apply qB|refine qK (zZ ?_)|(refine qR (zZ ?_);simp[h0,h1,h7,h8,dQ,hd,hw])|(apply qC;simp[h0,h1,h7,h8,dQ,hd,hw];(try with_reducible refine⟨?_,?_⟩)<;>(try with_reducible intro hc))|(refine zE ?_;intro J hJ;simp[h0,h1,h7,h8,dQ,hd,hw];refine zJ hJ ?_)))
  .exact(LK dQ hc (fun j hj=>x9 j oO hj)).symm
  .refine hJJ _ _ _ ?_ ⟨k+1,oO,rfl,sF1 h0,sF1 h1,sF1 h7,sS,rfl,fun j hj X9=>?_⟩
   .omega
   .rcases aAK j k with h|h
    .exact x9 j hj h
    .obtain rfl:j=k:=oO;exact hc
 .refine xw5 h0 h1 h7 h8 dQ ?_;exact(Lw (fun j hj=>x9 j hj oO)).symm
theorem Lj(l:List Int)(h:0<l.length):hdL (us l)=u l[0]:=by
 cases l with
 |nil=>simp at h
 |cons a l=>rfl
theorem Min(l:List Int)(t:Nat)(st:St)(hl:small l)(h0:l≠[]):
 aB prog 106 [.sl t l.length (us l)] st fun r st'=>r=u (mn l)/\st'=st:=by
 unfold small at hl;have E0:0<l.length:=aBm.2 h0;have hd0:=Lj l E0;refine zN func106 ntmps106 [.tmp 2] ?_
 (repeat' (first|apply qS|apply qB|refine qK (zZ ?_)|(apply qC;simp[E0,hd0];(try with_reducible refine⟨?_,?_⟩)<;>(try with_reducible intro hc)<;>try (exfalso;omega))|(refine zE ?_;intro J hJ;simp[E0,hd0];refine zJ hJ ?_)))
 refine qL (fun n fr st'=>∃ k:Nat,0<k/\k<=l.length/\n=l.length-k/\fr 0=.sl t l.length (us l)/\fr 4=i k/\fr 3=u (mn (l.take k))/\st'=st) (l.length-1) ?_ ?_
 .refine⟨1,oO,oO,oO,sS,sS,?_,rfl⟩;cases l with
  |nil=>simp at E0
  |cons a l=>simp[mn]
 rintro n fr st' ⟨k,J8,hk,rfl,h0',h4,h3,rfl⟩ JJ hJJ;by_cases dQ:k<l.length
 .have hd:=eI l k dQ;have hw:=qN k oO;refine xw6 h0' h3 h4 dQ hd hw ?_;refine hJJ _ _ _ ?_ ⟨k+1,oO,oO,rfl,sF1 h0',sS,by simp[KQ l k J8 dQ],rfl⟩;omega
 .refine xw4 h0' h3 h4 dQ ?_;rw[aAt oO]
theorem SJ(a b:List Int)(t t':Nat)(st:St)(hl:small a):
 aB prog 70 [.sl t a.length (us a),.sl t' b.length (us b)] st fun r st'=>r=bb (decide (a=b))/\st'=st:=by
 unfold small at hl;refine zN func70 ntmps70 [.tmp 4] ?_;by_cases x7:a.length=b.length
 .have hab':((a.length:Int) != (b.length:Int))=false:=by simp[x7]
  refine xw1 x7 ?_;refine qL (fun n fr st'=>∃ k:Nat,k<=a.length/\n=a.length-k/\fr 0=.sl t a.length (us a)/\fr 1=.sl t' b.length (us b)/\fr 12=i a.length/\fr 13=i k/\st'=st/\∀ j (hj:j<a.length),j<k->a[j]=b[j]'(by omega)) a.length ?_ ?_
  .exact⟨0,oO,oO,sF1 x7,sF1 x7,sF1 x7,sS,rfl,fun j _ h=>by omega⟩
  rintro n fr st' ⟨k,hk,rfl,h0,h1,h7,h8,rfl,x9⟩ JJ hJJ;by_cases dQ:k<a.length
  .have C7:k<b.length:=oO;have hd:=eI a k dQ;have I1:=eI b k C7;have hw:=qN k oO
   (repeat' (first|apply qS|apply qB|refine qK (zZ ?_)|(refine qR (zZ ?_);simp[h0,h1,h7,h8,dQ,C7,hd,I1,hw])|(apply qC;simp[h0,h1,h7,h8,dQ,C7,hd,I1,hw];(try with_reducible refine⟨?_,?_⟩)<;>(try with_reducible intro hc))|((first|(refine zE ?_;intro J hJ)|(refine w_q ?_;intro J hJ));simp[h0,h1,h7,h8,dQ,C7,hd,I1,hw];refine zJ hJ ?_)))
   .intro h;apply hc;simp[h]
   .refine hJJ _ _ _ ?_ ⟨k+1,oO,rfl,sF1 h0,sF1 h1,sF1 h7,sS,rfl,fun j hj X9=>?_⟩
    .omega
    .rcases aAK j k with h|h
     .exact x9 j hj h
     .obtain rfl:j=k:=oO;exact hc
  .refine xw5 h0 h1 h7 h8 dQ ?_;exact aDp x7 (fun j hj _=>x9 j hj oO)
 ·(repeat' (first|apply qS|(refine qR (zZ ?_);simp[x7])|(apply qC;simp[x7];(try with_reducible refine⟨?_,?_⟩)<;>(try with_reducible intro hc)<;>try (exfalso;omega))|(refine zE ?_;intro J hJ;simp[x7];refine zJ hJ ?_)))
  intro h;exact x7 (by rw[h])
theorem wrap_small(n:Int)(h0:0<=n)(h1:n<=9223372036854775807):IntKind.i64.wrap n=n:=wrap_i64 n oO h1
theorem A5(n:Int)(st:St)(h0:0<=n)(h1:n<=4194304):
 aB prog 203 [.nil,i n] st fun r st'=>∃ l cs,r=.ms l 0 0/\st.next<=l/\st'.H l=.box 34 1 cs/\aA st st':=by
 have hw:=wrap_small n h0 oO;have hw':IntKind.i64.wrap 0=0:=by decide
 refine jH 34 1 ?_;refine zN func203 ntmps203 [.tmp 4] ?_;by_cases hp:0<n
 ·(repeat' (first|apply qS|refine qK (zZ ?_)|(refine qR (zZ ?_);simp[hw,hw',hp])|(apply qC;simp[hw,hw',hp];(try with_reducible refine⟨?_,?_⟩)<;>(try with_reducible intro hc)<;>try (exfalso;omega))|(refine zE ?_;intro J hJ;simp[hw,hw',hp];(repeat refine ca ?_);refine zJ hJ ?_)))
  exact aA.new _ _
 ·(repeat' (first|apply qS|refine qK (zZ ?_)|(refine qR (zZ ?_);simp[hw,hw',hp])|(apply qC;simp[hw,hw',hp];(try with_reducible refine⟨?_,?_⟩)<;>(try with_reducible intro hc)<;>try (exfalso;omega))|(refine zE ?_;intro J hJ;simp[hw,hw',hp];refine zJ hJ ?_)))
  exact aA.new _ _
abbrev rows(ls:List (Nat×List Int)):List LV:=ls.map fun p=>.sl p.1 p.2.length (us p.2)
def total(ls:List (Nat×List Int)):Nat:=(ls.map fun p=>p.2.length).sum
def flat(ls:List (Nat×List Int)):List Int:=(ls.map fun p=>p.2).flatten
theorem xW(ls:List (Nat×List Int)):(flat ls).length=total ls:=by
 induction ls with
 |nil=>rfl
 |cons p ls ih=>simp[flat,total,Function.comp_def]at ih ⊢
theorem Ao(ls:List (Nat×List Int))(k:Nat)(hk:k<ls.length):total (ls.take (k+1))=total (ls.take k)+ls[k].2.length:=by rw[aAp hk,total,aAu,List.sum_append];simp only[total,aAn,aCM,List.sum_cons,List.sum_nil,Nat.add_zero]
theorem NB(ls:List (Nat×List Int))(k:Nat)(hk:k<ls.length):flat (ls.take (k+1))=flat (ls.take k)++ls[k].2:=by rw[aAp hk,flat,aAu,aCz];simp only[flat,aAn,aCM,List.flatten_cons,List.flatten_nil,aBc]
theorem rX(ls:List (Nat×List Int))(k:Nat):total (ls.take k)<=total ls:=by
 have h:total ls=total (ls.take k)+total (ls.drop k):=by
  conv=>lhs;rw[<- aAG k ls]
  rw[total,aAu,List.sum_append];rfl
 omega
theorem DK(ls:List (Nat×List Int))(k:Nat)(hk:k<ls.length):(rows ls).drop k=.sl ls[k].1 ls[k].2.length (us ls[k].2)::rows (ls.drop (k+1)):=by rw[rows,<- aCF,aAL hk];rfl
theorem Im(a:List Int):(us a).all iD=true:=by simp[us,iD]
theorem Sy(ls:List (Nat×List Int))(t:Nat)(st:St)(hn:ls.length<=1048576)(hl:total ls<=4194304):
 aB prog 183 [.sl t ls.length (rows ls)] st fun r st'=>∃ l,r=.ms l 0 (flat ls).length/\st.next<=l/\st'.H l=.box 34 1 (us (flat ls))/\aA st st':=by
 refine zN func183 ntmps183 [.tmp 2] ?_;refine xw0 ?_;refine qL (fun n fr st'=>∃ k:Nat,k<=ls.length/\n=ls.length-k/\fr 0=.sl t ls.length (rows ls)/\fr 9=.sl t ls.length (rows ls)/\fr 10=i ls.length/\fr 11=i k/\fr 3=i (total (ls.take k))/\st'=st) ls.length ?_ ?_
 .exact⟨0,oO,oO,sS,sS,sS,sS,by simp[total],rfl⟩
 rintro n fr st1 ⟨k,hk,rfl,h0,h9,h10,h11,h3,rfl⟩ JJ hJJ;by_cases dQ:k<ls.length
 .have hd:=DK ls k dQ;have hw:=qN k oO;have ht:=Ao ls k dQ;have u9:=rX ls (k+1);have F0:IntKind.i64.wrap ((total (ls.take k):Int)+(ls[k].2.length:Int))=(total (ls.take (k+1)):Int):=by rw[wrap_small _ oO oO];omega
  clear ht
  (repeat' (first|apply qS|apply qB|refine qK (zZ ?_)|(apply qC;simp[h0,h9,h10,h11,h3,dQ,hd,hw,F0];(try with_reducible refine⟨?_,?_⟩)<;>(try with_reducible intro hc)<;>try (exfalso;omega))|(refine zE ?_;intro J hJ;simp[h0,h9,h10,h11,h3,dQ,hd,hw,F0];(refine zJ hJ ?_;clear hJ J))))
  refine hJJ _ _ _ ?_ ⟨k+1,oO,rfl,sF1 h0,sF1 h9,sF1 h10,sS,sS,rfl⟩;omega
 .have I4:k=ls.length:=oO;have C9:ls.take k=ls:=aAt oO;rw[C9]at h3;clear hJJ
  (refine xj6 h0 h9 h10 h11 h3 dQ ?_;intro J hJ)
  refine qF (A5 (total ls) _ oO oO) ?_;rintro r st' ⟨l0,cs0,rfl,hl0,hH0,j5⟩;refine rR hJ h0 ?_;refine JA 0 hH0 ?_;refine qL (fun n fr st2=>∃ k:Nat,k<=ls.length/\n=ls.length-k/\fr 25=.sl t ls.length (rows ls)/\fr 26=i ls.length/\fr 27=i k/\∃ l,fr 6=.ms l 0 (flat (ls.take k)).length/\st2.H l=.box 34 1 (us (flat (ls.take k)))/\st1.next<=l/\aA st1 st2) ls.length ?_ ?_
  .exact⟨0,oO,oO,sF1 h0,sS,sS,l0,by simp[flat],by simp[flat],hl0,j5.set hl0 _⟩
  clear h0 h9 h10 h11 h3 dQ hH0 j5 hl0 fr hk I4 C9;rintro n fr st2 ⟨k,hk,rfl,h25,h26,h27,l,h6,hH,hlt0,j5⟩ JJ hJJ;by_cases dQ:k<ls.length
  .have hd:=DK ls k dQ;have hw:=qN k oO;have ht:=Ao ls k dQ;have u9:=rX ls (k+1);have hf:=NB ls k dQ;have T6:=xW (ls.take (k+1));have hfl':=xW (ls.take k);have E4:=Im (ls[k].2)
   (repeat' (first|apply qS|apply qB|refine qK (zZ ?_)|(apply qC;simp[h25,h26,h27,h6,hH,dQ,hd,hw,E4])|(refine zE ?_;intro J hJ;simp[h25,h26,h27,h6,hH,dQ,hd,hw,E4];(repeat refine ca ?_);(refine zJ hJ ?_;clear hJ J))))
   refine hJJ _ _ _ ?_ ⟨k+1,oO,rfl,sF1 h25,sF1 h26,sS,st2.next,?_,?_,j5.next,(j5.set hlt0 _).trans (aA.new _ _)⟩
   .omega
   .simp[hf]
   .simp[hf]
  .have I4:k=ls.length:=oO;have C9:ls.take k=ls:=aAt oO;rw[C9]at h6 hH;clear hJJ;refine xw5 h25 h26 h27 h6 dQ ?_;exact⟨hlt0,hH,j5⟩
theorem Vs(ls:List (Nat×List Int))(t:Nat)(st:St)(hn:ls.length<=1048576)(hl:total ls<=4194304):
 aB prog 183 [.sl t ls.length (rows ls)] st fun r st'=>r=.sl 0 (flat ls).length (us (flat ls))/\aA st st':=by
 refine cE ((Sy ls t st hn hl).mono ?_);rintro r st' ⟨l,rfl,dQ,hH,hk⟩;exact⟨l,_,_,1,_,rfl,hH,sS,by simp[aAt],hk.set dQ _⟩
theorem WX(a:List Int)(t:Nat)(st:St)(hl:small a):
 aB prog 20 [.sl t a.length (us a)] st fun r st'=>∃ l,r=.ms l 0 a.length/\st.next<=l/\st'.H l=.box 34 1 (us a)/\aA st st':=by
 unfold small at hl;refine jH 34 1 ?_;have E4:=Im a;refine zN func20 ntmps20 [.tmp 2] ?_
 (repeat' (first|apply qS|refine qK (zZ ?_)|(refine qR (zZ ?_);simp[E4])|(apply qC;simp[E4])|(refine w_e [5] ?_;intro J hJ;simp only[];simp[E4];(repeat refine ca ?_);((try with_reducible refine⟨?_,?_⟩)<;>(try with_reducible intro u6)<;>refine zJ hJ ?_<;>clear hJ J<;>try subst u6))))
 .exact((aA.new _ _).set (aAl _) _).trans (aA.new _ _)
 .exact aA.new _ _
theorem QA(a:List Int)(t:Nat)(st:St)(hl:small a):
 aB prog 20 [.sl t a.length (us a)] st fun r st'=>r=.sl 0 a.length (us a)/\aA st st':=by
 refine cE ((WX a t st hl).mono ?_);rintro r st' ⟨l,rfl,dQ,hH,hk⟩;exact⟨l,_,_,1,_,rfl,hH,sS,by simp[aAt],hk.set dQ _⟩
def nx(l:List Int)(d:Int):Int:=if d∈l then l.getD ((l.idxOf d+1) % l.length) 0 else 0
theorem QY(l:List Int)(t:Nat)(d:Int)(st:St)(hl:small l):
 aB prog 158 [.sl t l.length (us l),u d] st fun r st'=>r=u (nx l d)/\st'=st:=by
 refine zN func158 ntmps158 [.tmp 4] ?_
 (refine xj0 ?_;intro J hJ)
 refine qE (Wg l t d _ hl) (by simp[]) ?_;rintro r st' ⟨rfl,rfl⟩;unfold small at hl;by_cases hd:d∈l
 .have hi:=aAR hd;have u6:=aBB hd;rw[sO hd];have D9:nx l d=l.getD ((l.idxOf d+1) % l.length) 0:=by unfold nx;rw[aAk hd]
  generalize hk:l.idxOf d=k at *;have hw:=qN k oO;generalize j7:k+1=k1 at *;by_cases he:k1=l.length
  .have O0:=Lj l oO;rw[he,aDz]at D9;rw[he]at hw;have E0:0<l.length:=oO
   (repeat' (first|apply qS|refine qK (zZ ?_)|(refine qR (zZ ?_);simp[hw,O0,he,E0,D9,u6])|(apply qC;simp[hw,O0,he,E0,D9,u6];(try with_reducible refine⟨?_,?_⟩)<;>(try with_reducible intro hc)<;>try (exfalso;omega))|((first|(refine zE ?_;intro J hJ)|(apply cD));simp[hw,O0,he,E0,D9,u6];(refine zJ hJ ?_;clear hJ J))))
  .rw[aAM oO]at D9;have dQ:k1<l.length:=oO;have O0:=qG l k1 dQ;have Zy:((k1:Int)==(l.length:Int))=false:=by simp;omega
   (repeat' (first|apply qS|refine qK (zZ ?_)|(refine qR (zZ ?_);simp[hw,O0,Zy,dQ,D9,u6])|(apply qC;simp[hw,O0,Zy,dQ,D9,u6];(try with_reducible refine⟨?_,?_⟩)<;>(try with_reducible intro hc)<;>try (exfalso;omega))|((first|(refine zE ?_;intro J hJ)|(apply cD));simp[hw,O0,Zy,dQ,D9,u6];(refine zJ hJ ?_;clear hJ J))))
 .rw[BZ hd];have D9:nx l d=0:=by unfold nx;rw[aAa hd]
  exact MZ hJ D9
theorem Bx{t:List Int}(hn:t.Nodup){j:Nat}(hj:j<t.length):nx t t[j]=t[(j+1) % t.length]'(aBY _ oO):=by unfold nx;rw[aAk (aAz hj),hn.idxOf_getElem j hj,bB _ _ (aBY _ oO)]
theorem IV{t:List Int}{d:Int}(hd:d∈t):nx t d∈t:=by unfold nx;have:0<t.length:=aDX hd;rw[aAk hd,bB _ _ (aBY _ this)];exact aAz _
theorem PB{t:List Int}(hn:t.Nodup){d e:Int}(hd:d∈t)(he:e∈t)(h:nx t d=nx t e):d=e:=by
 obtain⟨j,hj,rfl⟩:=aAA hd;obtain⟨k,hk,rfl⟩:=aAA he;rw[Bx hn hj,Bx hn hk]at h;have h1:=congrArg t.idxOf h;rw[hn.idxOf_getElem,hn.idxOf_getElem]at h1;have h2:j=k:=by
  rcases aAK (j+1) t.length with a|a
  .rw[aAM a]at h1;rcases aAK (k+1) t.length with b|b
   .rw[aAM b]at h1;omega
   .rw[show k+1=t.length by omega,aDz]at h1;omega
  .rw[show j+1=t.length by omega,aDz]at h1;rcases aAK (k+1) t.length with b|b
   .rw[aAM b]at h1;omega
   .omega
 subst h2;rfl
theorem Wz{t:List Int}(hn:t.Nodup){j:Nat}(hj:j<t.length)(k:Nat):Eu.it (nx t) k t[j]=t[(j+k) % t.length]'(aBY _ oO):=by
 induction k with
 |zero=>simp only[Eu.it,Nat.add_zero,aAM hj]
 |succ k ih=>
  rw[Eu.bW,ih,Bx hn]
  congr 1
  rw[Nat.mod_add_mod];rfl
theorem Ii{t:List Int}(hn:t.Nodup){d e:Int}(hd:d∈t)(he:e∈t):Eu.Orb (nx t) d e:=by
 obtain⟨j,hj,rfl⟩:=aAA hd;obtain⟨k,hk,rfl⟩:=aAA he;refine⟨t.length-j+k,?_⟩;rw[Wz hn hj]
 congr 1
 rw[show j+(t.length-j+k)=t.length+k by omega,Nat.add_mod_left,aAM hk]
theorem from_(l:List Int)(t k:Nat)(st:St)(hl:small l)(hk:k<=l.length):
 aB prog 149 [.sl t l.length (us l),i k] st fun r st'=>r=.sl 0 l.length (us (rt l k))/\aA st st':=by
 unfold small at hl;refine zN func149 ntmps149 [.tmp 4] ?_;refine xw1 hk ?_
 (refine ML mN [] 6 (by kernel_rfl) (by kernel_rfl) rfl rfl ?_;intro J hJ;simp[hk];skip;skip)
 refine qE (Vs [(0,l.drop k),(0,l.take k)] st.next _ sS (by simp[total];omega)) (by simp[aAt,aCX hk]) ?_;rintro r st' ⟨rfl,j5⟩;have hf:flat [(0,l.drop k),(0,l.take k)]=rt l k:=by simp[flat,rt]
 rw[hf,wI];refine dK hJ ?_;exact(aA.new _ _).trans j5
theorem Pr(l:List Int)(t:Nat)(st:St)(hl:small l):
 aB prog 110 [.sl t l.length (us l)] st fun r st'=>r=.sl 0 l.length (us (nrm l))/\aA st st':=by
 refine xG ?_;refine zN func110 ntmps110 [.tmp 2] ?_;cases l with
 |nil=>refine xw0 ?_;exact⟨by decide,aA.refl _⟩
 |cons a l'=>
  (repeat' (first|apply qS|refine qK (zZ ?_)|(apply qC;simp[];(try with_reducible refine⟨?_,?_⟩)<;>(try with_reducible intro hc)<;>try (exfalso;omega))|(refine zE ?_;intro J hJ;simp[];(try (refine zJ hJ ?_;clear hJ J)))))
  refine qE (Min (a::l') t _ hl sS) (by simp[]) ?_;rintro r st' ⟨rfl,rfl⟩;refine dK hJ ?_;refine qE (Index (a::l') t (mn (a::l')) _ hl) (by simp[]) ?_;rintro r st' ⟨rfl,rfl⟩;refine dK hJ ?_;have hg:gi (a::l') (mn (a::l'))=(((a::l').idxOf (mn (a::l')):Nat):Int):=by unfold gi;rw[aAk (sF sS)]
  rw[hg];refine qE (from_ (a::l') t ((a::l').idxOf (mn (a::l'))) _ hl aCP) (by simp[]) ?_;rintro r st' ⟨rfl,j5⟩;refine dK hJ ?_;exact⟨rfl,j5⟩
def ins(l:List Int)(b:Int)(m:List Int):List Int:=(if b∈l then l.take (l.idxOf b+1)++m++l.drop (l.idxOf b+1)else l++m)
def lat(l:List Int)(k:Nat):Nat:=(l.take k).idxOf (mn (l.take k))
theorem Wp(l:List Int)(k:Nat)(hk:k<l.length):lat l k<l.length:=by unfold lat;have:=aCP (a:=mn (l.take k)) (l:=l.take k);simp at this;omega
theorem TT(l:List Int)(k:Nat)(h0:0<k)(hk:k<=l.length):l.getD (lat l k) 0=mn (l.take k):=by
 have Zy:l.take k≠[]:=by intro h;have:=congrArg List.length h;rw[aAv,List.length_nil]at this;omega
 have h1:=aAR (sF Zy);have h2:(l.take k)[(l.take k).idxOf (mn (l.take k))]=mn (l.take k):=aBA h1;rw[aBG]at h2;unfold lat;rw[aAv]at h1;rw[aAg,aAh oO];exact h2
theorem RX(l:List Int)(k:Nat)(hk:k<l.length):lat l (k+1)=if l.getD k 0<l.getD (lat l k) 0 then k else lat l k:=by
 have hg:l.getD k 0=l[k]:=by rw[aAg,aAh hk];rfl
 rcases aCs k with rfl|h0
 .have:lat l 0=0:=by simp[lat]
  rw[this,aAa oO];unfold lat;cases l with
  |nil=>simp at hk
  |cons a l=>simp[mn]
 .rw[TT l k h0 oO,hg];have Zy:l.take k≠[]:=by intro h;have:=congrArg List.length h;rw[aAv,List.length_nil]at this;omega
  have hm:=KQ l k h0 hk;unfold lat;rw[hm];rw[aAp hk];by_cases hc:l[k] < mn (l.take k)
  .rw[aAk hc,aAk hc];have hnot:¬l[k]∈l.take k:=fun h=>by have:=Kz h;omega
   rw[List.idxOf_append,aAa hnot];simp;omega
  .rw[aAa hc,aAa hc];rw[List.idxOf_append,aAk (sF Zy)]
theorem SN(l:List Int):lat l l.length=l.idxOf (mn l):=by unfold lat;rw[aAN]
theorem QH(l:List Int)(k:Nat)(hk:k<l.length):(nrm l).take (k+1)=(nrm l).take k++[l.getD ((l.idxOf (mn l)+k) % l.length) 0]:=by rw[aAp (by rw[cJ];exact hk),KF l k hk,aAg,aAh (aBY _ oO)];rfl
theorem Fm(l:List Int)(t:Nat)(st:St)(hl:small l):
 aB prog 71 [.sl t l.length (us l)] st fun r st'=>∃ q,r=.ms q 0 l.length/\st.next<=q/\st'.H q=.box 34 1 (us (nrm l))/\aA st st':=by
 unfold small at hl;refine zN func71 ntmps71 [.tmp 2] ?_;refine xw0 ?_;refine qL (fun n fr st'=>∃ k:Nat,k<=l.length/\n=l.length-k/\fr 0=.sl t l.length (us l)/\fr 8=.sl t l.length (us l)/\fr 9=i l.length/\fr 10=i k/\fr 3=i (lat l k)/\st'=st) l.length ?_ ?_
 .exact⟨0,oO,oO,sS,sS,sS,sS,by simp[lat],rfl⟩
 rintro n fr st1 ⟨k,hk,rfl,h0,h8,h9,h10,h3,rfl⟩ JJ hJJ;by_cases dQ:k<l.length
 .have hd:=qG l k dQ;have hw:=qN k oO;have Z9:=Wp l k dQ;have F7:=qG l (lat l k) Z9;have z8:=RX l k dQ;generalize hj:lat l k=j at *
  (repeat' (first|apply qS|apply qB|refine qK (zZ ?_)|(apply qC;simp[h0,h8,h9,h10,h3,dQ,Z9,hd,F7,hw];(try with_reducible refine⟨?_,?_⟩)<;>(try with_reducible intro hc))|(refine zE ?_;intro J hJ;simp[h0,h8,h9,h10,h3,dQ,Z9,hd,F7,hw];refine zJ hJ ?_)))
  .refine hJJ _ _ _ ?_ ⟨k+1,oO,rfl,sF1 h0,sF1 h8,sF1 h9,sS,?_,rfl⟩
   .omega
   .rw[z8,aAk (by simpa[dQ,Z9]using hc)];simp
  .refine hJJ _ _ _ ?_ ⟨k+1,oO,rfl,sF1 h0,sF1 h8,sF1 h9,sS,?_,rfl⟩
   .omega
   .rw[z8,aAa (by simpa[dQ,Z9]using hc)];simp[h3]
 .have I4:k=l.length:=oO;rw[I4,SN]at h3;clear hJJ;refine xw6 h0 h8 h9 h10 h3 dQ ?_;refine tV 6 34 1 sS ?_;refine qL (fun n fr st2=>∃ k:Nat,k<=l.length/\n=l.length-k/\fr 0=.sl t l.length (us l)/\fr 3=i (l.idxOf (mn l))/\fr 24=i l.length/\fr 25=i k/\∃ q,fr 6=.ms q 0 k/\st2.H q=.box 34 1 (us ((nrm l).take k))/\st1.next<=q/\q<st2.next/\aA st1 st2) l.length ?_ ?_
  .exact⟨0,oO,oO,sF1 h0,sF1 h3,sS,sS,st1.next,sS,sS,aAl _,sS,aA.new _ _⟩
  clear h0 h8 h9 h10 h3 dQ hk I4 fr k;rintro n fr st2 ⟨k,hk,rfl,h0,h3,h24,h25,q,h6,hH,hq,S7,j5⟩ JJ hJJ;by_cases dQ:k<l.length
  .have hg:=QH l k dQ;have hil:=aCP (a:=mn l) (l:=l);generalize hx:l.idxOf (mn l)=x at *;have hj:=aBY (x+k) (show 0<l.length by omega);have hw:=qN k oO;have F0:IntKind.i64.wrap ((x:Int)+(k:Int))=((x+k:Nat):Int):=zW;generalize hy:x+k=y at *;have ht:=Pg y l.length _ rfl;generalize hz:y % l.length=z at *;have hd:=qG l z hj;have u6:¬l=[]:=fun h=>by rw[h]at dQ;simp at dQ
   have F8:min k (nrm l).length=k:=by rw[cJ];omega
   have hqne:¬q=st2.next:=oO
   (repeat' (first|apply qS|apply qB|refine qK (zZ ?_)|(apply qC;simp[h0,h3,h24,h25,h6,hH,dQ,hj,hw,F0,ht,hd,u6,cJ,F8,hqne])|(refine zE ?_;intro J hJ;simp[h0,h3,h24,h25,h6,hH,dQ,hj,hw,F0,ht,hd,u6,cJ,F8,hqne];(repeat refine ca ?_);refine zJ hJ ?_)))
   refine hJJ _ _ _ ?_ ⟨k+1,oO,rfl,sF1 h0,sF1 h3,sF1 h24,sS,st2.next+1,sS,?_,by have:=j5.next;omega,sS,((j5.trans (aA.new _ _)).set hq _).trans (aA.new _ _)⟩
   .omega
   .simp[hg,hj,aCf]
  .have I4:k=l.length:=oO;rw[I4,aAt (by rw[cJ];exact aAl _)]at hH;rw[I4]at h6;clear hJJ;refine xw6 h0 h3 h24 h25 h6 dQ ?_;exact⟨hq,hH,j5⟩
theorem AL(l:List Int)(t:Nat)(st:St)(hl:small l):
 aB prog 71 [.sl t l.length (us l)] st fun r st'=>r=.sl 0 l.length (us (nrm l))/\aA st st':=by
 refine cE ((Fm l t st hl).mono ?_);rintro r st' ⟨q,rfl,dQ,hH,hk⟩;exact⟨q,_,_,1,_,rfl,hH,by simp[cJ],by simp[aAt,cJ],hk.set dQ _⟩
theorem Oa(c:List Int)(k:Nat)(x:Int)(hk:k<c.length):(c.set k x).take (k+1)=c.take k++[x]:=by
 grind [List.take_succ_eq_append_getElem,List.take_set_of_le]
theorem set_drop(c:List Int)(k j:Nat)(x:Int)(h:k<=j):(c.set k x).drop (j+1)=c.drop (j+1):=by
 grind [List.drop_set_of_lt]
theorem FA(c:List Int)(k:Nat)(x:Int)(hk:k<c.length):(us c).take k++u x::(us c).drop (k+1)=us (c.set k x):=by
 grind [List.map_take,List.map_drop,List.set_eq_take_append_cons_drop]
theorem St.set_set(st:St)(q:Nat)(a b:cN):(st.set q a).set q b=st.set q b:=St.ext' rfl fun y=>by simp_all
def swp(c:List Int)(a b:Nat):List Int:=(c.set a (c.getD b 0)).set b (c.getD a 0)
theorem JF(c:List Int)(a b:Nat):(swp c a b).length=c.length:=by simp[swp]
theorem swp_get(c:List Int)(a b j:Nat)(ha:a<c.length)(hb:b<c.length):(swp c a b).getD j 0=if j=b then c.getD a 0 else if j=a then c.getD b 0 else c.getD j 0:=by
 unfold swp;simp only[aAg,aDi];by_cases h1:b=j
 .subst h1;simp[hb]
 .by_cases h2:a=j
  .subst h2;simp[h1,ha,aCv h1]
  .simp[h1,h2,aCv h1,aCv h2]
theorem Vy(c:List Int)(a b:Nat)(ha:a<c.length)(hb:b<c.length):us (swp c a b)=((us c).set a (u (c.getD b 0))).set b (u (c.getD a 0)):=by unfold swp;simp only[us,List.map_set]
theorem tcd(cs:List LV)(o:Nat)(v:LV)(h:o<cs.length):cs.take o++v::cs.drop (o+1)=cs.set o v:=by rw[aBK,aAk h]
theorem VU(l c:List Int)(hl:c.length=l.length)(h:∀ j,j<l.length->c.getD j 0=l.getD (l.length-1-j) 0):c=l.reverse:=by apply aDp (sF1 hl);intro j h1 h2;have:=h j oO;rw[aAg,aAg,aAh h1,aAh oO]at this;rw[List.getElem_reverse];simpa using this
theorem yQ(l:List Int)(q:Nat)(st:St)(hl:small l)(hH:st.H q=.box 34 1 (us l)):
 aB prog 108 [.ms q 0 l.length] st fun r st'=>st'=st.set q (.box 34 1 (us l.reverse)):=by
 unfold small at hl;have K3:IntKind.i64.wrap ((l.length:Int)-1)=(l.length:Int)-1:=zW;refine zN func108 ntmps108 [] ?_;refine xw1 K3 ?_;refine qL (fun n fr st'=>∃(k:Nat) (c:List Int),n=l.length-k/\k<=l.length/\fr 0=.ms q 0 l.length/\fr 2=i k/\fr 3=i ((l.length:Int)-1-k)/\c.length=l.length/\st'=st.set q (.box 34 1 (us c))/\∀ j,j<l.length->c.getD j 0=if j<k\/l.length<=j+k then l.getD (l.length-1-j) 0 else l.getD j 0) l.length ?_ ?_
 .refine⟨0,l,oO,oO,sS,sS,sS,rfl,St.ext' rfl fun x=>by by_cases hx:x=q<;>simp[hx,hH],fun j hj=>?_⟩;rw[aAa oO]
 rintro n fr st1 ⟨k,c,rfl,hk,h0,h2,h3,hc,rfl,c8⟩ JJ hJJ;by_cases dQ:(k:Int)<(l.length:Int)-1-k
 .obtain⟨m,hm⟩:∃ m:Nat,(l.length:Int)-1-k=m:=⟨l.length-1-k,oO⟩;rw[hm]at h3 dQ;have F0:=qN k oO;have hw3:IntKind.i64.wrap ((m:Int)-1)=(m:Int)-1:=zW;have hd:=qG c k oO;have F7:=qG c m oO;have hkl:k<l.length:=oO;have J4:m<l.length:=oO;refine xw4 h0 h2 h3 dQ ?_
  (refine zS [] [q] [0,2,4,6,8,10,12,14,16,18,20,22,24,27,28,31] ?_;intro J hJ;simp[h0,h2,h3,hkl,J4,hc,hd,F7];(repeat refine ca ?_);refine zJ hJ ?_)
  refine xw4 h2 h3 F0 hw3 ?_;refine hJJ _ _ _ ?_ ⟨k+1,swp c k m,rfl,oO,sF1 h0,sS,?_,by rw[JF];exact hc,St.ext' rfl fun y=>?_,fun j hj=>?_⟩
  .omega
  .simp only[Ej];simp;omega
  .by_cases hy:y=q
   .subst hy;have hlen:(us c).length=l.length:=by simp[hc]
    simp only[bR,reduceIte,Vy c k m oO oO];rw[tcd (us c) k _ oO,tcd _ m _ (by simp;omega)];simp[hc,hkl,J4]
   .simp[hy]
  .rw[swp_get c k m j oO oO,c8 k hkl,c8 m J4,c8 j hj];by_cases h1:j=m
   .rw[aAk h1,aAa oO,aAk oO];congr 1;omega
   .rw[aAa h1];by_cases h2:j=k
    .rw[aAk h2,aAa oO,aAk oO];congr 1;omega
    .rw[aAa h2];by_cases h3:j<k\/l.length<=j+k
     .rw[aAk h3,aAk oO]
     .rw[aAa h3,aAa oO]
 .have hcr:c=l.reverse:=?_
  .subst hcr;clear hJJ;refine xw4 h0 h2 h3 dQ ?_;simp
  refine VU l c hc ?_;intro j hj;rw[c8 j hj];by_cases h:j<k\/l.length<=j+k
  .rw[aAk h]
  .rw[aAa h]
   congr 1
   omega
theorem isNaN(x:Int)(st:St):aB prog 118 [u x] st fun r st'=>r=bb false/\st'=st:=by refine zN func118 ntmps118 [.tmp 2] ?_;exact xv0
theorem tK(x y:Int)(st:St):aB prog 126 [u x,u y] st fun r st'=>r=bb (decide (x<y))/\st'=st:=by
 refine zN func126 ntmps126 [.tmp 4] ?_
 (refine xj0 ?_;intro J hJ)
 refine qF (isNaN x _) ?_;rintro r st' ⟨rfl,rfl⟩;exact Oq hJ
theorem aU(k:Nat)(h0:0<k)(h:k<9223372036854775807):IntKind.i64.wrap ((k:Int)-1)=((k-1:Nat):Int):=by rw[wrap_i64 _ oO oO];omega
abbrev bx(st:St)(q:Nat)(c:List Int):St:=st.set q (.box 34 1 (us c))
theorem tR{st:St}{q:Nat}{c:List Int}(h:st.H q=.box 34 1 (us c)):st=bx st q c:=
 St.ext' rfl fun x=>by by_cases hx:x=q<;>simp[hx,h]
theorem mL(st:St)(q:Nat)(c:List Int)(k m:Nat){x y:Int}(hk:k<c.length)(hm:m<c.length)(hx:c.getD k 0=x)(hy:c.getD m 0=y):
 ((bx st q c).set q (.box 34 1 (List.take k (us c)++.atom (.int .u32 y)::List.drop (k+1) (us c)))).set q
   (.box 34 1 (List.take m (List.take k (us c)++.atom (.int .u32 y)::List.drop (k+1) (us c))++.atom (.int .u32 x)::List.drop (m+1) (List.take k (us c)++.atom (.int .u32 y)::List.drop (k+1) (us c))))=bx st q (sw c k m):=by
 have e:List.take k (us c)++.atom (.int .u32 y)::List.drop (k+1) (us c)=us (c.set k y):=FA c k y hk;rw[e,FA (c.set k y) m x (by simpa using hm)];unfold bx sw;rw[hx,hy];exact St.ext' rfl fun z=>by by_cases hz:z=q<;>simp[hz]
theorem insertionSort(l:List Int)(q a b:Nat)(st:St)(hl:small l)(ha:a<=b)(hb:b<=l.length)(hH:st.H q=.box 34 1 (us l)):
 aB prog 120 [.ms q 0 l.length,i a,i b] st fun r st'=>∃ c,st'=bx st q c/\Pm a b l c/\Srt a b c:=by
 unfold small at hl;refine zN func120 ntmps120 [] ?_;have hw0:=qN a oO;refine xw1 hw0 ?_;refine qL (fun n fr st'=>∃(k:Nat) (c:List Int),a<k/\n=b-k/\fr 0=.ms q 0 l.length/\fr 1=i a/\fr 2=i b/\fr 6=i k/\st'=bx st q c/\Pm a b l c/\Srt a k c) (b-(a+1)) ?_ ?_
 .exact⟨a+1,l,oO,rfl,sS,sS,sS,sS,tR hH,.refl,fun p q h1 h2 h3=>by omega⟩
 rintro n fr st1 ⟨k,c,hak,rfl,f0,f1,f2,f6,rfl,r9,hs⟩ JJ hJJ;have o8:=r9.len;by_cases dQ:k<b;rotate_left
 .clear hJJ;have C7:¬(k:Int)<(b:Int):=oO;refine xw5 f0 f1 f2 f6 dQ ?_;exact⟨trivial,c,rfl,r9,fun p q h1 h2 h3=>hs p q h1 h2 oO⟩
 have K3:=qN k oO;refine xw5 f0 f1 f2 f6 dQ ?_;refine qL (fun n fr st'=>∃(j:Nat) (c:List Int),a<=j/\j<=k/\j=n/\fr 0=.ms q 0 l.length/\fr 1=i a/\fr 2=i b/\fr 6=i k/\fr 7=i j/\st'=bx st q c/\Pm a b l c/\Ins a j k c) k ?_ ?_
 .exact⟨k,c,oO,oO,rfl,sF1 f0,sF1 f1,sF1 f2,sF1 f6,sS,rfl,r9,hs.ins⟩
 clear f0 f1 f2 f6 hs r9 o8 c fr;rintro n fr st1 ⟨j,c,haj,X9,rfl,f0,f1,f2,f6,f7,rfl,r9,hI⟩ JJ2 S5;have o8:=r9.len;by_cases hj:a<j;rotate_left
 .clear S5;have hj':¬(a:Int)<(j:Int):=oO
  (repeat (apply qS));(refine zS [] [q] [0,2,4,6,8,10,12,14,16,18,20,22,24,27,28] ?_;intro J hJ;simp[f0,f1,f2,f6,f7,hj];refine zJ hJ ?_)
  refine xw2 f6 K3 ?_;exact hJJ (b-(k+1)) _ _ oO ⟨k+1,c,oO,rfl,sF1 f0,sF1 f1,sF1 f2,sS,rfl,r9,hI.done haj (.inl oO)⟩
 have F0:=aU j oO oO;have hjl:j<l.length:=oO;have hjl1:j-1<l.length:=oO;have hd:=qG c j oO;have F7:=qG c (j-1) oO;have hI1:=hI.step hj X9 oO;have hI2:=hI.done haj;have S6:=r9.step j (j-1) oO oO oO oO oO;generalize hx:c.getD j 0=x at *;generalize hy:c.getD (j-1) 0=y at *
 (repeat (apply qS));(refine zS [] [q] [0,2,4,6,8,10,12,14,16,18,20,22,24,27,28] ?_;intro J hJ;simp[f0,f1,f2,f6,f7,hj,F0,hjl,hjl1,o8,hd,F7])
 refine aO (tK x y _) ?_;rintro r s2 ⟨rfl,rfl⟩;refine⟨fun _=>by simp,?_⟩;by_cases hcd:x<y;rotate_left
 .clear S5
  (apply bL;simp[hcd];refine zJ hJ ?_)
  refine xw2 f6 K3 ?_;exact hJJ (b-(k+1)) _ _ oO ⟨k+1,c,oO,rfl,sF1 f0,sF1 f1,sF1 f2,sS,rfl,r9,hI2 (.inr hcd)⟩
 clear hJJ
 (apply bL;simp[hcd];refine zJ hJ ?_)
 refine xw0 ?_
 (refine zS [] [q] [0,2,4,6,8,10,12,14,16,18,20,22,24,26,28,31,32,35] ?_;intro J hJ;simp[f0,f1,f2,f6,f7,F0,hjl,hjl1,o8,hd,F7];(repeat refine ca ?_);refine zJ hJ ?_)
 refine xw2 f7 F0 ?_;exact S5 (j-1) _ _ oO ⟨j-1,sw c j (j-1),oO,oO,rfl,sF1 f0,sF1 f1,sF1 f2,sF1 f6,sS,mL st q c j (j-1) oO oO hx hy,S6,hI1 hcd⟩
theorem reverseRange(l:List Int)(q a b:Nat)(st:St)(hl:small l)(ha:a<=b)(hb:b<=l.length)(h0:0<b)(hH:st.H q=.box 34 1 (us l)):
 aB prog 124 [.ms q 0 l.length,i a,i b] st fun r st'=>∃ c,st'=bx st q c/\Pm a b l c:=by
 unfold small at hl;refine zN func124 ntmps124 [] ?_;have hw0:=aU b oO oO;refine xw1 hw0 ?_;refine qL (fun n fr st'=>∃(k m:Nat) (c:List Int),a<=k/\m<b/\m=n/\fr 0=.ms q 0 l.length/\fr 6=i k/\fr 7=i m/\st'=bx st q c/\Pm a b l c) (b-1) ?_ ?_
 .exact⟨a,b-1,l,oO,oO,rfl,sS,sS,sS,tR hH,.refl⟩
 rintro n fr st1 ⟨k,m,c,hak,V3,rfl,f0,f6,f7,rfl,r9⟩ JJ hJJ;have o8:=r9.len;by_cases dQ:k<m;rotate_left
 .clear hJJ;refine xw4 f0 f6 f7 dQ ?_;exact⟨trivial,c,rfl,r9⟩
 have K3:=qN k oO;have F0:=aU m oO oO;have hkl:k<l.length:=oO;have J4:m<l.length:=oO;have hd:=qG c k oO;have F7:=qG c m oO;have S6:=r9.step k m oO oO oO oO oO;generalize hx:c.getD k 0=x at *;generalize hy:c.getD m 0=y at *;refine xw4 f0 f6 f7 dQ ?_
 (refine zS [] [q] [0,2,4,6,8,10,12,14,16,18,20,22,24,27,28,31] ?_;intro J hJ;simp[f0,f6,f7,hkl,J4,o8,hd,F7];(repeat refine ca ?_);refine zJ hJ ?_)
 refine xw4 f6 f7 K3 F0 ?_;exact hJJ (m-1) _ _ oO ⟨k+1,m-1,sw c k m,oO,oO,rfl,sF1 f0,sS,sS,mL st q c k m oO oO hx hy,S6⟩
theorem cF{P:Program}{N:Nat}{Q:AQ}{k:List gF}{fr:Frm}{st:St}{x y:Code}(I:Frm->St->Prop)(h1:AWp P N x (AK P N (fun e f s=>e=.normal/\I f s) []) fr st)(h2:∀ fr st,I fr st->AWp P N y (AK P N Q k) fr st):
 AWp P N x (AK P N Q (.code y::k)) fr st:=by
 refine cW h1 ?_;rintro e c7 st' ⟨rfl,hI⟩;rw[jA];exact h2 _ _ hI
theorem Io(st:St)(q:Nat)(c:List Int)(k m:Nat){x y:Int}(hk:k<c.length)(hm:m<c.length)(hx:c.getD k 0=x)(hy:c.getD m 0=y):
 (st.set q (.box 34 1 (List.take k (us c)++.atom (.int .u32 y)::List.drop (k+1) (us c)))).set q
   (.box 34 1 (List.take m (List.take k (us c)++.atom (.int .u32 y)::List.drop (k+1) (us c))++.atom (.int .u32 x)::List.drop (m+1) (List.take k (us c)++.atom (.int .u32 y)::List.drop (k+1) (us c))))=bx st q (sw c k m):=by
 rw[<- mL st q c k m hk hm hx hy];exact St.ext' rfl fun z=>by by_cases hz:z=q<;>simp[hz]
theorem Rh{P:Program}{N:Nat}{Q:AQ}{k:List gF}{fr:Frm}{st:St}{x y z:Code}(I:Frm->St->Prop)(h1:AWp P N x (AK P N (fun e f s=>e=.normal/\I f s) [.code y]) fr st)(h2:∀ fr st,I fr st->AWp P N z (AK P N Q k) fr st):
 AWp P N x (AK P N Q (.code y::.code z::k)) fr st:=by
 refine cW h1 ?_;rintro e c7 st' h;cases e with
 |normal=>rw[jA]at h ⊢;refine cW h ?_;rintro e Y5 st2 ⟨rfl,h⟩;rw[jA];exact h2 _ _ h
 |_=>exact absurd h.1 sS
def YH(c:List Int)(f r hi ch:Nat):Prop:=∀ x,(x=2*r+1\/x=2*r+2)->x<hi->c.getD (f+x) 0<=c.getD (f+ch) 0
theorem siftDown(l:List Int)(q lo hi f:Nat)(st:St)(hl:small l)(hb:f+hi<=l.length)(U1:lo<=l.length)(hh:tP (lo+1) hi f l)(hH:st.H q=.box 34 1 (us l)):
 aB prog 163 [.ms q 0 l.length,i lo,i hi,i f] st fun r st'=>∃ c,st'=bx st q c/\Pm (f+lo) (f+hi) l c/\tP lo hi f c:=by
 unfold small at hl;refine zN func163 ntmps163 [] ?_;refine xw0 ?_;refine qL (fun n fr st'=>∃(r:Nat) (c:List Int),lo<=r/\r<=l.length/\n=hi-r/\fr 0=.ms q 0 l.length/\fr 2=i hi/\fr 3=i f/\fr 8=i r/\st'=bx st q c/\Pm (f+lo) (f+hi) l c/\uO lo hi f r c) (hi-lo) ?_ ?_
 .exact⟨lo,l,aAl _,U1,rfl,sS,sS,sS,sS,tR hH,.refl,hh.x⟩
 rintro n fr st1 ⟨r,c,hlr,hrl,rfl,f0,f2,f3,f8,rfl,r9,hX⟩ JJ hJJ;have o8:=r9.len;obtain⟨m,hm⟩:∃ m:Nat,m=2*r+1:=⟨_,rfl⟩;obtain⟨m2,hm2⟩:∃ m:Nat,m=2*r+2:=⟨_,rfl⟩;have w1:IntKind.i64.wrap (2*(r:Int))=2*(r:Int):=zW;have w2:IntKind.i64.wrap (2*(r:Int)+1)=(m:Int):=zW;have w3:IntKind.i64.wrap ((m:Int)+1)=(m2:Int):=zW;by_cases hmh:hi<=m
 .clear hJJ;refine xw7 f0 f2 f3 f8 w1 w2 hmh ?_;exact⟨trivial,c,rfl,r9,hX.leaf oO⟩
 obtain⟨x1,hx1⟩:∃ x:Nat,x=f+m:=⟨_,rfl⟩;obtain⟨x2,P0⟩:∃ x:Nat,x=f+m2:=⟨_,rfl⟩;obtain⟨x0,I6⟩:∃ x:Nat,x=f+r:=⟨_,rfl⟩;have w4:IntKind.i64.wrap ((f:Int)+(m:Int))=(x1:Int):=zW;have w5:IntKind.i64.wrap ((x1:Int)+1)=(x2:Int):=zW;have w6:IntKind.i64.wrap ((f:Int)+(r:Int))=(x0:Int):=zW
 (repeat' (first|apply qS|apply qB|(refine zE ?_;intro J hJ;simp[f0,f2,f3,f8,w1,w2,hmh];refine zJ hJ ?_)))
 (apply qC;simp[])
 (repeat' (first|apply qS|refine qK (zZ ?_)))
 refine Rh (fun Y5 st2=>st2=bx st q c/\Y5 0=.ms q 0 l.length/\Y5 2=i hi/\Y5 3=i f/\Y5 8=i r/\∃ ch:Nat,Y5 9=i ch/\(ch=2*r+1\/ch=2*r+2)/\ch<hi/\YH c f r hi ch) ?_ ?_
 .by_cases h2h:m2<hi;rotate_left
  ·(refine zS [] [q] [0,2,4,6,8,10,12,14,16,18,20,22,24,26,28,30,32,34,37,38] ?_;intro J hJ;simp[f0,f2,f3,f8,w3,h2h];refine zJ hJ ?_)
   refine xw1 f0 ?_;refine⟨trivial,trivial,sF1 f0,sF1 f2,sF1 f3,sF1 f8,m,sS,oO,oO,fun x h1 h2=>?_⟩;rw[show x=m by omega];exact aCV _
  have z7:=qG c x1 oO;have F7:=qG c x2 oO;have hl1:x1<l.length:=oO;have Y1:x2<l.length:=oO;generalize hy1:c.getD x1 0=y1 at *;generalize P8:c.getD x2 0=y2 at *
  (refine zS [] [q] [0,2,4,6,8,10,12,14,16,18,20,22,24,26,28,30,32,34,37,38] ?_;intro J hJ;simp[f0,f2,f3,f8,w3,w4,w5,h2h,hl1,Y1,o8,z7,F7])
  refine aO (tK y1 y2 _) ?_;rintro r1 s2 ⟨rfl,rfl⟩;refine⟨fun _=>by simp,?_⟩;by_cases hyy:y1<y2
  ·(apply bL;simp[hyy];refine zJ hJ ?_)
   refine xw1 w3 ?_;refine⟨trivial,trivial,sF1 f0,sF1 f2,sF1 f3,sF1 f8,m2,sS,oO,oO,fun x h1 h2=>?_⟩;rcases(show x=m\/x=m2 by omega)with rfl|rfl
   .rw[<- hx1,<- P0,hy1,P8];omega
   .exact aCV _
  ·(apply bL;simp[hyy];refine zJ hJ ?_)
   refine xw0 ?_;refine⟨trivial,trivial,sF1 f0,sF1 f2,sF1 f3,sF1 f8,m,sS,oO,oO,fun x h1 h2=>?_⟩;rcases(show x=m\/x=m2 by omega)with rfl|rfl
   .exact aCV _
   .rw[<- hx1,<- P0,hy1,P8];omega
 clear f0 f2 f3 f8 w1 w2 w3 w4 w5 hx1 P0 x1 x2 fr;rintro fr st2 ⟨rfl,f0,f2,f3,f8,ch,f9,O8,hchi,hmax⟩;obtain⟨x1,hx1⟩:∃ x:Nat,x=f+ch:=⟨_,rfl⟩;have w4:IntKind.i64.wrap ((f:Int)+(ch:Int))=(x1:Int):=zW;have z7:=qG c x1 oO;have hd0:=qG c x0 oO;have hl1:x1<l.length:=oO;have hl0:x0<l.length:=oO;unfold YH at hmax;have E3:=hX.step (c:=ch) hlr O8 hchi oO hmax;have S6:=r9.step x0 x1 oO oO oO oO oO;have hbig:=hX.big;rw[<- I6,<- hx1]at E3;rw[<- I6]at hbig;rw[<- hx1]at hmax;generalize hy0:c.getD x0 0=y0 at *;generalize hy1:c.getD x1 0=y1 at *
 (repeat (apply qS));(refine zS [] [q] [0,2,4,6,8,10,12,14,16,18,20,22,25,26] ?_;intro J hJ;simp[f0,f2,f3,f8,f9,w4,w6,hl1,hl0,o8,z7,hd0])
 refine aO (tK y0 y1 _) ?_;rintro r1 s2 ⟨rfl,rfl⟩;refine⟨fun _=>by simp,?_⟩;by_cases hyy:y0<y1;rotate_left
 .clear hJJ
  (apply bL;simp[hyy];refine zJ hJ ?_)
  refine xw0 ?_;exact⟨c,rfl,r9,hbig fun x h1 h2=>by have:=hmax x h1 h2;omega⟩
 (apply bL;simp[hyy];refine zJ hJ ?_)
 refine xw0 ?_
 (refine zS [] [q] [0,2,4,6,8,10,12,14,16,18,20,22,24,26,28,30,32,34,36,38,40,43,44,47] ?_;intro J hJ;simp[f0,f2,f3,f8,f9,w4,w6,hl1,hl0,o8,z7,hd0];(repeat refine ca ?_);refine zJ hJ ?_)
 refine xw1 f9 ?_;exact hJJ (hi-ch) _ _ oO ⟨ch,sw c x0 x1,oO,oO,rfl,sF1 f0,sF1 f2,sF1 f3,sS,mL st q c x0 x1 oO oO hy0 hy1,S6,E3 hyy⟩
def Zb(c:List Int)(f j hi:Nat):Prop:=∀ p q,p<q->j<=q->q<hi->c.getD (f+p) 0<=c.getD (f+q) 0
theorem heapSort(l:List Int)(q a b:Nat)(st:St)(hl:small l)(ha:a<b)(hb:b<=l.length)(hH:st.H q=.box 34 1 (us l)):
 aB prog 121 [.ms q 0 l.length,i a,i b] st fun r st'=>∃ c,st'=bx st q c/\Pm a b l c/\Srt a b c:=by
 have J7:=hl;unfold small at hl;obtain⟨n,hn⟩:∃ n:Nat,n=b-a:=⟨_,rfl⟩;obtain⟨n1,I2⟩:∃ n:Nat,n=b-a-1:=⟨_,rfl⟩;obtain⟨n2,K2⟩:∃ n:Nat,n=n1 / 2:=⟨_,rfl⟩;have w1:IntKind.i64.wrap ((b:Int)-(a:Int))=(n:Int):=zW;have w2:IntKind.i64.wrap ((n:Int)-1)=(n1:Int):=zW;have w3:IntKind.i64.wrap ((n1:Int) / 2)=(n2:Int):=by rw[show(n1:Int) / 2=((n1 / 2:Nat):Int) from rfl,<- K2];exact wrap_i64 _ oO oO
 refine zN func121 ntmps121 [] ?_;refine xw3 w1 w2 w3 ?_;refine qL (fun m fr st'=>∃(c:List Int),m<=n2+1/\fr 0=.ms q 0 l.length/\fr 6=i a/\fr 7=i 0/\fr 8=i n/\fr 9=i ((m:Int)-1)/\st'=bx st q c/\Pm a b l c/\tP m n a c) (n2+1) ?_ ?_
 .exact⟨l,oO,sS,sS,sS,sS,sS,tR hH,.refl,fun k x h1 h2 h3=>by omega⟩
 rintro m fr st1 ⟨c,hm,f0,f6,f7,f8,f9,rfl,r9,hh⟩ JJ hJJ;have o8:=r9.len;cases m with
 |succ m=>
  have f9':fr 9=i (m:Int):=by rw[f9];congr 2;omega
  have w4:IntKind.i64.wrap ((m:Int)-1)=(m:Int)-1:=zW;have hge:(0:Int)<=(m:Int):=oO
  (refine xj6 f0 f6 f7 f8 f9' hge ?_;intro J hJ)
  rw[<- o8];refine qF (siftDown c q m n a _ (by unfold small;omega) oO oO hh sS) ?_;rintro r s2 ⟨c2,rfl,H9,hh2⟩;rw[o8];refine pX hJ f9' w4 ?_;exact hJJ m _ _ oO ⟨c2,oO,sF1 f0,sF1 f6,sF1 f7,sF1 f8,sS,St.set_set _ _ _ _,r9.trans (H9.wide oO oO oO),hh2⟩
 |zero=>
  clear hJJ;have f9':fr 9=i (-1):=by rw[f9];rfl
  refine xw6 f0 f6 f7 f8 f9' w2 ?_;refine qL (fun m fr st'=>∃(c:List Int),m<=n/\fr 0=.ms q 0 l.length/\fr 6=i a/\fr 7=i 0/\fr 10=i ((m:Int)-1)/\st'=bx st q c/\Pm a b l c/\tP 0 m a c/\Zb c a m n) n ?_ ?_
  .exact⟨c,aAl _,sF1 f0,sF1 f6,sF1 f7,by simp;omega,rfl,r9,hh,fun p q h1 h2 h3=>by omega⟩
  clear f0 f6 f7 f8 f9 f9' r9 hh o8 c fr;rintro m fr st1 ⟨c,hm,f0,f6,f7,f10,rfl,r9,hh,Z9⟩ JJ hJJ;have o8:=r9.len;cases m with
  |zero=>
   have f10':fr 10=i (-1):=by rw[f10];rfl
   refine xw1 f10' ?_;refine⟨trivial,c,rfl,r9,fun p q h1 h2 h3=>?_⟩;have:=Z9 (p-a) (q-a) oO oO oO
   rwa [show a+(p-a)=p by omega,show a+(q-a)=q by omega]at this
  |succ m=>
   have f10':fr 10=i (m:Int):=by rw[f10];congr 2;omega
   have w4:IntKind.i64.wrap ((m:Int)-1)=(m:Int)-1:=zW;have hge:(0:Int)<=(m:Int):=oO;obtain⟨x1,hx1⟩:∃ x:Nat,x=a+m:=⟨_,rfl⟩;have w5:IntKind.i64.wrap ((a:Int)+(m:Int))=(x1:Int):=zW;have hd0:=qG c a oO;have z7:=qG c x1 oO;have hl0:a<l.length:=oO;have hl1:x1<l.length:=oO;have hpop:=hh.pop oO;have J9:=fun c2=>Ml (c2:=c2) hh Z9 oO oO;have S6:=r9.step a x1 oO oO oO oO oO;rw[<- hx1]at hpop J9;have hsl:=DI c a x1;have H6:=fun x y=>mL st q c a x1 (x:=x) (y:=y) oO oO;generalize hy0:c.getD a 0=y0 at *;generalize hy1:c.getD x1 0=y1 at *;have G1:=H6 y0 y1 rfl rfl;refine xw5 f0 f6 f7 f10' hge ?_
   (refine zS [] [q] [0,2,4,6,8,10,12,14,16,18,20,22,24,26,28,30,32,35,36,39] ?_;intro J hJ;simp[f0,f6,f7,f10',w5,hl0,hl1,o8,hd0,z7];(repeat refine ca ?_);(refine zJ hJ ?_;clear hJ J))
   rw[G1];generalize V6:sw c a x1=c1 at *
   (refine xj4 f0 f6 f7 f10' ?_;intro J hJ)
   rw[<- o8,<- hsl];refine qF (siftDown c1 q 0 m a _ (by unfold small;omega) oO oO hpop sS) ?_;rintro r s2 ⟨c2,rfl,H9,hh2⟩;rw[hsl,o8];refine pX hJ f10' w4 ?_;exact hJJ m _ _ oO ⟨c2,oO,sF1 f0,sF1 f6,sF1 f7,sS,St.set_set _ _ _ _,S6.trans (H9.wide oO oO oO),hh2,J9 c2 (by rw[hx1];exact H9)⟩
end Aw
end Go.Proofs.YtbgngpdonpeboaaGreatDoor
