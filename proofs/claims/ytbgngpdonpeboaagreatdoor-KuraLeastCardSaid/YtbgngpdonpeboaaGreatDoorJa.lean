/- Plain lists of numbers: places, least ones, turns. No program. -/
import Derived.RangeFuncBox
import Derived.RangeFuncLeaves
import Derived.Shelf.Abstract
import Derived.WalkKit
import Derived.OwnWalkIn
import Derived.TacticsInMore
import Derived.LoopNIn
import Derived.LoopIn
import Derived.Maps.AppendAt
import Derived.Test.YtbgngpdonpeboaaGreatDoorProg
import Derived.Test.YtbgngpdonpeboaaGreatDoorAwSet
import Derived.IntWalk
set_option linter.unusedVariables false
set_option linter.unusedSimpArgs false
set_option maxHeartbeats 2000000
open Go.Proofs.Tryz
namespace Go.Proofs.YtbgngpdonpeboaaGreatDoor
namespace Pl
def gi(l:List Int)(x:Int):Int:=if x∈l then(l.idxOf x:Int)else -1
theorem VF{l:List Int}{x:Int}{k:Nat}(hk:k<l.length)(h:l[k]=x)(hn:∀ j (hj:j<k),l[j]'(by omega)≠x):gi l x=k:=by
 have hm:x∈l:=by rw[<- h];exact aAI hk
 unfold gi;rw[aAj hm]
 congr 1
 have h1:l.idxOf x<l.length:=aBg hm;have h2:l[l.idxOf x]=x:=aBL h1;rcases aCg (l.idxOf x) k with h3|h3|h3
 .grind
 .omega
 .have:=aEg (p:=fun y=>y==x) (xs:=l) (i:=k) (by simpa[List.idxOf]using h3)
  grind
theorem TG{l:List Int}{x:Int}(hn:∀ j (hj:j<l.length),l[j]≠x):gi l x = -1:=by
 grind [gi]
theorem GG(l:List Int)(x:Int):gi l x<0↔x∉l:=by
 grind [gi]
def mn:List Int->Int
 |[]=>0
 |x::l=>l.foldl (fun a b=>if b<a then b else a) x
theorem vJ(l:List Int):∀ a:Int,l.foldl (fun a b=>if b<a then b else a) a<=a/\(∀ x∈l,l.foldl (fun a b=>if b<a then b else a) a<=x)/\(l.foldl (fun a b=>if b<a then b else a) a=a\/l.foldl (fun a b=>if b<a then b else a) a∈l):=by
 induction l with
 |nil=>grind
 |cons b l ih=>
  intro a;simp only[List.foldl_cons];obtain⟨h1,h2,h3⟩:=ih (if b<a then b else a);have c1:(if b<a then b else a)<=a:=by split<;>omega
  have c2:(if b<a then b else a)<=b:=by split<;>omega
  refine⟨Int.le_trans h1 c1,?_,?_⟩
  .grind
  grind
theorem PK{l:List Int}{x:Int}(hx:x∈l):mn l<=x:=by
 cases l with
 |nil=>grind
 |cons a l=>
  obtain⟨h1,h2,_⟩:=vJ l a;rcases aAe.1 hx with rfl|hx
  .exact h1
  .exact h2 x hx
theorem xM{l:List Int}(h:l≠[]):mn l∈l:=by
 cases l with
 |nil=>grind
 |cons a l=>
  obtain⟨_,_,h3⟩:=vJ l a
  grind [mn]
theorem Vv{l:List Int}{m:Int}(hm:m∈l)(h:∀ x∈l,m<=x):mn l=m:=by
 have h1:=PK hm
 grind [xM,List.ne_nil_of_mem]
theorem NG(l:List Int)(x:Int)(h:l≠[]):mn (l++[x])=if x<mn l then x else mn l:=by
 cases l with
 |nil=>grind
 |cons a l=>grind [mn]
theorem UO(l:List Int)(k:Nat)(h0:0<k)(hk:k<l.length):mn (l.take (k+1))=if l[k] < mn (l.take k)then l[k]else mn (l.take k):=by
 rw[aAs hk,NG]
 grind [List.length_nil]
def rt(l:List Int)(k:Nat):List Int:=l.drop k++l.take k
def nrm(l:List Int):List Int:=rt l (l.idxOf (mn l))
theorem wX(l:List Int)(k:Nat):(rt l k).length=l.length:=by grind [rt]
theorem nX(l:List Int):(nrm l).length=l.length:=wX _ _
theorem WO(l:List Int)(k i:Nat)(hk:k<=l.length)(hi:i<l.length):(rt l k)[i]'(by rw[wX];exact hi)=l[(k+i) % l.length]'(aCw _ oO):=by
 unfold rt;by_cases h:i<l.length-k
 .rw[aCF (by simpa using h)];simp only[aCn]
  congr 1
  rw[aAJ oO]
 .rw[aBz (by simp;omega)];simp only[aBR,aAT]
  congr 1
  rw[Nat.mod_eq_sub_mod oO,aAJ oO];omega
theorem US(l:List Int)(i:Nat)(hi:i<l.length):(nrm l)[i]'(by grind [nX])=l[(l.idxOf (mn l)+i) % l.length]'(aCw _ oO):=
 WO l _ i aEq hi
end Pl
namespace Eu
open Go
def it(f:Int->Int):Nat->Int->Int
 |0,x=>x
 |n+1,x=>it f n (f x)
theorem cA(f:Int->Int)(n:Nat)(x:Int):it f (n+1) x=f (it f n x):=by
 induction n generalizing x with
 |zero=>rfl
 |succ n ih=>exact ih (f x)
theorem kX(f:Int->Int)(m n:Nat)(x:Int):it f (m+n) x=it f m (it f n x):=by
 induction n generalizing x with
 |zero=>rfl
 |succ n ih=>exact ih (f x)
theorem Jq{f:Int->Int}{p:Nat}{x:Int}(h:it f p x=x)(q:Nat):it f (q*p) x=x:=by
 induction q with
 |zero=>rw[aEE];rfl
 |succ q ih=>grind [Nat.succ_mul,kX]
theorem KC{f:Int->Int}(hi:∀ x y,f x=f y->x=y)(n:Nat){x y:Int}(h:it f n x=it f n y):x=y:=by
 induction n generalizing x y with
 |zero=>exact h
 |succ n ih=>exact hi _ _ (ih h)
def Per(f:Int->Int):Prop:=∀ x,∃ p,0<p/\it f p x=x
def Orb(f:Int->Int)(x y:Int):Prop:=∃ n,it f n x=y
theorem Orb.refl(f:Int->Int)(x:Int):Orb f x x:=⟨0,rfl⟩
theorem Orb.step(f:Int->Int)(x:Int):Orb f x (f x):=⟨1,rfl⟩
theorem Orb.trans{f:Int->Int}{x y z:Int}(h:Orb f x y)(k:Orb f y z):Orb f x z:=by obtain⟨n,rfl⟩:=h;obtain⟨m,rfl⟩:=k;exact⟨m+n,kX f m n x⟩
theorem Orb.symm{f:Int->Int}(hf:Per f){x y:Int}(h:Orb f x y):Orb f y x:=by
 obtain⟨n,rfl⟩:=h;induction n generalizing x with
 |zero=>exact⟨0,rfl⟩
 |succ n ih=>
  refine(ih (x:=f x)).trans ?_;obtain⟨p,hp,h⟩:=hf x;cases p with
  |zero=>omega
  |succ p=>exact⟨p,h⟩
theorem Per.inj{f:Int->Int}(hf:Per f){x y:Int}(h:f x=f y):x=y:=by
 obtain⟨p,hp,h1⟩:=hf x;obtain⟨q,hq,h2⟩:=hf y;have h3:=Jq h1 q;have h4:=Jq h2 p;rw[aBY]at h4;obtain⟨k,hk⟩:∃ k,q*p=k+1:=⟨q*p-1,by have:=aDs hq hp;omega⟩
 grind [it]
theorem Pk{f:Int->Int}(D:List Int)(hD:∀ x∈D,f x∈D)(hi:∀ x y,f x=f y->x=y)(ho:∀ x,x∉D->f x=x):Per f:=by
 intro x;by_cases hx:x∈D
 .refine aAG fun x8=>?_;have Zo:∀ p,0<p->it f p x≠x:=fun p hp h=>x8 ⟨p,hp,h⟩;have j5:∀ k,it f k x∈D:=by
   intro k;induction k with
   |zero=>exact hx
   |succ k ih=>grind [cA]
  have hnd:((List.range (D.length+1)).map fun k=>it f k x).Nodup:=by unfold List.Nodup;rw[aAV];refine aBP.imp fun {i j} hij h=>?_;have h2:j=i+(j-i):=oO;rw[h2,kX]at h;exact Zo (j-i) oO (KC hi i h).symm
  have:=aAA hnd (l₂:=D) fun y hy=>by
   grind
  grind
 .exact⟨1,oO,ho x hx⟩
structure Eqv(R:Int->Int->Prop):Prop where
 refl:∀ x,R x x
 symm:∀ {x y},R x y->R y x
 trans:∀ {x y z},R x y->R y z->R x z
theorem Per.eqv{f:Int->Int}(hf:Per f):Eqv (Orb f):=⟨Orb.refl f,Orb.symm hf,Orb.trans⟩
noncomputable def ncl(R:Int->Int->Prop):List Int->Nat
 |[]=>0
 |x::l=>ncl R l+@ite Nat (∃ y∈l,R y x) (Classical.propDecidable _) 0 1
theorem aW{R:Int->Int->Prop}{x:Int}{l:List Int}(h:∃ y∈l,R y x):ncl R (x::l)=ncl R l:=by
 grind [ncl]
theorem aO{R:Int->Int->Prop}{x:Int}{l:List Int}(h:¬∃ y∈l,R y x):ncl R (x::l)=ncl R l+1:=by
 grind [ncl]
theorem dQ{R S:Int->Int->Prop}{l:List Int}(h:∀ x∈l,∀ y∈l,(R x y↔S x y)):ncl R l=ncl S l:=by
 induction l with
 |nil=>rfl
 |cons x l ih=>
  have ih':=ih fun a ha b hb=>h a (aAc _ ha) b (aAc _ hb);by_cases hx:∃ y∈l,R y x
  .grind [aW]
  grind [aO]
theorem vN{R:Int->Int->Prop}(hR:Eqv R){l l':List Int}(h:l.Perm l'):ncl R l=ncl R l':=by
 induction h with
 |nil=>rfl
 |@cons x l1 l2 h ih=>
  by_cases hx:∃ y∈l1,R y x
  .grind [aW]
  grind [aO]
 |swap x y l=>
  by_cases G8:R x y
  .have P9:=hR.symm G8;rw[aW ⟨x,aAf,G8⟩,aW ⟨y,aAf,P9⟩];by_cases hx:∃ z∈l,R z x
   .rw[aW hx,aW];obtain⟨z,hz,hr⟩:=hx;exact⟨z,hz,hR.trans hr G8⟩
   .rw[aO hx,aO];rintro⟨z,hz,hr⟩;exact hx ⟨z,hz,hR.trans hr P9⟩
  .have P9:¬R y x:=fun h=>G8 (hR.symm h);have e1:(∃ z∈x::l,R z y)↔∃ z∈l,R z y:=by
    constructor
    .grind
    .grind
   have e2:(∃ z∈y::l,R z x)↔∃ z∈l,R z x:=by
    constructor
    .grind
    .grind
   by_cases hx:∃ z∈l,R z x
   .rw[aW (x:=x) (l:=y::l) (e2.2 hx)];by_cases hy:∃ z∈l,R z y
    .grind [aW]
    grind [aO,aW]
   .rw[aO (x:=x) (l:=y::l) (fun h=>hx (e2.1 h))];by_cases hy:∃ z∈l,R z y
    .grind [aW,aO]
    grind [aO]
 |trans _ _ h1 h2=>omega
def Mg(R:Int->Int->Prop)(a b x y:Int):Prop:=R x y\/(R x a/\R b y)\/(R x b/\R a y)
theorem Mg.eqv{R:Int->Int->Prop}(hR:Eqv R)(a b:Int):Eqv (Mg R a b):=by
 refine⟨fun x=>.inl (hR.refl x),?_,?_⟩
 .rintro x y (h|⟨h1,h2⟩|⟨h1,h2⟩)
  .exact .inl (hR.symm h)
  .exact .inr (.inr ⟨hR.symm h2,hR.symm h1⟩)
  .exact .inr (.inl ⟨hR.symm h2,hR.symm h1⟩)
 .rintro x y z (h|⟨h1,h2⟩|⟨h1,h2⟩) (k|⟨k1,k2⟩|⟨k1,k2⟩)
  .exact .inl (hR.trans h k)
  .exact .inr (.inl ⟨hR.trans h k1,k2⟩)
  .exact .inr (.inr ⟨hR.trans h k1,k2⟩)
  .exact .inr (.inl ⟨h1,hR.trans h2 k⟩)
  .exact .inr (.inl ⟨h1,k2⟩)
  .exact .inl (hR.trans h1 k2)
  .exact .inr (.inr ⟨h1,hR.trans h2 k⟩)
  .exact .inl (hR.trans h1 k2)
  .exact .inr (.inr ⟨h1,k2⟩)
theorem Mg.same{R:Int->Int->Prop}(hR:Eqv R){a b:Int}(h:R a b)(x y:Int):Mg R a b x y↔R x y:=by
 constructor
 .rintro(k|⟨k1,k2⟩|⟨k1,k2⟩)
  .exact k
  .exact hR.trans (hR.trans k1 h) k2
  .exact hR.trans (hR.trans k1 (hR.symm h)) k2
 .exact .inl
theorem Mg.le{R S:Int->Int->Prop}(hS:Eqv S){a b:Int}(v8:S a b)(h:∀ x y,R x y->S x y){x y:Int}(k:Mg R a b x y):S x y:=by
 rcases k with k|⟨k1,k2⟩|⟨k1,k2⟩
 .grind
 .exact hS.trans (hS.trans (h _ _ k1) v8) (h _ _ k2)
 .exact hS.trans (hS.trans (h _ _ k1) (hS.symm v8)) (h _ _ k2)
theorem tI{R:Int->Int->Prop}(hR:Eqv R){a b:Int}(v8:¬R a b){l:List Int}(ha:a∈l)(hb:b∈l):ncl R l=ncl (Mg R a b) l+1:=by
 have Zo:b≠a:=by rintro rfl;exact v8 (hR.refl _)
 have key:∀ rest:List Int,ncl R (rest++[a,b])=ncl (Mg R a b) (rest++[a,b])+1:=by
  intro rest;induction rest with
  |nil=>
   have h1:ncl R [a,b]=2:=by
    rw[aO,aO]
    .rfl
    .grind
    .rintro⟨y,hy,hr⟩;rw[aAk]at hy;subst hy;exact v8 (hR.symm hr)
   have h2:ncl (Mg R a b) [a,b]=1:=by
    rw[aW,aO]
    .rfl
    .grind
    .exact⟨b,sS,.inr (.inr ⟨hR.refl _,hR.refl _⟩)⟩
   grind
  |cons x rest ih=>
   rw[List.cons_append];have haL:a∈rest++[a,b]:=sS;have hbL:b∈rest++[a,b]:=sS;by_cases hx:∃ y∈rest++[a,b],R y x
   .rw[aW hx,aW,ih];obtain⟨y,hy,hr⟩:=hx;exact⟨y,hy,.inl hr⟩
   .rw[aO hx,aO,ih];rintro⟨y,hy,hr|⟨_,hr⟩|⟨_,hr⟩⟩
    .grind
    .grind
    grind
 have p1:l.Perm (a::l.erase a):=aEr ha;have p2:(l.erase a).Perm (b::(l.erase a).erase b):=aEr ((List.mem_erase_of_ne Zo).2 hb);have p3:l.Perm (((l.erase a).erase b)++[a,b]):=(p1.trans (p2.cons a)).trans (aBm (l₁:=[a,b]))
 grind [vN,Mg.eqv]
theorem DU{R:Int->Int->Prop}{t l:List Int}(ht:∀ x∈t,∀ y∈t,R x y)(hl:∀ x∈t,∀ y∈l,¬R y x):ncl R (t++l)=ncl R l+if t=[]then 0 else 1:=by
 induction t with
 |nil=>simp
 |cons x t ih=>
  have ih':=ih (fun a ha b hb=>ht a (aAc _ ha) b (aAc _ hb)) (fun a ha=>hl a (aAc _ ha));rw[List.cons_append,aAa sS];cases t with
  |nil=>
   grind [aO]
  |cons z t=>rw[aW ⟨z,sS,ht z sS x sS⟩,ih',aAa sS]
theorem CD{R:Int->Int->Prop}:∀(ts:List (List Int)),(∀ t∈ts,∀ x∈t,∀ y∈t,R x y)->ts.Pairwise (fun t t'=>∀ x∈t,∀ y∈t',¬R y x)->ncl R ts.flatten=(ts.filter fun t=>decide (t≠[])).length
 |[],_,_=>rfl
 |t::ts,h1,h2=>by
  rw[aBk]at h2;rw[List.flatten_cons,DU (h1 t aAf),CD ts (fun t ht=>h1 t (aAc _ ht)) h2.2]
  .grind
  grind [List.mem_flatten]
def sw(a b x:Int):Int:=if x=a then b else if x=b then a else x
theorem Cq(a b:Int):sw a b a=b:=by simp[sw]
theorem Gt(a b:Int):sw a b b=a:=by
 grind [sw]
theorem sP{a b x:Int}(h1:x≠a)(h2:x≠b):sw a b x=x:=by grind [sw]
theorem Vp(a b x:Int):sw a b (sw a b x)=x:=by
 grind [Cq,Gt,sP]
theorem Xg(a b:Int){x y:Int}(h:sw a b x=sw a b y):x=y:=by grind [Vp]
theorem least{P:Nat->Prop}{n:Nat}(h:P n):∃ m,P m/\∀ k,k<m->¬P k:=by
 induction n using Nat.strongRecOn with
 |ind n ih=>
  grind
section
variable {f f':Int->Int} {a b:Int}
theorem Mk(Q8:∀ x,f' x=f (sw a b x))(v8:a≠b)(h:Orb f b a):¬Orb f' a b:=by
 obtain⟨n0,h0⟩:=h;obtain⟨n,hn,Q5⟩:=least (P:=fun n=>it f n b=a) h0;have U7:n≠0:=by rintro rfl;exact v8 hn.symm
 have hbb:∀ i,0<i->i<=n->it f i b≠b:=by intro i hi j5 hb;have:n=(n-i)+i:=oO;rw[this,kX,hb]at hn;exact Q5 (n-i) oO hn
 have o7:∀ x,(∃ i,0<i/\i<=n/\x=it f i b)->∃ i,0<i/\i<=n/\f' x=it f i b:=by
  rintro x ⟨i,hi,j5,rfl⟩;rcases aAS i n with h1|h1
  .grind [sP,cA]
  .obtain rfl:i=n:=oO;exact⟨1,oO,oO,by rw[Q8,hn,Cq];rfl⟩
 rintro⟨k,hk⟩;have hall:∀ k,∃ i,0<i/\i<=n/\it f' k a=it f i b:=by
  intro k;induction k with
  |zero=>exact⟨n,oO,aAm _,hn.symm⟩
  |succ k ih=>rw[cA];exact o7 _ ih
 obtain⟨i,h1,h2,h3⟩:=hall k
 grind
theorem SH(hf:Per f)(Q8:∀ x,f' x=f (sw a b x))(h:¬Orb f b a):Orb f' a b:=by
 obtain⟨p,hp,h0⟩:=hf b;obtain⟨n,⟨U7,hn⟩,Q5⟩:=least (P:=fun n=>0<n/\it f n b=b) ⟨hp,h0⟩;have key:∀ k,0<k->k<=n->it f' k a=it f k b:=by
  intro k;induction k with
  |zero=>omega
  |succ k ih=>
   intro _ hk;rcases aCK k with rfl|h0
   .show f' a=f b
    grind [Cq]
   .rw[cA,ih h0 oO,Q8,sP (fun e=>h ⟨k,e⟩) (fun e=>Q5 k oO ⟨h0,e⟩),cA f k b]
 exact⟨n,by grind⟩
theorem Pu(hf:Per f)(Q8:∀ x,f' x=f (sw a b x)){x y:Int}(h:Orb f' x y):Mg (Orb f) a b x y:=by
 have hE:=Mg.eqv hf.eqv a b;obtain⟨n,rfl⟩:=h;induction n generalizing x with
 |zero=>exact hE.refl _
 |succ n ih=>
  refine hE.trans ?_ (ih (x:=f' x));rw[Q8];by_cases h1:x=a
  .subst h1;rw[Cq];exact .inr (.inl ⟨Orb.refl _ _,Orb.step _ _⟩)
  .by_cases h2:x=b
   .subst h2;rw[Gt];exact .inr (.inr ⟨Orb.refl _ _,Orb.step _ _⟩)
   .rw[sP h1 h2];exact .inl (Orb.step _ _)
theorem LW(hf:Per f)(O9:Per f')(Q8:∀ x,f' x=f (sw a b x))(x y:Int):Mg (Orb f) a b x y↔Mg (Orb f') a b x y:=by
 have hb:∀ x,f x=f' (sw a b x):=fun x=>by grind [Vp]
 constructor
 .exact Mg.le (Mg.eqv O9.eqv a b) (.inr (.inl ⟨Orb.refl _ _,Orb.refl _ _⟩)) fun x y h=>Pu O9 hb h
 .exact Mg.le (Mg.eqv hf.eqv a b) (.inr (.inl ⟨Orb.refl _ _,Orb.refl _ _⟩)) fun x y h=>Pu hf Q8 h
theorem sC{D:List Int}(hf:Per f)(O9:Per f')(Q8:∀ x,f' x=f (sw a b x))(v8:a≠b)(ha:a∈D)(hb:b∈D)(h:Orb f a b):ncl (Orb f') D=ncl (Orb f) D+1:=by
 rw[tI O9.eqv (Mk Q8 v8 (Orb.symm hf h)) ha hb]
 congr 1
 refine dQ fun x _ y _=>?_;rw[<- LW hf O9 Q8,Mg.same hf.eqv h]
theorem vH{D:List Int}(hf:Per f)(O9:Per f')(Q8:∀ x,f' x=f (sw a b x))(ha:a∈D)(hb:b∈D)(h:¬Orb f a b):ncl (Orb f) D=ncl (Orb f') D+1:=by
 have h':Orb f' a b:=SH hf Q8 fun k=>h (Orb.symm hf k);rw[tI hf.eqv h ha hb]
 congr 1
 refine dQ fun x _ y _=>?_;rw[LW hf O9 Q8,Mg.same O9.eqv h']
end
def YY(f:Int->Int)(d:Int)(L:List Int):Prop:=∃ p,0<p/\L=(List.range p).map (fun k=>it f k d)/\it f p d=d/\∀ q,0<q->q<p->it f q d≠d
theorem RF{f:Int->Int}{d:Int}{p:Nat}(hp:0<p)(h:it f p d=d)(n:Nat):it f n d=it f (n % p) d:=by
 grind [Nat.mod_add_div,Nat.mul_comm,kX,Jq]
end Eu
namespace Pl
def sw(c:List Int)(a b:Nat):List Int:=(c.set a (c.getD b 0)).set b (c.getD a 0)
theorem EG(c:List Int)(a b:Nat):(sw c a b).length=c.length:=by simp[sw]
theorem cP(c:List Int)(a b j:Nat)(ha:a<c.length)(hb:b<c.length):(sw c a b).getD j 0=if j=b then c.getD a 0 else if j=a then c.getD b 0 else c.getD j 0:=by
 grind [sw]
theorem Te(c:List Int)(a b:Nat)(ha:a<c.length)(hb:b<c.length):(sw c a b).Perm c:=by
 grind [sw]
inductive Pm(a b:Nat)(l:List Int):List Int->Prop
 |refl:Pm a b l l
 |step {m:List Int} (h:Pm a b l m) (x y:Nat) (hx:a<=x) (P3:x<b) (hy:a<=y) (hy':y<b) (hb:b<=l.length):Pm a b l (sw m x y)
theorem Pm.len{a b:Nat}{l m:List Int}(h:Pm a b l m):m.length=l.length:=by
 induction h with
 |refl=>rfl
 |step h x y _ _ _ _ _ ih=>grind [EG]
theorem Pm.out{a b:Nat}{l m:List Int}(h:Pm a b l m)(j:Nat)(hj:j<a\/b<=j):m.getD j 0=l.getD j 0:=by
 induction h with
 |refl=>rfl
 |step h x y h1 h2 h3 h4 h5 ih=>
  have:=h.len
  grind [cP]
theorem Pm.trans{a b:Nat}{l m n:List Int}(h:Pm a b l m)(k:Pm a b m n):Pm a b l n:=by
 induction k with
 |refl=>exact h
 |step k x y h1 h2 h3 h4 h5 ih=>have:=h.len;exact ih.step x y h1 h2 h3 h4 oO
theorem Pm.wide{a b a' b':Nat}{l m:List Int}(h:Pm a b l m)(ha:a'<=a)(hb:b<=b')(hl:b'<=l.length):Pm a' b' l m:=by
 induction h with
 |refl=>exact .refl
 |step k x y h1 h2 h3 h4 h5 ih=>exact ih.step x y oO oO oO oO hl
theorem Pm.perm{a b:Nat}{l m:List Int}(h:Pm a b l m):m.Perm l:=by
 induction h with
 |refl=>grind
 |step k x y h1 h2 h3 h4 h5 ih=>have:=k.len;grind [Te]
theorem Pm.all{a b:Nat}{l m:List Int}(h:Pm a b l m)(P:Int->Prop)(hP:∀ j,a<=j->j<b->P (l.getD j 0))(j:Nat)(h1:a<=j)(h2:j<b):P (m.getD j 0):=by
 induction h generalizing j with
 |refl=>grind
 |step k x y g1 g2 g3 g4 g5 ih=>
  have:=k.len
  grind [cP]
theorem Pm.one{a b:Nat}{l:List Int}(x y:Nat)(hx:a<=x)(P3:x<b)(hy:a<=y)(hy':y<b)(hb:b<=l.length):Pm a b l (sw l x y):=Pm.refl.step x y hx P3 hy hy' hb
def Srt(a b:Nat)(l:List Int):Prop:=∀ p q,a<=p->p<q->q<b->l.getD p 0<=l.getD q 0
def Ins(a j i:Nat)(d:List Int):Prop:=∀ p q,a<=p->p<q->q<=i->q≠j->d.getD p 0<=d.getD q 0
theorem Srt.ins{a i:Nat}{d:List Int}(h:Srt a i d):Ins a i i d:=fun p q h1 h2 h3 h4=>h p q h1 h2 oO
theorem Ins.step{a j i:Nat}{d:List Int}(h:Ins a j i d)(hj:a<j)(hi:j<=i)(hil:i<d.length)(dG:d.getD j 0<d.getD (j-1) 0):Ins a (j-1) i (sw d j (j-1)):=by
 intro p q h1 h2 h3 h4;rw[cP _ _ _ _ oO oO,cP _ _ _ _ oO oO];by_cases e1:q=j
 .rw[aAa h4,aAj e1];by_cases e2:p=j-1
  .omega
  .rw[aAa e2,aAa oO];exact h p (j-1) h1 oO oO oO
 .rw[aAa h4,aAa e1];by_cases e2:p=j-1
  .rw[aAj e2];exact h j q oO oO h3 e1
  .rw[aAa e2];by_cases e3:p=j
   .rw[aAj e3];exact h (j-1) q oO oO h3 e1
   .rw[aAa e3];exact h p q h1 h2 h3 e1
theorem Ins.done{a j i:Nat}{d:List Int}(h:Ins a j i d)(hj:a<=j)(hs:j=a\/¬d.getD j 0<d.getD (j-1) 0):Srt a (i+1) d:=by
 intro p q h1 h2 h3;by_cases e:q=j
 .subst e;have h5:¬d.getD q 0<d.getD (q-1) 0:=by rcases hs with hs|hs;omega;exact hs
  by_cases e2:p=q-1
  .grind
  .have:=h p (q-1) h1 oO oO oO;omega
 .exact h p q h1 h2 oO e
def uZ(lo hi f:Nat)(d:List Int):Prop:=∀ k c,lo<=k->(c=2*k+1\/c=2*k+2)->c<hi->d.getD (f+c) 0<=d.getD (f+k) 0
def uG(lo hi f r:Nat)(d:List Int):Prop:=(∀ k c,lo<=k->k≠r->(c=2*k+1\/c=2*k+2)->c<hi->d.getD (f+c) 0<=d.getD (f+k) 0)/\
 (∀ k c,lo<=k->(r=2*k+1\/r=2*k+2)->(c=2*r+1\/c=2*r+2)->c<hi->d.getD (f+c) 0<=d.getD (f+k) 0)
theorem uZ.x{lo hi f:Nat}{d:List Int}(h:uZ (lo+1) hi f d):uG lo hi f lo d:=
 ⟨fun k c h1 h2 h3 h4=>h k c oO h3 h4,fun k c h1 h2 h3 h4=>by omega⟩
theorem uG.leaf{lo hi f r:Nat}{d:List Int}(h:uG lo hi f r d)(hr:hi<=2*r+1):uZ lo hi f d:=by intro k c h1 h2 h3;exact h.1 k c h1 oO h2 h3
theorem uG.big{lo hi f r:Nat}{d:List Int}(h:uG lo hi f r d)(hr:∀ c,(c=2*r+1\/c=2*r+2)->c<hi->d.getD (f+c) 0<=d.getD (f+r) 0):uZ lo hi f d:=by
 intro k c h1 h2 h3;by_cases e:k=r
 .grind
 .exact h.1 k c h1 e h2 h3
theorem uG.step{lo hi f r c:Nat}{d:List Int}(h:uG lo hi f r d)(hlo:lo<=r)(hc:c=2*r+1\/c=2*r+2)(hci:c<hi)(hl:f+hi<=d.length)(hm:∀ x,(x=2*r+1\/x=2*r+2)->x<hi->d.getD (f+x) 0<=d.getD (f+c) 0)
 (dG:d.getD (f+r) 0<d.getD (f+c) 0):uG lo hi f c (sw d (f+r) (f+c)):=by
 constructor
 .intro k x h1 h2 h3 h4;rw[cP _ _ _ _ oO oO,cP _ _ _ _ oO oO];by_cases e1:k=r
  .grind
  .rw[aAa (show ¬f+k=f+c by omega),aAa (show ¬f+k=f+r by omega)];by_cases e2:x=r
   .subst e2;rw[aAa oO,aAj (rfl:f+x=f+x)];exact h.2 k c h1 h3 hc hci
   .rw[aAa oO,aAa oO];exact h.1 k x h1 e1 h3 h4
 .intro k x h1 h2 h3 h4;have e1:k=r:=oO;subst e1;rw[cP _ _ _ _ oO oO,cP _ _ _ _ oO oO];rw[aAa oO,aAa oO,aAa (show ¬f+k=f+c by omega),aAj (rfl:f+k=f+k)];exact h.1 c x oO oO h3 h4
theorem uZ.top{hi f:Nat}{d:List Int}(h:uZ 0 hi f d):∀ c,c<hi->d.getD (f+c) 0<=d.getD f 0:=by
 intro c;induction c using Nat.strongRecOn with
 |ind c ih=>
  intro hc;by_cases h0:c=0
  .grind
  .have h1:=h ((c-1) / 2) c oO oO hc
   grind
theorem uZ.pop{j f:Nat}{c:List Int}(h:uZ 0 (j+1) f c)(hl:f+j<c.length):uZ 1 j f (sw c f (f+j)):=by intro k x h1 h2 h3;rw[cP _ _ _ _ oO oO,cP _ _ _ _ oO oO];rw[aAa oO,aAa oO,aAa oO,aAa oO];exact h k x oO h2 oO
theorem Oe{hi f j:Nat}{c c2:List Int}(hH:uZ 0 (j+1) f c)(ho:∀ p q,p<q->j+1<=q->q<hi->c.getD (f+p) 0<=c.getD (f+q) 0)(hj:j<hi)(hl:f+hi<=c.length)(hp:Pm f (f+j) (sw c f (f+j)) c2):
 ∀ p q,p<q->j<=q->q<hi->c2.getD (f+p) 0<=c2.getD (f+q) 0:=by
 intro p q h1 h2 h3;have g:=fun x=>cP c f (f+j) x oO oO;rw[hp.out (f+q) oO,g (f+q)];by_cases e:q=j
 .subst e;rw[aAj rfl];refine hp.all (fun x=>x<=c.getD f 0) (fun x h4 h5=>?_) (f+p) oO oO;rw[g,aAa oO];by_cases e2:x=f
  .rw[aAj e2];exact hH.top q oO
  .rw[aAa e2];have:=hH.top (x-f) oO;simp_all
 .rw[aAa oO,aAa oO];by_cases e2:p<j
  .refine hp.all (fun x=>x<=c.getD (f+q) 0) (fun x h4 h5=>?_) (f+p) oO oO;rw[g,aAa oO];by_cases e3:x=f
   .grind
   .rw[aAa e3];have:=ho (x-f) q oO oO h3;simp_all
  .rw[hp.out (f+p) oO,g];by_cases e3:p=j
   .rw[aAj oO];have:=ho 0 q oO oO h3;omega
   grind
theorem QL{a m b:Nat}{d:List Int}(h1:Srt a m d)(h2:Srt (m+1) b d)(h3:∀ p,a<=p->p<m->d.getD p 0<=d.getD m 0)(h4:∀ q,m<q->q<b->d.getD m 0<=d.getD q 0):Srt a b d:=by
 intro p q k1 k2 k3;rcases aCg p m with e|e|e
 .rcases aCg q m with e'|e'|e'
  .exact h1 p q k1 k2 e'
  .grind
  grind
 .grind
 .exact h2 p q oO k2 k3
def Lo(P:Int->Bool)(c:List Int)(a m:Nat):Prop:=∀ p,a<p->p<m->P (c.getD p 0)=true
def Hi(P:Int->Bool)(c:List Int)(m b:Nat):Prop:=∀ p,m<p->p<b->P (c.getD p 0)=false
theorem Lo.more{P:Int->Bool}{c:List Int}{a m:Nat}(h:Lo P c a m)(hm:P (c.getD m 0)=true):Lo P c a (m+1):=by
 intro p h1 h2;by_cases e:p=m
 .grind
 .exact h p h1 oO
theorem Hi.more{P:Int->Bool}{c:List Int}{m b:Nat}(h:Hi P c m b)(h0:0<m)(hm:P (c.getD m 0)=false):Hi P c (m-1) b:=by
 intro p h1 h2;by_cases e:p=m
 .grind
 .exact h p oO h2
theorem Lo.swp{P:Int->Bool}{c:List Int}{a k m:Nat}(h:Lo P c a k)(hkm:k<m)(hm:m<c.length)(hp:P (c.getD m 0)=true):Lo P (sw c k m) a (k+1):=by
 intro p h1 h2;rw[cP _ _ _ _ oO oO,aAa oO];by_cases e:p=k
 .grind
 .rw[aAa e];exact h p h1 oO
theorem Hi.swp{P:Int->Bool}{c:List Int}{k m b:Nat}(h:Hi P c m b)(hkm:k<m)(hm:m<c.length)(hp:P (c.getD k 0)=false):Hi P (sw c k m) (m-1) b:=by
 intro p h1 h2;rw[cP _ _ _ _ oO oO];by_cases e:p=m
 .grind
 .rw[aAa e,aAa oO];exact h p oO h2
def PR(P:Int->Bool)(c:List Int)(a m b:Nat):Prop:=(∀ p,a<=p->p<m->P (c.getD p 0)=true)/\(∀ p,m<p->p<b->P (c.getD p 0)=false)
def IX(c:List Int)(a m b:Nat)(x:Int):Prop:=(∀ p,a<=p->p<m->c.getD p 0<=x)/\(∀ p,m<=p->p<b->x<c.getD p 0)
def cQ(c:List Int)(a m b:Nat):Prop:=PR (fun v=>decide (v<c.getD m 0)) c a m b
theorem yH{P:Int->Bool}{c:List Int}{a m b:Nat}(h1:Lo P c a (m+1))(h2:Hi P c m b)(ham:a<=m)(Z5:m<b)(hb:b<=c.length):PR P (sw c m a) a m b/\(sw c m a).getD m 0=c.getD a 0:=by
 refine⟨⟨fun p k1 k2=>?_,fun p k1 k2=>?_⟩,?_⟩
 .rw[cP _ _ _ _ oO oO];by_cases e:p=a
  .rw[aAj e];exact h1 m oO oO
  .rw[aAa e,aAa oO];exact h1 p oO oO
 .rw[cP _ _ _ _ oO oO,aAa oO,aAa oO];exact h2 p k1 k2
 grind [cP]
theorem SO{l:List Int}(h:Srt 0 l.length l):l.Pairwise (·<=·):=by
 refine aAz.2 fun p q hp hq hpq=>?_;have:=h p q oO hpq hq
 grind
theorem KF{l m:List Int}(h:l.Pairwise (·<=·))(k:m.Pairwise (·<=·))(hp:l.Perm m):l=m:=
 hp.eq_of_pairwise (fun a b _ _ h1 h2=>by omega) h k
end Pl
namespace Rg
open Go Go.RowKit Go.Shelf
attribute [local go_sem] Oper.semAt_some
def upto(zs:List Int)(k:Nat):List Int:=(List.range k).map fun j=>zs[j]?.getD 0
theorem ED(zs:List Int)(k:Nat):upto zs (k+1)=upto zs k++[zs[k]?.getD 0]:=by simp[upto,aEc]
theorem IW(zs:List Int)(k:Nat):(upto zs k).length=k:=by simp[upto]
theorem RA(zs:List Int):upto zs zs.length=zs:=by
 apply aCZ
 .simp[upto]
 grind [upto]
set_option maxRecDepth 100000 in
theorem KS(F:Fence)(n:Nat)(h7:F.fn 204)(Q3:F.round=none)(hn:1<=n)(l Bs U2 b off len cap:Nat)(zs:List Int)(hlen:len<=1048576)(hb:b<U2)(J Jx:List Int->World->Prop)
 (hY:∀ pre x W,J pre W->pre.length<len->YieldAt F (n-1) prog l #[.int .u32 x] W fun e W'=>
   (e=.returned (.bool true)/\J (pre++[x]) W'/\Below U2 W W')\/(e=.returned (.bool false)/\Jx (pre++[x]) W'))
 (W:World) (hBs:W.cell? ⟨Bs,0,none⟩=some (.slice (some ⟨b,off,none⟩) len cap)) (hc:∀ j,j<len->W.cell? ⟨b,off+j,none⟩=some (.int .u32 (zs[j]?.getD 0))) (h0:J [] W):
 CallsIn F n prog 204 #[.func (.yield l) #[] #[],.pointer (some ⟨Bs,0,none⟩)] W fun e W'=>(∃ v,e=.returned v)/\
  ((∃ ys,ys=upto zs len/\J ys W')\/(∃ pre,(∃ k,k<=len/\pre=upto zs k)/\Jx pre W')):=by
 refine callsIn_of_wp func204 rfl h7 ?_ Q3;simp only[ntmps204,aBc,List.length_cons,List.length_nil,Nat.reduceAdd,Nat.reduceSub,aBA,Array.replicate_zero,aBH,aBC,List.nil_append,List.cons_append]
 gi_wp2
 gi_loopw [7] (fun i wr=>∃ k:Nat,k<=len/\i=.int .i64 k/\J (upto zs k) wr/\Below U2 W wr)
  (fun i _=>len-(intOf i).toNat)
 case atStart=>exact⟨0,aBD _,rfl,h0,Below.refl _ _⟩
 case round=>
  obtain⟨k,hk,rfl,hJs,L0⟩:=hrel;have hcx:k<len->wr.cell? ⟨b,off+k,none⟩=some (.int .u32 (zs[k]?.getD 0)):=fun h=>(L0.cell (p:=⟨b,off+k,none⟩) hb).trans (hc k h);by_cases dG:k<len
  .obtain⟨fn,tmps,assign,body,hy,hR⟩:=hY _ (zs[k]?.getD 0) wr hJs (by grind [IW]);have hcx':=hcx dG
   gi_wp2
   refine hR.mono ?_;rintro e W3 (⟨rfl,hJ3,u5⟩|⟨rfl,hJx3⟩)
   .gi_wp2
    go_roundw
    case rel=>exact⟨k+1,oO,sS,by grind [ED],L0.trans u5⟩
    grind [intOf]
   .gi_wp2
    refine bodyPost_ret (results_none rfl _ _ _) rfl ?_;exact⟨⟨_,rfl⟩,.inr ⟨_,⟨k+1,oO,(ED _ _).symm⟩,hJx3⟩⟩
  .obtain rfl:k=len:=oO
   gi_wp2
   go_end0
   grind
set_option maxRecDepth 100000 in
theorem CN(F:Fence)(n:Nat)(h7:F.fn 204)(Q3:F.round=none)(l Bs:Nat)(J:List Int->World->Prop)(W:World)(A:Option Addr)(cap:Nat)(hBs:W.cell? ⟨Bs,0,none⟩=some (.slice A 0 cap))(h0:J [] W):
 CallsIn F n prog 204 #[.func (.yield l) #[] #[],.pointer (some ⟨Bs,0,none⟩)] W fun e W'=>(∃ v,e=.returned v)/\J [] W':=by
 refine callsIn_of_wp func204 rfl h7 ?_ Q3;simp only[ntmps204,aBc,List.length_cons,List.length_nil,Nat.reduceAdd,Nat.reduceSub,aBA,Array.replicate_zero,aBH,aBC,List.nil_append,List.cons_append]
 gi_wp2
 gi_loopw [7] (fun i wr=>i=.int .i64 0/\J [] wr) (fun _ _=>0)
 case atStart=>grind
 case round=>
  obtain⟨rfl,hJs⟩:=hrel
  gi_wp2
  go_end0
  grind
def Ints(U2:Nat)(W:World)(sv:Value)(zs:List Int):Prop:=
 (zs=[]/\∃ A cap,sv=.slice A 0 cap)\/∃ b off cap,sv=.slice (some ⟨b,off,none⟩) zs.length cap/\b<U2/\∀ j,j<zs.length->W.cell? ⟨b,off+j,none⟩=some (.int .u32 (zs[j]?.getD 0))
theorem Ints.below{U2:Nat}{A B:World}(h:Below U2 A B){sv:Value}{zs:List Int}:Ints U2 A sv zs->Ints U2 B sv zs
 |.inl e=>.inl e
 |.inr ⟨b,off,cap,e,hb,hc⟩=>.inr ⟨b,off,cap,e,hb,fun j hj=>(h.cell (p:=⟨b,off+j,none⟩) hb).trans (hc j hj)⟩
theorem FL(F:Fence)(n:Nat)(h7:F.fn 204)(Q3:F.round=none)(hn:1<=n)(Bs U2:Nat)(sv:Value)(zs:List Int)(hlen:zs.length<=1048576)(w:World)(hBs:Bs<w.heap.size)(hn₀:U2<=w.heap.size)
 (hc:w.cell? ⟨Bs,0,none⟩=some sv) (hI:Ints U2 w sv zs):
 SeqStopsK F n prog 204 #[.pointer (some ⟨Bs,0,none⟩)] (fun x:Int=>#[Value.int .u32 x]) (Below U2) (fun ys=>ys=zs) (fun _=>True) zs.length w:=fun l J Jx W hW _ _ hY h0=>by
 have hc':=(hW.cell (p:=⟨Bs,0,none⟩) hBs).trans hc;rcases hI.below (hW.mono hn₀)with⟨rfl,A,cap,rfl⟩|⟨b,off,cap,rfl,hb,L5⟩
 .exact(CN F n h7 Q3 l Bs J W A cap hc' h0).mono fun e W' ⟨he,hj⟩=>⟨he,.inl ⟨_,rfl,hj⟩⟩
 .refine(KS F n h7 Q3 hn l Bs U2 b off zs.length cap zs hlen hb J Jx hY W hc' L5 h0).mono ?_
  grind [RA]
theorem QH:(prog.info? 34).map (fun i=>(i.zero,i.size,i.bytes))=some (some (.int .u32 0),1,4):=by kernel_rfl
set_option maxRecDepth 100000 in
theorem Ey(F:Fence)(n:Nat)(h3:F.fn 147)(h7:F.fn 204)(Q3:F.round=none)(hn:3<=n)(Bs:Nat)(sv:Value)(zs:List Int)(hlen:zs.length<=1048576)(w:World)(hBs:Bs<w.heap.size)
 (hc:w.cell? ⟨Bs,0,none⟩=some sv) (hI:Ints w.heap.size w sv zs):
 CallsIn F n prog 147 #[.slice none 0 0,.func (.func 204) #[] #[.pointer (some ⟨Bs,0,none⟩)]] w fun e W'=>∃ v,e=.returned v/\W'.ownsRow w.heap.size 34 1 v zs.length (zs.map (Value.int .u32))/\Below w.heap.size w W':=by
 have h1:1<=n:=oO;obtain⟨i0,hi,hz0,hz1,hz2⟩:=info_parts QH;refine callsIn_of_wp_marks func147 rfl h3 ?_ Q3;simp only[ntmps147,aBc,List.length_cons,List.length_nil,Nat.reduceAdd,Nat.reduceSub,aBA,Array.replicate_zero,aBH,aBC,List.nil_append,List.cons_append]
 gi_wp2
 have bO:=Boxed.new w 22 (.slice none 0 0);have hB0:Below w.heap.size w (w.alloc (.cells #[.slice none 0 0] 22)):=(Below.refl _ w).alloc (aAm _) _
 refine wpIn_rangeFunc_ownG Q3 h1 (gf:=204) (lb:=#[.pointer (some ⟨Bs,0,none⟩)]) rfl h7 (enters_of func204 (by kernel_rfl) rfl)
  (FL F (n-1) h7 Q3 oO Bs w.heap.size sv zs hlen _ (by simp;omega) sS ((hB0.cell (p:=⟨Bs,0,none⟩) hBs).trans hc) (hI.below hB0)) belowK_t (belowK_b sS) (Below.refl _ _) (fun _=>rfl)
  (fun pre W=>(∃ v,Boxed W w.heap.size 22 v/\W.ownsRow w.heap.size 34 1 v pre.length (pre.map (Value.int .u32))/\True)/\Below w.heap.size w W)
  (fun _ _ _=>False)
  (OwnFrom.and (Own.from (holdsRow_own w.heap.size w.heap.size 22 34 1 (fun pre:List Int=>pre.length) (fun pre:List Int=>pre.map (Value.int .u32)) (fun _ _=>True)) _) (ownFrom_below (aAm _) sS))
  (fun _ _ _ _ _ hs _ _=>hs)
  ⟨⟨_,bO,World.ownsRow_nil _ _ _ _,trivial⟩,hB0⟩
  (fun x=>{ tmps:=#[.slice none 0 0,.func (.func 204) #[] #[.pointer (some ⟨Bs,0,none⟩)],.pointer (some ⟨w.heap.size,0,none⟩),undef,.slice none 0 0,.int .u32 x,.func (.func 204) #[] #[.pointer (some ⟨Bs,0,none⟩)],.int .u32 x,undef,undef,undef,undef,undef],defers:=[] }) ?assign ?body ?done ?stop
 case assign=>
  intro l x W K hK
  gi_wp2
  omega
 case body=>
  rintro l pre x W ⟨⟨v,hv,VU,_⟩,hB⟩ dG;have hc:=hv.cell
  gi_wp2_with (gi_at_builtin;refine wpListIn_append_own _ rfl _ _ 22 rfl w.heap.size 34 i0 (.int .u32 0) 1 4 underlying22 hi hz0 hz1 hz2 rfl (by decide) _ _ _ rfl (VU.alloc _) ⟨W.heap.size,0,none⟩ 1 1 [.int .u32 x] rfl rfl (cell_one_new _ _ _) (by simp[Value.oneCell']) (by grind [maxLen]) oO (by have:=hB.size;simp;omega) ?_;intro v' w1 W6 S5 _;obtain⟨g',cap',rfl⟩:=ownsRow_succ W6;obtain⟨X8,hv2,hr2,o8,T7⟩:=hv.appended (by decide) VU hB.size (aAm _) W6 S5;have hc1:=X8.cell;have hf1:=X8.frozen)
  exact⟨o8.from _,T7,⟨_,hv2,by grind,trivial⟩,hB.trans T7⟩
 case done=>
  rintro D ys W hD rfl ⟨⟨v,hv,VU,_⟩,hB⟩ hK;have hc:=hv.cell
  gi_wp2
  refine⟨sS,.inl ⟨_,_,rfl,run_takeDeferred hK,?_⟩⟩;exact⟨_,results_tmp rfl _ _ _,v,rfl,ownsRow_putObj VU _ hK rfl,hB.trans (belowK_b (w:=w) (aAm _) W D _ _ (by simp at hD;omega) hK rfl rfl)⟩
 grind
set_option maxRecDepth 100000 in
theorem KG(F:Fence)(n:Nat)(h2:F.fn 104)(h3:F.fn 147)(h7:F.fn 204)(Q3:F.round=none)(hn:4<=n)(Bs:Nat)(sv:Value)(zs:List Int)(hlen:zs.length<=1048576)(w:World)(hBs:Bs<w.heap.size)
 (hc:w.cell? ⟨Bs,0,none⟩=some sv) (hI:Ints w.heap.size w sv zs):
 CallsIn F n prog 104 #[.func (.func 204) #[] #[.pointer (some ⟨Bs,0,none⟩)]] w fun e W'=>∃ v,e=.returned v/\W'.ownsRow w.heap.size 34 1 v zs.length (zs.map (Value.int .u32))/\Below w.heap.size w W':=by
 have h1:1<=n:=oO;refine callsIn_of_wp func104 rfl h2 ?_ Q3;simp only[ntmps104,aBc,List.length_cons,List.length_nil,Nat.reduceAdd,Nat.reduceSub,aBA,Array.replicate_zero,aBH,aBC,List.nil_append,List.cons_append]
 gi_wp2_with (gi_at_call 147;refine(Ey F (n-1) h3 h7 Q3 oO Bs sv zs hlen _ hBs hc hI).mono ?_;rintro e w' ⟨v,rfl,VU,hbel⟩)
 go_ret
 simp_all
end Rg
namespace Aw
open Go Go.RowKit
def tw(d:Int):Int:=if d % 2=0 then d+1 else d-1
theorem wrap_u32(n:Int):IntKind.u32.wrap n=n % 4294967296:=by simp[IntKind.wrap,IntKind.signed,IntKind.bits]
theorem wrap_i64(n:Int)(h1 : -9223372036854775808<=n)(h2:n<=9223372036854775807):IntKind.i64.wrap n=n:=by
 simp only[IntKind.wrap,IntKind.signed,IntKind.bits];simp
 split<;>omega
theorem Ui(a:Int)(e:Int)(h0:0<=a)(h1:a<4294967296)(ha:a % 2=0)(he:e=0\/e=1):gor .u32 a e=a+e:=by
 unfold gor IntKind.bits;obtain⟨n,rfl⟩:=aCH h0;rw[wrap_u32,BitVec.toNat_or];have e1:(BitVec.ofInt 32 (n:Int)).toNat=n:=by rw[BitVec.ofInt_natCast,aDj];exact aAJ oO
 rw[e1];rcases he with rfl|rfl
 .simp;omega
 .have e2:(BitVec.ofInt 32 1).toNat=1:=by decide
  have:n ||| 1=n+1:=by
   apply aBN;intro j;cases j with
   |zero=>simp;omega
   |succ j=>rw[Nat.testBit_or];simp[aDV];congr 1;omega
  rw[e2,this];omega
theorem TA(e:Int):wM .i64 e 1=e % 2:=by
 show IntKind.i64.wrap ((BitVec.ofInt 64 e &&& BitVec.ofInt 64 1).toNat:Int)=_;have e2:(BitVec.ofInt 64 1).toNat=1:=by decide
 rw[BitVec.toNat_and,e2,Nat.and_one_is_mod,wrap_i64 _ oO oO,BitVec.toNat_ofInt];omega
theorem To(a:Int):FN .u32 a 1=a*2 % 4294967296:=by unfold FN;rw[wrap_u32];rfl
theorem Of(id e:Int)(st:St):
 aB prog 93 [u id,i e] st fun r st'=>r=u (id*2 % 4294967296+e % 2)/\st'=st:=by
 refine zN func93 ntmps93 [.tmp 4] ?_;refine xw0 ?_;rw[To,TA,wrap_u32,Ui _ _ oO oO oO oO];omega
end Aw
namespace Aw
open Go Go.RowKit Pl
theorem qN(k:Nat)(h:k<9223372036854775807):IntKind.i64.wrap ((k:Int)+1)=((k+1:Nat):Int):=by rw[wrap_i64 _ oO oO];omega
theorem kH(l:List Int)(k:Nat)(hk:k<l.length):(us l).drop k=u l[k]::us (l.drop (k+1)):=by rw[us,<- aCJ,aAL hk];rfl
theorem qG(l:List Int)(k:Nat)(hk:k<l.length):(us l).drop k=u (l.getD k 0)::us (l.drop (k+1)):=by rw[kH l k hk];simp[hk]
theorem FU{l:List Int}{d:Int}(h:d∈l):gi l d=((l.idxOf d:Nat):Int):=by unfold gi;rw[aAj h]
theorem SG{l:List Int}{d:Int}(h:¬d∈l):gi l d = -1:=by unfold gi;rw[aAa h]
theorem bL(l:List Int)(j:Nat)(hj:j<l.length):l.getD j 0=l[j]:=by rw[aAg,aAh hj];rfl
theorem St.ext'{a b:St}(h:a.next=b.next)(k:∀ x,a.H x=b.H x):a=b:=by cases a;cases b;simp only at h k;subst h;congr;funext x;exact k x
def small(l:List Int):Prop:=l.length<=1048576
theorem Index(l:List Int)(t:Nat)(x:Int)(st:St)(hl:small l):
 aB prog 40 [.sl t l.length (us l),u x] st fun r st'=>r=i (gi l x)/\st'=st:=by
 unfold small at hl;refine zN func40 ntmps40 [.tmp 4] ?_;refine xw0 ?_;refine qL (fun n fr st'=>∃ k:Nat,k<=l.length/\n=l.length-k/\fr 0=.sl t l.length (us l)/\fr 1=u x/\fr 7=i l.length/\fr 8=i k/\st'=st/\∀ j (hj:j<l.length),j<k->l[j]≠x) l.length ?_ ?_
 .exact⟨0,oO,oO,sS,sS,sS,sS,rfl,fun j _ h=>by omega⟩
 rintro n fr st' ⟨k,hk,rfl,h0,h1,h7,h8,rfl,x8⟩ JJ hJJ;by_cases dG:k<l.length
 .have hd:=kH l k dG;have hw:=qN k oO
  (repeat' (first|apply qS|apply qB|refine qK (zZ ?_)|(refine qR (zZ ?_);simp[h0,h1,h7,h8,dG,hd,hw])|(apply qC;simp[h0,h1,h7,h8,dG,hd,hw];(try with_reducible refine⟨?_,?_⟩)<;>(try with_reducible intro hc))|(refine zE ?_;intro J hJ;simp[h0,h1,h7,h8,dG,hd,hw];refine zJ hJ ?_)))
  .exact(VF dG hc.symm (fun j hj=>x8 j oO hj)).symm
  .refine hJJ _ _ _ ?_ ⟨k+1,oO,rfl,sF1 h0,sF1 h1,sF1 h7,sS,rfl,fun j hj hjk=>?_⟩
   .omega
   .rcases aAS j k with h|h
    .exact x8 j hj h
    .obtain rfl:j=k:=oO;exact fun h=>hc h.symm
 .refine xw5 h0 h1 h7 h8 dG ?_;exact(TG (fun j hj=>x8 j hj oO)).symm
theorem TM(l:List Int)(h:0<l.length):hdL (us l)=u l[0]:=by
 cases l with
 |nil=>simp at h
 |cons a l=>rfl
theorem Min(l:List Int)(t:Nat)(st:St)(hl:small l)(h0:l≠[]):
 aB prog 106 [.sl t l.length (us l)] st fun r st'=>r=u (mn l)/\st'=st:=by
 unfold small at hl;have M3:0<l.length:=aBi.2 h0;have hd0:=TM l M3;refine zN func106 ntmps106 [.tmp 2] ?_
 (repeat' (first|apply qS|apply qB|refine qK (zZ ?_)|(apply qC;simp[M3,hd0];(try with_reducible refine⟨?_,?_⟩)<;>(try with_reducible intro hc)<;>try (exfalso;omega))|(refine zE ?_;intro J hJ;simp[M3,hd0];refine zJ hJ ?_)))
 refine qL (fun n fr st'=>∃ k:Nat,0<k/\k<=l.length/\n=l.length-k/\fr 0=.sl t l.length (us l)/\fr 4=i k/\fr 3=u (mn (l.take k))/\st'=st) (l.length-1) ?_ ?_
 .refine⟨1,oO,oO,oO,sS,sS,?_,rfl⟩;cases l with
  |nil=>simp at M3
  |cons a l=>simp[mn]
 rintro n fr st' ⟨k,N9,hk,rfl,h0',h4,h3,rfl⟩ JJ hJJ;by_cases dG:k<l.length
 .have hd:=kH l k dG;have hw:=qN k oO;refine xw6 h0' h3 h4 dG hd hw ?_;refine hJJ _ _ _ ?_ ⟨k+1,oO,oO,rfl,sF1 h0',sS,by simp[UO l k N9 dG],rfl⟩;omega
 .refine xw4 h0' h3 h4 dG ?_;rw[aAv oO]
theorem wrap_small(n:Int)(h0:0<=n)(h1:n<=9223372036854775807):IntKind.i64.wrap n=n:=wrap_i64 n oO h1
theorem D3(n:Int)(st:St)(h0:0<=n)(h1:n<=4194304):
 aB prog 203 [.nil,i n] st fun r st'=>∃ l cs,r=.ms l 0 0/\st.next<=l/\st'.H l=.box 34 1 cs/\aA st st':=by
 have hw:=wrap_small n h0 oO;have hw':IntKind.i64.wrap 0=0:=by decide
 refine jK 34 1 ?_;refine zN func203 ntmps203 [.tmp 4] ?_;by_cases hp:0<n
 ·(repeat' (first|apply qS|refine qK (zZ ?_)|(refine qR (zZ ?_);simp[hw,hw',hp])|(apply qC;simp[hw,hw',hp];(try with_reducible refine⟨?_,?_⟩)<;>(try with_reducible intro hc)<;>try (exfalso;omega))|(refine zE ?_;intro J hJ;simp[hw,hw',hp];(repeat refine ca ?_);refine zJ hJ ?_)))
  exact aA.new _ _
 ·(repeat' (first|apply qS|refine qK (zZ ?_)|(refine qR (zZ ?_);simp[hw,hw',hp])|(apply qC;simp[hw,hw',hp];(try with_reducible refine⟨?_,?_⟩)<;>(try with_reducible intro hc)<;>try (exfalso;omega))|(refine zE ?_;intro J hJ;simp[hw,hw',hp];refine zJ hJ ?_)))
  exact aA.new _ _
abbrev rows(ls:List (Nat×List Int)):List LV:=ls.map fun p=>.sl p.1 p.2.length (us p.2)
def total(ls:List (Nat×List Int)):Nat:=(ls.map fun p=>p.2.length).sum
def flat(ls:List (Nat×List Int)):List Int:=(ls.map fun p=>p.2).flatten
theorem xV(ls:List (Nat×List Int)):(flat ls).length=total ls:=by
 induction ls with
 |nil=>rfl
 |cons p ls ih=>simp[flat,total,Function.comp_def]at ih ⊢
theorem Ap(ls:List (Nat×List Int))(k:Nat)(hk:k<ls.length):total (ls.take (k+1))=total (ls.take k)+ls[k].2.length:=by rw[aAs hk,total,aAu,List.sum_append];simp only[total,aAl,aCx,List.sum_cons,List.sum_nil,Nat.add_zero]
theorem OS(ls:List (Nat×List Int))(k:Nat)(hk:k<ls.length):flat (ls.take (k+1))=flat (ls.take k)++ls[k].2:=by rw[aAs hk,flat,aAu,aBS];simp only[flat,aAl,aCx,List.flatten_cons,List.flatten_nil,aAO]
theorem sY(ls:List (Nat×List Int))(k:Nat):total (ls.take k)<=total ls:=by
 have h:total ls=total (ls.take k)+total (ls.drop k):=by
  conv=>lhs;rw[<- aAE k ls]
  rw[total,aAu,List.sum_append];rfl
 omega
theorem Dk(ls:List (Nat×List Int))(k:Nat)(hk:k<ls.length):(rows ls).drop k=.sl ls[k].1 ls[k].2.length (us ls[k].2)::rows (ls.drop (k+1)):=by rw[rows,<- aCJ,aAL hk];rfl
theorem KI(a:List Int):(us a).all iK=true:=by simp[us,iK]
theorem Vb(ls:List (Nat×List Int))(t:Nat)(st:St)(hn:ls.length<=1048576)(hl:total ls<=4194304):
 aB prog 183 [.sl t ls.length (rows ls)] st fun r st'=>∃ l,r=.ms l 0 (flat ls).length/\st.next<=l/\st'.H l=.box 34 1 (us (flat ls))/\aA st st':=by
 refine zN func183 ntmps183 [.tmp 2] ?_;refine xw0 ?_;refine qL (fun n fr st'=>∃ k:Nat,k<=ls.length/\n=ls.length-k/\fr 0=.sl t ls.length (rows ls)/\fr 9=.sl t ls.length (rows ls)/\fr 10=i ls.length/\fr 11=i k/\fr 3=i (total (ls.take k))/\st'=st) ls.length ?_ ?_
 .exact⟨0,oO,oO,sS,sS,sS,sS,by simp[total],rfl⟩
 rintro n fr st1 ⟨k,hk,rfl,h0,h9,h10,h11,h3,rfl⟩ JJ hJJ;by_cases dG:k<ls.length
 .have hd:=Dk ls k dG;have hw:=qN k oO;have ht:=Ap ls k dG;have u7:=sY ls (k+1);have J9:IntKind.i64.wrap ((total (ls.take k):Int)+(ls[k].2.length:Int))=(total (ls.take (k+1)):Int):=by rw[wrap_small _ oO oO];omega
  clear ht
  (repeat' (first|apply qS|apply qB|refine qK (zZ ?_)|(apply qC;simp[h0,h9,h10,h11,h3,dG,hd,hw,J9];(try with_reducible refine⟨?_,?_⟩)<;>(try with_reducible intro hc)<;>try (exfalso;omega))|(refine zE ?_;intro J hJ;simp[h0,h9,h10,h11,h3,dG,hd,hw,J9];(refine zJ hJ ?_;clear hJ J))))
  refine hJJ _ _ _ ?_ ⟨k+1,oO,rfl,sF1 h0,sF1 h9,sF1 h10,sS,sS,rfl⟩;omega
 .have Q0:k=ls.length:=oO;have C9:ls.take k=ls:=aAv oO;rw[C9]at h3;clear hJJ
  (refine xj6 h0 h9 h10 h11 h3 dG ?_;intro J hJ)
  refine qF (D3 (total ls) _ oO oO) ?_;rintro r st' ⟨l0,cs0,rfl,hl0,hH0,o9⟩;refine pN hJ h0 ?_;refine JA 0 hH0 ?_;refine qL (fun n fr st2=>∃ k:Nat,k<=ls.length/\n=ls.length-k/\fr 25=.sl t ls.length (rows ls)/\fr 26=i ls.length/\fr 27=i k/\∃ l,fr 6=.ms l 0 (flat (ls.take k)).length/\st2.H l=.box 34 1 (us (flat (ls.take k)))/\st1.next<=l/\aA st1 st2) ls.length ?_ ?_
  .exact⟨0,oO,oO,sF1 h0,sS,sS,l0,by simp[flat],by simp[flat],hl0,o9.set hl0 _⟩
  clear h0 h9 h10 h11 h3 dG hH0 o9 hl0 fr hk Q0 C9;rintro n fr st2 ⟨k,hk,rfl,h25,h26,h27,l,h6,hH,hlt0,o9⟩ JJ hJJ;by_cases dG:k<ls.length
  .have hd:=Dk ls k dG;have hw:=qN k oO;have ht:=Ap ls k dG;have u7:=sY ls (k+1);have hf:=OS ls k dG;have U4:=xV (ls.take (k+1));have hfl':=xV (ls.take k);have I5:=KI (ls[k].2)
   (repeat' (first|apply qS|apply qB|refine qK (zZ ?_)|(apply qC;simp[h25,h26,h27,h6,hH,dG,hd,hw,I5])|(refine zE ?_;intro J hJ;simp[h25,h26,h27,h6,hH,dG,hd,hw,I5];(repeat refine ca ?_);(refine zJ hJ ?_;clear hJ J))))
   refine hJJ _ _ _ ?_ ⟨k+1,oO,rfl,sF1 h25,sF1 h26,sS,st2.next,?_,?_,o9.next,(o9.set hlt0 _).trans (aA.new _ _)⟩
   .omega
   .simp[hf]
   .simp[hf]
  .have Q0:k=ls.length:=oO;have C9:ls.take k=ls:=aAv oO;rw[C9]at h6 hH;clear hJJ;refine xw5 h25 h26 h27 h6 dG ?_;exact⟨hlt0,hH,o9⟩
theorem Xo(ls:List (Nat×List Int))(t:Nat)(st:St)(hn:ls.length<=1048576)(hl:total ls<=4194304):
 aB prog 183 [.sl t ls.length (rows ls)] st fun r st'=>r=.sl 0 (flat ls).length (us (flat ls))/\aA st st':=by
 refine cH ((Vb ls t st hn hl).mono ?_);rintro r st' ⟨l,rfl,dG,hH,hk⟩;exact⟨l,_,_,1,_,rfl,hH,sS,by simp[aAv],hk.set dG _⟩
theorem XP(a:List Int)(t:Nat)(st:St)(hl:small a):
 aB prog 20 [.sl t a.length (us a)] st fun r st'=>∃ l,r=.ms l 0 a.length/\st.next<=l/\st'.H l=.box 34 1 (us a)/\aA st st':=by
 unfold small at hl;refine jK 34 1 ?_;have I5:=KI a;refine zN func20 ntmps20 [.tmp 2] ?_
 (repeat' (first|apply qS|refine qK (zZ ?_)|(refine qR (zZ ?_);simp[I5])|(apply qC;simp[I5])|(refine w_e [5] ?_;intro J hJ;simp only[];simp[I5];(repeat refine ca ?_);((try with_reducible refine⟨?_,?_⟩)<;>(try with_reducible intro x7)<;>refine zJ hJ ?_<;>clear hJ J<;>try subst x7))))
 .exact((aA.new _ _).set (aAm _) _).trans (aA.new _ _)
 .exact aA.new _ _
theorem Rz(a:List Int)(t:Nat)(st:St)(hl:small a):
 aB prog 20 [.sl t a.length (us a)] st fun r st'=>r=.sl 0 a.length (us a)/\aA st st':=by
 refine cH ((XP a t st hl).mono ?_);rintro r st' ⟨l,rfl,dG,hH,hk⟩;exact⟨l,_,_,1,_,rfl,hH,sS,by simp[aAv],hk.set dG _⟩
def nx(l:List Int)(d:Int):Int:=if d∈l then l.getD ((l.idxOf d+1) % l.length) 0 else 0
def pv(l:List Int)(d:Int):Int:=if d∈l then l.getD ((l.idxOf d+(l.length-1)) % l.length) 0 else 0
theorem gY{t:List Int}(hn:t.Nodup){j:Nat}(hj:j<t.length):nx t t[j]=t[(j+1) % t.length]'(aCw _ oO):=by unfold nx;rw[aAj (aAI hj),hn.idxOf_getElem j hj,bL _ _ (aCw _ oO)]
theorem KP{t:List Int}{d:Int}(hd:d∈t):nx t d∈t:=by unfold nx;have:0<t.length:=aEh hd;rw[aAj hd,bL _ _ (aCw _ this)];exact aAI _
theorem SY{t:List Int}(hn:t.Nodup){d e:Int}(hd:d∈t)(he:e∈t)(h:nx t d=nx t e):d=e:=by
 obtain⟨j,hj,rfl⟩:=aAC hd;obtain⟨k,hk,rfl⟩:=aAC he;rw[gY hn hj,gY hn hk]at h;have h1:=congrArg t.idxOf h;rw[hn.idxOf_getElem,hn.idxOf_getElem]at h1;have h2:j=k:=by
  rcases aAS (j+1) t.length with a|a
  .rw[aAJ a]at h1;rcases aAS (k+1) t.length with b|b
   .rw[aAJ b]at h1;omega
   .rw[show k+1=t.length by omega,aDG]at h1;omega
  .rw[show j+1=t.length by omega,aDG]at h1;rcases aAS (k+1) t.length with b|b
   .rw[aAJ b]at h1;omega
   .omega
 subst h2;rfl
theorem Yr{t:List Int}(hn:t.Nodup){j:Nat}(hj:j<t.length)(k:Nat):Eu.it (nx t) k t[j]=t[(j+k) % t.length]'(aCw _ oO):=by
 induction k with
 |zero=>simp only[Eu.it,Nat.add_zero,aAJ hj]
 |succ k ih=>
  rw[Eu.cA,ih,gY hn]
  congr 1
  rw[Nat.mod_add_mod];rfl
theorem KY{t:List Int}(hn:t.Nodup){d e:Int}(hd:d∈t)(he:e∈t):Eu.Orb (nx t) d e:=by
 obtain⟨j,hj,rfl⟩:=aAC hd;obtain⟨k,hk,rfl⟩:=aAC he;refine⟨t.length-j+k,?_⟩;rw[Yr hn hj]
 congr 1
 rw[show j+(t.length-j+k)=t.length+k by omega,Nat.add_mod_left,aAJ hk]
theorem from_(l:List Int)(t k:Nat)(st:St)(hl:small l)(hk:k<=l.length):
 aB prog 149 [.sl t l.length (us l),i k] st fun r st'=>r=.sl 0 l.length (us (rt l k))/\aA st st':=by
 unfold small at hl;refine zN func149 ntmps149 [.tmp 4] ?_;refine xw1 hk ?_
 (refine NI nB [] 6 (by kernel_rfl) (by kernel_rfl) rfl rfl ?_;intro J hJ;simp[hk];skip;skip)
 refine qE (Xo [(0,l.drop k),(0,l.take k)] st.next _ sS (by simp[total];omega)) (by simp[aAv,aDf hk]) ?_;rintro r st' ⟨rfl,o9⟩;have hf:flat [(0,l.drop k),(0,l.take k)]=rt l k:=by simp[flat,rt]
 rw[hf,wX];refine dA hJ ?_;exact(aA.new _ _).trans o9
theorem Qu(l:List Int)(t:Nat)(st:St)(hl:small l):
 aB prog 110 [.sl t l.length (us l)] st fun r st'=>r=.sl 0 l.length (us (nrm l))/\aA st st':=by
 refine Io ?_;refine zN func110 ntmps110 [.tmp 2] ?_;cases l with
 |nil=>refine xw0 ?_;exact⟨by decide,aA.refl _⟩
 |cons a l'=>
  (repeat' (first|apply qS|refine qK (zZ ?_)|(apply qC;simp[];(try with_reducible refine⟨?_,?_⟩)<;>(try with_reducible intro hc)<;>try (exfalso;omega))|(refine zE ?_;intro J hJ;simp[];(try (refine zJ hJ ?_;clear hJ J)))))
  refine qE (Min (a::l') t _ hl sS) (by simp[]) ?_;rintro r st' ⟨rfl,rfl⟩;refine dA hJ ?_;refine qE (Index (a::l') t (mn (a::l')) _ hl) (by simp[]) ?_;rintro r st' ⟨rfl,rfl⟩;refine dA hJ ?_;have hg:gi (a::l') (mn (a::l'))=(((a::l').idxOf (mn (a::l')):Nat):Int):=by unfold gi;rw[aAj (xM sS)]
  rw[hg];refine qE (from_ (a::l') t ((a::l').idxOf (mn (a::l'))) _ hl aEq) (by simp[]) ?_;rintro r st' ⟨rfl,o9⟩;refine dA hJ ?_;exact⟨rfl,o9⟩
def ins(l:List Int)(b:Int)(m:List Int):List Int:=(if b∈l then l.take (l.idxOf b+1)++m++l.drop (l.idxOf b+1)else l++m)
theorem RV(c:List Int)(k:Nat)(x:Int)(hk:k<c.length):(c.set k x).take (k+1)=c.take k++[x]:=by
 grind [List.take_succ_eq_append_getElem,List.take_set_of_le]
theorem set_drop(c:List Int)(k j:Nat)(x:Int)(h:k<=j):(c.set k x).drop (j+1)=c.drop (j+1):=by
 grind [List.drop_set_of_lt]
theorem Fu(c:List Int)(k:Nat)(x:Int)(hk:k<c.length):(us c).take k++u x::(us c).drop (k+1)=us (c.set k x):=by
 grind [List.map_take,List.map_drop,List.set_eq_take_append_cons_drop]
theorem St.set_set(st:St)(q:Nat)(a b:cI):(st.set q a).set q b=st.set q b:=St.ext' rfl fun y=>by simp_all
def swp(c:List Int)(a b:Nat):List Int:=(c.set a (c.getD b 0)).set b (c.getD a 0)
theorem Jl(c:List Int)(a b:Nat):(swp c a b).length=c.length:=by simp[swp]
theorem swp_get(c:List Int)(a b j:Nat)(ha:a<c.length)(hb:b<c.length):(swp c a b).getD j 0=if j=b then c.getD a 0 else if j=a then c.getD b 0 else c.getD j 0:=by
 unfold swp;simp only[aAg,aDp];by_cases h1:b=j
 .subst h1;simp[hb]
 .by_cases h2:a=j
  .subst h2;simp[h1,ha,aCB h1]
  .simp[h1,h2,aCB h1,aCB h2]
theorem WQ(c:List Int)(a b:Nat)(ha:a<c.length)(hb:b<c.length):us (swp c a b)=((us c).set a (u (c.getD b 0))).set b (u (c.getD a 0)):=by unfold swp;simp only[us,List.map_set]
theorem tcd(cs:List LV)(o:Nat)(v:LV)(h:o<cs.length):cs.take o++v::cs.drop (o+1)=cs.set o v:=by rw[aBK,aAj h]
theorem WR(l c:List Int)(hl:c.length=l.length)(h:∀ j,j<l.length->c.getD j 0=l.getD (l.length-1-j) 0):c=l.reverse:=by apply aCZ (sF1 hl);intro j h1 h2;have:=h j oO;rw[aAg,aAg,aAh h1,aAh oO]at this;rw[List.getElem_reverse];simpa using this
theorem AE(l:List Int)(q:Nat)(st:St)(hl:small l)(hH:st.H q=.box 34 1 (us l)):
 aB prog 108 [.ms q 0 l.length] st fun r st'=>st'=st.set q (.box 34 1 (us l.reverse)):=by
 unfold small at hl;have N5:IntKind.i64.wrap ((l.length:Int)-1)=(l.length:Int)-1:=zW;refine zN func108 ntmps108 [] ?_;refine xw1 N5 ?_;refine qL (fun n fr st'=>∃(k:Nat) (c:List Int),n=l.length-k/\k<=l.length/\fr 0=.ms q 0 l.length/\fr 2=i k/\fr 3=i ((l.length:Int)-1-k)/\c.length=l.length/\st'=st.set q (.box 34 1 (us c))/\∀ j,j<l.length->c.getD j 0=if j<k\/l.length<=j+k then l.getD (l.length-1-j) 0 else l.getD j 0) l.length ?_ ?_
 .refine⟨0,l,oO,oO,sS,sS,sS,rfl,St.ext' rfl fun x=>by by_cases hx:x=q<;>simp[hx,hH],fun j hj=>?_⟩;rw[aAa oO]
 rintro n fr st1 ⟨k,c,rfl,hk,h0,h2,h3,hc,rfl,j5⟩ JJ hJJ;by_cases dG:(k:Int)<(l.length:Int)-1-k
 .obtain⟨m,hm⟩:∃ m:Nat,(l.length:Int)-1-k=m:=⟨l.length-1-k,oO⟩;rw[hm]at h3 dG;have J9:=qN k oO;have hw3:IntKind.i64.wrap ((m:Int)-1)=(m:Int)-1:=zW;have hd:=qG c k oO;have K8:=qG c m oO;have hkl:k<l.length:=oO;have M6:m<l.length:=oO;refine xw4 h0 h2 h3 dG ?_
  (refine zS [] [q] [0,2,4,6,8,10,12,14,16,18,20,22,24,27,28,31] ?_;intro J hJ;simp[h0,h2,h3,hkl,M6,hc,hd,K8];(repeat refine ca ?_);refine zJ hJ ?_)
  refine xw4 h2 h3 J9 hw3 ?_;refine hJJ _ _ _ ?_ ⟨k+1,swp c k m,rfl,oO,sF1 h0,sS,?_,by rw[Jl];exact hc,St.ext' rfl fun y=>?_,fun j hj=>?_⟩
  .omega
  .simp only[FF];simp;omega
  .by_cases hy:y=q
   .subst hy;have hlen:(us c).length=l.length:=by simp[hc]
    simp only[bU,reduceIte,WQ c k m oO oO];rw[tcd (us c) k _ oO,tcd _ m _ (by simp;omega)];simp[hc,hkl,M6]
   .simp[hy]
  .rw[swp_get c k m j oO oO,j5 k hkl,j5 m M6,j5 j hj];by_cases h1:j=m
   .rw[aAj h1,aAa oO,aAj oO];congr 1;omega
   .rw[aAa h1];by_cases h2:j=k
    .rw[aAj h2,aAa oO,aAj oO];congr 1;omega
    .rw[aAa h2];by_cases h3:j<k\/l.length<=j+k
     .rw[aAj h3,aAj oO]
     .rw[aAa h3,aAa oO]
 .have hcr:c=l.reverse:=?_
  .subst hcr;clear hJJ;refine xw4 h0 h2 h3 dG ?_;simp
  refine WR l c hc ?_;intro j hj;rw[j5 j hj];by_cases h:j<k\/l.length<=j+k
  .rw[aAj h]
  .rw[aAa h]
   congr 1
   omega
theorem isNaN(x:Int)(st:St):aB prog 118 [u x] st fun r st'=>r=bb false/\st'=st:=by refine zN func118 ntmps118 [.tmp 2] ?_;exact xv0
theorem vF(x y:Int)(st:St):aB prog 126 [u x,u y] st fun r st'=>r=bb (decide (x<y))/\st'=st:=by
 refine zN func126 ntmps126 [.tmp 4] ?_
 (refine xj0 ?_;intro J hJ)
 refine qF (isNaN x _) ?_;rintro r st' ⟨rfl,rfl⟩;exact OE hJ
theorem aT(k:Nat)(h0:0<k)(h:k<9223372036854775807):IntKind.i64.wrap ((k:Int)-1)=((k-1:Nat):Int):=by rw[wrap_i64 _ oO oO];omega
abbrev bx(st:St)(q:Nat)(c:List Int):St:=st.set q (.box 34 1 (us c))
theorem vT{st:St}{q:Nat}{c:List Int}(h:st.H q=.box 34 1 (us c)):st=bx st q c:=
 St.ext' rfl fun x=>by by_cases hx:x=q<;>simp[hx,h]
theorem nF(st:St)(q:Nat)(c:List Int)(k m:Nat){x y:Int}(hk:k<c.length)(hm:m<c.length)(hx:c.getD k 0=x)(hy:c.getD m 0=y):
 ((bx st q c).set q (.box 34 1 (List.take k (us c)++.atom (.int .u32 y)::List.drop (k+1) (us c)))).set q
   (.box 34 1 (List.take m (List.take k (us c)++.atom (.int .u32 y)::List.drop (k+1) (us c))++.atom (.int .u32 x)::List.drop (m+1) (List.take k (us c)++.atom (.int .u32 y)::List.drop (k+1) (us c))))=bx st q (sw c k m):=by
 have e:List.take k (us c)++.atom (.int .u32 y)::List.drop (k+1) (us c)=us (c.set k y):=Fu c k y hk;rw[e,Fu (c.set k y) m x (by simpa using hm)];unfold bx sw;rw[hx,hy];exact St.ext' rfl fun z=>by by_cases hz:z=q<;>simp[hz]
theorem insertionSort(l:List Int)(q a b:Nat)(st:St)(hl:small l)(ha:a<=b)(hb:b<=l.length)(hH:st.H q=.box 34 1 (us l)):
 aB prog 120 [.ms q 0 l.length,i a,i b] st fun r st'=>∃ c,st'=bx st q c/\Pm a b l c/\Srt a b c:=by
 unfold small at hl;refine zN func120 ntmps120 [] ?_;have hw0:=qN a oO;refine xw1 hw0 ?_;refine qL (fun n fr st'=>∃(k:Nat) (c:List Int),a<k/\n=b-k/\fr 0=.ms q 0 l.length/\fr 1=i a/\fr 2=i b/\fr 6=i k/\st'=bx st q c/\Pm a b l c/\Srt a k c) (b-(a+1)) ?_ ?_
 .exact⟨a+1,l,oO,rfl,sS,sS,sS,sS,vT hH,.refl,fun p q h1 h2 h3=>by omega⟩
 rintro n fr st1 ⟨k,c,hak,rfl,f0,f1,f2,f6,rfl,r9,hs⟩ JJ hJJ;have o7:=r9.len;by_cases dG:k<b;rotate_left
 .clear hJJ;have z7:¬(k:Int)<(b:Int):=oO;refine xw5 f0 f1 f2 f6 dG ?_;exact⟨trivial,c,rfl,r9,fun p q h1 h2 h3=>hs p q h1 h2 oO⟩
 have N5:=qN k oO;refine xw5 f0 f1 f2 f6 dG ?_;refine qL (fun n fr st'=>∃(j:Nat) (c:List Int),a<=j/\j<=k/\j=n/\fr 0=.ms q 0 l.length/\fr 1=i a/\fr 2=i b/\fr 6=i k/\fr 7=i j/\st'=bx st q c/\Pm a b l c/\Ins a j k c) k ?_ ?_
 .exact⟨k,c,oO,oO,rfl,sF1 f0,sF1 f1,sF1 f2,sF1 f6,sS,rfl,r9,hs.ins⟩
 clear f0 f1 f2 f6 hs r9 o7 c fr;rintro n fr st1 ⟨j,c,haj,hjk,rfl,f0,f1,f2,f6,f7,rfl,r9,hI⟩ JJ2 hJ2;have o7:=r9.len;by_cases hj:a<j;rotate_left
 .clear hJ2;have hj':¬(a:Int)<(j:Int):=oO
  (repeat (apply qS));(refine zS [] [q] [0,2,4,6,8,10,12,14,16,18,20,22,24,27,28] ?_;intro J hJ;simp[f0,f1,f2,f6,f7,hj];refine zJ hJ ?_)
  refine xw2 f6 N5 ?_;exact hJJ (b-(k+1)) _ _ oO ⟨k+1,c,oO,rfl,sF1 f0,sF1 f1,sF1 f2,sS,rfl,r9,hI.done haj (.inl oO)⟩
 have J9:=aT j oO oO;have hjl:j<l.length:=oO;have hjl1:j-1<l.length:=oO;have hd:=qG c j oO;have K8:=qG c (j-1) oO;have hI1:=hI.step hj hjk oO;have hI2:=hI.done haj;have W4:=r9.step j (j-1) oO oO oO oO oO;generalize hx:c.getD j 0=x at *;generalize hy:c.getD (j-1) 0=y at *
 (repeat (apply qS));(refine zS [] [q] [0,2,4,6,8,10,12,14,16,18,20,22,24,27,28] ?_;intro J hJ;simp[f0,f1,f2,f6,f7,hj,J9,hjl,hjl1,o7,hd,K8])
 refine aN (vF x y _) ?_;rintro r s2 ⟨rfl,rfl⟩;refine⟨fun _=>by simp,?_⟩;by_cases hcd:x<y;rotate_left
 .clear hJ2
  (apply bI;simp[hcd];refine zJ hJ ?_)
  refine xw2 f6 N5 ?_;exact hJJ (b-(k+1)) _ _ oO ⟨k+1,c,oO,rfl,sF1 f0,sF1 f1,sF1 f2,sS,rfl,r9,hI2 (.inr hcd)⟩
 clear hJJ
 (apply bI;simp[hcd];refine zJ hJ ?_)
 refine xw0 ?_
 (refine zS [] [q] [0,2,4,6,8,10,12,14,16,18,20,22,24,26,28,31,32,35] ?_;intro J hJ;simp[f0,f1,f2,f6,f7,J9,hjl,hjl1,o7,hd,K8];(repeat refine ca ?_);refine zJ hJ ?_)
 refine xw2 f7 J9 ?_;exact hJ2 (j-1) _ _ oO ⟨j-1,sw c j (j-1),oO,oO,rfl,sF1 f0,sF1 f1,sF1 f2,sF1 f6,sS,nF st q c j (j-1) oO oO hx hy,W4,hI1 hcd⟩
theorem reverseRange(l:List Int)(q a b:Nat)(st:St)(hl:small l)(ha:a<=b)(hb:b<=l.length)(h0:0<b)(hH:st.H q=.box 34 1 (us l)):
 aB prog 124 [.ms q 0 l.length,i a,i b] st fun r st'=>∃ c,st'=bx st q c/\Pm a b l c:=by
 unfold small at hl;refine zN func124 ntmps124 [] ?_;have hw0:=aT b oO oO;refine xw1 hw0 ?_;refine qL (fun n fr st'=>∃(k m:Nat) (c:List Int),a<=k/\m<b/\m=n/\fr 0=.ms q 0 l.length/\fr 6=i k/\fr 7=i m/\st'=bx st q c/\Pm a b l c) (b-1) ?_ ?_
 .exact⟨a,b-1,l,oO,oO,rfl,sS,sS,sS,vT hH,.refl⟩
 rintro n fr st1 ⟨k,m,c,hak,Z5,rfl,f0,f6,f7,rfl,r9⟩ JJ hJJ;have o7:=r9.len;by_cases dG:k<m;rotate_left
 .clear hJJ;refine xw4 f0 f6 f7 dG ?_;exact⟨trivial,c,rfl,r9⟩
 have N5:=qN k oO;have J9:=aT m oO oO;have hkl:k<l.length:=oO;have M6:m<l.length:=oO;have hd:=qG c k oO;have K8:=qG c m oO;have W4:=r9.step k m oO oO oO oO oO;generalize hx:c.getD k 0=x at *;generalize hy:c.getD m 0=y at *;refine xw4 f0 f6 f7 dG ?_
 (refine zS [] [q] [0,2,4,6,8,10,12,14,16,18,20,22,24,27,28,31] ?_;intro J hJ;simp[f0,f6,f7,hkl,M6,o7,hd,K8];(repeat refine ca ?_);refine zJ hJ ?_)
 refine xw4 f6 f7 N5 J9 ?_;exact hJJ (m-1) _ _ oO ⟨k+1,m-1,sw c k m,oO,oO,rfl,sF1 f0,sS,sS,nF st q c k m oO oO hx hy,W4⟩
theorem cD{P:Program}{N:Nat}{Q:AQ}{k:List gQ}{fr:Frm}{st:St}{x y:Code}(I:Frm->St->Prop)(h1:AWp P N x (AK P N (fun e f s=>e=.normal/\I f s) []) fr st)(h2:∀ fr st,I fr st->AWp P N y (AK P N Q k) fr st):
 AWp P N x (AK P N Q (.code y::k)) fr st:=by
 refine dH h1 ?_;rintro e c7 st' ⟨rfl,hI⟩;rw[jE];exact h2 _ _ hI
theorem JZ(st:St)(q:Nat)(c:List Int)(k m:Nat){x y:Int}(hk:k<c.length)(hm:m<c.length)(hx:c.getD k 0=x)(hy:c.getD m 0=y):
 (st.set q (.box 34 1 (List.take k (us c)++.atom (.int .u32 y)::List.drop (k+1) (us c)))).set q
   (.box 34 1 (List.take m (List.take k (us c)++.atom (.int .u32 y)::List.drop (k+1) (us c))++.atom (.int .u32 x)::List.drop (m+1) (List.take k (us c)++.atom (.int .u32 y)::List.drop (k+1) (us c))))=bx st q (sw c k m):=by
 rw[<- nF st q c k m hk hm hx hy];exact St.ext' rfl fun z=>by by_cases hz:z=q<;>simp[hz]
theorem RJ{P:Program}{N:Nat}{Q:AQ}{k:List gQ}{fr:Frm}{st:St}{x y z:Code}(I:Frm->St->Prop)(h1:AWp P N x (AK P N (fun e f s=>e=.normal/\I f s) [.code y]) fr st)(h2:∀ fr st,I fr st->AWp P N z (AK P N Q k) fr st):
 AWp P N x (AK P N Q (.code y::.code z::k)) fr st:=by
 refine dH h1 ?_;rintro e c7 st' h;cases e with
 |normal=>rw[jE]at h ⊢;refine dH h ?_;rintro e fr2 st2 ⟨rfl,h⟩;rw[jE];exact h2 _ _ h
 |_=>exact absurd h.1 sS
def Yp(c:List Int)(f r hi ch:Nat):Prop:=∀ x,(x=2*r+1\/x=2*r+2)->x<hi->c.getD (f+x) 0<=c.getD (f+ch) 0
theorem siftDown(l:List Int)(q lo hi f:Nat)(st:St)(hl:small l)(hb:f+hi<=l.length)(hlo:lo<=l.length)(hh:uZ (lo+1) hi f l)(hH:st.H q=.box 34 1 (us l)):
 aB prog 163 [.ms q 0 l.length,i lo,i hi,i f] st fun r st'=>∃ c,st'=bx st q c/\Pm (f+lo) (f+hi) l c/\uZ lo hi f c:=by
 unfold small at hl;refine zN func163 ntmps163 [] ?_;refine xw0 ?_;refine qL (fun n fr st'=>∃(r:Nat) (c:List Int),lo<=r/\r<=l.length/\n=hi-r/\fr 0=.ms q 0 l.length/\fr 2=i hi/\fr 3=i f/\fr 8=i r/\st'=bx st q c/\Pm (f+lo) (f+hi) l c/\uG lo hi f r c) (hi-lo) ?_ ?_
 .exact⟨lo,l,aAm _,hlo,rfl,sS,sS,sS,sS,vT hH,.refl,hh.x⟩
 rintro n fr st1 ⟨r,c,hlr,hrl,rfl,f0,f2,f3,f8,rfl,r9,hX⟩ JJ hJJ;have o7:=r9.len;obtain⟨m,hm⟩:∃ m:Nat,m=2*r+1:=⟨_,rfl⟩;obtain⟨m2,hm2⟩:∃ m:Nat,m=2*r+2:=⟨_,rfl⟩;have w1:IntKind.i64.wrap (2*(r:Int))=2*(r:Int):=zW;have w2:IntKind.i64.wrap (2*(r:Int)+1)=(m:Int):=zW;have w3:IntKind.i64.wrap ((m:Int)+1)=(m2:Int):=zW;by_cases hmh:hi<=m
 .clear hJJ;refine xw7 f0 f2 f3 f8 w1 w2 hmh ?_;exact⟨trivial,c,rfl,r9,hX.leaf oO⟩
 obtain⟨x1,hx1⟩:∃ x:Nat,x=f+m:=⟨_,rfl⟩;obtain⟨x2,U1⟩:∃ x:Nat,x=f+m2:=⟨_,rfl⟩;obtain⟨x0,L8⟩:∃ x:Nat,x=f+r:=⟨_,rfl⟩;have w4:IntKind.i64.wrap ((f:Int)+(m:Int))=(x1:Int):=zW;have w5:IntKind.i64.wrap ((x1:Int)+1)=(x2:Int):=zW;have w6:IntKind.i64.wrap ((f:Int)+(r:Int))=(x0:Int):=zW
 (repeat' (first|apply qS|apply qB|(refine zE ?_;intro J hJ;simp[f0,f2,f3,f8,w1,w2,hmh];refine zJ hJ ?_)))
 (apply qC;simp[])
 (repeat' (first|apply qS|refine qK (zZ ?_)))
 refine RJ (fun fr2 st2=>st2=bx st q c/\fr2 0=.ms q 0 l.length/\fr2 2=i hi/\fr2 3=i f/\fr2 8=i r/\∃ ch:Nat,fr2 9=i ch/\(ch=2*r+1\/ch=2*r+2)/\ch<hi/\Yp c f r hi ch) ?_ ?_
 .by_cases h2h:m2<hi;rotate_left
  ·(refine zS [] [q] [0,2,4,6,8,10,12,14,16,18,20,22,24,26,28,30,32,34,37,38] ?_;intro J hJ;simp[f0,f2,f3,f8,w3,h2h];refine zJ hJ ?_)
   refine xw1 f0 ?_;refine⟨trivial,trivial,sF1 f0,sF1 f2,sF1 f3,sF1 f8,m,sS,oO,oO,fun x h1 h2=>?_⟩;rw[show x=m by omega];exact aDd _
  have y9:=qG c x1 oO;have K8:=qG c x2 oO;have hl1:x1<l.length:=oO;have hl2:x2<l.length:=oO;generalize hy1:c.getD x1 0=y1 at *;generalize V4:c.getD x2 0=y2 at *
  (refine zS [] [q] [0,2,4,6,8,10,12,14,16,18,20,22,24,26,28,30,32,34,37,38] ?_;intro J hJ;simp[f0,f2,f3,f8,w3,w4,w5,h2h,hl1,hl2,o7,y9,K8])
  refine aN (vF y1 y2 _) ?_;rintro r1 s2 ⟨rfl,rfl⟩;refine⟨fun _=>by simp,?_⟩;by_cases hyy:y1<y2
  ·(apply bI;simp[hyy];refine zJ hJ ?_)
   refine xw1 w3 ?_;refine⟨trivial,trivial,sF1 f0,sF1 f2,sF1 f3,sF1 f8,m2,sS,oO,oO,fun x h1 h2=>?_⟩;rcases(show x=m\/x=m2 by omega)with rfl|rfl
   .rw[<- hx1,<- U1,hy1,V4];omega
   .exact aDd _
  ·(apply bI;simp[hyy];refine zJ hJ ?_)
   refine xw0 ?_;refine⟨trivial,trivial,sF1 f0,sF1 f2,sF1 f3,sF1 f8,m,sS,oO,oO,fun x h1 h2=>?_⟩;rcases(show x=m\/x=m2 by omega)with rfl|rfl
   .exact aDd _
   .rw[<- hx1,<- U1,hy1,V4];omega
 clear f0 f2 f3 f8 w1 w2 w3 w4 w5 hx1 U1 x1 x2 fr;rintro fr st2 ⟨rfl,f0,f2,f3,f8,ch,f9,S7,hchi,hmax⟩;obtain⟨x1,hx1⟩:∃ x:Nat,x=f+ch:=⟨_,rfl⟩;have w4:IntKind.i64.wrap ((f:Int)+(ch:Int))=(x1:Int):=zW;have y9:=qG c x1 oO;have hd0:=qG c x0 oO;have hl1:x1<l.length:=oO;have hl0:x0<l.length:=oO;unfold Yp at hmax;have H8:=hX.step (c:=ch) hlr S7 hchi oO hmax;have W4:=r9.step x0 x1 oO oO oO oO oO;have hbig:=hX.big;rw[<- L8,<- hx1]at H8;rw[<- L8]at hbig;rw[<- hx1]at hmax;generalize hy0:c.getD x0 0=y0 at *;generalize hy1:c.getD x1 0=y1 at *
 (repeat (apply qS));(refine zS [] [q] [0,2,4,6,8,10,12,14,16,18,20,22,25,26] ?_;intro J hJ;simp[f0,f2,f3,f8,f9,w4,w6,hl1,hl0,o7,y9,hd0])
 refine aN (vF y0 y1 _) ?_;rintro r1 s2 ⟨rfl,rfl⟩;refine⟨fun _=>by simp,?_⟩;by_cases hyy:y0<y1;rotate_left
 .clear hJJ
  (apply bI;simp[hyy];refine zJ hJ ?_)
  refine xw0 ?_;exact⟨c,rfl,r9,hbig fun x h1 h2=>by have:=hmax x h1 h2;omega⟩
 (apply bI;simp[hyy];refine zJ hJ ?_)
 refine xw0 ?_
 (refine zS [] [q] [0,2,4,6,8,10,12,14,16,18,20,22,24,26,28,30,32,34,36,38,40,43,44,47] ?_;intro J hJ;simp[f0,f2,f3,f8,f9,w4,w6,hl1,hl0,o7,y9,hd0];(repeat refine ca ?_);refine zJ hJ ?_)
 refine xw1 f9 ?_;exact hJJ (hi-ch) _ _ oO ⟨ch,sw c x0 x1,oO,oO,rfl,sF1 f0,sF1 f2,sF1 f3,sS,nF st q c x0 x1 oO oO hy0 hy1,W4,H8 hyy⟩
def F7(c:List Int)(f j hi:Nat):Prop:=∀ p q,p<q->j<=q->q<hi->c.getD (f+p) 0<=c.getD (f+q) 0
theorem heapSort(l:List Int)(q a b:Nat)(st:St)(hl:small l)(ha:a<b)(hb:b<=l.length)(hH:st.H q=.box 34 1 (us l)):
 aB prog 121 [.ms q 0 l.length,i a,i b] st fun r st'=>∃ c,st'=bx st q c/\Pm a b l c/\Srt a b c:=by
 have Q4:=hl;unfold small at hl;obtain⟨n,hn⟩:∃ n:Nat,n=b-a:=⟨_,rfl⟩;obtain⟨n1,I7⟩:∃ n:Nat,n=b-a-1:=⟨_,rfl⟩;obtain⟨n2,N8⟩:∃ n:Nat,n=n1 / 2:=⟨_,rfl⟩;have w1:IntKind.i64.wrap ((b:Int)-(a:Int))=(n:Int):=zW;have w2:IntKind.i64.wrap ((n:Int)-1)=(n1:Int):=zW;have w3:IntKind.i64.wrap ((n1:Int) / 2)=(n2:Int):=by rw[show(n1:Int) / 2=((n1 / 2:Nat):Int) from rfl,<- N8];exact wrap_i64 _ oO oO
 refine zN func121 ntmps121 [] ?_;refine xw3 w1 w2 w3 ?_;refine qL (fun m fr st'=>∃(c:List Int),m<=n2+1/\fr 0=.ms q 0 l.length/\fr 6=i a/\fr 7=i 0/\fr 8=i n/\fr 9=i ((m:Int)-1)/\st'=bx st q c/\Pm a b l c/\uZ m n a c) (n2+1) ?_ ?_
 .exact⟨l,oO,sS,sS,sS,sS,sS,vT hH,.refl,fun k x h1 h2 h3=>by omega⟩
 rintro m fr st1 ⟨c,hm,f0,f6,f7,f8,f9,rfl,r9,hh⟩ JJ hJJ;have o7:=r9.len;cases m with
 |succ m=>
  have f9':fr 9=i (m:Int):=by rw[f9];congr 2;omega
  have w4:IntKind.i64.wrap ((m:Int)-1)=(m:Int)-1:=zW;have hge:(0:Int)<=(m:Int):=oO
  (refine xj6 f0 f6 f7 f8 f9' hge ?_;intro J hJ)
  rw[<- o7];refine qF (siftDown c q m n a _ (by unfold small;omega) oO oO hh sS) ?_;rintro r s2 ⟨c2,rfl,L3,hh2⟩;rw[o7];refine pD hJ f9' w4 ?_;exact hJJ m _ _ oO ⟨c2,oO,sF1 f0,sF1 f6,sF1 f7,sF1 f8,sS,St.set_set _ _ _ _,r9.trans (L3.wide oO oO oO),hh2⟩
 |zero=>
  clear hJJ;have f9':fr 9=i (-1):=by rw[f9];rfl
  refine xw6 f0 f6 f7 f8 f9' w2 ?_;refine qL (fun m fr st'=>∃(c:List Int),m<=n/\fr 0=.ms q 0 l.length/\fr 6=i a/\fr 7=i 0/\fr 10=i ((m:Int)-1)/\st'=bx st q c/\Pm a b l c/\uZ 0 m a c/\F7 c a m n) n ?_ ?_
  .exact⟨c,aAm _,sF1 f0,sF1 f6,sF1 f7,by simp;omega,rfl,r9,hh,fun p q h1 h2 h3=>by omega⟩
  clear f0 f6 f7 f8 f9 f9' r9 hh o7 c fr;rintro m fr st1 ⟨c,hm,f0,f6,f7,f10,rfl,r9,hh,hla⟩ JJ hJJ;have o7:=r9.len;cases m with
  |zero=>
   have f10':fr 10=i (-1):=by rw[f10];rfl
   refine xw1 f10' ?_;refine⟨trivial,c,rfl,r9,fun p q h1 h2 h3=>?_⟩;have:=hla (p-a) (q-a) oO oO oO
   rwa [show a+(p-a)=p by omega,show a+(q-a)=q by omega]at this
  |succ m=>
   have f10':fr 10=i (m:Int):=by rw[f10];congr 2;omega
   have w4:IntKind.i64.wrap ((m:Int)-1)=(m:Int)-1:=zW;have hge:(0:Int)<=(m:Int):=oO;obtain⟨x1,hx1⟩:∃ x:Nat,x=a+m:=⟨_,rfl⟩;have w5:IntKind.i64.wrap ((a:Int)+(m:Int))=(x1:Int):=zW;have hd0:=qG c a oO;have y9:=qG c x1 oO;have hl0:a<l.length:=oO;have hl1:x1<l.length:=oO;have hpop:=hh.pop oO;have N0:=fun c2=>Oe (c2:=c2) hh hla oO oO;have W4:=r9.step a x1 oO oO oO oO oO;rw[<- hx1]at hpop N0;have hsl:=EG c a x1;have K9:=fun x y=>nF st q c a x1 (x:=x) (y:=y) oO oO;generalize hy0:c.getD a 0=y0 at *;generalize hy1:c.getD x1 0=y1 at *;have J7:=K9 y0 y1 rfl rfl;refine xw5 f0 f6 f7 f10' hge ?_
   (refine zS [] [q] [0,2,4,6,8,10,12,14,16,18,20,22,24,26,28,30,32,35,36,39] ?_;intro J hJ;simp[f0,f6,f7,f10',w5,hl0,hl1,o7,hd0,y9];(repeat refine ca ?_);(refine zJ hJ ?_;clear hJ J))
   rw[J7];generalize hc1:sw c a x1=c1 at *
   (refine xj4 f0 f6 f7 f10' ?_;intro J hJ)
   rw[<- o7,<- hsl];refine qF (siftDown c1 q 0 m a _ (by unfold small;omega) oO oO hpop sS) ?_;rintro r s2 ⟨c2,rfl,L3,hh2⟩;rw[hsl,o7];refine pD hJ f10' w4 ?_;exact hJJ m _ _ oO ⟨c2,oO,sF1 f0,sF1 f6,sF1 f7,sS,St.set_set _ _ _ _,W4.trans (L3.wide oO oO oO),hh2,N0 c2 (by rw[hx1];exact L3)⟩
def StU(P:Int->Bool)(c:List Int)(ii jj:Nat):Prop:=ii<=jj->P (c.getD ii 0)=false
def StD(P:Int->Bool)(c:List Int)(ii kk:Nat):Prop:=ii<=kk->P (c.getD kk 0)=true
theorem partition(l:List Int)(q a b pv:Nat)(st:St)(hl:small l)(v8:a<b)(hb:b<=l.length)(P7:a<=pv)(X5:pv<b)(hH:st.H q=.box 34 1 (us l)):
 aB prog 128 [.ms q 0 l.length,i a,i b,i pv] st fun r st'=>∃(c:List Int) (G7:Nat) (p:Bool),r=.tu [i G7,bb p]/\st'=bx st q c/\Pm a b l c/\a<=G7/\G7<b/\cQ c a G7 b:=by
 unfold small at hl;refine zN func128 ntmps128 [.tmp 8,.tmp 9] ?_
 (repeat (apply qS));(refine zE ?_;intro J hJ;simp[];refine zJ hJ ?_)
 have hla:a<l.length:=oO;have Y9:pv<l.length:=oO;have K9:=fun x y=>JZ st q l a pv (x:=x) (y:=y) oO oO;have hd0:=qG l a oO;have y9:=qG l pv oO;have r9:Pm a b l (sw l a pv):=Pm.one a pv oO oO oO oO oO;have hx:(sw l a pv).getD a 0=l.getD pv 0:=by
  rw[cP _ _ _ _ oO oO];by_cases e:a=pv
  .rw[aAj e,e]
  .rw[aAa e,aAj rfl]
 generalize hy0:l.getD a 0=y0 at *;generalize hy1:l.getD pv 0=x at *;have J7:=K9 y0 x rfl rfl
 (repeat (apply qS));(refine zS [] [q] [0,2,4,6,8,10,12,14,16,18,20,22,24,27,28,31] ?_;intro J hJ;simp[hH,hla,Y9,hd0,y9];(repeat refine ca ?_);refine zJ hJ ?_)
 rw[J7];clear K9 J7 hd0 y9 hy0;generalize hc:sw l a pv=c at *;clear hc;have o7:=r9.len;have w1:=qN a oO;have w2:=aT b oO oO;obtain⟨P,hPd⟩:∃ P:Int->Bool,∀ v,P v=decide (v<x):=⟨_,fun _=>rfl⟩;apply qS;refine cD (fun fr st2=>fr 0=.ms q 0 l.length/\fr 1=i a/\fr 10=i ((a+1:Nat):Int)/\fr 11=i ((b-1:Nat):Int)/\st2=bx st q c) (by(refine zE ?_;intro J hJ;simp[w1,w2];refine zJ hJ ?_);simp) ?_;rintro fr st2 ⟨f0,f1,fI,fJ,rfl⟩;have hai:a<a+1:=oO;have hij:a+1<=b-1+1:=oO;have hjb:b-1<b:=oO;have R7:Lo P c a (a+1):=fun p h1 h2=>by omega
 have Q9:Hi P c (b-1) b:=fun p h1 h2=>by omega
 generalize a+1=ii at *;generalize b-1=jj at *;clear w1 w2;have hd0:=qG c a oO;rw[hx]at hd0;apply qS;refine cD (fun fr st2=>∃ ii:Nat,a<ii/\ii<=jj+1/\fr 0=.ms q 0 l.length/\fr 1=i a/\fr 10=i ii/\fr 11=i jj/\st2=bx st q c/\Lo P c a ii/\StU P c ii jj) ?_ ?_
 .apply qB;refine qL (fun m fr st2=>∃ ii:Nat,a<ii/\ii<=jj+1/\m=jj+1-ii/\fr 0=.ms q 0 l.length/\fr 1=i a/\fr 10=i ii/\fr 11=i jj/\st2=bx st q c/\Lo P c a ii) (jj+1-ii) ?_ ?_
  .exact⟨ii,oO,oO,rfl,sF1 f0,sF1 f1,sF1 fI,sF1 fJ,rfl,R7⟩
  clear f0 f1 fI fJ R7 hai hij fr ii;rintro m fr st2 ⟨ii,hai,hij,rfl,f0,f1,fI,fJ,rfl,R7⟩ JJ hJJ;have hia:=qN ii oO;by_cases u7:ii<=jj;rotate_left
  .clear hJJ
   (repeat (apply qS));(refine zS [] [q] [0,2,4,6,8,10,12,14,16,18,20,22,25,26] ?_;intro J hJ;simp[f0,f1,fI,fJ,u7];refine zJ hJ ?_)
   refine xw0 ?_;exact⟨trivial,ii,oO,oO,sF1 f0,sF1 f1,sF1 fI,sF1 fJ,by trivial,R7,fun h=>absurd h u7⟩
  have hli:ii<l.length:=oO;have y9:=qG c ii oO;have hmo:=R7.more;generalize hy:c.getD ii 0=y at *
  (repeat (apply qS));(refine zS [] [q] [0,2,4,6,8,10,12,14,16,18,20,22,25,26] ?_;intro J hJ;simp[f0,f1,fI,fJ,u7,hli,hla,o7,hd0,y9])
  refine aN (vF y x _) ?_;rintro r s2 ⟨rfl,rfl⟩;refine⟨fun _=>by simp,?_⟩;have hP:=hPd y;by_cases P9:y<x
  ·(apply bI;simp[P9];refine zJ hJ ?_)
   refine xw2 fI hia ?_;exact hJJ (jj+1-(ii+1)) _ _ oO ⟨ii+1,oO,oO,rfl,sF1 f0,sF1 f1,sS,sF1 fJ,rfl,hmo (by rw[hP];simp[P9])⟩
  .clear hJJ
   (apply bI;simp[P9];refine zJ hJ ?_)
   refine xw0 ?_;exact⟨trivial,ii,oO,oO,sF1 f0,sF1 f1,sF1 fI,sF1 fJ,by trivial,R7,fun _=>by rw[hy,hP];simp[P9]⟩
 clear f0 f1 fI fJ R7 hai hij fr ii;rintro fr st2 ⟨ii,hai,hij,f0,f1,fI,fJ,rfl,R7,I2⟩;apply qS;refine cD (fun fr st2=>∃ kk:Nat,a<=kk/\kk<=jj/\ii<=kk+1/\fr 0=.ms q 0 l.length/\fr 1=i a/\fr 10=i ii/\fr 11=i kk/\st2=bx st q c/\Hi P c kk b/\StD P c ii kk) ?_ ?_
 .apply qB;refine qL (fun m fr st2=>∃ kk:Nat,a<=kk/\kk<=jj/\ii<=kk+1/\kk=m/\fr 0=.ms q 0 l.length/\fr 1=i a/\fr 10=i ii/\fr 11=i kk/\st2=bx st q c/\Hi P c kk b) jj ?_ ?_
  .exact⟨jj,oO,oO,oO,rfl,sF1 f0,sF1 f1,sF1 fI,sF1 fJ,rfl,Q9⟩
  clear f0 f1 fI fJ Q9 fr;rintro m fr st2 ⟨kk,hak,hkj,hik,rfl,f0,f1,fI,fJ,rfl,Q9⟩ JJ hJJ;by_cases u7:ii<=kk;rotate_left
  .clear hJJ
   (repeat (apply qS));(refine zS [] [q] [0,2,4,6,8,10,12,14,16,18,20,22,25,26,28] ?_;intro J hJ;simp[f0,f1,fI,fJ,u7];refine zJ hJ ?_)
   refine xw0 ?_;exact⟨trivial,kk,oO,oO,oO,sF1 f0,sF1 f1,sF1 fI,sF1 fJ,by trivial,Q9,fun h=>absurd h u7⟩
  have hja:=aT kk oO oO;have hlj:kk<l.length:=oO;have y9:=qG c kk oO;have hmo:=Q9.more;generalize hy:c.getD kk 0=y at *
  (repeat (apply qS));(refine zS [] [q] [0,2,4,6,8,10,12,14,16,18,20,22,25,26,28] ?_;intro J hJ;simp[f0,f1,fI,fJ,u7,hlj,hla,o7,hd0,y9])
  refine aN (vF y x _) ?_;rintro r s2 ⟨rfl,rfl⟩;refine⟨fun _=>by simp,?_⟩;have hP:=hPd y;by_cases P9:y<x
  .clear hJJ
   (apply bI;simp[P9];refine zJ hJ ?_)
   refine xw0 ?_;exact⟨trivial,kk,oO,oO,oO,sF1 f0,sF1 f1,sF1 fI,sF1 fJ,by trivial,Q9,fun _=>by rw[hy,hP];simp[P9]⟩
  ·(apply bI;simp[P9];refine zJ hJ ?_)
   refine xw2 fJ hja ?_;exact hJJ (kk-1) _ _ oO ⟨kk-1,oO,oO,oO,rfl,sF1 f0,sF1 f1,sF1 fI,sS,rfl,hmo oO (by rw[hP];simp[P9])⟩
 clear f0 f1 fI fJ Q9 fr;rintro fr st2 ⟨kk,hak,hkj,hik,f0,f1,fI,fJ,rfl,Q9,U9⟩;by_cases u7:ii<=kk;rotate_left
 .have hke:ii=kk+1:=oO;have S6:=yH (hke ▸ R7) Q9 oO oO oO;have L3:=r9.step kk a oO oO oO oO oO;have Z4:kk<l.length:=oO;have y9:=qG c kk oO;have K9:=fun x y=>nF st q c kk a (x:=x) (y:=y) oO oO;generalize hy1:c.getD kk 0=y1 at *;have J7:=K9 y1 x rfl hx
  (repeat' (first|apply qS|(apply qC;simp[f0,f1,fI,fJ,u7];(try with_reducible intro hc))|(refine zE ?_;intro J hJ;simp[f0,f1,fI,fJ,u7];refine zJ hJ ?_)))
  (refine zS [] [q] [0,2,4,6,8,10,12,14,16,18,20,22,24,27,28,31] ?_;intro J hJ;simp[f0,f1,fI,fJ,hla,Z4,o7,hd0,y9];(repeat refine ca ?_);refine zJ hJ ?_)
  refine xw4 f0 f1 fI fJ ?_;exact⟨_,kk,rfl,J7,L3,oO,oO,by unfold cQ;rw[S6.2,hx];have h:=S6.1;rwa [show P=_ from funext hPd]at h⟩
 have hik2:ii<kk:=by
  rcases aAS ii kk with h|h
  .exact h
  .exfalso;have e:ii=kk:=oO;have h1:=I2 oO;have h2:=U9 u7;rw[e,h2]at h1;cases h1
 have hLo2:=R7.swp hik2 oO (U9 u7);have hHi2:=Q9.swp hik2 oO (I2 oO);have L3:=r9.step ii kk oO oO oO oO oO;have hxx:(sw c ii kk).getD a 0=x:=by rw[cP _ _ _ _ oO oO,aAa oO,aAa oO];exact hx
 have hli:ii<l.length:=oO;have Z4:kk<l.length:=oO;have y9:=qG c ii oO;have K8:=qG c kk oO;have K9:=fun x y=>nF st q c ii kk (x:=x) (y:=y) oO oO;have hia:=qN ii oO;have hka:=aT kk oO oO;clear I2 U9;generalize hy1:c.getD ii 0=y1 at *;generalize V4:c.getD kk 0=y2 at *;have J7:=K9 y1 y2 rfl rfl
 (repeat' (first|apply qS|refine qK (zZ ?_)|(apply qC;simp[f0,f1,fI,fJ,u7];(try with_reducible refine⟨?_,?_⟩)<;>(try with_reducible intro hc)<;>try (exfalso;omega))|(refine zE ?_;intro J hJ;simp[f0,f1,fI,fJ,u7];refine zJ hJ ?_)))
 (refine zS [] [q] [0,2,4,6,8,10,12,14,16,18,20,22,24,27,28,31] ?_;intro J hJ;simp[f0,f1,fI,fJ,hli,Z4,o7,y9,K8];(repeat refine ca ?_);refine zJ hJ ?_)
 refine xw4 fI fJ hia hka ?_;rw[J7];refine qL (fun m fr st2=>∃(ii jj:Nat) (c:List Int),a<ii/\ii<=jj+1/\jj<b/\jj=m/\fr 0=.ms q 0 l.length/\fr 1=i a/\fr 10=i ii/\fr 11=i jj/\st2=bx st q c/\Pm a b l c/\c.getD a 0=x/\Lo P c a ii/\Hi P c jj b) (kk-1) ?_ ?_
 .exact⟨ii+1,kk-1,sw c ii kk,oO,oO,oO,rfl,sF1 f0,sF1 f1,sS,sS,rfl,L3,hxx,hLo2,hHi2⟩
 clear f0 f1 fI fJ R7 Q9 hLo2 hHi2 r9 L3 hx hxx o7 hd0 y9 K8 K9 J7 hy1 V4 y1 y2 hai hij hak hik hik2 hli Z4 hia hka u7 hkj hjb ii jj kk c fr;rintro m fr st2 ⟨ii,jj,c,hai,hij,hjb,rfl,f0,f1,fI,fJ,rfl,r9,hx,R7,Q9⟩ JJ0 hJ0;have o7:=r9.len;have hd0:=qG c a oO;rw[hx]at hd0;apply qB;apply qS;refine cD (fun fr st2=>∃ ii:Nat,a<ii/\ii<=jj+1/\fr 0=.ms q 0 l.length/\fr 1=i a/\fr 10=i ii/\fr 11=i jj/\st2=bx st q c/\Lo P c a ii/\StU P c ii jj) ?_ ?_
 .apply qB;refine qL (fun m fr st2=>∃ ii:Nat,a<ii/\ii<=jj+1/\m=jj+1-ii/\fr 0=.ms q 0 l.length/\fr 1=i a/\fr 10=i ii/\fr 11=i jj/\st2=bx st q c/\Lo P c a ii) (jj+1-ii) ?_ ?_
  .exact⟨ii,oO,oO,rfl,sF1 f0,sF1 f1,sF1 fI,sF1 fJ,rfl,R7⟩
  clear f0 f1 fI fJ R7 hai hij fr ii;rintro m fr st2 ⟨ii,hai,hij,rfl,f0,f1,fI,fJ,rfl,R7⟩ JJ hJJ;have hia:=qN ii oO;by_cases u7:ii<=jj;rotate_left
  .clear hJJ
   (repeat (apply qS));(refine zS [] [q] [0,2,4,6,8,10,12,14,16,18,20,22,25,26] ?_;intro J hJ;simp[f0,f1,fI,fJ,u7];refine zJ hJ ?_)
   refine xw0 ?_;exact⟨trivial,ii,oO,oO,sF1 f0,sF1 f1,sF1 fI,sF1 fJ,by trivial,R7,fun h=>absurd h u7⟩
  have hli:ii<l.length:=oO;have y9:=qG c ii oO;have hmo:=R7.more;generalize hy:c.getD ii 0=y at *
  (repeat (apply qS));(refine zS [] [q] [0,2,4,6,8,10,12,14,16,18,20,22,25,26] ?_;intro J hJ;simp[f0,f1,fI,fJ,u7,hli,hla,o7,hd0,y9])
  refine aN (vF y x _) ?_;rintro r s2 ⟨rfl,rfl⟩;refine⟨fun _=>by simp,?_⟩;have hP:=hPd y;by_cases P9:y<x
  ·(apply bI;simp[P9];refine zJ hJ ?_)
   refine xw2 fI hia ?_;exact hJJ (jj+1-(ii+1)) _ _ oO ⟨ii+1,oO,oO,rfl,sF1 f0,sF1 f1,sS,sF1 fJ,rfl,hmo (by rw[hP];simp[P9])⟩
  .clear hJJ
   (apply bI;simp[P9];refine zJ hJ ?_)
   refine xw0 ?_;exact⟨trivial,ii,oO,oO,sF1 f0,sF1 f1,sF1 fI,sF1 fJ,by trivial,R7,fun _=>by rw[hy,hP];simp[P9]⟩
 clear f0 f1 fI fJ R7 hai hij fr ii;rintro fr st2 ⟨ii,hai,hij,f0,f1,fI,fJ,rfl,R7,I2⟩;apply qS;refine cD (fun fr st2=>∃ kk:Nat,a<=kk/\kk<=jj/\ii<=kk+1/\fr 0=.ms q 0 l.length/\fr 1=i a/\fr 10=i ii/\fr 11=i kk/\st2=bx st q c/\Hi P c kk b/\StD P c ii kk) ?_ ?_
 .apply qB;refine qL (fun m fr st2=>∃ kk:Nat,a<=kk/\kk<=jj/\ii<=kk+1/\kk=m/\fr 0=.ms q 0 l.length/\fr 1=i a/\fr 10=i ii/\fr 11=i kk/\st2=bx st q c/\Hi P c kk b) jj ?_ ?_
  .exact⟨jj,oO,oO,oO,rfl,sF1 f0,sF1 f1,sF1 fI,sF1 fJ,rfl,Q9⟩
  clear f0 f1 fI fJ Q9 fr;rintro m fr st2 ⟨kk,hak,hkj,hik,rfl,f0,f1,fI,fJ,rfl,Q9⟩ JJ hJJ;by_cases u7:ii<=kk;rotate_left
  .clear hJJ
   (repeat (apply qS));(refine zS [] [q] [0,2,4,6,8,10,12,14,16,18,20,22,25,26,28] ?_;intro J hJ;simp[f0,f1,fI,fJ,u7];refine zJ hJ ?_)
   refine xw0 ?_;exact⟨trivial,kk,oO,oO,oO,sF1 f0,sF1 f1,sF1 fI,sF1 fJ,by trivial,Q9,fun h=>absurd h u7⟩
  have hja:=aT kk oO oO;have hlj:kk<l.length:=oO;have y9:=qG c kk oO;have hmo:=Q9.more;generalize hy:c.getD kk 0=y at *
  (repeat (apply qS));(refine zS [] [q] [0,2,4,6,8,10,12,14,16,18,20,22,25,26,28] ?_;intro J hJ;simp[f0,f1,fI,fJ,u7,hlj,hla,o7,hd0,y9])
  refine aN (vF y x _) ?_;rintro r s2 ⟨rfl,rfl⟩;refine⟨fun _=>by simp,?_⟩;have hP:=hPd y;by_cases P9:y<x
  .clear hJJ
   (apply bI;simp[P9];refine zJ hJ ?_)
   refine xw0 ?_;exact⟨trivial,kk,oO,oO,oO,sF1 f0,sF1 f1,sF1 fI,sF1 fJ,by trivial,Q9,fun _=>by rw[hy,hP];simp[P9]⟩
  ·(apply bI;simp[P9];refine zJ hJ ?_)
   refine xw2 fJ hja ?_;exact hJJ (kk-1) _ _ oO ⟨kk-1,oO,oO,oO,rfl,sF1 f0,sF1 f1,sF1 fI,sS,rfl,hmo oO (by rw[hP];simp[P9])⟩
 clear f0 f1 fI fJ Q9 fr;rintro fr st2 ⟨kk,hak,hkj,hik,f0,f1,fI,fJ,rfl,Q9,U9⟩;by_cases u7:ii<=kk;rotate_left
 .clear hJ0;have hke:ii=kk+1:=oO;have S6:=yH (hke ▸ R7) Q9 oO oO oO;have L3:=r9.step kk a oO oO oO oO oO;have Z4:kk<l.length:=oO;have y9:=qG c kk oO;have K9:=fun x y=>nF st q c kk a (x:=x) (y:=y) oO oO;generalize hy1:c.getD kk 0=y1 at *;have J7:=K9 y1 x rfl hx
  (repeat' (first|apply qS|refine qX (zZ ?_)|(apply qC;simp[f0,f1,fI,fJ,u7];(try with_reducible intro hc))|(refine zE ?_;intro J hJ;simp[f0,f1,fI,fJ,u7];refine zJ hJ ?_)))
  (refine zS [] [q] [0,2,4,6,8,10,12,14,16,18,20,22,24,27,28,31] ?_;intro J hJ;simp[f0,f1,fI,fJ,hla,Z4,o7,hd0,y9];(repeat refine ca ?_);refine zJ hJ ?_)
  refine xw4 f0 f1 fI fJ ?_;exact⟨_,kk,rfl,J7,L3,oO,oO,by unfold cQ;rw[S6.2,hx];have h:=S6.1;rwa [show P=_ from funext hPd]at h⟩
 have hik2:ii<kk:=by
  rcases aAS ii kk with h|h
  .exact h
  .exfalso;have e:ii=kk:=oO;have h1:=I2 oO;have h2:=U9 u7;rw[e,h2]at h1;cases h1
 have hLo2:=R7.swp hik2 oO (U9 u7);have hHi2:=Q9.swp hik2 oO (I2 oO);have L3:=r9.step ii kk oO oO oO oO oO;have hxx:(sw c ii kk).getD a 0=x:=by rw[cP _ _ _ _ oO oO,aAa oO,aAa oO];exact hx
 have hli:ii<l.length:=oO;have Z4:kk<l.length:=oO;have y9:=qG c ii oO;have K8:=qG c kk oO;have K9:=fun x y=>nF st q c ii kk (x:=x) (y:=y) oO oO;have hia:=qN ii oO;have hka:=aT kk oO oO;clear I2 U9;generalize hy1:c.getD ii 0=y1 at *;generalize V4:c.getD kk 0=y2 at *;have J7:=K9 y1 y2 rfl rfl
 (repeat' (first|apply qS|refine qK (zZ ?_)|(apply qC;simp[f0,f1,fI,fJ,u7];(try with_reducible refine⟨?_,?_⟩)<;>(try with_reducible intro hc)<;>try (exfalso;omega))|(refine zE ?_;intro J hJ;simp[f0,f1,fI,fJ,u7];refine zJ hJ ?_)))
 (refine zS [] [q] [0,2,4,6,8,10,12,14,16,18,20,22,24,27,28,31] ?_;intro J hJ;simp[f0,f1,fI,fJ,hli,Z4,o7,y9,K8];(repeat refine ca ?_);refine zJ hJ ?_)
 refine xw4 fI fJ hia hka ?_;exact hJ0 (kk-1) _ _ oO ⟨ii+1,kk-1,sw c ii kk,oO,oO,oO,rfl,sF1 f0,sF1 f1,sS,sS,J7,L3,hxx,hLo2,hHi2⟩
end Aw
end Go.Proofs.YtbgngpdonpeboaaGreatDoor
