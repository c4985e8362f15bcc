/- Plain lists of numbers: places, least ones, turns. No program. -/
import Derived.RangeFuncBox
import Derived.RangeFuncLeaves
import Derived.Shelf.Abstract
import Derived.WalkKit
import Derived.OwnWalkIn
import Derived.TacticsInMore
import Derived.LoopNIn
import Derived.LoopIn
import Derived.Maps.AppendAt
import Derived.Test.YtbgngpdonpeboaaGreatDoorProg
import Derived.Test.YtbgngpdonpeboaaGreatDoorAwSet
import Derived.IntWalk
import Derived.Test.YtbgngpdonpeboaaGreatDoorAwShp
set_option linter.unusedVariables false
set_option linter.unusedSimpArgs false
set_option maxHeartbeats 2000000
open Go.Proofs.Tryz
namespace Go.Proofs.YtbgngpdonpeboaaGreatDoor
namespace Pl
def gi(l:List Int)(x:Int):Int:=if x∈l then(l.idxOf x:Int)else -1
theorem LZ{l:List Int}{x:Int}{k:Nat}(hk:k<l.length)(h:l[k]=x)(hn:∀ j (hj:j<k),l[j]'(by omega)≠x):gi l x=k:=by
 have hm:x∈l:=by rw[<- h];exact aAE hk
 unfold gi;rw[aAj hm]
 congr 1
 have h1:l.idxOf x<l.length:=aAO hm;have h2:l[l.idxOf x]=x:=aBu h1;rcases aCs (l.idxOf x) k with h3|h3|h3
 .grind
 .omega
 .have:=aEj (p:=fun y=>y==x) (xs:=l) (i:=k) (by simpa[List.idxOf]using h3)
  grind
theorem LM{l:List Int}{x:Int}(hn:∀ j (hj:j<l.length),l[j]≠x):gi l x = -1:=by
 grind [gi]
theorem Ev(l:List Int)(x:Int):gi l x<0↔x∉l:=by
 grind [gi]
def mn:List Int->Int
 |[]=>0
 |x::l=>l.foldl (fun a b=>if b<a then b else a) x
theorem vW(l:List Int):∀ a:Int,l.foldl (fun a b=>if b<a then b else a) a<=a/\(∀ x∈l,l.foldl (fun a b=>if b<a then b else a) a<=x)/\(l.foldl (fun a b=>if b<a then b else a) a=a\/l.foldl (fun a b=>if b<a then b else a) a∈l):=by
 induction l with
 |nil=>grind
 |cons b l ih=>
  intro a;simp only[List.foldl_cons];obtain⟨h1,h2,h3⟩:=ih (if b<a then b else a);have c1:(if b<a then b else a)<=a:=by split<;>omega
  have c2:(if b<a then b else a)<=b:=by split<;>omega
  refine⟨Int.le_trans h1 c1,?_,?_⟩
  .grind
  grind
theorem Da{l:List Int}{x:Int}(hx:x∈l):mn l<=x:=by
 cases l with
 |nil=>grind
 |cons a l=>
  obtain⟨h1,h2,_⟩:=vW l a;rcases aAe.1 hx with rfl|hx
  .exact h1
  .exact h2 x hx
theorem nA{l:List Int}(h:l≠[]):mn l∈l:=by
 cases l with
 |nil=>grind
 |cons a l=>
  obtain⟨_,_,h3⟩:=vW l a
  grind [mn]
theorem LL{l:List Int}{m:Int}(hm:m∈l)(h:∀ x∈l,m<=x):mn l=m:=by
 have h1:=Da hm
 grind [nA,List.ne_nil_of_mem]
theorem OD(l:List Int)(x:Int)(h:l≠[]):mn (l++[x])=if x<mn l then x else mn l:=by
 cases l with
 |nil=>grind
 |cons a l=>grind [mn]
theorem Kv(l:List Int)(k:Nat)(h0:0<k)(hk:k<l.length):mn (l.take (k+1))=if l[k] < mn (l.take k)then l[k]else mn (l.take k):=by
 rw[aAp hk,OD]
 grind [List.length_nil]
def rt(l:List Int)(k:Nat):List Int:=l.drop k++l.take k
def nrm(l:List Int):List Int:=rt l (l.idxOf (mn l))
theorem nY(l:List Int)(k:Nat):(rt l k).length=l.length:=by grind [rt]
theorem cA(l:List Int):(nrm l).length=l.length:=nY _ _
theorem Xr(l:List Int)(k:Nat)(x:Int):x∈rt l k↔x∈l:=by
 grind [rt,List.take_append_drop]
theorem RV(l:List Int)(k i:Nat)(hk:k<=l.length)(hi:i<l.length):(rt l k)[i]'(by rw[nY];exact hi)=l[(k+i) % l.length]'(aBG _ oO):=by
 unfold rt;by_cases h:i<l.length-k
 .rw[aCK (by simpa using h)];simp only[aCt]
  congr 1
  rw[aAG oO]
 .rw[aBB (by simp;omega)];simp only[aBK,aAL]
  congr 1
  rw[Nat.mod_eq_sub_mod oO,aAG oO];omega
theorem MD(l:List Int)(i:Nat)(hi:i<l.length):(nrm l)[i]'(by grind [cA])=l[(l.idxOf (mn l)+i) % l.length]'(aBG _ oO):=
 RV l _ i aCH hi
end Pl
namespace Eu
open Go
def it(f:Int->Int):Nat->Int->Int
 |0,x=>x
 |n+1,x=>it f n (f x)
theorem bT(f:Int->Int)(n:Nat)(x:Int):it f (n+1) x=f (it f n x):=by
 induction n generalizing x with
 |zero=>rfl
 |succ n ih=>exact ih (f x)
theorem jT(f:Int->Int)(m n:Nat)(x:Int):it f (m+n) x=it f m (it f n x):=by
 induction n generalizing x with
 |zero=>rfl
 |succ n ih=>exact ih (f x)
theorem KH{f:Int->Int}{p:Nat}{x:Int}(h:it f p x=x)(q:Nat):it f (q*p) x=x:=by
 induction q with
 |zero=>rw[aEJ];rfl
 |succ q ih=>grind [Nat.succ_mul,jT]
theorem Fq{f:Int->Int}(hi:∀ x y,f x=f y->x=y)(n:Nat){x y:Int}(h:it f n x=it f n y):x=y:=by
 induction n generalizing x y with
 |zero=>exact h
 |succ n ih=>exact hi _ _ (ih h)
def Per(f:Int->Int):Prop:=∀ x,∃ p,0<p/\it f p x=x
def Orb(f:Int->Int)(x y:Int):Prop:=∃ n,it f n x=y
theorem Orb.refl(f:Int->Int)(x:Int):Orb f x x:=⟨0,rfl⟩
theorem Orb.step(f:Int->Int)(x:Int):Orb f x (f x):=⟨1,rfl⟩
theorem Orb.trans{f:Int->Int}{x y z:Int}(h:Orb f x y)(k:Orb f y z):Orb f x z:=by obtain⟨n,rfl⟩:=h;obtain⟨m,rfl⟩:=k;exact⟨m+n,jT f m n x⟩
theorem Orb.symm{f:Int->Int}(hf:Per f){x y:Int}(h:Orb f x y):Orb f y x:=by
 obtain⟨n,rfl⟩:=h;induction n generalizing x with
 |zero=>exact⟨0,rfl⟩
 |succ n ih=>
  refine(ih (x:=f x)).trans ?_;obtain⟨p,hp,h⟩:=hf x;cases p with
  |zero=>omega
  |succ p=>exact⟨p,h⟩
theorem Per.inj{f:Int->Int}(hf:Per f){x y:Int}(h:f x=f y):x=y:=by
 obtain⟨p,hp,h1⟩:=hf x;obtain⟨q,hq,h2⟩:=hf y;have h3:=KH h1 q;have h4:=KH h2 p;rw[aBV]at h4;obtain⟨k,hk⟩:∃ k,q*p=k+1:=⟨q*p-1,by have:=aDy hq hp;omega⟩
 grind [it]
theorem QO{f:Int->Int}(D:List Int)(hD:∀ x∈D,f x∈D)(hi:∀ x y,f x=f y->x=y)(ho:∀ x,x∉D->f x=x):Per f:=by
 intro x;by_cases hx:x∈D
 .refine aAI fun x9=>?_;have c7:∀ p,0<p->it f p x≠x:=fun p hp h=>x9 ⟨p,hp,h⟩;have j5:∀ k,it f k x∈D:=by
   intro k;induction k with
   |zero=>exact hx
   |succ k ih=>grind [bT]
  have hnd:((List.range (D.length+1)).map fun k=>it f k x).Nodup:=by unfold List.Nodup;rw[aAV];refine aBH.imp fun {i j} hij h=>?_;have h2:j=i+(j-i):=oO;rw[h2,jT]at h;exact c7 (j-i) oO (Fq hi i h).symm
  have:=aAy hnd (l₂:=D) fun y hy=>by
   grind
  grind
 .exact⟨1,oO,ho x hx⟩
structure Eqv(R:Int->Int->Prop):Prop where
 refl:∀ x,R x x
 symm:∀ {x y},R x y->R y x
 trans:∀ {x y z},R x y->R y z->R x z
theorem Per.eqv{f:Int->Int}(hf:Per f):Eqv (Orb f):=⟨Orb.refl f,Orb.symm hf,Orb.trans⟩
noncomputable def ncl(R:Int->Int->Prop):List Int->Nat
 |[]=>0
 |x::l=>ncl R l+@ite Nat (∃ y∈l,R y x) (Classical.propDecidable _) 0 1
theorem aV{R:Int->Int->Prop}{x:Int}{l:List Int}(h:∃ y∈l,R y x):ncl R (x::l)=ncl R l:=by
 grind [ncl]
theorem aM{R:Int->Int->Prop}{x:Int}{l:List Int}(h:¬∃ y∈l,R y x):ncl R (x::l)=ncl R l+1:=by
 grind [ncl]
theorem dI{R S:Int->Int->Prop}{l:List Int}(h:∀ x∈l,∀ y∈l,(R x y↔S x y)):ncl R l=ncl S l:=by
 induction l with
 |nil=>rfl
 |cons x l ih=>
  have ih':=ih fun a ha b hb=>h a (aAc _ ha) b (aAc _ hb);by_cases hx:∃ y∈l,R y x
  .grind [aV]
  grind [aM]
theorem nM{R:Int->Int->Prop}(hR:Eqv R){l l':List Int}(h:l.Perm l'):ncl R l=ncl R l':=by
 induction h with
 |nil=>rfl
 |@cons x l1 l2 h ih=>
  by_cases hx:∃ y∈l1,R y x
  .grind [aV]
  grind [aM]
 |swap x y l=>
  by_cases L7:R x y
  .have V2:=hR.symm L7;rw[aV ⟨x,aAf,L7⟩,aV ⟨y,aAf,V2⟩];by_cases hx:∃ z∈l,R z x
   .rw[aV hx,aV];obtain⟨z,hz,hr⟩:=hx;exact⟨z,hz,hR.trans hr L7⟩
   .rw[aM hx,aM];rintro⟨z,hz,hr⟩;exact hx ⟨z,hz,hR.trans hr V2⟩
  .have V2:¬R y x:=fun h=>L7 (hR.symm h);have e1:(∃ z∈x::l,R z y)↔∃ z∈l,R z y:=by
    constructor
    .grind
    .grind
   have e2:(∃ z∈y::l,R z x)↔∃ z∈l,R z x:=by
    constructor
    .grind
    .grind
   by_cases hx:∃ z∈l,R z x
   .rw[aV (x:=x) (l:=y::l) (e2.2 hx)];by_cases hy:∃ z∈l,R z y
    .grind [aV]
    grind [aM,aV]
   .rw[aM (x:=x) (l:=y::l) (fun h=>hx (e2.1 h))];by_cases hy:∃ z∈l,R z y
    .grind [aV,aM]
    grind [aM]
 |trans _ _ h1 h2=>omega
def Mg(R:Int->Int->Prop)(a b x y:Int):Prop:=R x y\/(R x a/\R b y)\/(R x b/\R a y)
theorem Mg.eqv{R:Int->Int->Prop}(hR:Eqv R)(a b:Int):Eqv (Mg R a b):=by
 refine⟨fun x=>.inl (hR.refl x),?_,?_⟩
 .rintro x y (h|⟨h1,h2⟩|⟨h1,h2⟩)
  .exact .inl (hR.symm h)
  .exact .inr (.inr ⟨hR.symm h2,hR.symm h1⟩)
  .exact .inr (.inl ⟨hR.symm h2,hR.symm h1⟩)
 .rintro x y z (h|⟨h1,h2⟩|⟨h1,h2⟩) (k|⟨k1,k2⟩|⟨k1,k2⟩)
  .exact .inl (hR.trans h k)
  .exact .inr (.inl ⟨hR.trans h k1,k2⟩)
  .exact .inr (.inr ⟨hR.trans h k1,k2⟩)
  .exact .inr (.inl ⟨h1,hR.trans h2 k⟩)
  .exact .inr (.inl ⟨h1,k2⟩)
  .exact .inl (hR.trans h1 k2)
  .exact .inr (.inr ⟨h1,hR.trans h2 k⟩)
  .exact .inl (hR.trans h1 k2)
  .exact .inr (.inr ⟨h1,k2⟩)
theorem Mg.same{R:Int->Int->Prop}(hR:Eqv R){a b:Int}(h:R a b)(x y:Int):Mg R a b x y↔R x y:=by
 constructor
 .rintro(k|⟨k1,k2⟩|⟨k1,k2⟩)
  .exact k
  .exact hR.trans (hR.trans k1 h) k2
  .exact hR.trans (hR.trans k1 (hR.symm h)) k2
 .exact .inl
theorem Mg.le{R S:Int->Int->Prop}(hS:Eqv S){a b:Int}(x8:S a b)(h:∀ x y,R x y->S x y){x y:Int}(k:Mg R a b x y):S x y:=by
 rcases k with k|⟨k1,k2⟩|⟨k1,k2⟩
 .grind
 .exact hS.trans (hS.trans (h _ _ k1) x8) (h _ _ k2)
 .exact hS.trans (hS.trans (h _ _ k1) (hS.symm x8)) (h _ _ k2)
theorem tJ{R:Int->Int->Prop}(hR:Eqv R){a b:Int}(x8:¬R a b){l:List Int}(ha:a∈l)(hb:b∈l):ncl R l=ncl (Mg R a b) l+1:=by
 have c7:b≠a:=by rintro rfl;exact x8 (hR.refl _)
 have key:∀ rest:List Int,ncl R (rest++[a,b])=ncl (Mg R a b) (rest++[a,b])+1:=by
  intro rest;induction rest with
  |nil=>
   have h1:ncl R [a,b]=2:=by
    rw[aM,aM]
    .rfl
    .grind
    .rintro⟨y,hy,hr⟩;rw[aAk]at hy;subst hy;exact x8 (hR.symm hr)
   have h2:ncl (Mg R a b) [a,b]=1:=by
    rw[aV,aM]
    .rfl
    .grind
    .exact⟨b,sS,.inr (.inr ⟨hR.refl _,hR.refl _⟩)⟩
   grind
  |cons x rest ih=>
   rw[List.cons_append];have haL:a∈rest++[a,b]:=sS;have hbL:b∈rest++[a,b]:=sS;by_cases hx:∃ y∈rest++[a,b],R y x
   .rw[aV hx,aV,ih];obtain⟨y,hy,hr⟩:=hx;exact⟨y,hy,.inl hr⟩
   .rw[aM hx,aM,ih];rintro⟨y,hy,hr|⟨_,hr⟩|⟨_,hr⟩⟩
    .grind
    .grind
    grind
 have p1:l.Perm (a::l.erase a):=aEu ha;have p2:(l.erase a).Perm (b::(l.erase a).erase b):=aEu ((List.mem_erase_of_ne c7).2 hb);have p3:l.Perm (((l.erase a).erase b)++[a,b]):=(p1.trans (p2.cons a)).trans (aBj (l₁:=[a,b]))
 grind [nM,Mg.eqv]
theorem EJ{R:Int->Int->Prop}{t l:List Int}(ht:∀ x∈t,∀ y∈t,R x y)(hl:∀ x∈t,∀ y∈l,¬R y x):ncl R (t++l)=ncl R l+if t=[]then 0 else 1:=by
 induction t with
 |nil=>simp
 |cons x t ih=>
  have ih':=ih (fun a ha b hb=>ht a (aAc _ ha) b (aAc _ hb)) (fun a ha=>hl a (aAc _ ha));rw[List.cons_append,aAa sS];cases t with
  |nil=>
   grind [aM]
  |cons z t=>rw[aV ⟨z,sS,ht z sS x sS⟩,ih',aAa sS]
theorem Ci{R:Int->Int->Prop}:∀(ts:List (List Int)),(∀ t∈ts,∀ x∈t,∀ y∈t,R x y)->ts.Pairwise (fun t t'=>∀ x∈t,∀ y∈t',¬R y x)->ncl R ts.flatten=(ts.filter fun t=>decide (t≠[])).length
 |[],_,_=>rfl
 |t::ts,h1,h2=>by
  rw[aBf]at h2;rw[List.flatten_cons,EJ (h1 t aAf),Ci ts (fun t ht=>h1 t (aAc _ ht)) h2.2]
  .grind
  grind [List.mem_flatten]
def sw(a b x:Int):Int:=if x=a then b else if x=b then a else x
theorem DH(a b:Int):sw a b a=b:=by simp[sw]
theorem JK(a b:Int):sw a b b=a:=by
 grind [sw]
theorem sX{a b x:Int}(h1:x≠a)(h2:x≠b):sw a b x=x:=by grind [sw]
theorem WO(a b x:Int):sw a b (sw a b x)=x:=by
 grind [DH,JK,sX]
theorem XZ(a b:Int){x y:Int}(h:sw a b x=sw a b y):x=y:=by grind [WO]
theorem least{P:Nat->Prop}{n:Nat}(h:P n):∃ m,P m/\∀ k,k<m->¬P k:=by
 induction n using Nat.strongRecOn with
 |ind n ih=>
  grind
section
variable {f f':Int->Int} {a b:Int}
theorem Na(W4:∀ x,f' x=f (sw a b x))(x8:a≠b)(h:Orb f b a):¬Orb f' a b:=by
 obtain⟨n0,h0⟩:=h;obtain⟨n,hn,N7⟩:=least (P:=fun n=>it f n b=a) h0;have X9:n≠0:=by rintro rfl;exact x8 hn.symm
 have hbb:∀ i,0<i->i<=n->it f i b≠b:=by intro i hi j5 hb;have:n=(n-i)+i:=oO;rw[this,jT,hb]at hn;exact N7 (n-i) oO hn
 have r8:∀ x,(∃ i,0<i/\i<=n/\x=it f i b)->∃ i,0<i/\i<=n/\f' x=it f i b:=by
  rintro x ⟨i,hi,j5,rfl⟩;rcases aAM i n with h1|h1
  .grind [sX,bT]
  .obtain rfl:i=n:=oO;exact⟨1,oO,oO,by rw[W4,hn,DH];rfl⟩
 rintro⟨k,hk⟩;have hall:∀ k,∃ i,0<i/\i<=n/\it f' k a=it f i b:=by
  intro k;induction k with
  |zero=>exact⟨n,oO,aAl _,hn.symm⟩
  |succ k ih=>rw[bT];exact r8 _ ih
 obtain⟨i,h1,h2,h3⟩:=hall k
 grind
theorem QM(hf:Per f)(W4:∀ x,f' x=f (sw a b x))(h:¬Orb f b a):Orb f' a b:=by
 obtain⟨p,hp,h0⟩:=hf b;obtain⟨n,⟨X9,hn⟩,N7⟩:=least (P:=fun n=>0<n/\it f n b=b) ⟨hp,h0⟩;have key:∀ k,0<k->k<=n->it f' k a=it f k b:=by
  intro k;induction k with
  |zero=>omega
  |succ k ih=>
   intro _ hk;rcases aCB k with rfl|h0
   .show f' a=f b
    grind [DH]
   .rw[bT,ih h0 oO,W4,sX (fun e=>h ⟨k,e⟩) (fun e=>N7 k oO ⟨h0,e⟩),bT f k b]
 exact⟨n,by grind⟩
theorem Si(hf:Per f)(W4:∀ x,f' x=f (sw a b x)){x y:Int}(h:Orb f' x y):Mg (Orb f) a b x y:=by
 have hE:=Mg.eqv hf.eqv a b;obtain⟨n,rfl⟩:=h;induction n generalizing x with
 |zero=>exact hE.refl _
 |succ n ih=>
  refine hE.trans ?_ (ih (x:=f' x));rw[W4];by_cases h1:x=a
  .subst h1;rw[DH];exact .inr (.inl ⟨Orb.refl _ _,Orb.step _ _⟩)
  .by_cases h2:x=b
   .subst h2;rw[JK];exact .inr (.inr ⟨Orb.refl _ _,Orb.step _ _⟩)
   .rw[sX h1 h2];exact .inl (Orb.step _ _)
theorem LQ(hf:Per f)(U5:Per f')(W4:∀ x,f' x=f (sw a b x))(x y:Int):Mg (Orb f) a b x y↔Mg (Orb f') a b x y:=by
 have hb:∀ x,f x=f' (sw a b x):=fun x=>by grind [WO]
 constructor
 .exact Mg.le (Mg.eqv U5.eqv a b) (.inr (.inl ⟨Orb.refl _ _,Orb.refl _ _⟩)) fun x y h=>Si U5 hb h
 .exact Mg.le (Mg.eqv hf.eqv a b) (.inr (.inl ⟨Orb.refl _ _,Orb.refl _ _⟩)) fun x y h=>Si hf W4 h
theorem rX{D:List Int}(hf:Per f)(U5:Per f')(W4:∀ x,f' x=f (sw a b x))(x8:a≠b)(ha:a∈D)(hb:b∈D)(h:Orb f a b):ncl (Orb f') D=ncl (Orb f) D+1:=by
 rw[tJ U5.eqv (Na W4 x8 (Orb.symm hf h)) ha hb]
 congr 1
 refine dI fun x _ y _=>?_;rw[<- LQ hf U5 W4,Mg.same hf.eqv h]
theorem vH{D:List Int}(hf:Per f)(U5:Per f')(W4:∀ x,f' x=f (sw a b x))(ha:a∈D)(hb:b∈D)(h:¬Orb f a b):ncl (Orb f) D=ncl (Orb f') D+1:=by
 have h':Orb f' a b:=QM hf W4 fun k=>h (Orb.symm hf k);rw[tJ hf.eqv h ha hb]
 congr 1
 refine dI fun x _ y _=>?_;rw[LQ hf U5 W4,Mg.same U5.eqv h']
end
def lS(f:Int->Int)(d:Int)(L:List Int):Prop:=∃ p,0<p/\L=(List.range p).map (fun k=>it f k d)/\it f p d=d/\∀ q,0<q->q<p->it f q d≠d
theorem Ry{f:Int->Int}(hf:Per f)(d:Int):∃ L,lS f d L:=by obtain⟨p,hp,h0⟩:=hf d;obtain⟨n,⟨X9,hn⟩,N7⟩:=least (P:=fun n=>0<n/\it f n d=d) ⟨hp,h0⟩;exact⟨_,n,X9,rfl,hn,fun q h1 h2 h3=>N7 q h2 ⟨h1,h3⟩⟩
theorem Kt{f:Int->Int}{d:Int}{p:Nat}(hp:0<p)(h:it f p d=d)(n:Nat):it f n d=it f (n % p) d:=by
 grind [Nat.mod_add_div,Nat.mul_comm,jT,KH]
theorem lS.mem{f:Int->Int}{d:Int}{L:List Int}(h:lS f d L){x:Int}:x∈L↔Orb f d x:=by
 obtain⟨p,hp,rfl,h1,h2⟩:=h;rw[aAi];constructor
 .rintro⟨k,_,rfl⟩;exact⟨k,rfl⟩
 .rintro⟨n,rfl⟩;exact⟨n % p,aBi.2 (aBG _ hp),(Kt hp h1 n).symm⟩
theorem lS.nodup{f:Int->Int}(hi:∀ x y,f x=f y->x=y){d:Int}{L:List Int}(h:lS f d L):L.Nodup:=by
 obtain⟨p,hp,rfl,h1,h2⟩:=h;unfold List.Nodup;rw[aAV];refine(aBH (n:=p)).imp_of_mem fun {i j} M4 hj hij h=>?_;rw[aBi]at M4 hj;have e:j=i+(j-i):=oO
 grind [jT,Fq]
theorem lS.ne{f:Int->Int}{d:Int}{L:List Int}(h:lS f d L):L≠[]:=by obtain⟨p,hp,rfl,h1,h2⟩:=h;intro h;simp_all
end Eu
namespace Pl
def sw(c:List Int)(a b:Nat):List Int:=(c.set a (c.getD b 0)).set b (c.getD a 0)
theorem Dl(c:List Int)(a b:Nat):(sw c a b).length=c.length:=by simp[sw]
theorem cS(c:List Int)(a b j:Nat)(ha:a<c.length)(hb:b<c.length):(sw c a b).getD j 0=if j=b then c.getD a 0 else if j=a then c.getD b 0 else c.getD j 0:=by
 grind [sw]
theorem UE(c:List Int)(a b:Nat)(ha:a<c.length)(hb:b<c.length):(sw c a b).Perm c:=by
 grind [sw]
inductive Pm(a b:Nat)(l:List Int):List Int->Prop
 |refl:Pm a b l l
 |step {m:List Int} (h:Pm a b l m) (x y:Nat) (hx:a<=x) (U9:x<b) (hy:a<=y) (hy':y<b) (hb:b<=l.length):Pm a b l (sw m x y)
theorem Pm.len{a b:Nat}{l m:List Int}(h:Pm a b l m):m.length=l.length:=by
 induction h with
 |refl=>rfl
 |step h x y _ _ _ _ _ ih=>grind [Dl]
theorem Pm.out{a b:Nat}{l m:List Int}(h:Pm a b l m)(j:Nat)(hj:j<a\/b<=j):m.getD j 0=l.getD j 0:=by
 induction h with
 |refl=>rfl
 |step h x y h1 h2 h3 h4 h5 ih=>
  have:=h.len
  grind [cS]
theorem Pm.trans{a b:Nat}{l m n:List Int}(h:Pm a b l m)(k:Pm a b m n):Pm a b l n:=by
 induction k with
 |refl=>exact h
 |step k x y h1 h2 h3 h4 h5 ih=>have:=h.len;exact ih.step x y h1 h2 h3 h4 oO
theorem Pm.wide{a b a' b':Nat}{l m:List Int}(h:Pm a b l m)(ha:a'<=a)(hb:b<=b')(hl:b'<=l.length):Pm a' b' l m:=by
 induction h with
 |refl=>exact .refl
 |step k x y h1 h2 h3 h4 h5 ih=>exact ih.step x y oO oO oO oO hl
theorem Pm.perm{a b:Nat}{l m:List Int}(h:Pm a b l m):m.Perm l:=by
 induction h with
 |refl=>grind
 |step k x y h1 h2 h3 h4 h5 ih=>have:=k.len;grind [UE]
theorem Pm.all{a b:Nat}{l m:List Int}(h:Pm a b l m)(P:Int->Prop)(hP:∀ j,a<=j->j<b->P (l.getD j 0))(j:Nat)(h1:a<=j)(h2:j<b):P (m.getD j 0):=by
 induction h generalizing j with
 |refl=>grind
 |step k x y g1 g2 g3 g4 g5 ih=>
  have:=k.len
  grind [cS]
theorem Pm.one{a b:Nat}{l:List Int}(x y:Nat)(hx:a<=x)(U9:x<b)(hy:a<=y)(hy':y<b)(hb:b<=l.length):Pm a b l (sw l x y):=Pm.refl.step x y hx U9 hy hy' hb
def Srt(a b:Nat)(l:List Int):Prop:=∀ p q,a<=p->p<q->q<b->l.getD p 0<=l.getD q 0
def Ins(a j i:Nat)(d:List Int):Prop:=∀ p q,a<=p->p<q->q<=i->q≠j->d.getD p 0<=d.getD q 0
theorem Srt.ins{a i:Nat}{d:List Int}(h:Srt a i d):Ins a i i d:=fun p q h1 h2 h3 h4=>h p q h1 h2 oO
theorem Ins.step{a j i:Nat}{d:List Int}(h:Ins a j i d)(hj:a<j)(hi:j<=i)(hil:i<d.length)(dA:d.getD j 0<d.getD (j-1) 0):Ins a (j-1) i (sw d j (j-1)):=by
 intro p q h1 h2 h3 h4;rw[cS _ _ _ _ oO oO,cS _ _ _ _ oO oO];by_cases e1:q=j
 .rw[aAa h4,aAj e1];by_cases e2:p=j-1
  .omega
  .rw[aAa e2,aAa oO];exact h p (j-1) h1 oO oO oO
 .rw[aAa h4,aAa e1];by_cases e2:p=j-1
  .rw[aAj e2];exact h j q oO oO h3 e1
  .rw[aAa e2];by_cases e3:p=j
   .rw[aAj e3];exact h (j-1) q oO oO h3 e1
   .rw[aAa e3];exact h p q h1 h2 h3 e1
theorem Ins.done{a j i:Nat}{d:List Int}(h:Ins a j i d)(hj:a<=j)(hs:j=a\/¬d.getD j 0<d.getD (j-1) 0):Srt a (i+1) d:=by
 intro p q h1 h2 h3;by_cases e:q=j
 .subst e;have h5:¬d.getD q 0<d.getD (q-1) 0:=by rcases hs with hs|hs;omega;exact hs
  by_cases e2:p=q-1
  .grind
  .have:=h p (q-1) h1 oO oO oO;omega
 .exact h p q h1 h2 oO e
def vL(lo hi f:Nat)(d:List Int):Prop:=∀ k c,lo<=k->(c=2*k+1\/c=2*k+2)->c<hi->d.getD (f+c) 0<=d.getD (f+k) 0
def uZ(lo hi f r:Nat)(d:List Int):Prop:=(∀ k c,lo<=k->k≠r->(c=2*k+1\/c=2*k+2)->c<hi->d.getD (f+c) 0<=d.getD (f+k) 0)/\
 (∀ k c,lo<=k->(r=2*k+1\/r=2*k+2)->(c=2*r+1\/c=2*r+2)->c<hi->d.getD (f+c) 0<=d.getD (f+k) 0)
theorem vL.x{lo hi f:Nat}{d:List Int}(h:vL (lo+1) hi f d):uZ lo hi f lo d:=
 ⟨fun k c h1 h2 h3 h4=>h k c oO h3 h4,fun k c h1 h2 h3 h4=>by omega⟩
theorem uZ.leaf{lo hi f r:Nat}{d:List Int}(h:uZ lo hi f r d)(hr:hi<=2*r+1):vL lo hi f d:=by intro k c h1 h2 h3;exact h.1 k c h1 oO h2 h3
theorem uZ.big{lo hi f r:Nat}{d:List Int}(h:uZ lo hi f r d)(hr:∀ c,(c=2*r+1\/c=2*r+2)->c<hi->d.getD (f+c) 0<=d.getD (f+r) 0):vL lo hi f d:=by
 intro k c h1 h2 h3;by_cases e:k=r
 .grind
 .exact h.1 k c h1 e h2 h3
theorem uZ.step{lo hi f r c:Nat}{d:List Int}(h:uZ lo hi f r d)(hlo:lo<=r)(hc:c=2*r+1\/c=2*r+2)(hci:c<hi)(hl:f+hi<=d.length)(hm:∀ x,(x=2*r+1\/x=2*r+2)->x<hi->d.getD (f+x) 0<=d.getD (f+c) 0)
 (dA:d.getD (f+r) 0<d.getD (f+c) 0):uZ lo hi f c (sw d (f+r) (f+c)):=by
 constructor
 .intro k x h1 h2 h3 h4;rw[cS _ _ _ _ oO oO,cS _ _ _ _ oO oO];by_cases e1:k=r
  .grind
  .rw[aAa (show ¬f+k=f+c by omega),aAa (show ¬f+k=f+r by omega)];by_cases e2:x=r
   .subst e2;rw[aAa oO,aAj (rfl:f+x=f+x)];exact h.2 k c h1 h3 hc hci
   .rw[aAa oO,aAa oO];exact h.1 k x h1 e1 h3 h4
 .intro k x h1 h2 h3 h4;have e1:k=r:=oO;subst e1;rw[cS _ _ _ _ oO oO,cS _ _ _ _ oO oO];rw[aAa oO,aAa oO,aAa (show ¬f+k=f+c by omega),aAj (rfl:f+k=f+k)];exact h.1 c x oO oO h3 h4
theorem vL.top{hi f:Nat}{d:List Int}(h:vL 0 hi f d):∀ c,c<hi->d.getD (f+c) 0<=d.getD f 0:=by
 intro c;induction c using Nat.strongRecOn with
 |ind c ih=>
  intro hc;by_cases h0:c=0
  .grind
  .have h1:=h ((c-1) / 2) c oO oO hc
   grind
theorem vL.pop{j f:Nat}{c:List Int}(h:vL 0 (j+1) f c)(hl:f+j<c.length):vL 1 j f (sw c f (f+j)):=by intro k x h1 h2 h3;rw[cS _ _ _ _ oO oO,cS _ _ _ _ oO oO];rw[aAa oO,aAa oO,aAa oO,aAa oO];exact h k x oO h2 oO
theorem OR{hi f j:Nat}{c c2:List Int}(hH:vL 0 (j+1) f c)(ho:∀ p q,p<q->j+1<=q->q<hi->c.getD (f+p) 0<=c.getD (f+q) 0)(hj:j<hi)(hl:f+hi<=c.length)(hp:Pm f (f+j) (sw c f (f+j)) c2):
 ∀ p q,p<q->j<=q->q<hi->c2.getD (f+p) 0<=c2.getD (f+q) 0:=by
 intro p q h1 h2 h3;have g:=fun x=>cS c f (f+j) x oO oO;rw[hp.out (f+q) oO,g (f+q)];by_cases e:q=j
 .subst e;rw[aAj rfl];refine hp.all (fun x=>x<=c.getD f 0) (fun x h4 h5=>?_) (f+p) oO oO;rw[g,aAa oO];by_cases e2:x=f
  .rw[aAj e2];exact hH.top q oO
  .rw[aAa e2];have:=hH.top (x-f) oO;simp_all
 .rw[aAa oO,aAa oO];by_cases e2:p<j
  .refine hp.all (fun x=>x<=c.getD (f+q) 0) (fun x h4 h5=>?_) (f+p) oO oO;rw[g,aAa oO];by_cases e3:x=f
   .grind
   .rw[aAa e3];have:=ho (x-f) q oO oO h3;simp_all
  .rw[hp.out (f+p) oO,g];by_cases e3:p=j
   .rw[aAj oO];have:=ho 0 q oO oO h3;omega
   grind
theorem Pn{a m b:Nat}{d:List Int}(h1:Srt a m d)(h2:Srt (m+1) b d)(h3:∀ p,a<=p->p<m->d.getD p 0<=d.getD m 0)(h4:∀ q,m<q->q<b->d.getD m 0<=d.getD q 0):Srt a b d:=by
 intro p q k1 k2 k3;rcases aCs p m with e|e|e
 .rcases aCs q m with e'|e'|e'
  .exact h1 p q k1 k2 e'
  .grind
  grind
 .grind
 .exact h2 p q oO k2 k3
def Lo(P:Int->Bool)(c:List Int)(a m:Nat):Prop:=∀ p,a<p->p<m->P (c.getD p 0)=true
def Hi(P:Int->Bool)(c:List Int)(m b:Nat):Prop:=∀ p,m<p->p<b->P (c.getD p 0)=false
theorem Lo.more{P:Int->Bool}{c:List Int}{a m:Nat}(h:Lo P c a m)(hm:P (c.getD m 0)=true):Lo P c a (m+1):=by
 intro p h1 h2;by_cases e:p=m
 .grind
 .exact h p h1 oO
theorem Hi.more{P:Int->Bool}{c:List Int}{m b:Nat}(h:Hi P c m b)(h0:0<m)(hm:P (c.getD m 0)=false):Hi P c (m-1) b:=by
 intro p h1 h2;by_cases e:p=m
 .grind
 .exact h p oO h2
theorem Lo.swp{P:Int->Bool}{c:List Int}{a k m:Nat}(h:Lo P c a k)(hkm:k<m)(hm:m<c.length)(hp:P (c.getD m 0)=true):Lo P (sw c k m) a (k+1):=by
 intro p h1 h2;rw[cS _ _ _ _ oO oO,aAa oO];by_cases e:p=k
 .grind
 .rw[aAa e];exact h p h1 oO
theorem Hi.swp{P:Int->Bool}{c:List Int}{k m b:Nat}(h:Hi P c m b)(hkm:k<m)(hm:m<c.length)(hp:P (c.getD k 0)=false):Hi P (sw c k m) (m-1) b:=by
 intro p h1 h2;rw[cS _ _ _ _ oO oO];by_cases e:p=m
 .grind
 .rw[aAa e,aAa oO];exact h p oO h2
def RN(P:Int->Bool)(c:List Int)(a m b:Nat):Prop:=(∀ p,a<=p->p<m->P (c.getD p 0)=true)/\(∀ p,m<p->p<b->P (c.getD p 0)=false)
def HH(c:List Int)(a m b:Nat)(x:Int):Prop:=(∀ p,a<=p->p<m->c.getD p 0<=x)/\(∀ p,m<=p->p<b->x<c.getD p 0)
def cT(c:List Int)(a m b:Nat):Prop:=RN (fun v=>decide (v<c.getD m 0)) c a m b
theorem yR{P:Int->Bool}{c:List Int}{a m b:Nat}(h1:Lo P c a (m+1))(h2:Hi P c m b)(ham:a<=m)(hmb:m<b)(hb:b<=c.length):RN P (sw c m a) a m b/\(sw c m a).getD m 0=c.getD a 0:=by
 refine⟨⟨fun p k1 k2=>?_,fun p k1 k2=>?_⟩,?_⟩
 .rw[cS _ _ _ _ oO oO];by_cases e:p=a
  .rw[aAj e];exact h1 m oO oO
  .rw[aAa e,aAa oO];exact h1 p oO oO
 .rw[cS _ _ _ _ oO oO,aAa oO,aAa oO];exact h2 p k1 k2
 grind [cS]
theorem Rm{l:List Int}(h:Srt 0 l.length l):l.Pairwise (·<=·):=by
 refine aAC.2 fun p q hp hq hpq=>?_;have:=h p q oO hpq hq
 grind
theorem Kl{l m:List Int}(h:l.Pairwise (·<=·))(k:m.Pairwise (·<=·))(hp:l.Perm m):l=m:=
 hp.eq_of_pairwise (fun a b _ _ h1 h2=>by omega) h k
end Pl
namespace Rg
open Go Go.RowKit Go.Shelf
attribute [local go_sem] Oper.semAt_some
def upto(zs:List Int)(k:Nat):List Int:=(List.range k).map fun j=>zs[j]?.getD 0
theorem EV(zs:List Int)(k:Nat):upto zs (k+1)=upto zs k++[zs[k]?.getD 0]:=by simp[upto,aDM]
theorem Gn(zs:List Int)(k:Nat):(upto zs k).length=k:=by simp[upto]
theorem SU(zs:List Int):upto zs zs.length=zs:=by
 apply aDY
 .simp[upto]
 grind [upto]
set_option maxRecDepth 100000 in
theorem KW(F:Fence)(n:Nat)(h7:F.fn 204)(V3:F.round=none)(hn:1<=n)(l Bs Y5 b off len cap:Nat)(zs:List Int)(hlen:len<=1048576)(hb:b<Y5)(J Jx:List Int->World->Prop)
 (hY:∀ pre x W,J pre W->pre.length<len->YieldAt F (n-1) prog l #[.int .u32 x] W fun e W'=>
   (e=.returned (.bool true)/\J (pre++[x]) W'/\Below Y5 W W')\/(e=.returned (.bool false)/\Jx (pre++[x]) W'))
 (W:World) (hBs:W.cell? ⟨Bs,0,none⟩=some (.slice (some ⟨b,off,none⟩) len cap)) (hc:∀ j,j<len->W.cell? ⟨b,off+j,none⟩=some (.int .u32 (zs[j]?.getD 0))) (h0:J [] W):
 CallsIn F n prog 204 #[.func (.yield l) #[] #[],.pointer (some ⟨Bs,0,none⟩)] W fun e W'=>(∃ v,e=.returned v)/\
  ((∃ ys,ys=upto zs len/\J ys W')\/(∃ pre,(∃ k,k<=len/\pre=upto zs k)/\Jx pre W')):=by
 refine callsIn_of_wp func204 rfl h7 ?_ V3;simp only[ntmps204,aBc,List.length_cons,List.length_nil,Nat.reduceAdd,Nat.reduceSub,aBC,Array.replicate_zero,aBL,aBF,List.nil_append,List.cons_append]
 gi_wp2
 gi_loopw [7] (fun i wr=>∃ k:Nat,k<=len/\i=.int .i64 k/\J (upto zs k) wr/\Below Y5 W wr)
  (fun i _=>len-(intOf i).toNat)
 case atStart=>exact⟨0,aBI _,rfl,h0,Below.refl _ _⟩
 case round=>
  obtain⟨k,hk,rfl,hJs,M6⟩:=hrel;have hcx:k<len->wr.cell? ⟨b,off+k,none⟩=some (.int .u32 (zs[k]?.getD 0)):=fun h=>(M6.cell (p:=⟨b,off+k,none⟩) hb).trans (hc k h);by_cases dA:k<len
  .obtain⟨fn,tmps,assign,body,hy,hR⟩:=hY _ (zs[k]?.getD 0) wr hJs (by grind [Gn]);have hcx':=hcx dA
   gi_wp2
   refine hR.mono ?_;rintro e W3 (⟨rfl,hJ3,o8⟩|⟨rfl,hJx3⟩)
   .gi_wp2
    go_roundw
    case rel=>exact⟨k+1,oO,sS,by grind [EV],M6.trans o8⟩
    grind [intOf]
   .gi_wp2
    refine bodyPost_ret (results_none rfl _ _ _) rfl ?_;exact⟨⟨_,rfl⟩,.inr ⟨_,⟨k+1,oO,(EV _ _).symm⟩,hJx3⟩⟩
  .obtain rfl:k=len:=oO
   gi_wp2
   go_end0
   grind
set_option maxRecDepth 100000 in
theorem Cf(F:Fence)(n:Nat)(h7:F.fn 204)(V3:F.round=none)(l Bs:Nat)(J:List Int->World->Prop)(W:World)(A:Option Addr)(cap:Nat)(hBs:W.cell? ⟨Bs,0,none⟩=some (.slice A 0 cap))(h0:J [] W):
 CallsIn F n prog 204 #[.func (.yield l) #[] #[],.pointer (some ⟨Bs,0,none⟩)] W fun e W'=>(∃ v,e=.returned v)/\J [] W':=by
 refine callsIn_of_wp func204 rfl h7 ?_ V3;simp only[ntmps204,aBc,List.length_cons,List.length_nil,Nat.reduceAdd,Nat.reduceSub,aBC,Array.replicate_zero,aBL,aBF,List.nil_append,List.cons_append]
 gi_wp2
 gi_loopw [7] (fun i wr=>i=.int .i64 0/\J [] wr) (fun _ _=>0)
 case atStart=>grind
 case round=>
  obtain⟨rfl,hJs⟩:=hrel
  gi_wp2
  go_end0
  grind
def Ints(Y5:Nat)(W:World)(sv:Value)(zs:List Int):Prop:=
 (zs=[]/\∃ A cap,sv=.slice A 0 cap)\/∃ b off cap,sv=.slice (some ⟨b,off,none⟩) zs.length cap/\b<Y5/\∀ j,j<zs.length->W.cell? ⟨b,off+j,none⟩=some (.int .u32 (zs[j]?.getD 0))
theorem Ints.below{Y5:Nat}{A B:World}(h:Below Y5 A B){sv:Value}{zs:List Int}:Ints Y5 A sv zs->Ints Y5 B sv zs
 |.inl e=>.inl e
 |.inr ⟨b,off,cap,e,hb,hc⟩=>.inr ⟨b,off,cap,e,hb,fun j hj=>(h.cell (p:=⟨b,off+j,none⟩) hb).trans (hc j hj)⟩
theorem FD(F:Fence)(n:Nat)(h7:F.fn 204)(V3:F.round=none)(hn:1<=n)(Bs Y5:Nat)(sv:Value)(zs:List Int)(hlen:zs.length<=1048576)(w:World)(hBs:Bs<w.heap.size)(hn₀:Y5<=w.heap.size)
 (hc:w.cell? ⟨Bs,0,none⟩=some sv) (hI:Ints Y5 w sv zs):
 SeqStopsK F n prog 204 #[.pointer (some ⟨Bs,0,none⟩)] (fun x:Int=>#[Value.int .u32 x]) (Below Y5) (fun ys=>ys=zs) (fun _=>True) zs.length w:=fun l J Jx W hW _ _ hY h0=>by
 have hc':=(hW.cell (p:=⟨Bs,0,none⟩) hBs).trans hc;rcases hI.below (hW.mono hn₀)with⟨rfl,A,cap,rfl⟩|⟨b,off,cap,rfl,hb,P9⟩
 .exact(Cf F n h7 V3 l Bs J W A cap hc' h0).mono fun e W' ⟨he,hj⟩=>⟨he,.inl ⟨_,rfl,hj⟩⟩
 .refine(KW F n h7 V3 hn l Bs Y5 b off zs.length cap zs hlen hb J Jx hY W hc' P9 h0).mono ?_
  grind [SU]
theorem TT:(prog.info? 34).map (fun i=>(i.zero,i.size,i.bytes))=some (some (.int .u32 0),1,4):=by kernel_rfl
set_option maxRecDepth 100000 in
theorem GO(F:Fence)(n:Nat)(h3:F.fn 147)(h7:F.fn 204)(V3:F.round=none)(hn:3<=n)(Bs:Nat)(sv:Value)(zs:List Int)(hlen:zs.length<=1048576)(w:World)(hBs:Bs<w.heap.size)
 (hc:w.cell? ⟨Bs,0,none⟩=some sv) (hI:Ints w.heap.size w sv zs):
 CallsIn F n prog 147 #[.slice none 0 0,.func (.func 204) #[] #[.pointer (some ⟨Bs,0,none⟩)]] w fun e W'=>∃ v,e=.returned v/\W'.ownsRow w.heap.size 34 1 v zs.length (zs.map (Value.int .u32))/\Below w.heap.size w W':=by
 have h1:1<=n:=oO;obtain⟨i0,hi,hz0,hz1,hz2⟩:=info_parts TT;refine callsIn_of_wp_marks func147 rfl h3 ?_ V3;simp only[ntmps147,aBc,List.length_cons,List.length_nil,Nat.reduceAdd,Nat.reduceSub,aBC,Array.replicate_zero,aBL,aBF,List.nil_append,List.cons_append]
 gi_wp2
 have bO:=Boxed.new w 22 (.slice none 0 0);have hB0:Below w.heap.size w (w.alloc (.cells #[.slice none 0 0] 22)):=(Below.refl _ w).alloc (aAl _) _
 refine wpIn_rangeFunc_ownG V3 h1 (gf:=204) (lb:=#[.pointer (some ⟨Bs,0,none⟩)]) rfl h7 (enters_of func204 (by kernel_rfl) rfl)
  (FD F (n-1) h7 V3 oO Bs w.heap.size sv zs hlen _ (by simp;omega) sS ((hB0.cell (p:=⟨Bs,0,none⟩) hBs).trans hc) (hI.below hB0)) belowK_t (belowK_b sS) (Below.refl _ _) (fun _=>rfl)
  (fun pre W=>(∃ v,Boxed W w.heap.size 22 v/\W.ownsRow w.heap.size 34 1 v pre.length (pre.map (Value.int .u32))/\True)/\Below w.heap.size w W)
  (fun _ _ _=>False)
  (OwnFrom.and (Own.from (holdsRow_own w.heap.size w.heap.size 22 34 1 (fun pre:List Int=>pre.length) (fun pre:List Int=>pre.map (Value.int .u32)) (fun _ _=>True)) _) (ownFrom_below (aAl _) sS))
  (fun _ _ _ _ _ hs _ _=>hs)
  ⟨⟨_,bO,World.ownsRow_nil _ _ _ _,trivial⟩,hB0⟩
  (fun x=>{ tmps:=#[.slice none 0 0,.func (.func 204) #[] #[.pointer (some ⟨Bs,0,none⟩)],.pointer (some ⟨w.heap.size,0,none⟩),undef,.slice none 0 0,.int .u32 x,.func (.func 204) #[] #[.pointer (some ⟨Bs,0,none⟩)],.int .u32 x,undef,undef,undef,undef,undef],defers:=[] }) ?assign ?body ?done ?stop
 case assign=>
  intro l x W K hK
  gi_wp2
  omega
 case body=>
  rintro l pre x W ⟨⟨v,hv,Tf,_⟩,hB⟩ dA;have hc:=hv.cell
  gi_wp2_with (gi_at_builtin;refine wpListIn_append_own _ rfl _ _ 22 rfl w.heap.size 34 i0 (.int .u32 0) 1 4 underlying22 hi hz0 hz1 hz2 rfl (by decide) _ _ _ rfl (Tf.alloc _) ⟨W.heap.size,0,none⟩ 1 1 [.int .u32 x] rfl rfl (cell_one_new _ _ _) (by simp[Value.oneCell']) (by grind [maxLen]) oO (by have:=hB.size;simp;omega) ?_;intro v' w1 hown' V8 _;obtain⟨g',cap',rfl⟩:=ownsRow_succ hown';obtain⟨hv1,hv2,hr2,u6,X6⟩:=hv.appended (by decide) Tf hB.size (aAl _) hown' V8;have hc1:=hv1.cell;have hf1:=hv1.frozen)
  exact⟨u6.from _,X6,⟨_,hv2,by grind,trivial⟩,hB.trans X6⟩
 case done=>
  rintro D ys W hD rfl ⟨⟨v,hv,Tf,_⟩,hB⟩ hK;have hc:=hv.cell
  gi_wp2
  refine⟨sS,.inl ⟨_,_,rfl,run_takeDeferred hK,?_⟩⟩;exact⟨_,results_tmp rfl _ _ _,v,rfl,ownsRow_putObj Tf _ hK rfl,hB.trans (belowK_b (w:=w) (aAl _) W D _ _ (by simp at hD;omega) hK rfl rfl)⟩
 grind
set_option maxRecDepth 100000 in
theorem JY(F:Fence)(n:Nat)(h2:F.fn 104)(h3:F.fn 147)(h7:F.fn 204)(V3:F.round=none)(hn:4<=n)(Bs:Nat)(sv:Value)(zs:List Int)(hlen:zs.length<=1048576)(w:World)(hBs:Bs<w.heap.size)
 (hc:w.cell? ⟨Bs,0,none⟩=some sv) (hI:Ints w.heap.size w sv zs):
 CallsIn F n prog 104 #[.func (.func 204) #[] #[.pointer (some ⟨Bs,0,none⟩)]] w fun e W'=>∃ v,e=.returned v/\W'.ownsRow w.heap.size 34 1 v zs.length (zs.map (Value.int .u32))/\Below w.heap.size w W':=by
 have h1:1<=n:=oO;refine callsIn_of_wp func104 rfl h2 ?_ V3;simp only[ntmps104,aBc,List.length_cons,List.length_nil,Nat.reduceAdd,Nat.reduceSub,aBC,Array.replicate_zero,aBL,aBF,List.nil_append,List.cons_append]
 gi_wp2_with (gi_at_call 147;refine(GO F (n-1) h3 h7 V3 oO Bs sv zs hlen _ hBs hc hI).mono ?_;rintro e w' ⟨v,rfl,Tf,hbel⟩)
 go_ret
 simp_all
end Rg
namespace Aw
open Go Go.RowKit
def tw(d:Int):Int:=if d % 2=0 then d+1 else d-1
theorem wrap_u32(n:Int):IntKind.u32.wrap n=n % 4294967296:=by simp[IntKind.wrap,IntKind.signed,IntKind.bits]
theorem wrap_i64(n:Int)(h1 : -9223372036854775808<=n)(h2:n<=9223372036854775807):IntKind.i64.wrap n=n:=by
 simp only[IntKind.wrap,IntKind.signed,IntKind.bits];simp
 split<;>omega
theorem TX(a:Int)(e:Int)(h0:0<=a)(h1:a<4294967296)(ha:a % 2=0)(he:e=0\/e=1):gor .u32 a e=a+e:=by
 unfold gor IntKind.bits;obtain⟨n,rfl⟩:=aCO h0;rw[wrap_u32,BitVec.toNat_or];have e1:(BitVec.ofInt 32 (n:Int)).toNat=n:=by rw[BitVec.ofInt_natCast,aDq];exact aAG oO
 rw[e1];rcases he with rfl|rfl
 .simp;omega
 .have e2:(BitVec.ofInt 32 1).toNat=1:=by decide
  have:n ||| 1=n+1:=by
   apply aBR;intro j;cases j with
   |zero=>simp;omega
   |succ j=>rw[Nat.testBit_or];simp[aDZ];congr 1;omega
  rw[e2,this];omega
theorem Uq(e:Int):wM .i64 e 1=e % 2:=by
 show IntKind.i64.wrap ((BitVec.ofInt 64 e &&& BitVec.ofInt 64 1).toNat:Int)=_;have e2:(BitVec.ofInt 64 1).toNat=1:=by decide
 rw[BitVec.toNat_and,e2,Nat.and_one_is_mod,wrap_i64 _ oO oO,BitVec.toNat_ofInt];omega
theorem Vh(a:Int):FT .u32 a 1=a*2 % 4294967296:=by unfold FT;rw[wrap_u32];rfl
theorem Of(id e:Int)(st:St):
 aB prog 93 [u id,i e] st fun r st'=>r=u (id*2 % 4294967296+e % 2)/\st'=st:=by
 refine zN func93 ntmps93 [.tmp 4] ?_;refine xw0 ?_;rw[Vh,Uq,wrap_u32,TX _ _ oO oO oO oO];omega
end Aw
namespace Aw
open Go Go.RowKit Pl
theorem qN(k:Nat)(h:k<9223372036854775807):IntKind.i64.wrap ((k:Int)+1)=((k+1:Nat):Int):=by rw[wrap_i64 _ oO oO];omega
theorem gZ(l:List Int)(k:Nat)(hk:k<l.length):(us l).drop k=u l[k]::us (l.drop (k+1)):=by rw[us,<- aCQ,aAN hk];rfl
theorem qG(l:List Int)(k:Nat)(hk:k<l.length):(us l).drop k=u (l.getD k 0)::us (l.drop (k+1)):=by rw[gZ l k hk];simp[hk]
theorem xY{l:List Int}{d:Int}(h:d∈l):gi l d=((l.idxOf d:Nat):Int):=by unfold gi;rw[aAj h]
theorem GD{l:List Int}{d:Int}(h:¬d∈l):gi l d = -1:=by unfold gi;rw[aAa h]
theorem Ql(a b c:Nat)(h:a % b=c):((a:Int).tmod (b:Int))=(c:Int):=by rw[<- h];exact(Int.ofNat_tmod a b).symm
theorem aW(l:List Int)(j:Nat)(hj:j<l.length):l.getD j 0=l[j]:=by rw[aAg,aAh hj];rfl
theorem St.ext'{a b:St}(h:a.next=b.next)(k:∀ x,a.H x=b.H x):a=b:=by cases a;cases b;simp only at h k;subst h;congr;funext x;exact k x
def small(l:List Int):Prop:=l.length<=1048576
theorem Index(l:List Int)(t:Nat)(x:Int)(st:St)(hl:small l):
 aB prog 40 [.sl t l.length (us l),u x] st fun r st'=>r=i (gi l x)/\st'=st:=by
 unfold small at hl;refine zN func40 ntmps40 [.tmp 4] ?_;refine xw0 ?_;refine qL (fun n fr st'=>∃ k:Nat,k<=l.length/\n=l.length-k/\fr 0=.sl t l.length (us l)/\fr 1=u x/\fr 7=i l.length/\fr 8=i k/\st'=st/\∀ j (hj:j<l.length),j<k->l[j]≠x) l.length ?_ ?_
 .exact⟨0,oO,oO,sS,sS,sS,sS,rfl,fun j _ h=>by omega⟩
 rintro n fr st' ⟨k,hk,rfl,h0,h1,h7,h8,rfl,x9⟩ JJ hJJ;by_cases dA:k<l.length
 .have hd:=gZ l k dA;have hw:=qN k oO
  (repeat' (first|apply qS|apply qB|refine qK (zZ ?_)|(refine qR (zZ ?_);simp[h0,h1,h7,h8,dA,hd,hw])|(apply qC;simp[h0,h1,h7,h8,dA,hd,hw];(try with_reducible refine⟨?_,?_⟩)<;>(try with_reducible intro hc))|(refine zE ?_;intro J hJ;simp[h0,h1,h7,h8,dA,hd,hw];refine zJ hJ ?_)))
  .exact(LZ dA hc.symm (fun j hj=>x9 j oO hj)).symm
  .refine hJJ _ _ _ ?_ ⟨k+1,oO,rfl,sF1 h0,sF1 h1,sF1 h7,sS,rfl,fun j hj hjk=>?_⟩
   .omega
   .rcases aAM j k with h|h
    .exact x9 j hj h
    .obtain rfl:j=k:=oO;exact fun h=>hc h.symm
 .refine xw5 h0 h1 h7 h8 dA ?_;exact(LM (fun j hj=>x9 j hj oO)).symm
theorem Yo(l:List Int)(t:Nat)(x:Int)(st:St)(hl:small l):
 aB prog 72 [.sl t l.length (us l),u x] st fun r st'=>r=i (gi l x)/\st'=st:=by
 unfold small at hl;refine zN func72 ntmps72 [.tmp 4] ?_;refine xw0 ?_;refine qL (fun n fr st'=>∃ k:Nat,k<=l.length/\n=l.length-k/\fr 7=.sl t l.length (us l)/\fr 1=u x/\fr 8=i l.length/\fr 9=i k/\st'=st/\∀ j (hj:j<l.length),j<k->l[j]≠x) l.length ?_ ?_
 .exact⟨0,oO,oO,sS,sS,sS,sS,rfl,fun j _ h=>by omega⟩
 rintro n fr st' ⟨k,hk,rfl,h0,h1,h7,h8,rfl,x9⟩ JJ hJJ;by_cases dA:k<l.length
 .have hd:=gZ l k dA;have hw:=qN k oO
  (repeat' (first|apply qS|apply qB|refine qK (zZ ?_)|(refine qR (zZ ?_);simp[h0,h1,h7,h8,dA,hd,hw])|(apply qC;simp[h0,h1,h7,h8,dA,hd,hw];(try with_reducible refine⟨?_,?_⟩)<;>(try with_reducible intro hc))|(refine zE ?_;intro J hJ;simp[h0,h1,h7,h8,dA,hd,hw];refine zJ hJ ?_)))
  .exact(LZ dA hc (fun j hj=>x9 j oO hj)).symm
  .refine hJJ _ _ _ ?_ ⟨k+1,oO,rfl,sF1 h0,sF1 h1,sF1 h7,sS,rfl,fun j hj hjk=>?_⟩
   .omega
   .rcases aAM j k with h|h
    .exact x9 j hj h
    .obtain rfl:j=k:=oO;exact hc
 .refine xw5 h0 h1 h7 h8 dA ?_;exact(LM (fun j hj=>x9 j hj oO)).symm
theorem LR(l:List Int)(h:0<l.length):hdL (us l)=u l[0]:=by
 cases l with
 |nil=>simp at h
 |cons a l=>rfl
theorem Min(l:List Int)(t:Nat)(st:St)(hl:small l)(h0:l≠[]):
 aB prog 106 [.sl t l.length (us l)] st fun r st'=>r=u (mn l)/\st'=st:=by
 unfold small at hl;have M5:0<l.length:=aBh.2 h0;have hd0:=LR l M5;refine zN func106 ntmps106 [.tmp 2] ?_
 (repeat' (first|apply qS|apply qB|refine qK (zZ ?_)|(apply qC;simp[M5,hd0];(try with_reducible refine⟨?_,?_⟩)<;>(try with_reducible intro hc)<;>try (exfalso;omega))|(refine zE ?_;intro J hJ;simp[M5,hd0];refine zJ hJ ?_)))
 refine qL (fun n fr st'=>∃ k:Nat,0<k/\k<=l.length/\n=l.length-k/\fr 0=.sl t l.length (us l)/\fr 4=i k/\fr 3=u (mn (l.take k))/\st'=st) (l.length-1) ?_ ?_
 .refine⟨1,oO,oO,oO,sS,sS,?_,rfl⟩;cases l with
  |nil=>simp at M5
  |cons a l=>simp[mn]
 rintro n fr st' ⟨k,S7,hk,rfl,h0',h4,h3,rfl⟩ JJ hJJ;by_cases dA:k<l.length
 .have hd:=gZ l k dA;have hw:=qN k oO;refine xw6 h0' h3 h4 dA hd hw ?_;refine hJJ _ _ _ ?_ ⟨k+1,oO,oO,rfl,sF1 h0',sS,by simp[Kv l k S7 dA],rfl⟩;omega
 .refine xw4 h0' h3 h4 dA ?_;rw[aAu oO]
theorem wrap_small(n:Int)(h0:0<=n)(h1:n<=9223372036854775807):IntKind.i64.wrap n=n:=wrap_i64 n oO h1
theorem D4(n:Int)(st:St)(h0:0<=n)(h1:n<=4194304):
 aB prog 203 [.nil,i n] st fun r st'=>∃ l cs,r=.ms l 0 0/\st.next<=l/\st'.H l=.box 34 1 cs/\aA st st':=by
 have hw:=wrap_small n h0 oO;have hw':IntKind.i64.wrap 0=0:=by decide
 refine jO 34 1 ?_;refine zN func203 ntmps203 [.tmp 4] ?_;by_cases hp:0<n
 ·(repeat' (first|apply qS|refine qK (zZ ?_)|(refine qR (zZ ?_);simp[hw,hw',hp])|(apply qC;simp[hw,hw',hp];(try with_reducible refine⟨?_,?_⟩)<;>(try with_reducible intro hc)<;>try (exfalso;omega))|(refine zE ?_;intro J hJ;simp[hw,hw',hp];(repeat refine ca ?_);refine zJ hJ ?_)))
  exact aA.new _ _
 ·(repeat' (first|apply qS|refine qK (zZ ?_)|(refine qR (zZ ?_);simp[hw,hw',hp])|(apply qC;simp[hw,hw',hp];(try with_reducible refine⟨?_,?_⟩)<;>(try with_reducible intro hc)<;>try (exfalso;omega))|(refine zE ?_;intro J hJ;simp[hw,hw',hp];refine zJ hJ ?_)))
  exact aA.new _ _
abbrev rows(ls:List (Nat×List Int)):List LV:=ls.map fun p=>.sl p.1 p.2.length (us p.2)
def total(ls:List (Nat×List Int)):Nat:=(ls.map fun p=>p.2.length).sum
def flat(ls:List (Nat×List Int)):List Int:=(ls.map fun p=>p.2).flatten
theorem yL(ls:List (Nat×List Int)):(flat ls).length=total ls:=by
 induction ls with
 |nil=>rfl
 |cons p ls ih=>simp[flat,total,Function.comp_def]at ih ⊢
theorem CT(ls:List (Nat×List Int))(k:Nat)(hk:k<ls.length):total (ls.take (k+1))=total (ls.take k)+ls[k].2.length:=by rw[aAp hk,total,aAv,List.sum_append];simp only[total,aAm,aCL,List.sum_cons,List.sum_nil,Nat.add_zero]
theorem NY(ls:List (Nat×List Int))(k:Nat)(hk:k<ls.length):flat (ls.take (k+1))=flat (ls.take k)++ls[k].2:=by rw[aAp hk,flat,aAv,aBW];simp only[flat,aAm,aCL,List.flatten_cons,List.flatten_nil,aAS]
theorem tF(ls:List (Nat×List Int))(k:Nat):total (ls.take k)<=total ls:=by
 have h:total ls=total (ls.take k)+total (ls.drop k):=by
  conv=>lhs;rw[<- aAz k ls]
  rw[total,aAv,List.sum_append];rfl
 omega
theorem Dx(ls:List (Nat×List Int))(k:Nat)(hk:k<ls.length):(rows ls).drop k=.sl ls[k].1 ls[k].2.length (us ls[k].2)::rows (ls.drop (k+1)):=by rw[rows,<- aCQ,aAN hk];rfl
theorem Ey(a:List Int):(us a).all iM=true:=by simp[us,iM]
theorem UY(ls:List (Nat×List Int))(t:Nat)(st:St)(hn:ls.length<=1048576)(hl:total ls<=4194304):
 aB prog 183 [.sl t ls.length (rows ls)] st fun r st'=>∃ l,r=.ms l 0 (flat ls).length/\st.next<=l/\st'.H l=.box 34 1 (us (flat ls))/\aA st st':=by
 refine zN func183 ntmps183 [.tmp 2] ?_;refine xw0 ?_;refine qL (fun n fr st'=>∃ k:Nat,k<=ls.length/\n=ls.length-k/\fr 0=.sl t ls.length (rows ls)/\fr 9=.sl t ls.length (rows ls)/\fr 10=i ls.length/\fr 11=i k/\fr 3=i (total (ls.take k))/\st'=st) ls.length ?_ ?_
 .exact⟨0,oO,oO,sS,sS,sS,sS,by simp[total],rfl⟩
 rintro n fr st1 ⟨k,hk,rfl,h0,h9,h10,h11,h3,rfl⟩ JJ hJJ;by_cases dA:k<ls.length
 .have hd:=Dx ls k dA;have hw:=qN k oO;have ht:=CT ls k dA;have u7:=tF ls (k+1);have N9:IntKind.i64.wrap ((total (ls.take k):Int)+(ls[k].2.length:Int))=(total (ls.take (k+1)):Int):=by rw[wrap_small _ oO oO];omega
  clear ht
  (repeat' (first|apply qS|apply qB|refine qK (zZ ?_)|(apply qC;simp[h0,h9,h10,h11,h3,dA,hd,hw,N9];(try with_reducible refine⟨?_,?_⟩)<;>(try with_reducible intro hc)<;>try (exfalso;omega))|(refine zE ?_;intro J hJ;simp[h0,h9,h10,h11,h3,dA,hd,hw,N9];(refine zJ hJ ?_;clear hJ J))))
  refine hJJ _ _ _ ?_ ⟨k+1,oO,rfl,sF1 h0,sF1 h9,sF1 h10,sS,sS,rfl⟩;omega
 .have P0:k=ls.length:=oO;have L0:ls.take k=ls:=aAu oO;rw[L0]at h3;clear hJJ
  (refine xj6 h0 h9 h10 h11 h3 dA ?_;intro J hJ)
  refine qF (D4 (total ls) _ oO oO) ?_;rintro r st' ⟨l0,cs0,rfl,hl0,hH0,j8⟩;refine nL hJ h0 ?_;refine Ku 0 hH0 ?_;refine qL (fun n fr st2=>∃ k:Nat,k<=ls.length/\n=ls.length-k/\fr 25=.sl t ls.length (rows ls)/\fr 26=i ls.length/\fr 27=i k/\∃ l,fr 6=.ms l 0 (flat (ls.take k)).length/\st2.H l=.box 34 1 (us (flat (ls.take k)))/\st1.next<=l/\aA st1 st2) ls.length ?_ ?_
  .exact⟨0,oO,oO,sF1 h0,sS,sS,l0,by simp[flat],by simp[flat],hl0,j8.set hl0 _⟩
  clear h0 h9 h10 h11 h3 dA hH0 j8 hl0 fr hk P0 L0;rintro n fr st2 ⟨k,hk,rfl,h25,h26,h27,l,h6,hH,hlt0,j8⟩ JJ hJJ;by_cases dA:k<ls.length
  .have hd:=Dx ls k dA;have hw:=qN k oO;have ht:=CT ls k dA;have u7:=tF ls (k+1);have hf:=NY ls k dA;have hfl:=yL (ls.take (k+1));have hfl':=yL (ls.take k);have M9:=Ey (ls[k].2)
   (repeat' (first|apply qS|apply qB|refine qK (zZ ?_)|(apply qC;simp[h25,h26,h27,h6,hH,dA,hd,hw,M9])|(refine zE ?_;intro J hJ;simp[h25,h26,h27,h6,hH,dA,hd,hw,M9];(repeat refine ca ?_);(refine zJ hJ ?_;clear hJ J))))
   refine hJJ _ _ _ ?_ ⟨k+1,oO,rfl,sF1 h25,sF1 h26,sS,st2.next,?_,?_,j8.next,(j8.set hlt0 _).trans (aA.new _ _)⟩
   .omega
   .simp[hf]
   .simp[hf]
  .have P0:k=ls.length:=oO;have L0:ls.take k=ls:=aAu oO;rw[L0]at h6 hH;clear hJJ;refine xw5 h25 h26 h27 h6 dA ?_;exact⟨hlt0,hH,j8⟩
theorem YL(ls:List (Nat×List Int))(t:Nat)(st:St)(hn:ls.length<=1048576)(hl:total ls<=4194304):
 aB prog 183 [.sl t ls.length (rows ls)] st fun r st'=>r=.sl 0 (flat ls).length (us (flat ls))/\aA st st':=by
 refine cD ((UY ls t st hn hl).mono ?_);rintro r st' ⟨l,rfl,dA,hH,hk⟩;exact⟨l,_,_,1,_,rfl,hH,sS,by simp[aAu],hk.set dA _⟩
theorem Yb(a:List Int)(t:Nat)(st:St)(hl:small a):
 aB prog 20 [.sl t a.length (us a)] st fun r st'=>∃ l,r=.ms l 0 a.length/\st.next<=l/\st'.H l=.box 34 1 (us a)/\aA st st':=by
 unfold small at hl;refine jO 34 1 ?_;have M9:=Ey a;refine zN func20 ntmps20 [.tmp 2] ?_
 (repeat' (first|apply qS|refine qK (zZ ?_)|(refine qR (zZ ?_);simp[M9])|(apply qC;simp[M9])|(refine w_e [5] ?_;intro J hJ;simp only[];simp[M9];(repeat refine ca ?_);((try with_reducible refine⟨?_,?_⟩)<;>(try with_reducible intro u9)<;>refine zJ hJ ?_<;>clear hJ J<;>try subst u9))))
 .exact((aA.new _ _).set (aAl _) _).trans (aA.new _ _)
 .exact aA.new _ _
theorem Qz(a:List Int)(t:Nat)(st:St)(hl:small a):
 aB prog 20 [.sl t a.length (us a)] st fun r st'=>r=.sl 0 a.length (us a)/\aA st st':=by
 refine cD ((Yb a t st hl).mono ?_);rintro r st' ⟨l,rfl,dA,hH,hk⟩;exact⟨l,_,_,1,_,rfl,hH,sS,by simp[aAu],hk.set dA _⟩
def nx(l:List Int)(d:Int):Int:=if d∈l then l.getD ((l.idxOf d+1) % l.length) 0 else 0
def pv(l:List Int)(d:Int):Int:=if d∈l then l.getD ((l.idxOf d+(l.length-1)) % l.length) 0 else 0
theorem PX(l:List Int)(t:Nat)(d:Int)(st:St)(hl:small l):
 aB prog 158 [.sl t l.length (us l),u d] st fun r st'=>r=u (nx l d)/\st'=st:=by
 refine zN func158 ntmps158 [.tmp 4] ?_
 (refine xj0 ?_;intro J hJ)
 refine qE (Yo l t d _ hl) (by simp[]) ?_;rintro r st' ⟨rfl,rfl⟩;unfold small at hl;by_cases hd:d∈l
 .have hi:=aAO hd;have u9:=aBr hd;rw[xY hd];have M6:nx l d=l.getD ((l.idxOf d+1) % l.length) 0:=by unfold nx;rw[aAj hd]
  generalize hk:l.idxOf d=k at *;have hw:=qN k oO;generalize j7:k+1=k1 at *;by_cases he:k1=l.length
  .have W5:=LR l oO;rw[he,aDr]at M6;rw[he]at hw;have M5:0<l.length:=oO
   (repeat' (first|apply qS|refine qK (zZ ?_)|(refine qR (zZ ?_);simp[hw,W5,he,M5,M6,u9])|(apply qC;simp[hw,W5,he,M5,M6,u9];(try with_reducible refine⟨?_,?_⟩)<;>(try with_reducible intro hc)<;>try (exfalso;omega))|((first|(refine zE ?_;intro J hJ)|(apply cI));simp[hw,W5,he,M5,M6,u9];(refine zJ hJ ?_;clear hJ J))))
  .rw[aAG oO]at M6;have dA:k1<l.length:=oO;have W5:=qG l k1 dA;have c7:((k1:Int)==(l.length:Int))=false:=by simp;omega
   (repeat' (first|apply qS|refine qK (zZ ?_)|(refine qR (zZ ?_);simp[hw,W5,c7,dA,M6,u9])|(apply qC;simp[hw,W5,c7,dA,M6,u9];(try with_reducible refine⟨?_,?_⟩)<;>(try with_reducible intro hc)<;>try (exfalso;omega))|((first|(refine zE ?_;intro J hJ)|(apply cI));simp[hw,W5,c7,dA,M6,u9];(refine zJ hJ ?_;clear hJ J))))
 .rw[GD hd];have M6:nx l d=0:=by unfold nx;rw[aAa hd]
  exact PN hJ M6
theorem iD{t:List Int}(hn:t.Nodup){j:Nat}(hj:j<t.length):nx t t[j]=t[(j+1) % t.length]'(aBG _ oO):=by unfold nx;rw[aAj (aAE hj),hn.idxOf_getElem j hj,aW _ _ (aBG _ oO)]
theorem KQ{t:List Int}{d:Int}(hd:d∈t):nx t d∈t:=by unfold nx;have:0<t.length:=aEk hd;rw[aAj hd,aW _ _ (aBG _ this)];exact aAE _
theorem RD{t:List Int}(hn:t.Nodup){d e:Int}(hd:d∈t)(he:e∈t)(h:nx t d=nx t e):d=e:=by
 obtain⟨j,hj,rfl⟩:=aAA hd;obtain⟨k,hk,rfl⟩:=aAA he;rw[iD hn hj,iD hn hk]at h;have h1:=congrArg t.idxOf h;rw[hn.idxOf_getElem,hn.idxOf_getElem]at h1;have h2:j=k:=by
  rcases aAM (j+1) t.length with a|a
  .rw[aAG a]at h1;rcases aAM (k+1) t.length with b|b
   .rw[aAG b]at h1;omega
   .rw[show k+1=t.length by omega,aDr]at h1;omega
  .rw[show j+1=t.length by omega,aDr]at h1;rcases aAM (k+1) t.length with b|b
   .rw[aAG b]at h1;omega
   .omega
 subst h2;rfl
theorem Zp{t:List Int}(hn:t.Nodup){j:Nat}(hj:j<t.length)(k:Nat):Eu.it (nx t) k t[j]=t[(j+k) % t.length]'(aBG _ oO):=by
 induction k with
 |zero=>simp only[Eu.it,Nat.add_zero,aAG hj]
 |succ k ih=>
  rw[Eu.bT,ih,iD hn]
  congr 1
  rw[Nat.mod_add_mod];rfl
theorem JT{t:List Int}(hn:t.Nodup){d e:Int}(hd:d∈t)(he:e∈t):Eu.Orb (nx t) d e:=by
 obtain⟨j,hj,rfl⟩:=aAA hd;obtain⟨k,hk,rfl⟩:=aAA he;refine⟨t.length-j+k,?_⟩;rw[Zp hn hj]
 congr 1
 rw[show j+(t.length-j+k)=t.length+k by omega,Nat.add_mod_left,aAG hk]
theorem from_(l:List Int)(t k:Nat)(st:St)(hl:small l)(hk:k<=l.length):
 aB prog 149 [.sl t l.length (us l),i k] st fun r st'=>r=.sl 0 l.length (us (rt l k))/\aA st st':=by
 unfold small at hl;refine zN func149 ntmps149 [.tmp 4] ?_;refine xw1 hk ?_
 (refine Om nK [] 6 (by kernel_rfl) (by kernel_rfl) rfl rfl ?_;intro J hJ;simp[hk];skip;skip)
 refine qE (YL [(0,l.drop k),(0,l.take k)] st.next _ sS (by simp[total];omega)) (by simp[aAu,aDm hk]) ?_;rintro r st' ⟨rfl,j8⟩;have hf:flat [(0,l.drop k),(0,l.take k)]=rt l k:=by simp[flat,rt]
 rw[hf,nY];refine dQ hJ ?_;exact(aA.new _ _).trans j8
theorem Rp(l:List Int)(t:Nat)(st:St)(hl:small l):
 aB prog 110 [.sl t l.length (us l)] st fun r st'=>r=.sl 0 l.length (us (nrm l))/\aA st st':=by
 refine yH ?_;refine zN func110 ntmps110 [.tmp 2] ?_;cases l with
 |nil=>refine xw0 ?_;exact⟨by decide,aA.refl _⟩
 |cons a l'=>
  (repeat' (first|apply qS|refine qK (zZ ?_)|(apply qC;simp[];(try with_reducible refine⟨?_,?_⟩)<;>(try with_reducible intro hc)<;>try (exfalso;omega))|(refine zE ?_;intro J hJ;simp[];(try (refine zJ hJ ?_;clear hJ J)))))
  refine qE (Min (a::l') t _ hl sS) (by simp[]) ?_;rintro r st' ⟨rfl,rfl⟩;refine dQ hJ ?_;refine qE (Index (a::l') t (mn (a::l')) _ hl) (by simp[]) ?_;rintro r st' ⟨rfl,rfl⟩;refine dQ hJ ?_;have hg:gi (a::l') (mn (a::l'))=(((a::l').idxOf (mn (a::l')):Nat):Int):=by unfold gi;rw[aAj (nA sS)]
  rw[hg];refine qE (from_ (a::l') t ((a::l').idxOf (mn (a::l'))) _ hl aCH) (by simp[]) ?_;rintro r st' ⟨rfl,j8⟩;refine dQ hJ ?_;exact⟨rfl,j8⟩
def ins(l:List Int)(b:Int)(m:List Int):List Int:=(if b∈l then l.take (l.idxOf b+1)++m++l.drop (l.idxOf b+1)else l++m)
def lat(l:List Int)(k:Nat):Nat:=(l.take k).idxOf (mn (l.take k))
theorem YA(l:List Int)(k:Nat)(hk:k<l.length):lat l k<l.length:=by unfold lat;have:=aCH (a:=mn (l.take k)) (l:=l.take k);simp at this;omega
theorem Ut(l:List Int)(k:Nat)(h0:0<k)(hk:k<=l.length):l.getD (lat l k) 0=mn (l.take k):=by
 have c7:l.take k≠[]:=by intro h;have:=congrArg List.length h;rw[aAw,List.length_nil]at this;omega
 have h1:=aAO (nA c7);have h2:(l.take k)[(l.take k).idxOf (mn (l.take k))]=mn (l.take k):=aBu h1;rw[aBK]at h2;unfold lat;rw[aAw]at h1;rw[aAg,aAh oO];exact h2
theorem Qg(l:List Int)(k:Nat)(hk:k<l.length):lat l (k+1)=if l.getD k 0<l.getD (lat l k) 0 then k else lat l k:=by
 have hg:l.getD k 0=l[k]:=by rw[aAg,aAh hk];rfl
 rcases aCB k with rfl|h0
 .have:lat l 0=0:=by simp[lat]
  rw[this,aAa oO];unfold lat;cases l with
  |nil=>simp at hk
  |cons a l=>simp[mn]
 .rw[Ut l k h0 oO,hg];have c7:l.take k≠[]:=by intro h;have:=congrArg List.length h;rw[aAw,List.length_nil]at this;omega
  have hm:=Kv l k h0 hk;unfold lat;rw[hm];rw[aAp hk];by_cases hc:l[k] < mn (l.take k)
  .rw[aAj hc,aAj hc];have hnot:¬l[k]∈l.take k:=fun h=>by have:=Da h;omega
   rw[List.idxOf_append,aAa hnot];simp;omega
  .rw[aAa hc,aAa hc];rw[List.idxOf_append,aAj (nA c7)]
theorem Vx(l:List Int):lat l l.length=l.idxOf (mn l):=by unfold lat;rw[aAU]
theorem Qj(l:List Int)(k:Nat)(hk:k<l.length):(nrm l).take (k+1)=(nrm l).take k++[l.getD ((l.idxOf (mn l)+k) % l.length) 0]:=by rw[aAp (by rw[cA];exact hk),MD l k hk,aAg,aAh (aBG _ oO)];rfl
theorem Hx(l:List Int)(t:Nat)(st:St)(hl:small l):
 aB prog 71 [.sl t l.length (us l)] st fun r st'=>∃ q,r=.ms q 0 l.length/\st.next<=q/\st'.H q=.box 34 1 (us (nrm l))/\aA st st':=by
 unfold small at hl;refine zN func71 ntmps71 [.tmp 2] ?_;refine xw0 ?_;refine qL (fun n fr st'=>∃ k:Nat,k<=l.length/\n=l.length-k/\fr 0=.sl t l.length (us l)/\fr 8=.sl t l.length (us l)/\fr 9=i l.length/\fr 10=i k/\fr 3=i (lat l k)/\st'=st) l.length ?_ ?_
 .exact⟨0,oO,oO,sS,sS,sS,sS,by simp[lat],rfl⟩
 rintro n fr st1 ⟨k,hk,rfl,h0,h8,h9,h10,h3,rfl⟩ JJ hJJ;by_cases dA:k<l.length
 .have hd:=qG l k dA;have hw:=qN k oO;have hla:=YA l k dA;have O7:=qG l (lat l k) hla;have D3:=Qg l k dA;generalize hj:lat l k=j at *
  (repeat' (first|apply qS|apply qB|refine qK (zZ ?_)|(apply qC;simp[h0,h8,h9,h10,h3,dA,hla,hd,O7,hw];(try with_reducible refine⟨?_,?_⟩)<;>(try with_reducible intro hc))|(refine zE ?_;intro J hJ;simp[h0,h8,h9,h10,h3,dA,hla,hd,O7,hw];refine zJ hJ ?_)))
  .refine hJJ _ _ _ ?_ ⟨k+1,oO,rfl,sF1 h0,sF1 h8,sF1 h9,sS,?_,rfl⟩
   .omega
   .rw[D3,aAj (by simpa[dA,hla]using hc)];simp
  .refine hJJ _ _ _ ?_ ⟨k+1,oO,rfl,sF1 h0,sF1 h8,sF1 h9,sS,?_,rfl⟩
   .omega
   .rw[D3,aAa (by simpa[dA,hla]using hc)];simp[h3]
 .have P0:k=l.length:=oO;rw[P0,Vx]at h3;clear hJJ;refine xw6 h0 h8 h9 h10 h3 dA ?_;refine uN 6 34 1 sS ?_;refine qL (fun n fr st2=>∃ k:Nat,k<=l.length/\n=l.length-k/\fr 0=.sl t l.length (us l)/\fr 3=i (l.idxOf (mn l))/\fr 24=i l.length/\fr 25=i k/\∃ q,fr 6=.ms q 0 k/\st2.H q=.box 34 1 (us ((nrm l).take k))/\st1.next<=q/\q<st2.next/\aA st1 st2) l.length ?_ ?_
  .exact⟨0,oO,oO,sF1 h0,sF1 h3,sS,sS,st1.next,sS,sS,aAl _,sS,aA.new _ _⟩
  clear h0 h8 h9 h10 h3 dA hk P0 fr k;rintro n fr st2 ⟨k,hk,rfl,h0,h3,h24,h25,q,h6,hH,hq,hqn,j8⟩ JJ hJJ;by_cases dA:k<l.length
  .have hg:=Qj l k dA;have hil:=aCH (a:=mn l) (l:=l);generalize hx:l.idxOf (mn l)=x at *;have hj:=aBG (x+k) (show 0<l.length by omega);have hw:=qN k oO;have N9:IntKind.i64.wrap ((x:Int)+(k:Int))=((x+k:Nat):Int):=zW;generalize hy:x+k=y at *;have ht:=Ql y l.length _ rfl;generalize hz:y % l.length=z at *;have hd:=qG l z hj;have u9:¬l=[]:=fun h=>by rw[h]at dA;simp at dA
   have N7:min k (nrm l).length=k:=by rw[cA];omega
   have hqne:¬q=st2.next:=oO
   (repeat' (first|apply qS|apply qB|refine qK (zZ ?_)|(apply qC;simp[h0,h3,h24,h25,h6,hH,dA,hj,hw,N9,ht,hd,u9,cA,N7,hqne])|(refine zE ?_;intro J hJ;simp[h0,h3,h24,h25,h6,hH,dA,hj,hw,N9,ht,hd,u9,cA,N7,hqne];(repeat refine ca ?_);refine zJ hJ ?_)))
   refine hJJ _ _ _ ?_ ⟨k+1,oO,rfl,sF1 h0,sF1 h3,sF1 h24,sS,st2.next+1,sS,?_,by have:=j8.next;omega,sS,((j8.trans (aA.new _ _)).set hq _).trans (aA.new _ _)⟩
   .omega
   .simp[hg,hj,aCh]
  .have P0:k=l.length:=oO;rw[P0,aAu (by rw[cA];exact aAl _)]at hH;rw[P0]at h6;clear hJJ;refine xw6 h0 h3 h24 h25 h6 dA ?_;exact⟨hq,hH,j8⟩
theorem tK(l:List Int)(t:Nat)(st:St)(hl:small l):
 aB prog 71 [.sl t l.length (us l)] st fun r st'=>r=.sl 0 l.length (us (nrm l))/\aA st st':=by
 refine cD ((Hx l t st hl).mono ?_);rintro r st' ⟨q,rfl,dA,hH,hk⟩;exact⟨q,_,_,1,_,rfl,hH,by simp[cA],by simp[aAu,cA],hk.set dA _⟩
theorem SC(c:List Int)(k:Nat)(x:Int)(hk:k<c.length):(c.set k x).take (k+1)=c.take k++[x]:=by
 grind [List.take_succ_eq_append_getElem,List.take_set_of_le]
theorem set_drop(c:List Int)(k j:Nat)(x:Int)(h:k<=j):(c.set k x).drop (j+1)=c.drop (j+1):=by
 grind [List.drop_set_of_lt]
theorem Fb(c:List Int)(k:Nat)(x:Int)(hk:k<c.length):(us c).take k++u x::(us c).drop (k+1)=us (c.set k x):=by
 grind [List.map_take,List.map_drop,List.set_eq_take_append_cons_drop]
theorem St.set_set(st:St)(q:Nat)(a b:cN):(st.set q a).set q b=st.set q b:=St.ext' rfl fun y=>by simp_all
def swp(c:List Int)(a b:Nat):List Int:=(c.set a (c.getD b 0)).set b (c.getD a 0)
theorem Kb(c:List Int)(a b:Nat):(swp c a b).length=c.length:=by simp[swp]
theorem swp_get(c:List Int)(a b j:Nat)(ha:a<c.length)(hb:b<c.length):(swp c a b).getD j 0=if j=b then c.getD a 0 else if j=a then c.getD b 0 else c.getD j 0:=by
 unfold swp;simp only[aAg,aDw];by_cases h1:b=j
 .subst h1;simp[hb]
 .by_cases h2:a=j
  .subst h2;simp[h1,ha,aCE h1]
  .simp[h1,h2,aCE h1,aCE h2]
theorem Xm(c:List Int)(a b:Nat)(ha:a<c.length)(hb:b<c.length):us (swp c a b)=((us c).set a (u (c.getD b 0))).set b (u (c.getD a 0)):=by unfold swp;simp only[us,List.map_set]
theorem tcd(cs:List LV)(o:Nat)(v:LV)(h:o<cs.length):cs.take o++v::cs.drop (o+1)=cs.set o v:=by rw[aBO,aAj h]
theorem YD(l c:List Int)(hl:c.length=l.length)(h:∀ j,j<l.length->c.getD j 0=l.getD (l.length-1-j) 0):c=l.reverse:=by apply aDY (sF1 hl);intro j h1 h2;have:=h j oO;rw[aAg,aAg,aAh h1,aAh oO]at this;rw[List.getElem_reverse];simpa using this
theorem Ag(l:List Int)(q:Nat)(st:St)(hl:small l)(hH:st.H q=.box 34 1 (us l)):
 aB prog 108 [.ms q 0 l.length] st fun r st'=>st'=st.set q (.box 34 1 (us l.reverse)):=by
 unfold small at hl;have R6:IntKind.i64.wrap ((l.length:Int)-1)=(l.length:Int)-1:=zW;refine zN func108 ntmps108 [] ?_;refine xw1 R6 ?_;refine qL (fun n fr st'=>∃(k:Nat) (c:List Int),n=l.length-k/\k<=l.length/\fr 0=.ms q 0 l.length/\fr 2=i k/\fr 3=i ((l.length:Int)-1-k)/\c.length=l.length/\st'=st.set q (.box 34 1 (us c))/\∀ j,j<l.length->c.getD j 0=if j<k\/l.length<=j+k then l.getD (l.length-1-j) 0 else l.getD j 0) l.length ?_ ?_
 .refine⟨0,l,oO,oO,sS,sS,sS,rfl,St.ext' rfl fun x=>by by_cases hx:x=q<;>simp[hx,hH],fun j hj=>?_⟩;rw[aAa oO]
 rintro n fr st1 ⟨k,c,rfl,hk,h0,h2,h3,hc,rfl,j5⟩ JJ hJJ;by_cases dA:(k:Int)<(l.length:Int)-1-k
 .obtain⟨m,hm⟩:∃ m:Nat,(l.length:Int)-1-k=m:=⟨l.length-1-k,oO⟩;rw[hm]at h3 dA;have N9:=qN k oO;have hw3:IntKind.i64.wrap ((m:Int)-1)=(m:Int)-1:=zW;have hd:=qG c k oO;have O7:=qG c m oO;have hkl:k<l.length:=oO;have Q7:m<l.length:=oO;refine xw4 h0 h2 h3 dA ?_
  (refine zS [] [q] [0,2,4,6,8,10,12,14,16,18,20,22,24,27,28,31] ?_;intro J hJ;simp[h0,h2,h3,hkl,Q7,hc,hd,O7];(repeat refine ca ?_);refine zJ hJ ?_)
  refine xw4 h2 h3 N9 hw3 ?_;refine hJJ _ _ _ ?_ ⟨k+1,swp c k m,rfl,oO,sF1 h0,sS,?_,by rw[Kb];exact hc,St.ext' rfl fun y=>?_,fun j hj=>?_⟩
  .omega
  .simp only[Eo];simp;omega
  .by_cases hy:y=q
   .subst hy;have hlen:(us c).length=l.length:=by simp[hc]
    simp only[bQ,reduceIte,Xm c k m oO oO];rw[tcd (us c) k _ oO,tcd _ m _ (by simp;omega)];simp[hc,hkl,Q7]
   .simp[hy]
  .rw[swp_get c k m j oO oO,j5 k hkl,j5 m Q7,j5 j hj];by_cases h1:j=m
   .rw[aAj h1,aAa oO,aAj oO];congr 1;omega
   .rw[aAa h1];by_cases h2:j=k
    .rw[aAj h2,aAa oO,aAj oO];congr 1;omega
    .rw[aAa h2];by_cases h3:j<k\/l.length<=j+k
     .rw[aAj h3,aAj oO]
     .rw[aAa h3,aAa oO]
 .have hcr:c=l.reverse:=?_
  .subst hcr;clear hJJ;refine xw4 h0 h2 h3 dA ?_;simp
  refine YD l c hc ?_;intro j hj;rw[j5 j hj];by_cases h:j<k\/l.length<=j+k
  .rw[aAj h]
  .rw[aAa h]
   congr 1
   omega
end Aw
namespace Aw
open Pl
theorem Tb(l:List Int):rt l 0=l:=by simp[rt]
theorem YR(l:List Int):rt l l.length=l:=by simp[rt]
theorem TN{l:List Int}(h:l.Nodup)(k:Nat):(rt l k).Nodup:=by
 unfold rt;have:(l.take k++l.drop k).Nodup:=by rw[aAz];exact h
 rw[aAo]at this ⊢;exact⟨this.2.1,this.1,fun a ha b hb=>fun e=>this.2.2 b hb a ha e.symm⟩
theorem Zn(l:List Int)(a b:Nat)(ha:a<=l.length)(hb:b<=l.length):rt (rt l a) b=if a+b<=l.length then rt l (a+b)else rt l (a+b-l.length):=by
 unfold rt
 split
 .rename_i h;rw[aCY (by rw[aAL];omega),List.take_append_of_le_length (by rw[aAL];omega),aCp];rw[aAF]
  congr 1
  rw[aEK a b,aEK b a,List.take_add]
 .rename_i h;rw[List.drop_append,aCz (l:=l.drop a) (by rw[aAL];omega),aCo,aAu (l:=l.drop a) (by rw[aAL];omega)];rw[aAL,List.nil_append];have e1:b-(l.length-a)=a+b-l.length:=oO;rw[e1];generalize hc:a+b-l.length=c;have hca:c<=a:=oO;rw[<- aAF]
  congr 1
  .conv=>rhs;rw[<- aAz (a-c) (l.drop c)]
   rw[aCp,show c+(a-c)=a by omega]
   congr 1
   rw[aDP]
  .rw[aCh];congr 1;omega
def Cyc(a b:List Int):Prop:=∃ k,k<=a.length/\b=rt a k
theorem Cyc.mem{a b:List Int}(h:Cyc a b)(x:Int):x∈b↔x∈a:=by obtain⟨k,_,rfl⟩:=h;exact Xr _ _ _
theorem VV(a:List Int):Cyc a (nrm a):=⟨_,aCH,rfl⟩
theorem UT{l:List Int}(hn:l.Nodup){j:Nat}(hj:j<l.length):l.idxOf l[j]=j:=hn.idxOf_getElem j hj
theorem Xe{l:List Int}(hn:l.Nodup){k:Nat}(hk:k<=l.length){d:Int}(hd:d∈l):(rt l k).idxOf d=(l.idxOf d+(l.length-k)) % l.length:=by
 have hi:=aAO hd;generalize hj:(l.idxOf d+(l.length-k)) % l.length=j;have hjl:j<l.length:=by rw[<- hj];exact aBG _ oO
 have hg:=RV l k j hk hjl;have hx:(k+j) % l.length=l.idxOf d:=by rw[<- hj,Nat.add_mod,Nat.mod_mod,<- Nat.add_mod];rw[show k+(l.idxOf d+(l.length-k))=l.idxOf d+l.length by omega,aCG,aAG hi]
 have Q6:(rt l k)[j]'(by rw[nY];exact hjl)=d:=by rw[hg];simp only[hx];exact aBu hi
 have:=UT (TN hn k) (j:=j) (by rw[nY];exact hjl);rw[Q6]at this;exact this
theorem Xx{a b:List Int}(h:Cyc a b):mn b=mn a:=by
 by_cases ha:a=[]
 .subst ha;obtain⟨k,_,rfl⟩:=h;simp[rt]
 .exact LL ((h.mem _).2 (nA ha)) (fun x hx=>Da ((h.mem x).1 hx))
theorem Wb{a:List Int}(hn:a.Nodup){k:Nat}(hk:k<=a.length){d:Int}(hd:d∈a):rt (rt a k) ((rt a k).idxOf d)=rt a (a.idxOf d):=by
 have hi:=aAO hd;rw[Xe hn hk hd];have hj:=aBG (a.idxOf d+(a.length-k)) (show 0<a.length by omega);rw[Zn a k _ hk oO];rcases aAM (a.idxOf d) k with h|h
 .rw[aAG oO]
  split
  .have:a.idxOf d=0:=oO;rw[show k+(a.idxOf d+(a.length-k))=a.length by omega,YR,this,Tb]
  .congr 1;omega
 .have:(a.idxOf d+(a.length-k)) % a.length=a.idxOf d-k:=by rw[show a.idxOf d+(a.length-k)=(a.idxOf d-k)+a.length by omega,aCG,aAG oO]
  rw[this,aAj oO,show k+(a.idxOf d-k)=a.idxOf d by omega]
theorem LK{a b:List Int}(h:Cyc a b)(hn:a.Nodup):nrm b=nrm a:=by
 by_cases ha:a=[]
 .subst ha;obtain⟨k,_,rfl⟩:=h;simp[rt]
 .unfold nrm;rw[Xx h];obtain⟨k,hk,rfl⟩:=h;exact Wb hn hk (nA ha)
end Aw
namespace Aw
open Go Go.RowKit Pl
theorem isNaN(x:Int)(st:St):aB prog 118 [u x] st fun r st'=>r=bb false/\st'=st:=by refine zN func118 ntmps118 [.tmp 2] ?_;exact xv0
theorem vQ(x y:Int)(st:St):aB prog 126 [u x,u y] st fun r st'=>r=bb (decide (x<y))/\st'=st:=by
 refine zN func126 ntmps126 [.tmp 4] ?_
 (refine xj0 ?_;intro J hJ)
 refine qF (isNaN x _) ?_;rintro r st' ⟨rfl,rfl⟩;exact Tt hJ
theorem aU(k:Nat)(h0:0<k)(h:k<9223372036854775807):IntKind.i64.wrap ((k:Int)-1)=((k-1:Nat):Int):=by rw[wrap_i64 _ oO oO];omega
abbrev bx(st:St)(q:Nat)(c:List Int):St:=st.set q (.box 34 1 (us c))
theorem uX{st:St}{q:Nat}{c:List Int}(h:st.H q=.box 34 1 (us c)):st=bx st q c:=
 St.ext' rfl fun x=>by by_cases hx:x=q<;>simp[hx,h]
theorem nF(st:St)(q:Nat)(c:List Int)(k m:Nat){x y:Int}(hk:k<c.length)(hm:m<c.length)(hx:c.getD k 0=x)(hy:c.getD m 0=y):
 ((bx st q c).set q (.box 34 1 (List.take k (us c)++.atom (.int .u32 y)::List.drop (k+1) (us c)))).set q
   (.box 34 1 (List.take m (List.take k (us c)++.atom (.int .u32 y)::List.drop (k+1) (us c))++.atom (.int .u32 x)::List.drop (m+1) (List.take k (us c)++.atom (.int .u32 y)::List.drop (k+1) (us c))))=bx st q (sw c k m):=by
 have e:List.take k (us c)++.atom (.int .u32 y)::List.drop (k+1) (us c)=us (c.set k y):=Fb c k y hk;rw[e,Fb (c.set k y) m x (by simpa using hm)];unfold bx sw;rw[hx,hy];exact St.ext' rfl fun z=>by by_cases hz:z=q<;>simp[hz]
theorem insertionSort(l:List Int)(q a b:Nat)(st:St)(hl:small l)(ha:a<=b)(hb:b<=l.length)(hH:st.H q=.box 34 1 (us l)):
 aB prog 120 [.ms q 0 l.length,i a,i b] st fun r st'=>∃ c,st'=bx st q c/\Pm a b l c/\Srt a b c:=by
 unfold small at hl;refine zN func120 ntmps120 [] ?_;have hw0:=qN a oO;refine xw1 hw0 ?_;refine qL (fun n fr st'=>∃(k:Nat) (c:List Int),a<k/\n=b-k/\fr 0=.ms q 0 l.length/\fr 1=i a/\fr 2=i b/\fr 6=i k/\st'=bx st q c/\Pm a b l c/\Srt a k c) (b-(a+1)) ?_ ?_
 .exact⟨a+1,l,oO,rfl,sS,sS,sS,sS,uX hH,.refl,fun p q h1 h2 h3=>by omega⟩
 rintro n fr st1 ⟨k,c,hak,rfl,f0,f1,f2,f6,rfl,u5,hs⟩ JJ hJJ;have r8:=u5.len;by_cases dA:k<b;rotate_left
 .clear hJJ;have L5:¬(k:Int)<(b:Int):=oO;refine xw5 f0 f1 f2 f6 dA ?_;exact⟨trivial,c,rfl,u5,fun p q h1 h2 h3=>hs p q h1 h2 oO⟩
 have R6:=qN k oO;refine xw5 f0 f1 f2 f6 dA ?_;refine qL (fun n fr st'=>∃(j:Nat) (c:List Int),a<=j/\j<=k/\j=n/\fr 0=.ms q 0 l.length/\fr 1=i a/\fr 2=i b/\fr 6=i k/\fr 7=i j/\st'=bx st q c/\Pm a b l c/\Ins a j k c) k ?_ ?_
 .exact⟨k,c,oO,oO,rfl,sF1 f0,sF1 f1,sF1 f2,sF1 f6,sS,rfl,u5,hs.ins⟩
 clear f0 f1 f2 f6 hs u5 r8 c fr;rintro n fr st1 ⟨j,c,haj,hjk,rfl,f0,f1,f2,f6,f7,rfl,u5,hI⟩ JJ2 hJ2;have r8:=u5.len;by_cases hj:a<j;rotate_left
 .clear hJ2;have hj':¬(a:Int)<(j:Int):=oO
  (repeat (apply qS));(refine zS [] [q] [0,2,4,6,8,10,12,14,16,18,20,22,24,27,28] ?_;intro J hJ;simp[f0,f1,f2,f6,f7,hj];refine zJ hJ ?_)
  refine xw2 f6 R6 ?_;exact hJJ (b-(k+1)) _ _ oO ⟨k+1,c,oO,rfl,sF1 f0,sF1 f1,sF1 f2,sS,rfl,u5,hI.done haj (.inl oO)⟩
 have N9:=aU j oO oO;have hjl:j<l.length:=oO;have hjl1:j-1<l.length:=oO;have hd:=qG c j oO;have O7:=qG c (j-1) oO;have hI1:=hI.step hj hjk oO;have hI2:=hI.done haj;have hpm1:=u5.step j (j-1) oO oO oO oO oO;generalize hx:c.getD j 0=x at *;generalize hy:c.getD (j-1) 0=y at *
 (repeat (apply qS));(refine zS [] [q] [0,2,4,6,8,10,12,14,16,18,20,22,24,27,28] ?_;intro J hJ;simp[f0,f1,f2,f6,f7,hj,N9,hjl,hjl1,r8,hd,O7])
 refine aO (vQ x y _) ?_;rintro r s2 ⟨rfl,rfl⟩;refine⟨fun _=>by simp,?_⟩;by_cases hcd:x<y;rotate_left
 .clear hJ2
  (apply bJ;simp[hcd];refine zJ hJ ?_)
  refine xw2 f6 R6 ?_;exact hJJ (b-(k+1)) _ _ oO ⟨k+1,c,oO,rfl,sF1 f0,sF1 f1,sF1 f2,sS,rfl,u5,hI2 (.inr hcd)⟩
 clear hJJ
 (apply bJ;simp[hcd];refine zJ hJ ?_)
 refine xw0 ?_
 (refine zS [] [q] [0,2,4,6,8,10,12,14,16,18,20,22,24,26,28,31,32,35] ?_;intro J hJ;simp[f0,f1,f2,f6,f7,N9,hjl,hjl1,r8,hd,O7];(repeat refine ca ?_);refine zJ hJ ?_)
 refine xw2 f7 N9 ?_;exact hJ2 (j-1) _ _ oO ⟨j-1,sw c j (j-1),oO,oO,rfl,sF1 f0,sF1 f1,sF1 f2,sF1 f6,sS,nF st q c j (j-1) oO oO hx hy,hpm1,hI1 hcd⟩
theorem reverseRange(l:List Int)(q a b:Nat)(st:St)(hl:small l)(ha:a<=b)(hb:b<=l.length)(h0:0<b)(hH:st.H q=.box 34 1 (us l)):
 aB prog 124 [.ms q 0 l.length,i a,i b] st fun r st'=>∃ c,st'=bx st q c/\Pm a b l c:=by
 unfold small at hl;refine zN func124 ntmps124 [] ?_;have hw0:=aU b oO oO;refine xw1 hw0 ?_;refine qL (fun n fr st'=>∃(k m:Nat) (c:List Int),a<=k/\m<b/\m=n/\fr 0=.ms q 0 l.length/\fr 6=i k/\fr 7=i m/\st'=bx st q c/\Pm a b l c) (b-1) ?_ ?_
 .exact⟨a,b-1,l,oO,oO,rfl,sS,sS,sS,uX hH,.refl⟩
 rintro n fr st1 ⟨k,m,c,hak,hmb,rfl,f0,f6,f7,rfl,u5⟩ JJ hJJ;have r8:=u5.len;by_cases dA:k<m;rotate_left
 .clear hJJ;refine xw4 f0 f6 f7 dA ?_;exact⟨trivial,c,rfl,u5⟩
 have R6:=qN k oO;have N9:=aU m oO oO;have hkl:k<l.length:=oO;have Q7:m<l.length:=oO;have hd:=qG c k oO;have O7:=qG c m oO;have hpm1:=u5.step k m oO oO oO oO oO;generalize hx:c.getD k 0=x at *;generalize hy:c.getD m 0=y at *;refine xw4 f0 f6 f7 dA ?_
 (refine zS [] [q] [0,2,4,6,8,10,12,14,16,18,20,22,24,27,28,31] ?_;intro J hJ;simp[f0,f6,f7,hkl,Q7,r8,hd,O7];(repeat refine ca ?_);refine zJ hJ ?_)
 refine xw4 f6 f7 R6 N9 ?_;exact hJJ (m-1) _ _ oO ⟨k+1,m-1,sw c k m,oO,oO,rfl,sF1 f0,sS,sS,nF st q c k m oO oO hx hy,hpm1⟩
theorem cE{P:Program}{N:Nat}{Q:AQ}{k:List gO}{fr:Frm}{st:St}{x y:Code}(I:Frm->St->Prop)(h1:AWp P N x (AK P N (fun e f s=>e=.normal/\I f s) []) fr st)(h2:∀ fr st,I fr st->AWp P N y (AK P N Q k) fr st):
 AWp P N x (AK P N Q (.code y::k)) fr st:=by
 refine dD h1 ?_;rintro e c8 st' ⟨rfl,hI⟩;rw[jK];exact h2 _ _ hI
theorem JS(st:St)(q:Nat)(c:List Int)(k m:Nat){x y:Int}(hk:k<c.length)(hm:m<c.length)(hx:c.getD k 0=x)(hy:c.getD m 0=y):
 (st.set q (.box 34 1 (List.take k (us c)++.atom (.int .u32 y)::List.drop (k+1) (us c)))).set q
   (.box 34 1 (List.take m (List.take k (us c)++.atom (.int .u32 y)::List.drop (k+1) (us c))++.atom (.int .u32 x)::List.drop (m+1) (List.take k (us c)++.atom (.int .u32 y)::List.drop (k+1) (us c))))=bx st q (sw c k m):=by
 rw[<- nF st q c k m hk hm hx hy];exact St.ext' rfl fun z=>by by_cases hz:z=q<;>simp[hz]
theorem TJ{P:Program}{N:Nat}{Q:AQ}{k:List gO}{fr:Frm}{st:St}{x y z:Code}(I:Frm->St->Prop)(h1:AWp P N x (AK P N (fun e f s=>e=.normal/\I f s) [.code y]) fr st)(h2:∀ fr st,I fr st->AWp P N z (AK P N Q k) fr st):
 AWp P N x (AK P N Q (.code y::.code z::k)) fr st:=by
 refine dD h1 ?_;rintro e c8 st' h;cases e with
 |normal=>rw[jK]at h ⊢;refine dD h ?_;rintro e fr2 st2 ⟨rfl,h⟩;rw[jK];exact h2 _ _ h
 |_=>exact absurd h.1 sS
def ZJ(c:List Int)(f r hi ch:Nat):Prop:=∀ x,(x=2*r+1\/x=2*r+2)->x<hi->c.getD (f+x) 0<=c.getD (f+ch) 0
theorem siftDown(l:List Int)(q lo hi f:Nat)(st:St)(hl:small l)(hb:f+hi<=l.length)(hlo:lo<=l.length)(hh:vL (lo+1) hi f l)(hH:st.H q=.box 34 1 (us l)):
 aB prog 163 [.ms q 0 l.length,i lo,i hi,i f] st fun r st'=>∃ c,st'=bx st q c/\Pm (f+lo) (f+hi) l c/\vL lo hi f c:=by
 unfold small at hl;refine zN func163 ntmps163 [] ?_;refine xw0 ?_;refine qL (fun n fr st'=>∃(r:Nat) (c:List Int),lo<=r/\r<=l.length/\n=hi-r/\fr 0=.ms q 0 l.length/\fr 2=i hi/\fr 3=i f/\fr 8=i r/\st'=bx st q c/\Pm (f+lo) (f+hi) l c/\uZ lo hi f r c) (hi-lo) ?_ ?_
 .exact⟨lo,l,aAl _,hlo,rfl,sS,sS,sS,sS,uX hH,.refl,hh.x⟩
 rintro n fr st1 ⟨r,c,hlr,hrl,rfl,f0,f2,f3,f8,rfl,u5,hX⟩ JJ hJJ;have r8:=u5.len;obtain⟨m,hm⟩:∃ m:Nat,m=2*r+1:=⟨_,rfl⟩;obtain⟨m2,hm2⟩:∃ m:Nat,m=2*r+2:=⟨_,rfl⟩;have w1:IntKind.i64.wrap (2*(r:Int))=2*(r:Int):=zW;have w2:IntKind.i64.wrap (2*(r:Int)+1)=(m:Int):=zW;have w3:IntKind.i64.wrap ((m:Int)+1)=(m2:Int):=zW;by_cases hmh:hi<=m
 .clear hJJ;refine xw7 f0 f2 f3 f8 w1 w2 hmh ?_;exact⟨trivial,c,rfl,u5,hX.leaf oO⟩
 obtain⟨x1,hx1⟩:∃ x:Nat,x=f+m:=⟨_,rfl⟩;obtain⟨x2,Y3⟩:∃ x:Nat,x=f+m2:=⟨_,rfl⟩;obtain⟨x0,Q4⟩:∃ x:Nat,x=f+r:=⟨_,rfl⟩;have w4:IntKind.i64.wrap ((f:Int)+(m:Int))=(x1:Int):=zW;have w5:IntKind.i64.wrap ((x1:Int)+1)=(x2:Int):=zW;have w6:IntKind.i64.wrap ((f:Int)+(r:Int))=(x0:Int):=zW
 (repeat' (first|apply qS|apply qB|(refine zE ?_;intro J hJ;simp[f0,f2,f3,f8,w1,w2,hmh];refine zJ hJ ?_)))
 (apply qC;simp[])
 (repeat' (first|apply qS|refine qK (zZ ?_)))
 refine TJ (fun fr2 st2=>st2=bx st q c/\fr2 0=.ms q 0 l.length/\fr2 2=i hi/\fr2 3=i f/\fr2 8=i r/\∃ ch:Nat,fr2 9=i ch/\(ch=2*r+1\/ch=2*r+2)/\ch<hi/\ZJ c f r hi ch) ?_ ?_
 .by_cases h2h:m2<hi;rotate_left
  ·(refine zS [] [q] [0,2,4,6,8,10,12,14,16,18,20,22,24,26,28,30,32,34,37,38] ?_;intro J hJ;simp[f0,f2,f3,f8,w3,h2h];refine zJ hJ ?_)
   refine xw1 f0 ?_;refine⟨trivial,trivial,sF1 f0,sF1 f2,sF1 f3,sF1 f8,m,sS,oO,oO,fun x h1 h2=>?_⟩;rw[show x=m by omega];exact aDj _
  have z7:=qG c x1 oO;have O7:=qG c x2 oO;have hl1:x1<l.length:=oO;have hl2:x2<l.length:=oO;generalize hy1:c.getD x1 0=y1 at *;generalize Y1:c.getD x2 0=y2 at *
  (refine zS [] [q] [0,2,4,6,8,10,12,14,16,18,20,22,24,26,28,30,32,34,37,38] ?_;intro J hJ;simp[f0,f2,f3,f8,w3,w4,w5,h2h,hl1,hl2,r8,z7,O7])
  refine aO (vQ y1 y2 _) ?_;rintro r1 s2 ⟨rfl,rfl⟩;refine⟨fun _=>by simp,?_⟩;by_cases hyy:y1<y2
  ·(apply bJ;simp[hyy];refine zJ hJ ?_)
   refine xw1 w3 ?_;refine⟨trivial,trivial,sF1 f0,sF1 f2,sF1 f3,sF1 f8,m2,sS,oO,oO,fun x h1 h2=>?_⟩;rcases(show x=m\/x=m2 by omega)with rfl|rfl
   .rw[<- hx1,<- Y3,hy1,Y1];omega
   .exact aDj _
  ·(apply bJ;simp[hyy];refine zJ hJ ?_)
   refine xw0 ?_;refine⟨trivial,trivial,sF1 f0,sF1 f2,sF1 f3,sF1 f8,m,sS,oO,oO,fun x h1 h2=>?_⟩;rcases(show x=m\/x=m2 by omega)with rfl|rfl
   .exact aDj _
   .rw[<- hx1,<- Y3,hy1,Y1];omega
 clear f0 f2 f3 f8 w1 w2 w3 w4 w5 hx1 Y3 x1 x2 fr;rintro fr st2 ⟨rfl,f0,f2,f3,f8,ch,f9,W8,hchi,hmax⟩;obtain⟨x1,hx1⟩:∃ x:Nat,x=f+ch:=⟨_,rfl⟩;have w4:IntKind.i64.wrap ((f:Int)+(ch:Int))=(x1:Int):=zW;have z7:=qG c x1 oO;have hd0:=qG c x0 oO;have hl1:x1<l.length:=oO;have hl0:x0<l.length:=oO;unfold ZJ at hmax;have L8:=hX.step (c:=ch) hlr W8 hchi oO hmax;have hpm1:=u5.step x0 x1 oO oO oO oO oO;have hbig:=hX.big;rw[<- Q4,<- hx1]at L8;rw[<- Q4]at hbig;rw[<- hx1]at hmax;generalize hy0:c.getD x0 0=y0 at *;generalize hy1:c.getD x1 0=y1 at *
 (repeat (apply qS));(refine zS [] [q] [0,2,4,6,8,10,12,14,16,18,20,22,25,26] ?_;intro J hJ;simp[f0,f2,f3,f8,f9,w4,w6,hl1,hl0,r8,z7,hd0])
 refine aO (vQ y0 y1 _) ?_;rintro r1 s2 ⟨rfl,rfl⟩;refine⟨fun _=>by simp,?_⟩;by_cases hyy:y0<y1;rotate_left
 .clear hJJ
  (apply bJ;simp[hyy];refine zJ hJ ?_)
  refine xw0 ?_;exact⟨c,rfl,u5,hbig fun x h1 h2=>by have:=hmax x h1 h2;omega⟩
 (apply bJ;simp[hyy];refine zJ hJ ?_)
 refine xw0 ?_
 (refine zS [] [q] [0,2,4,6,8,10,12,14,16,18,20,22,24,26,28,30,32,34,36,38,40,43,44,47] ?_;intro J hJ;simp[f0,f2,f3,f8,f9,w4,w6,hl1,hl0,r8,z7,hd0];(repeat refine ca ?_);refine zJ hJ ?_)
 refine xw1 f9 ?_;exact hJJ (hi-ch) _ _ oO ⟨ch,sw c x0 x1,oO,oO,rfl,sF1 f0,sF1 f2,sF1 f3,sS,nF st q c x0 x1 oO oO hy0 hy1,hpm1,L8 hyy⟩
def J7(c:List Int)(f j hi:Nat):Prop:=∀ p q,p<q->j<=q->q<hi->c.getD (f+p) 0<=c.getD (f+q) 0
theorem heapSort(l:List Int)(q a b:Nat)(st:St)(hl:small l)(ha:a<b)(hb:b<=l.length)(hH:st.H q=.box 34 1 (us l)):
 aB prog 121 [.ms q 0 l.length,i a,i b] st fun r st'=>∃ c,st'=bx st q c/\Pm a b l c/\Srt a b c:=by
 have S5:=hl;unfold small at hl;obtain⟨n,hn⟩:∃ n:Nat,n=b-a:=⟨_,rfl⟩;obtain⟨n1,N6⟩:∃ n:Nat,n=b-a-1:=⟨_,rfl⟩;obtain⟨n2,O6⟩:∃ n:Nat,n=n1 / 2:=⟨_,rfl⟩;have w1:IntKind.i64.wrap ((b:Int)-(a:Int))=(n:Int):=zW;have w2:IntKind.i64.wrap ((n:Int)-1)=(n1:Int):=zW;have w3:IntKind.i64.wrap ((n1:Int) / 2)=(n2:Int):=by rw[show(n1:Int) / 2=((n1 / 2:Nat):Int) from rfl,<- O6];exact wrap_i64 _ oO oO
 refine zN func121 ntmps121 [] ?_;refine xw3 w1 w2 w3 ?_;refine qL (fun m fr st'=>∃(c:List Int),m<=n2+1/\fr 0=.ms q 0 l.length/\fr 6=i a/\fr 7=i 0/\fr 8=i n/\fr 9=i ((m:Int)-1)/\st'=bx st q c/\Pm a b l c/\vL m n a c) (n2+1) ?_ ?_
 .exact⟨l,oO,sS,sS,sS,sS,sS,uX hH,.refl,fun k x h1 h2 h3=>by omega⟩
 rintro m fr st1 ⟨c,hm,f0,f6,f7,f8,f9,rfl,u5,hh⟩ JJ hJJ;have r8:=u5.len;cases m with
 |succ m=>
  have f9':fr 9=i (m:Int):=by rw[f9];congr 2;omega
  have w4:IntKind.i64.wrap ((m:Int)-1)=(m:Int)-1:=zW;have hge:(0:Int)<=(m:Int):=oO
  (refine xj6 f0 f6 f7 f8 f9' hge ?_;intro J hJ)
  rw[<- r8];refine qF (siftDown c q m n a _ (by unfold small;omega) oO oO hh sS) ?_;rintro r s2 ⟨c2,rfl,P8,hh2⟩;rw[r8];refine vP hJ f9' w4 ?_;exact hJJ m _ _ oO ⟨c2,oO,sF1 f0,sF1 f6,sF1 f7,sF1 f8,sS,St.set_set _ _ _ _,u5.trans (P8.wide oO oO oO),hh2⟩
 |zero=>
  clear hJJ;have f9':fr 9=i (-1):=by rw[f9];rfl
  refine xw6 f0 f6 f7 f8 f9' w2 ?_;refine qL (fun m fr st'=>∃(c:List Int),m<=n/\fr 0=.ms q 0 l.length/\fr 6=i a/\fr 7=i 0/\fr 10=i ((m:Int)-1)/\st'=bx st q c/\Pm a b l c/\vL 0 m a c/\J7 c a m n) n ?_ ?_
  .exact⟨c,aAl _,sF1 f0,sF1 f6,sF1 f7,by simp;omega,rfl,u5,hh,fun p q h1 h2 h3=>by omega⟩
  clear f0 f6 f7 f8 f9 f9' u5 hh r8 c fr;rintro m fr st1 ⟨c,hm,f0,f6,f7,f10,rfl,u5,hh,hla⟩ JJ hJJ;have r8:=u5.len;cases m with
  |zero=>
   have f10':fr 10=i (-1):=by rw[f10];rfl
   refine xw1 f10' ?_;refine⟨trivial,c,rfl,u5,fun p q h1 h2 h3=>?_⟩;have:=hla (p-a) (q-a) oO oO oO
   rwa [show a+(p-a)=p by omega,show a+(q-a)=q by omega]at this
  |succ m=>
   have f10':fr 10=i (m:Int):=by rw[f10];congr 2;omega
   have w4:IntKind.i64.wrap ((m:Int)-1)=(m:Int)-1:=zW;have hge:(0:Int)<=(m:Int):=oO;obtain⟨x1,hx1⟩:∃ x:Nat,x=a+m:=⟨_,rfl⟩;have w5:IntKind.i64.wrap ((a:Int)+(m:Int))=(x1:Int):=zW;have hd0:=qG c a oO;have z7:=qG c x1 oO;have hl0:a<l.length:=oO;have hl1:x1<l.length:=oO;have hpop:=hh.pop oO;have S1:=fun c2=>OR (c2:=c2) hh hla oO oO;have hpm1:=u5.step a x1 oO oO oO oO oO;rw[<- hx1]at hpop S1;have hsl:=Dl c a x1;have P7:=fun x y=>nF st q c a x1 (x:=x) (y:=y) oO oO;generalize hy0:c.getD a 0=y0 at *;generalize hy1:c.getD x1 0=y1 at *;have O2:=P7 y0 y1 rfl rfl;refine xw5 f0 f6 f7 f10' hge ?_
   (refine zS [] [q] [0,2,4,6,8,10,12,14,16,18,20,22,24,26,28,30,32,35,36,39] ?_;intro J hJ;simp[f0,f6,f7,f10',w5,hl0,hl1,r8,hd0,z7];(repeat refine ca ?_);(refine zJ hJ ?_;clear hJ J))
   rw[O2];generalize hc1:sw c a x1=c1 at *
   (refine xj4 f0 f6 f7 f10' ?_;intro J hJ)
   rw[<- r8,<- hsl];refine qF (siftDown c1 q 0 m a _ (by unfold small;omega) oO oO hpop sS) ?_;rintro r s2 ⟨c2,rfl,P8,hh2⟩;rw[hsl,r8];refine vP hJ f10' w4 ?_;exact hJJ m _ _ oO ⟨c2,oO,sF1 f0,sF1 f6,sF1 f7,sS,St.set_set _ _ _ _,hpm1.trans (P8.wide oO oO oO),hh2,S1 c2 (by rw[hx1];exact P8)⟩
end Aw
end Go.Proofs.YtbgngpdonpeboaaGreatDoor
