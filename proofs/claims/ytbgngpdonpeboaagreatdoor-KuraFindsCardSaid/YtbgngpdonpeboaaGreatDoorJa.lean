/- Lemmas. -/
import Derived.RangeFuncBox
import Derived.RangeFuncLeaves
import Derived.WalkKit
import Derived.OwnWalkIn
import Derived.TacticsInMore
import Derived.LoopNIn
import Derived.LoopIn
import Derived.Test.YtbgngpdonpeboaaGreatDoorAwSet
import Derived.IntWalk
set_option linter.defProp false
set_option maxHeartbeats 2000000
open Go.Proofs.Tryz
namespace Go.Proofs.YtbgngpdonpeboaaGreatDoor
namespace Pl
def gi(l:PP)(x:Int):Int:=if x∈l then(l.idxOf x:Int)else -1
variable{x:Int}{l:List Int}
def XM{k:Nat}(d:k<l.length)(h:l[k]=x)(g:∀ j (f:j<k),l[j]'(by omega)≠x):gi l x=k:=by
 have b:x∈l:=by rw[<- h];exact dz d
 unfold gi;rw[ac b]
 congr 1
 have c:l.idxOf x<l.length:=lg b;have e:l[l.idxOf x]=x:=nr c;rcases lh (l.idxOf x) k with a|a|a
 .grind
 .omega
 .have:=AT (p:=fun y=>y==x) (xs:=l) (i:=k) (by simpa[List.idxOf]using a)
  grind
def Wv(b:∀ j (a:j<l.length),l[j]≠x):gi l x = -1:=by
 grind [gi]
def HN(l:PP)(x:Int):gi l x<0↔x∉l:=by
 grind [gi]
def mn:PP->Int
 |[]=>0
 |x::l=>l.foldl (fun a b=>if b<a then b else a) x
def xT(l:PP):∀ a:Int,l.foldl (fun a b=>if b<a then b else a) a<=a/\(∀ x∈l,l.foldl (fun a b=>if b<a then b else a) a<=x)/\(l.foldl (fun a b=>if b<a then b else a) a=a\/l.foldl (fun a b=>if b<a then b else a) a∈l):=by
 induction l with
 |nil=>grind
 |cons b l e=>
  intro a;simp only[List.foldl_cons];obtain⟨d,g,h⟩:=e (if b<a then b else a);have c:(if b<a then b else a)<=a:=by split<;>omega
  have f:(if b<a then b else a)<=b:=by split<;>omega
  refine⟨Int.le_trans d c,?_,?_⟩
  .grind
  grind
def US(b:x∈l):mn l<=x:=by
 cases l with
 |nil=>grind
 |cons a l=>
  obtain⟨c,d,_⟩:=xT l a;rcases ai.1 b with rfl|b
  .exact c
  .exact d x b
theorem AW(h:l≠[]):mn l∈l:=by
 cases l with
 |nil=>grind
 |cons a l=>
  obtain⟨_,_,b⟩:=xT l a
  grind [mn]
def YN{m:Int}(a:m∈l)(h:∀ x∈l,m<=x):mn l=m:=by
 have b:=US a
 grind [AW,List.ne_nil_of_mem]
def RG(l:PP)(x:Int)(h:l≠[]):mn (l++[x])=if x<mn l then x else mn l:=by
 cases l with
 |nil=>grind
 |cons a l=>grind [mn]
def Vb(l:PP)(k:Nat)(b:0<k)(a:k<l.length):mn (l.take (k+1))=if l[k] < mn (l.take k)then l[k]else mn (l.take k):=by
 rw[fh a,RG]
 grind [List.length_nil]
def rt(l:PP)(k:Nat):PP:=l.drop k++l.take k
def fb(l:PP):PP:=rt l (l.idxOf (mn l))
def AR(l:PP)(k:Nat):(rt l k).length=l.length:=by grind [rt]
theorem pV(l:PP):(fb l).length=l.length:=AR _ _
def Yp(l:PP)(k i:Nat)(b:k<=l.length)(a:i<l.length):(rt l k)[i]'(by rw[AR];exact a)=l[(k+i) % l.length]'(me _ O):=by
 unfold rt;by_cases h:i<l.length-k
 .rw[um (by simpa using h)];simp only[pq]
  congr 1
  rw[ev O]
 .rw[oj (by simp;omega)];simp only[nu,gy]
  congr 1
  rw[Nat.mod_eq_sub_mod O,ev O];omega
def Vj(l:PP)(i:Nat)(a:i<l.length):(fb l)[i]'(by grind [pV])=l[(l.idxOf (mn l)+i) % l.length]'(me _ O):=
 Yp l _ i EQ a
end Pl
namespace Eu
open Go
def it(f:Int->Int):Nat->Int->Int
 |0,x=>x
 |n+1,x=>it f n (f x)
theorem bI(f:Int->Int)(n:Nat)(x:Int):it f (n+1) x=f (it f n x):=by
 induction n generalizing x with
 |zero=>rfl
 |succ n a=>exact a (f x)
theorem mZ(f:Int->Int)(m n:Nat)(x:Int):it f (m+n) x=it f m (it f n x):=by
 induction n generalizing x with
 |zero=>rfl
 |succ n a=>exact a (f x)
variable{a b x y:Int}{f:Int->Int}{R S:Int->Int->Prop}{l:List Int}{p:Nat}
theorem LL(h:it f p x=x)(q:Nat):it f (q*p) x=x:=by
 induction q with
 |zero=>rw[xw];rfl
 |succ q a=>grind [Nat.succ_mul,mZ]
def LW(a:∀ x y,f x=f y->x=y)(n:Nat)(h:it f n x=it f n y):x=y:=by
 induction n generalizing x y with
 |zero=>exact h
 |succ n b=>exact a _ _ (b h)
def Per(f:Int->Int):Prop:=∀ x,∃ p,0<p/\it f p x=x
def Orb(f:Int->Int)(x y:Int):Prop:=∃ n,it f n x=y
theorem Orb.refl(f:Int->Int)(x:Int):Orb f x x:=⟨0,rfl⟩
def Orb.step(f:Int->Int)(x:Int):Orb f x (f x):=⟨1,rfl⟩
def Orb.trans{z:Int}(h:Orb f x y)(k:Orb f y z):Orb f x z:=by obtain⟨n,rfl⟩:=h;obtain⟨m,rfl⟩:=k;exact⟨m+n,mZ f m n x⟩
def Orb.symm{f:Int->Int}(hf:Per f){x y:Int}(h:Orb f x y):Orb f y x:=by
 obtain⟨n,rfl⟩:=h;induction n generalizing x with
 |zero=>exact⟨0,rfl⟩
 |succ n ih=>
  refine(ih (x:=f x)).trans ?_;obtain⟨p,hp,h⟩:=hf x;cases p with
  |zero=>omega
  |succ p=>exact⟨p,h⟩
def Per.inj{f:Int->Int}(hf:Per f){x y:Int}(h:f x=f y):x=y:=by
 obtain⟨p,d,a⟩:=hf x;obtain⟨q,e,b⟩:=hf y;have g:=LL a q;have c:=LL b p;rw[mA]at c;obtain⟨k,j⟩:∃ k,q*p=k+1:=⟨q*p-1,by have:=xy e d;omega⟩
 grind [it]
def Rl(D:PP)(m:∀ x∈D,f x∈D)(d:∀ x y,f x=f y->x=y)(e:∀ x,x∉D->f x=x):Per f:=by
 intro x;by_cases b:x∈D
 .refine dq fun l=>?_;have Tv:∀ p,0<p->it f p x≠x:=fun p g h=>l ⟨p,g,h⟩;have q:∀ k,it f k x∈D:=by
   intro k;induction k with
   |zero=>exact b
   |succ k o=>grind [bI]
  have a:((List.range (D.length+1)).map fun k=>it f k x).Nodup:=by unfold List.Nodup;rw[gd];refine o0.imp fun {i j} hij h=>?_;have c:j=i+(j-i):=O;rw[c,mZ]at h;exact Tv (j-i) O (LW d i h).symm
  have:=gu a (l₂:=D) fun y n=>by
   grind
  grind
 .exact⟨1,O,e x b⟩
structure gh(R:Int->Int->Prop):Prop where
 refl:∀ x,R x x
 symm:∀ {x y},R x y->R y x
 trans:∀ {x y z},R x y->R y z->R x z
theorem Per.eqv(hf:Per f):gh (Orb f):=⟨Orb.refl f,Orb.symm hf,Orb.trans⟩
noncomputable def bj(R:Int->Int->Prop):PP->Nat
 |[]=>0
 |x::l=>bj R l+@ite Nat (∃ y∈l,R y x) (Classical.propDecidable _) 0 1
theorem bD(h:∃ y∈l,R y x):bj R (x::l)=bj R l:=by
 grind [bj]
theorem aQ(h:¬∃ y∈l,R y x):bj R (x::l)=bj R l+1:=by
 grind [bj]
theorem dA(h:∀ x∈l,∀ y∈l,(R x y↔S x y)):bj R l=bj S l:=by
 induction l with
 |nil=>rfl
 |cons x l e=>
  have f:=e fun a c b d=>h a (aq _ c) b (aq _ d);by_cases g:∃ y∈l,R y x
  .grind [bD]
  grind [aQ]
theorem yO(c:gh R){g:PP}(h:l.Perm g):bj R l=bj R g:=by
 induction h with
 |nil=>rfl
 |@cons x k o h n=>
  by_cases a:∃ y∈k,R y x
  .grind [bD]
  grind [aQ]
 |swap x y l=>
  by_cases W0:R x y
  .have b:=c.symm W0;rw[bD ⟨x,ar,W0⟩,bD ⟨y,ar,b⟩];by_cases a:∃ z∈l,R z x
   .rw[bD a,bD];obtain⟨z,e,d⟩:=a;exact⟨z,e,c.trans d W0⟩
   .rw[aQ a,aQ];rintro⟨z,e,d⟩;exact a ⟨z,e,c.trans d b⟩
  .have b:¬R y x:=fun h=>W0 (c.symm h);have m:(∃ z∈x::l,R z y)↔∃ z∈l,R z y:=by
    constructor
    .grind
    .grind
   have f:(∃ z∈y::l,R z x)↔∃ z∈l,R z x:=by
    constructor
    .grind
    .grind
   by_cases a:∃ z∈l,R z x
   .rw[bD (x:=x) (l:=y::l) (f.2 a)];by_cases j:∃ z∈l,R z y
    .grind [bD]
    grind [aQ,bD]
   .rw[aQ (x:=x) (l:=y::l) (fun h=>a (f.1 h))];by_cases j:∃ z∈l,R z y
    .grind [bD,aQ]
    grind [aQ]
 |trans _ _ h1 h2=>omega
def Mg(R:Int->Int->Prop)(a b x y:Int):Prop:=R x y\/(R x a/\R b y)\/(R x b/\R a y)
theorem Mg.eqv(c:gh R)(a b:Int):gh (Mg R a b):=by
 refine⟨fun x=>.inl (c.refl x),?_,?_⟩
 .rintro x y (h|⟨d,e⟩|⟨d,e⟩)
  .exact .inl (c.symm h)
  .exact .inr (.inr ⟨c.symm e,c.symm d⟩)
  .exact .inr (.inl ⟨c.symm e,c.symm d⟩)
 .rintro x y z (h|⟨d,e⟩|⟨d,e⟩) (k|⟨g,f⟩|⟨g,f⟩)
  .exact .inl (c.trans h k)
  .exact .inr (.inl ⟨c.trans h g,f⟩)
  .exact .inr (.inr ⟨c.trans h g,f⟩)
  .exact .inr (.inl ⟨d,c.trans e k⟩)
  .exact .inr (.inl ⟨d,f⟩)
  .exact .inl (c.trans d f)
  .exact .inr (.inr ⟨d,c.trans e k⟩)
  .exact .inl (c.trans d f)
  .exact .inr (.inr ⟨d,f⟩)
theorem Mg.same(c:gh R)(h:R a b)(x y:Int):Mg R a b x y↔R x y:=by
 constructor
 .rintro(k|⟨d,e⟩|⟨d,e⟩)
  .exact k
  .exact c.trans (c.trans d h) e
  .exact c.trans (c.trans d (c.symm h)) e
 .exact .inl
def Mg.le(c:gh S)(f:S a b)(h:∀ x y,R x y->S x y)(k:Mg R a b x y):S x y:=by
 rcases k with k|⟨d,e⟩|⟨d,e⟩
 .grind
 .exact c.trans (c.trans (h _ _ d) f) (h _ _ e)
 .exact c.trans (c.trans (h _ _ d) (c.symm f)) (h _ _ e)
def sV(e:gh R)(h:¬R a b)(j:a∈l)(m:b∈l):bj R l=bj (Mg R a b) l+1:=by
 have Tv:b≠a:=by rintro rfl;exact h (e.refl _)
 have o:∀ rest:PP,bj R (rest++[a,b])=bj (Mg R a b) (rest++[a,b])+1:=by
  intro rest;induction rest with
  |nil=>
   have r:bj R [a,b]=2:=by
    rw[aQ,aQ]
    .rfl
    .grind
    .rintro⟨y,d,c⟩;rw[bi]at d;subst d;exact h (e.symm c)
   have s:bj (Mg R a b) [a,b]=1:=by
    rw[bD,aQ]
    .rfl
    .grind
    .exact⟨b,Y,.inr (.inr ⟨e.refl _,e.refl _⟩)⟩
   grind
  |cons x rest g=>
   rw[List.cons_append];have k:a∈rest++[a,b]:=Y;have n:b∈rest++[a,b]:=Y;by_cases f:∃ y∈rest++[a,b],R y x
   .rw[bD f,bD,g];obtain⟨y,d,c⟩:=f;exact⟨y,d,.inl c⟩
   .rw[aQ f,aQ,g];rintro⟨y,d,c|⟨_,c⟩|⟨_,c⟩⟩
    .grind
    .grind
    grind
 have p:l.Perm (a::l.erase a):=E0 j;have q:(l.erase a).Perm (b::(l.erase a).erase b):=E0 ((List.mem_erase_of_ne Tv).2 m);have t:l.Perm (((l.erase a).erase b)++[a,b]):=(p.trans (q.cons a)).trans (kT (l₁:=[a,b]))
 grind [yO,Mg.eqv]
def Fx{t:PP}(e:∀ x∈t,∀ y∈t,R x y)(g:∀ x∈t,∀ y∈l,¬R y x):bj R (t++l)=bj R l+if t=[]then 0 else 1:=by
 induction t with
 |nil=>simp
 |cons x t h=>
  have d:=h (fun a c b f=>e a (aq _ c) b (aq _ f)) (fun a c=>g a (aq _ c));rw[List.cons_append,aa Y];cases t with
  |nil=>
   grind [aQ]
  |cons z t=>rw[bD ⟨z,Y,e z Y x Y⟩,d,aa Y]
theorem EA{R:Int->Int->Prop}:∀(a:List PP),(∀ t∈a,∀ x∈t,∀ y∈t,R x y)->a.Pairwise (fun t c=>∀ x∈t,∀ y∈c,¬R y x)->bj R a.flatten=(a.filter fun t=>decide (t≠[])).length
 |[],_,_=>rfl
 |t::a,h1,h2=>by
  rw[kk]at h2;rw[List.flatten_cons,Fx (h1 t ar),EA a (fun t b=>h1 t (aq _ b)) h2.2]
  .grind
  grind [List.mem_flatten]
def sw(a b x:Int):Int:=if x=a then b else if x=b then a else x
theorem vV(a b:Int):sw a b a=b:=by simp[sw]
theorem EK(a b:Int):sw a b b=a:=by
 grind [sw]
theorem kZ(c:x≠a)(d:x≠b):sw a b x=x:=by grind [sw]
theorem Oi(a b x:Int):sw a b (sw a b x)=x:=by
 grind [vV,EK,kZ]
def Yi(a b:Int)(h:sw a b x=sw a b y):x=y:=by grind [Oi]
def least{P:Nat->Prop}{n:Nat}(h:P n):∃ m,P m/\∀ k,k<m->¬P k:=by
 induction n using Nat.strongRecOn with
 |ind n ih=>
  grind
section
variable {f f':Int->Int} {a b:Int}
theorem QG(g:∀ x,f' x=f (sw a b x))(v:a≠b)(h:Orb f b a):¬Orb f' a b:=by
 obtain⟨A,l⟩:=h;obtain⟨n,e,d⟩:=least (P:=fun n=>it f n b=a) l;have q:n≠0:=by rintro rfl;exact v e.symm
 have o:∀ i,0<i->i<=n->it f i b≠b:=by intro i p s m;have:n=(n-i)+i:=O;rw[this,mZ,m]at e;exact d (n-i) O e
 have t:∀ x,(∃ i,0<i/\i<=n/\x=it f i b)->∃ i,0<i/\i<=n/\f' x=it f i b:=by
  rintro x ⟨i,p,s,rfl⟩;rcases ec i n with j|j
  .grind [kZ,bI]
  .obtain rfl:i=n:=O;exact⟨1,O,O,by rw[g,e,vV];rfl⟩
 rintro⟨k,z⟩;have c:∀ k,∃ i,0<i/\i<=n/\it f' k a=it f i b:=by
  intro k;induction k with
  |zero=>exact⟨n,O,au _,e.symm⟩
  |succ k r=>rw[bI];exact t _ r
 obtain⟨i,j,w,y⟩:=c k
 grind
theorem Rx(hf:Per f)(d:∀ x,f' x=f (sw a b x))(h:¬Orb f b a):Orb f' a b:=by
 obtain⟨p,j,c⟩:=hf b;obtain⟨n,⟨g,q⟩,hmin⟩:=least (P:=fun n=>0<n/\it f n b=b) ⟨j,c⟩;have m:∀ k,0<k->k<=n->it f' k a=it f k b:=by
  intro k;induction k with
  |zero=>omega
  |succ k l=>
   intro _ o;rcases sr k with rfl|c
   .show f' a=f b
    grind [vV]
   .rw[bI,l c O,d,kZ (fun e=>h ⟨k,e⟩) (fun e=>hmin k O ⟨c,e⟩),bI f k b]
 exact⟨n,by grind⟩
theorem EI(hf:Per f)(c:∀ x,f' x=f (sw a b x)){x y:Int}(h:Orb f' x y):Mg (Orb f) a b x y:=by
 have g:=Mg.eqv hf.eqv a b;obtain⟨n,rfl⟩:=h;induction n generalizing x with
 |zero=>exact g.refl _
 |succ n j=>
  refine g.trans ?_ (j (x:=f' x));rw[c];by_cases d:x=a
  .subst d;rw[vV];exact .inr (.inl ⟨Orb.refl _ _,Orb.step _ _⟩)
  .by_cases e:x=b
   .subst e;rw[EK];exact .inr (.inr ⟨Orb.refl _ _,Orb.step _ _⟩)
   .rw[kZ d e];exact .inl (Orb.step _ _)
theorem OQ(hf:Per f)(c:Per f')(d:∀ x,f' x=f (sw a b x))(x y:Int):Mg (Orb f) a b x y↔Mg (Orb f') a b x y:=by
 have e:∀ x,f x=f' (sw a b x):=fun x=>by grind [Oi]
 constructor
 .exact Mg.le (Mg.eqv c.eqv a b) (.inr (.inl ⟨Orb.refl _ _,Orb.refl _ _⟩)) fun x y h=>EI c e h
 .exact Mg.le (Mg.eqv hf.eqv a b) (.inr (.inl ⟨Orb.refl _ _,Orb.refl _ _⟩)) fun x y h=>EI hf d h
theorem uU{D:PP}(hf:Per f)(d:Per f')(c:∀ x,f' x=f (sw a b x))(j:a≠b)(e:a∈D)(g:b∈D)(h:Orb f a b):bj (Orb f') D=bj (Orb f) D+1:=by
 rw[sV d.eqv (QG c j (Orb.symm hf h)) e g]
 congr 1
 refine dA fun x _ y _=>?_;rw[<- OQ hf d c,Mg.same hf.eqv h]
theorem oL{D:PP}(hf:Per f)(d:Per f')(c:∀ x,f' x=f (sw a b x))(g:a∈D)(j:b∈D)(h:¬Orb f a b):bj (Orb f) D=bj (Orb f') D+1:=by
 have e:Orb f' a b:=Rx hf c fun k=>h (Orb.symm hf k);rw[sV hf.eqv h g j]
 congr 1
 refine dA fun x _ y _=>?_;rw[OQ hf d c,Mg.same d.eqv e]
end
def M7(f:Int->Int)(d:Int)(L:PP):Prop:=∃ p,0<p/\L=(List.range p).map (fun k=>it f k d)/\it f p d=d/\∀ q,0<q->q<p->it f q d≠d
def TZ{d:Int}(a:0<p)(h:it f p d=d)(n:Nat):it f n d=it f (n % p) d:=by
 grind [Nat.mod_add_div,Nat.mul_comm,mZ,LL]
end Eu
namespace Pl
def sw(c:PP)(a b:Nat):PP:=(c.set a (c.getD b 0)).set b (c.getD a 0)
theorem FM(c:PP)(a b:Nat):(sw c a b).length=c.length:=by simp[sw]
theorem dB(c:PP)(a b j:Nat)(d:a<c.length)(e:b<c.length):(sw c a b).getD j 0=if j=b then c.getD a 0 else if j=a then c.getD b 0 else c.getD j 0:=by
 grind [sw]
theorem Xj(c:PP)(a b:Nat)(d:a<c.length)(e:b<c.length):(sw c a b).Perm c:=by
 grind [sw]
inductive Pm(a b:Nat)(l:List Int):List Int->Prop
 |refl:Pm a b l l
 |step {m:List Int} (h:Pm a b l m) (x y:Nat) (hx:a<=x) (hx':x<b) (hy:a<=y) (hy':y<b) (hb:b<=l.length):Pm a b l (sw m x y)
def Pm.len{a b:Nat}{l m:PP}(h:Pm a b l m):m.length=l.length:=by
 induction h with
 |refl=>rfl
 |step h x y _ _ _ _ _ ih=>grind [FM]
variable{P:Int->Bool}{c d l m:List Int}{a b f j k r:Nat}
def Pm.out(h:Pm a b l m)(j:Nat)(k:j<a\/b<=j):m.getD j 0=l.getD j 0:=by
 induction h with
 |refl=>rfl
 |step h x y c d e f g n=>
  have:=h.len
  grind [dB]
def Pm.trans{n:PP}(h:Pm a b l m)(k:Pm a b m n):Pm a b l n:=by
 induction k with
 |refl=>exact h
 |step k x y c d e f j g=>have:=h.len;exact g.step x y c d e f O
def Pm.wide{d c:Nat}(h:Pm a b l m)(q:d<=a)(r:b<=c)(e:c<=l.length):Pm d c l m:=by
 induction h with
 |refl=>exact .refl
 |step k x y g j n o p f=>exact f.step x y O O O O e
def Pm.perm(h:Pm a b l m):m.Perm l:=by
 induction h with
 |refl=>grind
 |step k x y c d e f g j=>have:=k.len;grind [Xj]
def Pm.all(h:Pm a b l m)(P:Int->Prop)(p:∀ j,a<=j->j<b->P (l.getD j 0))(j:Nat)(n:a<=j)(o:j<b):P (m.getD j 0):=by
 induction h generalizing j with
 |refl=>grind
 |step k x y c d e f g q=>
  have:=k.len
  grind [dB]
def Pm.one{a b:Nat}{l:PP}(x y:Nat)(hx:a<=x)(hx':x<b)(hy:a<=y)(hy':y<b)(hb:b<=l.length):Pm a b l (sw l x y):=Pm.refl.step x y hx hx' hy hy' hb
def Srt(a b:Nat)(l:PP):Prop:=∀ p q,a<=p->p<q->q<b->l.getD p 0<=l.getD q 0
def Ins(a j i:Nat)(d:PP):Prop:=∀ p q,a<=p->p<q->q<=i->q≠j->d.getD p 0<=d.getD q 0
def Srt.ins{i:Nat}(h:Srt a i d):Ins a i i d:=fun p q b c e f=>h p q b c O
def Ins.step{a j i:Nat}{d:PP}(h:Ins a j i d)(o:a<j)(n:j<=i)(m:i<d.length)(dS:d.getD j 0<d.getD (j-1) 0):Ins a (j-1) i (sw d j (j-1)):=by
 intro p q g l e k;rw[dB _ _ _ _ O O,dB _ _ _ _ O O];by_cases b:q=j
 .rw[aa k,ac b];by_cases c:p=j-1
  .omega
  .rw[aa c,aa O];exact h p (j-1) g O O O
 .rw[aa k,aa b];by_cases c:p=j-1
  .rw[ac c];exact h j q O O e b
  .rw[aa c];by_cases f:p=j
   .rw[ac f];exact h (j-1) q O O e b
   .rw[aa f];exact h p q g l e b
def Ins.done{i:Nat}(h:Ins a j i d)(m:a<=j)(b:j=a\/¬d.getD j 0<d.getD (j-1) 0):Srt a (i+1) d:=by
 intro p q c f k;by_cases e:q=j
 .subst e;have l:¬d.getD q 0<d.getD (q-1) 0:=by rcases b with b|b;omega;exact b
  by_cases g:p=q-1
  .grind
  .have:=h p (q-1) c O O O;omega
 .exact h p q c f O e
def xO(b a f:Nat)(d:PP):Prop:=∀ k c,b<=k->(c=2*k+1\/c=2*k+2)->c<a->d.getD (f+c) 0<=d.getD (f+k) 0
def xN(b a f r:Nat)(d:PP):Prop:=(∀ k c,b<=k->k≠r->(c=2*k+1\/c=2*k+2)->c<a->d.getD (f+c) 0<=d.getD (f+k) 0)/\
 (∀ k c,b<=k->(r=2*k+1\/r=2*k+2)->(c=2*r+1\/c=2*r+2)->c<a->d.getD (f+c) 0<=d.getD (f+k) 0)
def xO.x{g:Nat}(h:xO (a+1) g f d):xN a g f a d:=
 ⟨fun k c j l b e=>h k c O b e,fun k c j l b e=>by omega⟩
def xN.leaf(h:xN b a f r d)(l:a<=2*r+1):xO b a f d:=by intro k c e g j;exact h.1 k c e O g j
def xN.big(h:xN b a f r d)(m:∀ c,(c=2*r+1\/c=2*r+2)->c<a->d.getD (f+c) 0<=d.getD (f+r) 0):xO b a f d:=by
 intro k c g j l;by_cases e:k=r
 .grind
 .exact h.1 k c g e j l
def xN.step{m a f r c:Nat}{d:PP}(h:xN m a f r d)(q:m<=r)(p:c=2*r+1\/c=2*r+2)(l:c<a)(s:f+a<=d.length)(t:∀ x,(x=2*r+1\/x=2*r+2)->x<a->d.getD (f+x) 0<=d.getD (f+c) 0)
 (dS:d.getD (f+r) 0<d.getD (f+c) 0):xN m a f c (sw d (f+r) (f+c)):=by
 constructor
 .intro k x g o b j;rw[dB _ _ _ _ O O,dB _ _ _ _ O O];by_cases e:k=r
  .grind
  .rw[aa (show ¬f+k=f+c by omega),aa (show ¬f+k=f+r by omega)];by_cases n:x=r
   .subst n;rw[aa O,ac (rfl:f+x=f+x)];exact h.2 k c g b p l
   .rw[aa O,aa O];exact h.1 k x g e b j
 .intro k x g o b j;have e:k=r:=O;subst e;rw[dB _ _ _ _ O O,dB _ _ _ _ O O];rw[aa O,aa O,aa (show ¬f+k=f+c by omega),ac (rfl:f+k=f+k)];exact h.1 c x O O b j
def xO.top(h:xO 0 a f d):∀ c,c<a->d.getD (f+c) 0<=d.getD f 0:=by
 intro c;induction c using Nat.strongRecOn with
 |ind c ih=>
  intro b;by_cases e:c=0
  .grind
  .have g:=h ((c-1) / 2) c O O b
   grind
def xO.pop(h:xO 0 (j+1) f c)(e:f+j<c.length):xO 1 j f (sw c f (f+j)):=by intro k x b a d;rw[dB _ _ _ _ O O,dB _ _ _ _ O O];rw[aa O,aa O,aa O,aa O];exact h k x O a O
def Px{c2:PP}(l:xO 0 (j+1) f c)(m:∀ p q,p<q->j+1<=q->q<a->c.getD (f+p) 0<=c.getD (f+q) 0)(t:j<a)(v:f+a<=c.length)(b:Pm f (f+j) (sw c f (f+j)) c2):
 ∀ p q,p<q->j<=q->q<a->c2.getD (f+p) 0<=c2.getD (f+q) 0:=by
 intro p q r s k;have g:=fun x=>dB c f (f+j) x O O;rw[b.out (f+q) O,g (f+q)];by_cases e:q=j
 .subst e;rw[ac rfl];refine b.all (fun x=>x<=c.getD f 0) (fun x n o=>?_) (f+p) O O;rw[g,aa O];by_cases d:x=f
  .rw[ac d];exact l.top q O
  .rw[aa d];have:=l.top (x-f) O;simp_all
 .rw[aa O,aa O];by_cases d:p<j
  .refine b.all (fun x=>x<=c.getD (f+q) 0) (fun x n o=>?_) (f+p) O O;rw[g,aa O];by_cases h:x=f
   .grind
   .rw[aa h];have:=m (x-f) q O O k;simp_all
  .rw[b.out (f+p) O,g];by_cases h:p=j
   .rw[ac O];have:=m 0 q O O k;omega
   grind
def VQ{m:Nat}(g:Srt a m d)(h:Srt (m+1) b d)(l:∀ p,a<=p->p<m->d.getD p 0<=d.getD m 0)(n:∀ q,m<q->q<b->d.getD m 0<=d.getD q 0):Srt a b d:=by
 intro p q j f k;rcases lh p m with e|e|e
 .rcases lh q m with c|c|c
  .exact g p q j f c
  .grind
  grind
 .grind
 .exact h p q O f k
def Lo(P:Int->Bool)(c:PP)(a m:Nat):Prop:=∀ p,a<p->p<m->P (c.getD p 0)=true
def Hi(P:Int->Bool)(c:PP)(m b:Nat):Prop:=∀ p,m<p->p<b->P (c.getD p 0)=false
def Lo.more{m:Nat}(h:Lo P c a m)(f:P (c.getD m 0)=true):Lo P c a (m+1):=by
 intro p b d;by_cases e:p=m
 .grind
 .exact h p b O
def Hi.more{m:Nat}(h:Hi P c m b)(d:0<m)(g:P (c.getD m 0)=false):Hi P c (m-1) b:=by
 intro p f a;by_cases e:p=m
 .grind
 .exact h p O a
def Lo.swp{m:Nat}(h:Lo P c a k)(d:k<m)(g:m<c.length)(j:P (c.getD m 0)=true):Lo P (sw c k m) a (k+1):=by
 intro p b f;rw[dB _ _ _ _ O O,aa O];by_cases e:p=k
 .grind
 .rw[aa e];exact h p b O
def Hi.swp{m:Nat}(h:Hi P c m b)(d:k<m)(g:m<c.length)(j:P (c.getD k 0)=false):Hi P (sw c k m) (m-1) b:=by
 intro p f a;rw[dB _ _ _ _ O O];by_cases e:p=m
 .grind
 .rw[aa e,aa O];exact h p O a
def RV(P:Int->Bool)(c:PP)(a m b:Nat):Prop:=(∀ p,a<=p->p<m->P (c.getD p 0)=true)/\(∀ p,m<p->p<b->P (c.getD p 0)=false)
def Kj(c:PP)(a m b:Nat)(x:Int):Prop:=(∀ p,a<=p->p<m->c.getD p 0<=x)/\(∀ p,m<=p->p<b->x<c.getD p 0)
def dF(c:PP)(a m b:Nat):Prop:=RV (fun v=>decide (v<c.getD m 0)) c a m b
def Az{m:Nat}(d:Lo P c a (m+1))(h:Hi P c m b)(j:a<=m)(k:m<b)(l:b<=c.length):RV P (sw c m a) a m b/\(sw c m a).getD m 0=c.getD a 0:=by
 refine⟨⟨fun p f g=>?_,fun p f g=>?_⟩,?_⟩
 .rw[dB _ _ _ _ O O];by_cases e:p=a
  .rw[ac e];exact d m O O
  .rw[aa e,aa O];exact d p O O
 .rw[dB _ _ _ _ O O,aa O,aa O];exact h p f g
 grind [dB]
def Tb(h:Srt 0 l.length l):l.Pairwise (·<=·):=by
 refine fD.2 fun p q c b a=>?_;have:=h p q O a b
 grind
def MO(h:l.Pairwise (·<=·))(k:m.Pairwise (·<=·))(c:l.Perm m):l=m:=
 c.eq_of_pairwise (fun a b _ _ d e=>by omega) h k
end Pl
namespace Rg
open Go Go.RowKit Go.Shelf
attribute [local go_sem] Oper.semAt_some
def upto(a:PP)(k:Nat):PP:=(List.range k).map fun j=>a[j]?.getD 0
theorem Fm(a:PP)(k:Nat):upto a (k+1)=upto a k++[a[k]?.getD 0]:=by simp[upto,xq]
theorem JK(a:PP)(k:Nat):(upto a k).length=k:=by simp[upto]
theorem Rr(a:PP):upto a a.length=a:=by
 apply ti
 .simp[upto]
 grind [upto]
set_option maxRecDepth 100000 in
def Mo(F:Fence)(n:Nat)(h7:F.fn 204)(hro:F.round=none)(hn:1<=n)(l Bs n₀ b off len cap:Nat)(zs:PP)(hlen:len<=1048576)(hb:b<n₀)(J Jx:PP->World->Prop)
 (hY:∀ pre x W,J pre W->pre.length<len->YieldAt F (n-1) prog l #[.int .u32 x] W fun e W'=>
   (e=.returned (.bool true)/\J (pre++[x]) W'/\Below n₀ W W')\/(e=.returned (.bool false)/\Jx (pre++[x]) W'))
 (W:World) (hBs:W.cell? ⟨Bs,0,none⟩=some (.slice (some ⟨b,off,none⟩) len cap)) (hc:∀ j,j<len->W.cell? ⟨b,off+j,none⟩=some (.int .u32 (zs[j]?.getD 0))) (h0:J [] W):
 CallsIn F n prog 204 #[.func (.yield l) #[] #[],.pointer (some ⟨Bs,0,none⟩)] W fun e W'=>(∃ v,e=.returned v)/\
  ((∃ ys,ys=upto zs len/\J ys W')\/(∃ pre,(∃ k,k<=len/\pre=upto zs k)/\Jx pre W')):=by
 refine callsIn_of_wp func204 rfl h7 ?_ hro;simp only[ntmps204,jh,List.length_cons,List.length_nil,Nat.reduceAdd,Nat.reduceSub,mo,Array.replicate_zero,mz,mq,List.nil_append,List.cons_append]
 gi_wp2
 gi_loopw [7] (fun i wr=>∃ k:Nat,k<=len/\i=.int .i64 k/\J (upto zs k) wr/\Below n₀ W wr)
  (fun i _=>len-(intOf i).toNat)
 case atStart=>exact⟨0,jx _,rfl,h0,Below.refl _ _⟩
 case round=>
  obtain⟨k,hk,rfl,hJs,hnx⟩:=hrel;have hcx:k<len->wr.cell? ⟨b,off+k,none⟩=some (.int .u32 (zs[k]?.getD 0)):=fun h=>(hnx.cell (p:=⟨b,off+k,none⟩) hb).trans (hc k h);by_cases dS:k<len
  .obtain⟨fn,tmps,assign,body,hy,hR⟩:=hY _ (zs[k]?.getD 0) wr hJs (by grind [JK]);have hcx':=hcx dS
   gi_wp2
   refine hR.mono ?_;rintro e W3 (⟨rfl,hJ3,o9⟩|⟨rfl,hJx3⟩)
   .gi_wp2
    go_roundw
    case rel=>exact⟨k+1,O,Y,by grind [Fm],hnx.trans o9⟩
    grind [intOf]
   .gi_wp2
    refine bodyPost_ret (results_none rfl _ _ _) rfl ?_;exact⟨⟨_,rfl⟩,.inr ⟨_,⟨k+1,O,(Fm _ _).symm⟩,hJx3⟩⟩
  .obtain rfl:k=len:=O
   gi_wp2
   go_end0
   grind
set_option maxRecDepth 100000 in
def DW(F:Fence)(n:Nat)(h7:F.fn 204)(hro:F.round=none)(l Bs:Nat)(J:PP->World->Prop)(W:World)(A:Option Addr)(cap:Nat)(hBs:W.cell? ⟨Bs,0,none⟩=some (.slice A 0 cap))(h0:J [] W):
 CallsIn F n prog 204 #[.func (.yield l) #[] #[],.pointer (some ⟨Bs,0,none⟩)] W fun e W'=>(∃ v,e=.returned v)/\J [] W':=by
 refine callsIn_of_wp func204 rfl h7 ?_ hro;simp only[ntmps204,jh,List.length_cons,List.length_nil,Nat.reduceAdd,Nat.reduceSub,mo,Array.replicate_zero,mz,mq,List.nil_append,List.cons_append]
 gi_wp2
 gi_loopw [7] (fun i wr=>i=.int .i64 0/\J [] wr) (fun _ _=>0)
 case atStart=>grind
 case round=>
  obtain⟨rfl,hJs⟩:=hrel
  gi_wp2
  go_end0
  grind
def Ints(c:Nat)(W:World)(e:Value)(d:PP):Prop:=
 (d=[]/\∃ A a,e=.slice A 0 a)\/∃ b off a,e=.slice (some ⟨b,off,none⟩) d.length a/\b<c/\∀ j,j<d.length->W.cell? ⟨b,off+j,none⟩=some (.int .u32 (d[j]?.getD 0))
def Ints.below{a:Nat}{A B:World}(h:Below a A B){c:Value}{d:PP}:Ints a A c d->Ints a B c d
 |.inl e=>.inl e
 |.inr ⟨b,off,cap,e,hb,hc⟩=>.inr ⟨b,off,cap,e,hb,fun j f=>(h.cell (p:=⟨b,off+j,none⟩) hb).trans (hc j f)⟩
def He(F:Fence)(n:Nat)(q:F.fn 204)(j:F.round=none)(E:1<=n)(Bs a:Nat)(s:Value)(f:PP)(h:f.length<=1048576)(w:World)(k:Bs<w.heap.size)(d:a<=w.heap.size)
 (B:w.cell? ⟨Bs,0,none⟩=some s) (v:Ints a w s f):
 SeqStopsK F n prog 204 #[.pointer (some ⟨Bs,0,none⟩)] (fun x:Int=>#[Value.int .u32 x]) (Below a) (fun H=>H=f) (fun _=>True) f.length w:=fun l J t W r _ _ y o=>by
 have g:=(r.cell (p:=⟨Bs,0,none⟩) k).trans B;rcases v.below (r.mono d)with⟨rfl,A,c,rfl⟩|⟨b,off,c,rfl,z,m⟩
 .exact(DW F n q j l Bs J W A c g o).mono fun e W' ⟨C,D⟩=>⟨C,.inl ⟨_,rfl,D⟩⟩
 .refine(Mo F n q j E l Bs a b off f.length c f h z J t y W g m o).mono ?_
  grind [Rr]
def UJ:(prog.info? 34).map (fun i=>(i.zero,i.size,i.bytes))=some (some (.int .u32 0),1,4):=by kernel_rfl
set_option maxRecDepth 100000 in
def HJ(F:Fence)(n:Nat)(h3:F.fn 147)(h7:F.fn 204)(hro:F.round=none)(hn:3<=n)(Bs:Nat)(sv:Value)(zs:PP)(hlen:zs.length<=1048576)(w:World)(hBs:Bs<w.heap.size)
 (hc:w.cell? ⟨Bs,0,none⟩=some sv) (hI:Ints w.heap.size w sv zs):
 CallsIn F n prog 147 #[.slice none 0 0,.func (.func 204) #[] #[.pointer (some ⟨Bs,0,none⟩)]] w fun e W'=>∃ v,e=.returned v/\W'.ownsRow w.heap.size 34 1 v zs.length (zs.map (Value.int .u32))/\Below w.heap.size w W':=by
 have h1:1<=n:=O;obtain⟨i0,hi,hz0,hz1,hz2⟩:=info_parts UJ;refine callsIn_of_wp_marks func147 rfl h3 ?_ hro;simp only[ntmps147,jh,List.length_cons,List.length_nil,Nat.reduceAdd,Nat.reduceSub,mo,Array.replicate_zero,mz,mq,List.nil_append,List.cons_append]
 gi_wp2
 have bO:=Boxed.new w 22 (.slice none 0 0);have hB0:Below w.heap.size w (w.alloc (.cells #[.slice none 0 0] 22)):=(Below.refl _ w).alloc (au _) _
 refine wpIn_rangeFunc_ownG hro h1 (gf:=204) (lb:=#[.pointer (some ⟨Bs,0,none⟩)]) rfl h7 (enters_of func204 (by kernel_rfl) rfl)
  (He F (n-1) h7 hro O Bs w.heap.size sv zs hlen _ (by simp;omega) Y ((hB0.cell (p:=⟨Bs,0,none⟩) hBs).trans hc) (hI.below hB0)) belowK_t (belowK_b Y) (Below.refl _ _) (fun _=>rfl)
  (fun pre W=>(∃ v,Boxed W w.heap.size 22 v/\W.ownsRow w.heap.size 34 1 v pre.length (pre.map (Value.int .u32))/\True)/\Below w.heap.size w W)
  (fun _ _ _=>False)
  (OwnFrom.and (Own.from (holdsRow_own w.heap.size w.heap.size 22 34 1 (fun pre:PP=>pre.length) (fun pre:PP=>pre.map (Value.int .u32)) (fun _ _=>True)) _) (ownFrom_below (au _) Y))
  (fun _ _ _ _ _ hs _ _=>hs)
  ⟨⟨_,bO,World.ownsRow_nil _ _ _ _,trivial⟩,hB0⟩
  (fun x=>{ tmps:=#[.slice none 0 0,.func (.func 204) #[] #[.pointer (some ⟨Bs,0,none⟩)],.pointer (some ⟨w.heap.size,0,none⟩),undef,.slice none 0 0,.int .u32 x,.func (.func 204) #[] #[.pointer (some ⟨Bs,0,none⟩)],.int .u32 x,undef,undef,undef,undef,undef],defers:=[] }) ?assign ?body ?done ?stop
 case assign=>
  intro l x W K hK
  gi_wp2
  omega
 case body=>
  rintro l pre x W ⟨⟨v,hv,c7,_⟩,hB⟩ dS;have hc:=hv.cell
  gi_wp2_with (gi_at_builtin;refine wpListIn_append_own _ rfl _ _ 22 rfl w.heap.size 34 i0 (.int .u32 0) 1 4 underlying22 hi hz0 hz1 hz2 rfl (by decide) _ _ _ rfl (c7.alloc _) ⟨W.heap.size,0,none⟩ 1 1 [.int .u32 x] rfl rfl (cell_one_new _ _ _) (by simp[Value.oneCell']) (by grind [maxLen]) O (by have:=hB.size;simp;omega) ?_;intro v' w1 hown' hgrow _;obtain⟨g',cap',rfl⟩:=ownsRow_succ hown';obtain⟨hv1,hv2,hr2,o6,hb2⟩:=hv.appended (by decide) c7 hB.size (au _) hown' hgrow;have hc1:=hv1.cell;have hf1:=hv1.frozen)
  exact⟨o6.from _,hb2,⟨_,hv2,by grind,trivial⟩,hB.trans hb2⟩
 case done=>
  rintro D ys W hD rfl ⟨⟨v,hv,c7,_⟩,hB⟩ hK;have hc:=hv.cell
  gi_wp2
  refine⟨Y,.inl ⟨_,_,rfl,run_takeDeferred hK,?_⟩⟩;exact⟨_,results_tmp rfl _ _ _,v,rfl,ownsRow_putObj c7 _ hK rfl,hB.trans (belowK_b (w:=w) (au _) W D _ _ (by simp at hD;omega) hK rfl rfl)⟩
 grind
set_option maxRecDepth 100000 in
def LQ(F:Fence)(n:Nat)(h2:F.fn 104)(h3:F.fn 147)(h7:F.fn 204)(hro:F.round=none)(hn:4<=n)(Bs:Nat)(sv:Value)(zs:PP)(hlen:zs.length<=1048576)(w:World)(hBs:Bs<w.heap.size)
 (hc:w.cell? ⟨Bs,0,none⟩=some sv) (hI:Ints w.heap.size w sv zs):
 CallsIn F n prog 104 #[.func (.func 204) #[] #[.pointer (some ⟨Bs,0,none⟩)]] w fun e W'=>∃ v,e=.returned v/\W'.ownsRow w.heap.size 34 1 v zs.length (zs.map (Value.int .u32))/\Below w.heap.size w W':=by
 have h1:1<=n:=O;refine callsIn_of_wp func104 rfl h2 ?_ hro;simp only[ntmps104,jh,List.length_cons,List.length_nil,Nat.reduceAdd,Nat.reduceSub,mo,Array.replicate_zero,mz,mq,List.nil_append,List.cons_append]
 gi_wp2_with (gi_at_call 147;refine(HJ F (n-1) h3 h7 hro O Bs sv zs hlen _ hBs hc hI).mono ?_;rintro e w' ⟨v,rfl,c7,hbel⟩)
 go_ret
 simp_all
end Rg
namespace Aw
open Go Go.RowKit
def tw(d:Int):Int:=if d % 2=0 then d+1 else d-1
def wrap_u32(n:Int):IntKind.u32.wrap n=n % 4294967296:=by simp[IntKind.wrap,IntKind.signed,IntKind.bits]
def wrap_i64(n:Int)(a : -9223372036854775808<=n)(b:n<=9223372036854775807):IntKind.i64.wrap n=n:=by
 simp only[IntKind.wrap,IntKind.signed,IntKind.bits];simp
 split<;>omega
def Vy(a:Int)(e:Int)(d:0<=a)(g:a<4294967296)(h:a % 2=0)(f:e=0\/e=1):og .u32 a e=a+e:=by
 unfold og IntKind.bits;obtain⟨n,rfl⟩:=wo d;rw[wrap_u32,BitVec.toNat_or];have b:(BitVec.ofInt 32 (n:Int)).toNat=n:=by rw[BitVec.ofInt_natCast,ve];exact ev O
 rw[b];rcases f with rfl|rfl
 .simp;omega
 .have c:(BitVec.ofInt 32 1).toNat=1:=by decide
  have:n ||| 1=n+1:=by
   apply ol;intro j;cases j with
   |zero=>simp;omega
   |succ j=>rw[Nat.testBit_or];simp[xk];congr 1;omega
  rw[c,this];omega
def Vi(e:Int):AA .i64 e 1=e % 2:=by
 show IntKind.i64.wrap ((BitVec.ofInt 64 e &&& BitVec.ofInt 64 1).toNat:Int)=_;have a:(BitVec.ofInt 64 1).toNat=1:=by decide
 rw[BitVec.toNat_and,a,Nat.and_one_is_mod,wrap_i64 _ O O,BitVec.toNat_ofInt];omega
def Xh(a:Int):IE .u32 a 1=a*2 % 4294967296:=by unfold IE;rw[wrap_u32];rfl
def Of(id e:Int)(b:St):
 aD prog 93 [u id,i e] b fun r a=>r=u (id*2 % 4294967296+e % 2)/\a=b:=by
 refine zN func93 ntmps93 [.tmp 4] ?_;refine bz ?_;rw[Xh,Vi,wrap_u32,Vy _ _ O O O O];omega
end Aw
namespace Aw
open Go Go.RowKit Pl
def qN(k:Nat)(h:k<9223372036854775807):IntKind.i64.wrap ((k:Int)+1)=((k+1:Nat):Int):=by rw[wrap_i64 _ O O];omega
def lU(l:PP)(k:Nat)(a:k<l.length):(us l).drop k=u l[k]::us (l.drop (k+1)):=by rw[us,<- sn,jm a];rfl
def qG(l:PP)(k:Nat)(a:k<l.length):(us l).drop k=u (l.getD k 0)::us (l.drop (k+1)):=by rw[lU l k a];simp[a]
variable{Q:AQ}{x y:Code}{d e:Int}{l t:List Int}{k:List iM}{N j:Nat}{P:Program}
def IY(h:d∈l):gi l d=((l.idxOf d:Nat):Int):=by unfold gi;rw[ac h]
def SF(h:¬d∈l):gi l d = -1:=by unfold gi;rw[aa h]
def bT(l:PP)(j:Nat)(a:j<l.length):l.getD j 0=l[j]:=by rw[bv,bu a];rfl
variable{a:St}
variable{b:St}
def St.ext'(h:a.z=b.z)(k:∀ x,a.H x=b.H x):a=b:=by cases a;cases b;simp only at h k;subst h;congr;funext x;exact k x
def small(l:PP):Prop:=l.length<=1048576
def Index(l:PP)(t:Nat)(x:Int)(s:St)(z:small l):
 aD prog 40 [.sl t l.length (us l),u x] s fun r a=>r=i (gi l x)/\a=s:=by
 unfold small at z;refine zN func40 ntmps40 [.tmp 4] ?_;refine bz ?_;refine qL (fun n c a=>∃ k:Nat,k<=l.length/\n=l.length-k/\c 0=.sl t l.length (us l)/\c 1=u x/\c 7=i l.length/\c 8=i k/\a=s/\∀ j (b:j<l.length),j<k->l[j]≠x) l.length ?_ ?_
 .exact⟨0,O,O,Y,Y,Y,Y,rfl,fun j _ h=>by omega⟩
 rintro n c a ⟨k,B,rfl,d,e,f,g,rfl,q⟩ A m;by_cases dS:k<l.length
 .have o:=lU l k dS;have p:=qN k O
  (repeat' (first|apply qS|apply qB|refine qK (zZ ?_)|(refine qR (zZ ?_);simp[d,e,f,g,dS,o,p])|(apply qC;simp[d,e,f,g,dS,o,p];(try with_reducible refine⟨?_,?_⟩)<;>(try with_reducible intro v))|(refine zE ?_;intro J w;simp[d,e,f,g,dS,o,p];refine zJ w ?_)))
  .exact(XM dS v.symm (fun j b=>q j O b)).symm
  .refine m _ _ _ ?_ ⟨k+1,O,rfl,Z d,Z e,Z f,Y,rfl,fun j b y=>?_⟩
   .omega
   .rcases ec j k with h|h
    .exact q j b h
    .obtain rfl:j=k:=O;exact fun h=>v h.symm
 .refine jl d e f g dS ?_;exact(Wv (fun j b=>q j b O)).symm
def Vd(l:PP)(h:0<l.length):oe (us l)=u l[0]:=by
 cases l with
 |nil=>simp at h
 |cons a l=>rfl
def Min(l:PP)(t:Nat)(j:St)(v:small l)(p:l≠[]):
 aD prog 106 [.sl t l.length (us l)] j fun r c=>r=u (mn l)/\c=j:=by
 unfold small at v;have b:0<l.length:=jg.2 p;have e:=Vd l b;refine zN func106 ntmps106 [.tmp 2] ?_
 (repeat' (first|apply qS|apply qB|refine qK (zZ ?_)|(apply qC;simp[b,e];(try with_reducible refine⟨?_,?_⟩)<;>(try with_reducible intro y)<;>try (exfalso;omega))|(refine zE ?_;intro J q;simp[b,e];refine zJ q ?_)))
 refine qL (fun n f c=>∃ k:Nat,0<k/\k<=l.length/\n=l.length-k/\f 0=.sl t l.length (us l)/\f 4=i k/\f 3=u (mn (l.take k))/\c=j) (l.length-1) ?_ ?_
 .refine⟨1,O,O,O,Y,Y,?_,rfl⟩;cases l with
  |nil=>simp at b
  |cons a l=>simp[mn]
 rintro n f c ⟨k,h,z,rfl,d,o,m,rfl⟩ x g;by_cases dS:k<l.length
 .have s:=lU l k dS;have w:=qN k O;refine ls d m o dS s w ?_;refine g _ _ _ ?_ ⟨k+1,O,O,rfl,Z d,Y,by simp[Vb l k h dS],rfl⟩;omega
 .refine eI d m o dS ?_;rw[ej O]
def wrap_small(n:Int)(b:0<=n)(a:n<=9223372036854775807):IntKind.i64.wrap n=n:=wrap_i64 n O a
def S1(n:Int)(f:St)(h:0<=n)(k:n<=4194304):
 aD prog 203 [.nil,i n] f fun r d=>∃ l g,r=.ms l 0 0/\f.z<=l/\d.H l=.box 34 1 g/\aC f d:=by
 have c:=wrap_small n h O;have a:IntKind.i64.wrap 0=0:=by decide
 refine kW 34 1 ?_;refine zN func203 ntmps203 [.tmp 4] ?_;by_cases b:0<n
 ·(repeat' (first|apply qS|refine qK (zZ ?_)|(refine qR (zZ ?_);simp[c,a,b])|(apply qC;simp[c,a,b];(try with_reducible refine⟨?_,?_⟩)<;>(try with_reducible intro j)<;>try (exfalso;omega))|(refine zE ?_;intro J e;simp[c,a,b];(repeat refine ca ?_);refine zJ e ?_)))
  exact aC.new _ _
 ·(repeat' (first|apply qS|refine qK (zZ ?_)|(refine qR (zZ ?_);simp[c,a,b])|(apply qC;simp[c,a,b];(try with_reducible refine⟨?_,?_⟩)<;>(try with_reducible intro j)<;>try (exfalso;omega))|(refine zE ?_;intro J e;simp[c,a,b];refine zJ e ?_)))
  exact aC.new _ _
abbrev rows(a:List (Nat×PP)):QQ:=a.map fun p=>.sl p.1 p.2.length (us p.2)
def total(a:List (Nat×PP)):Nat:=(a.map fun p=>p.2.length).sum
def flat(a:List (Nat×PP)):PP:=(a.map fun p=>p.2).flatten
def Aa(a:List (Nat×PP)):(flat a).length=total a:=by
 induction a with
 |nil=>rfl
 |cons p a b=>simp[flat,total,Function.comp_def]at b ⊢
def CT(a:List (Nat×PP))(k:Nat)(b:k<a.length):total (a.take (k+1))=total (a.take k)+a[k].2.length:=by rw[fh b,total,cz,List.sum_append];simp only[total,ax,mB,List.sum_cons,List.sum_nil,Nat.add_zero]
def Pv(a:List (Nat×PP))(k:Nat)(b:k<a.length):flat (a.take (k+1))=flat (a.take k)++a[k].2:=by rw[fh b,flat,cz,oq];simp only[flat,ax,mB,List.flatten_cons,List.flatten_nil,dT]
def vQ(a:List (Nat×PP))(k:Nat):total (a.take k)<=total a:=by
 have h:total a=total (a.take k)+total (a.drop k):=by
  conv=>lhs;rw[<- gw k a]
  rw[total,cz,List.sum_append];rfl
 omega
def FE(a:List (Nat×PP))(k:Nat)(b:k<a.length):(rows a).drop k=.sl a[k].1 a[k].2.length (us a[k].2)::rows (a.drop (k+1)):=by rw[rows,<- sn,jm b];rfl
def ML(a:PP):(us a).all kQ=true:=by simp[us,kQ]
def WH(a:List (Nat×PP))(t:Nat)(L:St)(X:a.length<=1048576)(W:total a<=4194304):
 aD prog 183 [.sl t a.length (rows a)] L fun r e=>∃ l,r=.ms l 0 (flat a).length/\L.z<=l/\e.H l=.box 34 1 (us (flat a))/\aC L e:=by
 refine zN func183 ntmps183 [.tmp 2] ?_;refine bz ?_;refine qL (fun n b e=>∃ k:Nat,k<=a.length/\n=a.length-k/\b 0=.sl t a.length (rows a)/\b 9=.sl t a.length (rows a)/\b 10=i a.length/\b 11=i k/\b 3=i (total (a.take k))/\e=L) a.length ?_ ?_
 .exact⟨0,O,O,Y,Y,Y,Y,by simp[total],rfl⟩
 rintro n b F ⟨k,N,rfl,p,y,c,f,x,rfl⟩ Q d;by_cases dS:k<a.length
 .have B:=FE a k dS;have D:=qN k O;have P:=CT a k dS;have U:=vQ a (k+1);have E:IntKind.i64.wrap ((total (a.take k):Int)+(a[k].2.length:Int))=(total (a.take (k+1)):Int):=by rw[wrap_small _ O O];omega
  clear P
  (repeat' (first|apply qS|apply qB|refine qK (zZ ?_)|(apply qC;simp[p,y,c,f,x,dS,B,D,E];(try with_reducible refine⟨?_,?_⟩)<;>(try with_reducible intro V)<;>try (exfalso;omega))|(refine zE ?_;intro J s;simp[p,y,c,f,x,dS,B,D,E];(refine zJ s ?_;clear s J))))
  refine d _ _ _ ?_ ⟨k+1,O,rfl,Z p,Z y,Z c,Y,Y,rfl⟩;omega
 .have C:k=a.length:=O;have V9:a.take k=a:=ej O;rw[V9]at x;clear d
  (refine v6 p y c f x dS ?_;intro J s)
  refine qF (S1 (total a) _ O O) ?_;rintro r e ⟨T,R,rfl,v,A,w⟩;refine pY s p ?_;refine Mx 0 A ?_;refine qL (fun n b j=>∃ k:Nat,k<=a.length/\n=a.length-k/\b 25=.sl t a.length (rows a)/\b 26=i a.length/\b 27=i k/\∃ l,b 6=.ms l 0 (flat (a.take k)).length/\j.H l=.box 34 1 (us (flat (a.take k)))/\F.z<=l/\aC F j) a.length ?_ ?_
  .exact⟨0,O,O,Z p,Y,Y,T,by simp[flat],by simp[flat],v,w.set v _⟩
  clear p y c f x dS A w v b N C V9;rintro n b j ⟨k,N,rfl,g,h,q,l,I,K,m,w⟩ Q d;by_cases dS:k<a.length
  .have B:=FE a k dS;have D:=qN k O;have P:=CT a k dS;have U:=vQ a (k+1);have hf:=Pv a k dS;have S:=Aa (a.take (k+1));have M:=Aa (a.take k);have o:=ML (a[k].2)
   (repeat' (first|apply qS|apply qB|refine qK (zZ ?_)|(apply qC;simp[g,h,q,I,K,dS,B,D,o])|(refine zE ?_;intro J s;simp[g,h,q,I,K,dS,B,D,o];(repeat refine ca ?_);(refine zJ s ?_;clear s J))))
   refine d _ _ _ ?_ ⟨k+1,O,rfl,Z g,Z h,Y,j.z,?_,?_,w.z,(w.set m _).trans (aC.new _ _)⟩
   .omega
   .simp[hf]
   .simp[hf]
  .have C:k=a.length:=O;have V9:a.take k=a:=ej O;rw[V9]at I K;clear d;refine jl g h q I dS ?_;exact⟨m,K,w⟩
def Zi(a:List (Nat×PP))(t:Nat)(c:St)(g:a.length<=1048576)(f:total a<=4194304):
 aD prog 183 [.sl t a.length (rows a)] c fun r b=>r=.sl 0 (flat a).length (us (flat a))/\aC c b:=by
 refine cQ ((WH a t c g f).mono ?_);rintro r b ⟨l,rfl,dS,d,e⟩;exact⟨l,_,_,1,_,rfl,d,Y,by simp[ej],e.set dS _⟩
def C6(a:PP)(t:Nat)(d:St)(g:small a):
 aD prog 20 [.sl t a.length (us a)] d fun r c=>∃ l,r=.ms l 0 a.length/\d.z<=l/\c.H l=.box 34 1 (us a)/\aC d c:=by
 unfold small at g;refine kW 34 1 ?_;have b:=ML a;refine zN func20 ntmps20 [.tmp 2] ?_
 (repeat' (first|apply qS|refine qK (zZ ?_)|(refine qR (zZ ?_);simp[b])|(apply qC;simp[b])|(refine w_e [5] ?_;intro J e;simp only[];simp[b];(repeat refine ca ?_);((try with_reducible refine⟨?_,?_⟩)<;>(try with_reducible intro f)<;>refine zJ e ?_<;>clear e J<;>try subst f))))
 .exact((aC.new _ _).set (au _) _).trans (aC.new _ _)
 .exact aC.new _ _
def UU(a:PP)(t:Nat)(c:St)(f:small a):
 aD prog 20 [.sl t a.length (us a)] c fun r b=>r=.sl 0 a.length (us a)/\aC c b:=by
 refine cQ ((C6 a t c f).mono ?_);rintro r b ⟨l,rfl,dS,d,e⟩;exact⟨l,_,_,1,_,rfl,d,Y,by simp[ej],e.set dS _⟩
def nx(l:PP)(d:Int):Int:=if d∈l then l.getD ((l.idxOf d+1) % l.length) 0 else 0
def pv(l:PP)(d:Int):Int:=if d∈l then l.getD ((l.idxOf d+(l.length-1)) % l.length) 0 else 0
def iY(b:t.Nodup)(a:j<t.length):nx t t[j]=t[(j+1) % t.length]'(me _ O):=by unfold nx;rw[ac (dz a),b.idxOf_getElem j a,bT _ _ (me _ O)]
theorem Ln(a:d∈t):nx t d∈t:=by unfold nx;have:0<t.length:=uq a;rw[ac a,bT _ _ (me _ this)];exact dz _
def VJ(f:t.Nodup)(l:d∈t)(m:e∈t)(h:nx t d=nx t e):d=e:=by
 obtain⟨j,n,rfl⟩:=er l;obtain⟨k,o,rfl⟩:=er m;rw[iY f n,iY f o]at h;have c:=congrArg t.idxOf h;rw[f.idxOf_getElem,f.idxOf_getElem]at c;have g:j=k:=by
  rcases ec (j+1) t.length with a|a
  .rw[ev a]at c;rcases ec (k+1) t.length with b|b
   .rw[ev b]at c;omega
   .rw[show k+1=t.length by omega,ua]at c;omega
  .rw[show j+1=t.length by omega,ua]at c;rcases ec (k+1) t.length with b|b
   .rw[ev b]at c;omega
   .omega
 subst g;rfl
def K6(b:t.Nodup)(a:j<t.length)(k:Nat):Eu.it (nx t) k t[j]=t[(j+k) % t.length]'(me _ O):=by
 induction k with
 |zero=>simp only[Eu.it,Nat.add_zero,ev a]
 |succ k c=>
  rw[Eu.bI,c,iY b]
  congr 1
  rw[Nat.mod_add_mod];rfl
def Mk(g:t.Nodup)(a:d∈t)(b:e∈t):Eu.Orb (nx t) d e:=by
 obtain⟨j,c,rfl⟩:=er a;obtain⟨k,f,rfl⟩:=er b;refine⟨t.length-j+k,?_⟩;rw[K6 g c]
 congr 1
 rw[show j+(t.length-j+k)=t.length+k by omega,Nat.add_mod_left,ev f]
def from_(l:PP)(t k:Nat)(c:St)(e:small l)(b:k<=l.length):
 aD prog 149 [.sl t l.length (us l),i k] c fun r a=>r=.sl 0 l.length (us (rt l k))/\aC c a:=by
 unfold small at e;refine zN func149 ntmps149 [.tmp 4] ?_;refine df b ?_
 (refine Ql oP [] 6 (by kernel_rfl) (by kernel_rfl) rfl rfl ?_;intro J d;simp[b];skip;skip)
 refine qE (Zi [(0,l.drop k),(0,l.take k)] c.z _ Y (by simp[total];omega)) (by simp[ej,vo b]) ?_;rintro r a ⟨rfl,f⟩;have hf:flat [(0,l.drop k),(0,l.take k)]=rt l k:=by simp[flat,rt]
 rw[hf,AR];refine dU d ?_;exact(aC.new _ _).trans f
def VM(l:PP)(t:Nat)(f:St)(e:small l):
 aD prog 110 [.sl t l.length (us l)] f fun r c=>r=.sl 0 l.length (us (fb l))/\aC f c:=by
 refine JB ?_;refine zN func110 ntmps110 [.tmp 2] ?_;cases l with
 |nil=>refine bz ?_;exact⟨by decide,aC.refl _⟩
 |cons a b=>
  (repeat' (first|apply qS|refine qK (zZ ?_)|(apply qC;simp[];(try with_reducible refine⟨?_,?_⟩)<;>(try with_reducible intro j)<;>try (exfalso;omega))|(refine zE ?_;intro J d;simp[];(try (refine zJ d ?_;clear d J)))))
  refine qE (Min (a::b) t _ e Y) (by simp[]) ?_;rintro r c ⟨rfl,rfl⟩;refine dU d ?_;refine qE (Index (a::b) t (mn (a::b)) _ e) (by simp[]) ?_;rintro r c ⟨rfl,rfl⟩;refine dU d ?_;have g:gi (a::b) (mn (a::b))=(((a::b).idxOf (mn (a::b)):Nat):Int):=by unfold gi;rw[ac (AW Y)]
  rw[g];refine qE (from_ (a::b) t ((a::b).idxOf (mn (a::b))) _ e EQ) (by simp[]) ?_;rintro r c ⟨rfl,h⟩;refine dU d ?_;exact⟨rfl,h⟩
def ins(l:PP)(b:Int)(m:PP):PP:=(if b∈l then l.take (l.idxOf b+1)++m++l.drop (l.idxOf b+1)else l++m)
def TY(c:PP)(k:Nat)(x:Int)(a:k<c.length):(c.set k x).take (k+1)=c.take k++[x]:=by
 grind [List.take_succ_eq_append_getElem,List.take_set_of_le]
def set_drop(c:PP)(k j:Nat)(x:Int)(h:k<=j):(c.set k x).drop (j+1)=c.drop (j+1):=by
 grind [List.drop_set_of_lt]
theorem GM(c:PP)(k:Nat)(x:Int)(a:k<c.length):(us c).take k++u x::(us c).drop (k+1)=us (c.set k x):=by
 grind [List.map_take,List.map_drop,List.set_eq_take_append_cons_drop]
theorem St.set_set(c:St)(q:Nat)(a b:cT):(c.set q a).set q b=c.set q b:=St.ext' rfl fun y=>by simp_all
def swp(c:PP)(a b:Nat):PP:=(c.set a (c.getD b 0)).set b (c.getD a 0)
def LS(c:PP)(a b:Nat):(swp c a b).length=c.length:=by simp[swp]
def swp_get(c:PP)(a b j:Nat)(f:a<c.length)(g:b<c.length):(swp c a b).getD j 0=if j=b then c.getD a 0 else if j=a then c.getD b 0 else c.getD j 0:=by
 unfold swp;simp only[bv,vg];by_cases d:b=j
 .subst d;simp[g]
 .by_cases e:a=j
  .subst e;simp[d,f,jk d]
  .simp[d,e,jk d,jk e]
def Yg(c:PP)(a b:Nat)(d:a<c.length)(e:b<c.length):us (swp c a b)=((us c).set a (u (c.getD b 0))).set b (u (c.getD a 0)):=by unfold swp;simp only[us,List.map_set]
def HM(a:QQ)(o:Nat)(v:LV)(h:o<a.length):a.take o++v::a.drop (o+1)=a.set o v:=by rw[uk,ac h]
def Yt(l c:PP)(b:c.length=l.length)(h:∀ j,j<l.length->c.getD j 0=l.getD (l.length-1-j) 0):c=l.reverse:=by apply ti (Z b);intro j a d;have:=h j O;rw[bv,bv,bu a,bu O]at this;rw[List.getElem_reverse];simpa using this
def BZ(l:PP)(q:Nat)(w:St)(N:small l)(K:w.H q=.box 34 1 (us l)):
 aD prog 108 [.ms q 0 l.length] w fun r f=>f=w.set q (.box 34 1 (us l.reverse)):=by
 unfold small at N;have B:IntKind.i64.wrap ((l.length:Int)-1)=(l.length:Int)-1:=zW;refine zN func108 ntmps108 [] ?_;refine df B ?_;refine qL (fun n p f=>∃(k:Nat) (c:PP),n=l.length-k/\k<=l.length/\p 0=.ms q 0 l.length/\p 2=i k/\p 3=i ((l.length:Int)-1-k)/\c.length=l.length/\f=w.set q (.box 34 1 (us c))/\∀ j,j<l.length->c.getD j 0=if j<k\/l.length<=j+k then l.getD (l.length-1-j) 0 else l.getD j 0) l.length ?_ ?_
 .refine⟨0,l,O,O,Y,Y,Y,rfl,St.ext' rfl fun x=>by by_cases Q:x=q<;>simp[Q,K],fun j t=>?_⟩;rw[aa O]
 rintro n p R ⟨k,c,rfl,T,s,b,a,o,rfl,v⟩ S g;by_cases dS:(k:Int)<(l.length:Int)-1-k
 .obtain⟨m,P⟩:∃ m:Nat,(l.length:Int)-1-k=m:=⟨l.length-1-k,O⟩;rw[P]at a dS;have C:=qN k O;have D:IntKind.i64.wrap ((m:Int)-1)=(m:Int)-1:=zW;have M:=qG c k O;have A:=qG c m O;have d:k<l.length:=O;have e:m<l.length:=O;refine eI s b a dS ?_
  (refine zS [] [q] [0,2,4,6,8,10,12,14,16,18,20,22,24,27,28,31] ?_;intro J L;simp[s,b,a,d,e,o,M,A];(repeat refine ca ?_);refine zJ L ?_)
  refine eI b a C D ?_;refine g _ _ _ ?_ ⟨k+1,swp c k m,rfl,O,Z s,Y,?_,by rw[LS];exact o,St.ext' rfl fun y=>?_,fun j t=>?_⟩
  .omega
  .simp only[HB];simp;omega
  .by_cases I:y=q
   .subst I;have F:(us c).length=l.length:=by simp[o]
    simp only[cC,reduceIte,Yg c k m O O];rw[HM (us c) k _ O,HM _ m _ (by simp;omega)];simp[o,d,e]
   .simp[I]
  .rw[swp_get c k m j O O,v k d,v m e,v j t];by_cases E:j=m
   .rw[ac E,aa O,ac O];congr 1;omega
   .rw[aa E];by_cases b:j=k
    .rw[ac b,aa O,ac O];congr 1;omega
    .rw[aa b];by_cases a:j<k\/l.length<=j+k
     .rw[ac a,ac O]
     .rw[aa a,aa O]
 .have z:c=l.reverse:=?_
  .subst z;clear g;refine eI s b a dS ?_;simp
  refine Yt l c o ?_;intro j t;rw[v j t];by_cases h:j<k\/l.length<=j+k
  .rw[ac h]
  .rw[aa h]
   congr 1
   omega
def isNaN(x:Int)(b:St):aD prog 118 [u x] b fun r a=>r=bb false/\a=b:=by refine zN func118 ntmps118 [.tmp 2] ?_;exact vz
def yK(x y:Int)(b:St):aD prog 126 [u x,u y] b fun r a=>r=bb (decide (x<y))/\a=b:=by
 refine zN func126 ntmps126 [.tmp 4] ?_
 (refine ez ?_;intro J c)
 refine qF (isNaN x _) ?_;rintro r a ⟨rfl,rfl⟩;exact JZ c
def aY(k:Nat)(a:0<k)(h:k<9223372036854775807):IntKind.i64.wrap ((k:Int)-1)=((k-1:Nat):Int):=by rw[wrap_i64 _ O O];omega
abbrev bx(a:St)(q:Nat)(c:PP):St:=a.set q (.box 34 1 (us c))
def yL{q:Nat}{c:PP}(h:a.H q=.box 34 1 (us c)):a=bx a q c:=
 St.ext' rfl fun x=>by by_cases b:x=q<;>simp[b,h]
def pM(a:St)(q:Nat)(c:PP)(k m:Nat){x y:Int}(b:k<c.length)(d:m<c.length)(f:c.getD k 0=x)(g:c.getD m 0=y):
 ((bx a q c).set q (.box 34 1 (List.take k (us c)++.atom (.int .u32 y)::List.drop (k+1) (us c)))).set q
   (.box 34 1 (List.take m (List.take k (us c)++.atom (.int .u32 y)::List.drop (k+1) (us c))++.atom (.int .u32 x)::List.drop (m+1) (List.take k (us c)++.atom (.int .u32 y)::List.drop (k+1) (us c))))=bx a q (sw c k m):=by
 have e:List.take k (us c)++.atom (.int .u32 y)::List.drop (k+1) (us c)=us (c.set k y):=GM c k y b;rw[e,GM (c.set k y) m x (by simpa using d)];unfold bx sw;rw[f,g];exact St.ext' rfl fun z=>by by_cases h:z=q<;>simp[h]
def insertionSort(l:PP)(q a b:Nat)(B:St)(hl:small l)(ha:a<=b)(hb:b<=l.length)(hH:B.H q=.box 34 1 (us l)):
 aD prog 120 [.ms q 0 l.length,i a,i b] B fun r m=>∃ c,m=bx B q c/\Pm a b l c/\Srt a b c:=by
 unfold small at hl;refine zN func120 ntmps120 [] ?_;have T:=qN a O;refine df T ?_;refine qL (fun n d m=>∃(k:Nat) (c:PP),a<k/\n=b-k/\d 0=.ms q 0 l.length/\d 1=i a/\d 2=i b/\d 6=i k/\m=bx B q c/\Pm a b l c/\Srt a k c) (b-(a+1)) ?_ ?_
 .exact⟨a+1,l,O,rfl,Y,Y,Y,Y,yL hH,.refl,fun p q V W h3=>by omega⟩
 rintro n d U ⟨k,c,hak,rfl,e,f,g,h,rfl,t,S⟩ JJ o;have L:=t.len;by_cases dS:k<b;rotate_left
 .clear o;have v7:¬(k:Int)<(b:Int):=O;refine jl e f g h dS ?_;exact⟨trivial,c,rfl,t,fun p q V W h3=>S p q V W O⟩
 have I:=qN k O;refine jl e f g h dS ?_;refine qL (fun n d m=>∃(j:Nat) (c:PP),a<=j/\j<=k/\j=n/\d 0=.ms q 0 l.length/\d 1=i a/\d 2=i b/\d 6=i k/\d 7=i j/\m=bx B q c/\Pm a b l c/\Ins a j k c) k ?_ ?_
 .exact⟨k,c,O,O,rfl,Z e,Z f,Z g,Z h,Y,rfl,t,S.ins⟩
 clear e f g h S t L c d;rintro n d U ⟨j,c,C,R,rfl,e,f,g,h,K,rfl,t,M⟩ JJ2 w;have L:=t.len;by_cases Q:a<j;rotate_left
 .clear w;have hj':¬(a:Int)<(j:Int):=O
  (repeat (apply qS));(refine zS [] [q] [0,2,4,6,8,10,12,14,16,18,20,22,24,27,28] ?_;intro J A;simp[e,f,g,h,K,Q];refine zJ A ?_)
  refine cm h I ?_;exact o (b-(k+1)) _ _ O ⟨k+1,c,O,rfl,Z e,Z f,Z g,Y,rfl,t,M.done C (.inl O)⟩
 have z:=aY j O O;have E:j<l.length:=O;have v:j-1<l.length:=O;have X:=qG c j O;have D:=qG c (j-1) O;have N:=M.step Q R O;have P:=M.done C;have F:=t.step j (j-1) O O O O O;generalize hx:c.getD j 0=x at *;generalize hy:c.getD (j-1) 0=y at *
 (repeat (apply qS));(refine zS [] [q] [0,2,4,6,8,10,12,14,16,18,20,22,24,27,28] ?_;intro J A;simp[e,f,g,h,K,Q,z,E,v,L,X,D])
 refine aS (yK x y _) ?_;rintro r s2 ⟨rfl,rfl⟩;refine⟨fun _=>by simp,?_⟩;by_cases s:x<y;rotate_left
 .clear w
  (apply bM;simp[s];refine zJ A ?_)
  refine cm h I ?_;exact o (b-(k+1)) _ _ O ⟨k+1,c,O,rfl,Z e,Z f,Z g,Y,rfl,t,P (.inr s)⟩
 clear o
 (apply bM;simp[s];refine zJ A ?_)
 refine bz ?_
 (refine zS [] [q] [0,2,4,6,8,10,12,14,16,18,20,22,24,26,28,31,32,35] ?_;intro J A;simp[e,f,g,h,K,z,E,v,L,X,D];(repeat refine ca ?_);refine zJ A ?_)
 refine cm K z ?_;exact w (j-1) _ _ O ⟨j-1,sw c j (j-1),O,O,rfl,Z e,Z f,Z g,Z h,Y,pM B q c j (j-1) O O hx hy,F,N s⟩
def reverseRange(l:PP)(q a b:Nat)(g:St)(I:small l)(S:a<=b)(T:b<=l.length)(R:0<b)(C:g.H q=.box 34 1 (us l)):
 aD prog 124 [.ms q 0 l.length,i a,i b] g fun r d=>∃ c,d=bx g q c/\Pm a b l c:=by
 unfold small at I;refine zN func124 ntmps124 [] ?_;have w:=aY b O O;refine df w ?_;refine qL (fun n p d=>∃(k m:Nat) (c:PP),a<=k/\m<b/\m=n/\p 0=.ms q 0 l.length/\p 6=i k/\p 7=i m/\d=bx g q c/\Pm a b l c) (b-1) ?_ ?_
 .exact⟨a,b-1,l,O,O,rfl,Y,Y,Y,yL C,.refl⟩
 rintro n p P ⟨k,m,c,E,K,rfl,h,j,o,rfl,B⟩ Q e;have N:=B.len;by_cases dS:k<m;rotate_left
 .clear e;refine eI h j o dS ?_;exact⟨trivial,c,rfl,B⟩
 have z:=qN k O;have A:=aY m O O;have t:k<l.length:=O;have v:m<l.length:=O;have F:=qG c k O;have s:=qG c m O;have f:=B.step k m O O O O O;generalize L:c.getD k 0=x at *;generalize M:c.getD m 0=y at *;refine eI h j o dS ?_
 (refine zS [] [q] [0,2,4,6,8,10,12,14,16,18,20,22,24,27,28,31] ?_;intro J D;simp[h,j,o,t,v,N,F,s];(repeat refine ca ?_);refine zJ D ?_)
 refine eI j o z A ?_;exact e (m-1) _ _ O ⟨k+1,m-1,sw c k m,O,O,rfl,Z h,Y,Y,pM g q c k m O O L M,f⟩
def cM{a:ah}(I:ah->St->Prop)(c:bq P N x (AK P N (fun e f s=>e=.normal/\I f s) []) a b)(d:∀ a b,I a b->bq P N y (AK P N Q k) a b):
 bq P N x (AK P N Q (.code y::k)) a b:=by
 refine dR c ?_;rintro e j h ⟨rfl,g⟩;rw[kO];exact d _ _ g
def Mj(a:St)(q:Nat)(c:PP)(k m:Nat){x y:Int}(b:k<c.length)(d:m<c.length)(e:c.getD k 0=x)(f:c.getD m 0=y):
 (a.set q (.box 34 1 (List.take k (us c)++.atom (.int .u32 y)::List.drop (k+1) (us c)))).set q
   (.box 34 1 (List.take m (List.take k (us c)++.atom (.int .u32 y)::List.drop (k+1) (us c))++.atom (.int .u32 x)::List.drop (m+1) (List.take k (us c)++.atom (.int .u32 y)::List.drop (k+1) (us c))))=bx a q (sw c k m):=by
 rw[<- pM a q c k m b d e f];exact St.ext' rfl fun z=>by by_cases g:z=q<;>simp[g]
def TN{a:ah}{z:Code}(I:ah->St->Prop)(d:bq P N x (AK P N (fun e f s=>e=.normal/\I f s) [.code y]) a b)(g:∀ a b,I a b->bq P N z (AK P N Q k) a b):
 bq P N x (AK P N Q (.code y::.code z::k)) a b:=by
 refine dR d ?_;rintro e m j h;cases e with
 |normal=>rw[kO]at h ⊢;refine dR h ?_;rintro e c l ⟨rfl,h⟩;rw[kO];exact g _ _ h
 |_=>exact absurd h.1 Y
def I6(c:PP)(f r b a:Nat):Prop:=∀ x,(x=2*r+1\/x=2*r+2)->x<b->c.getD (f+x) 0<=c.getD (f+a) 0
def siftDown(l:PP)(q w a f:Nat)(K:St)(hl:small l)(hb:f+a<=l.length)(hlo:w<=l.length)(hh:xO (w+1) a f l)(hH:K.H q=.box 34 1 (us l)):
 aD prog 163 [.ms q 0 l.length,i w,i a,i f] K fun r E=>∃ c,E=bx K q c/\Pm (f+w) (f+a) l c/\xO w a f c:=by
 unfold small at hl;refine zN func163 ntmps163 [] ?_;refine bz ?_;refine qL (fun n B E=>∃(r:Nat) (c:PP),w<=r/\r<=l.length/\n=a-r/\B 0=.ms q 0 l.length/\B 2=i a/\B 3=i f/\B 8=i r/\E=bx K q c/\Pm (f+w) (f+a) l c/\xN w a f r c) (a-w) ?_ ?_
 .exact⟨w,l,au _,hlo,rfl,Y,Y,Y,Y,yL hH,.refl,hh.x⟩
 rintro n B st1 ⟨r,c,hlr,hrl,rfl,e,j,k,p,rfl,u6,hX⟩ JJ C;have r8:=u6.len;obtain⟨m,hm⟩:∃ m:Nat,m=2*r+1:=⟨_,rfl⟩;obtain⟨I,hm2⟩:∃ m:Nat,m=2*r+2:=⟨_,rfl⟩;have w1:IntKind.i64.wrap (2*(r:Int))=2*(r:Int):=zW;have w2:IntKind.i64.wrap (2*(r:Int)+1)=(m:Int):=zW;have w3:IntKind.i64.wrap ((m:Int)+1)=(I:Int):=zW;by_cases Q:a<=m
 .clear C;refine oh e j k p w1 w2 Q ?_;exact⟨trivial,c,rfl,u6,hX.leaf O⟩
 obtain⟨d,g⟩:∃ x:Nat,x=f+m:=⟨_,rfl⟩;obtain⟨W,D⟩:∃ x:Nat,x=f+I:=⟨_,rfl⟩;obtain⟨F,S⟩:∃ x:Nat,x=f+r:=⟨_,rfl⟩;have V:IntKind.i64.wrap ((f:Int)+(m:Int))=(d:Int):=zW;have w5:IntKind.i64.wrap ((d:Int)+1)=(W:Int):=zW;have w6:IntKind.i64.wrap ((f:Int)+(r:Int))=(F:Int):=zW
 (repeat' (first|apply qS|apply qB|(refine zE ?_;intro J t;simp[e,j,k,p,w1,w2,Q];refine zJ t ?_)))
 (apply qC;simp[])
 (repeat' (first|apply qS|refine qK (zZ ?_)))
 refine TN (fun s U=>U=bx K q c/\s 0=.ms q 0 l.length/\s 2=i a/\s 3=i f/\s 8=i r/\∃ o:Nat,s 9=i o/\(o=2*r+1\/o=2*r+2)/\o<a/\I6 c f r a o) ?_ ?_
 .by_cases L:I<a;rotate_left
  ·(refine zS [] [q] [0,2,4,6,8,10,12,14,16,18,20,22,24,26,28,30,32,34,37,38] ?_;intro J t;simp[e,j,k,p,w3,L];refine zJ t ?_)
   refine df e ?_;refine⟨trivial,trivial,Z e,Z j,Z k,Z p,m,Y,O,O,fun x h1 h2=>?_⟩;rw[show x=m by omega];exact qe _
  have y9:=qG c d O;have hd2:=qG c W O;have y:d<l.length:=O;have hl2:W<l.length:=O;generalize z:c.getD d 0=X at *;generalize T:c.getD W 0=y2 at *
  (refine zS [] [q] [0,2,4,6,8,10,12,14,16,18,20,22,24,26,28,30,32,34,37,38] ?_;intro J t;simp[e,j,k,p,w3,V,w5,L,y,hl2,r8,y9,hd2])
  refine aS (yK X y2 _) ?_;rintro r1 s2 ⟨rfl,rfl⟩;refine⟨fun _=>by simp,?_⟩;by_cases h:X<y2
  ·(apply bM;simp[h];refine zJ t ?_)
   refine df w3 ?_;refine⟨trivial,trivial,Z e,Z j,Z k,Z p,I,Y,O,O,fun x h1 h2=>?_⟩;rcases(show x=m\/x=I by omega)with rfl|rfl
   .rw[<- g,<- D,z,T];omega
   .exact qe _
  ·(apply bM;simp[h];refine zJ t ?_)
   refine bz ?_;refine⟨trivial,trivial,Z e,Z j,Z k,Z p,m,Y,O,O,fun x h1 h2=>?_⟩;rcases(show x=m\/x=I by omega)with rfl|rfl
   .exact qe _
   .rw[<- g,<- D,z,T];omega
 clear e j k p w1 w2 w3 V w5 g D d W B;rintro B U ⟨rfl,e,j,k,p,o,f9,hch,M,b⟩;obtain⟨d,g⟩:∃ x:Nat,x=f+o:=⟨_,rfl⟩;have V:IntKind.i64.wrap ((f:Int)+(o:Int))=(d:Int):=zW;have y9:=qG c d O;have N:=qG c F O;have y:d<l.length:=O;have P:F<l.length:=O;unfold I6 at b;have v:=hX.step (c:=o) hlr hch M O b;have R:=u6.step F d O O O O O;have A:=hX.big;rw[<- S,<- g]at v;rw[<- S]at A;rw[<- g]at b;generalize hy0:c.getD F 0=y0 at *;generalize z:c.getD d 0=X at *
 (repeat (apply qS));(refine zS [] [q] [0,2,4,6,8,10,12,14,16,18,20,22,25,26] ?_;intro J t;simp[e,j,k,p,f9,V,w6,y,P,r8,y9,N])
 refine aS (yK y0 X _) ?_;rintro r1 s2 ⟨rfl,rfl⟩;refine⟨fun _=>by simp,?_⟩;by_cases h:y0<X;rotate_left
 .clear C
  (apply bM;simp[h];refine zJ t ?_)
  refine bz ?_;exact⟨c,rfl,u6,A fun x h1 h2=>by have:=b x h1 h2;omega⟩
 (apply bM;simp[h];refine zJ t ?_)
 refine bz ?_
 (refine zS [] [q] [0,2,4,6,8,10,12,14,16,18,20,22,24,26,28,30,32,34,36,38,40,43,44,47] ?_;intro J t;simp[e,j,k,p,f9,V,w6,y,P,r8,y9,N];(repeat refine ca ?_);refine zJ t ?_)
 refine df f9 ?_;exact C (a-o) _ _ O ⟨o,sw c F d,O,O,rfl,Z e,Z j,Z k,Y,pM K q c F d O O hy0 z,R,v h⟩
def S9(c:PP)(f j a:Nat):Prop:=∀ p q,p<q->j<=q->q<a->c.getD (f+p) 0<=c.getD (f+q) 0
def heapSort(l:PP)(q a b:Nat)(I:St)(hl:small l)(ha:a<b)(hb:b<=l.length)(hH:I.H q=.box 34 1 (us l)):
 aD prog 121 [.ms q 0 l.length,i a,i b] I fun r j=>∃ c,j=bx I q c/\Pm a b l c/\Srt a b c:=by
 have hsm:=hl;unfold small at hl;obtain⟨n,hn⟩:∃ n:Nat,n=b-a:=⟨_,rfl⟩;obtain⟨R,hn1⟩:∃ n:Nat,n=b-a-1:=⟨_,rfl⟩;obtain⟨n2,X⟩:∃ n:Nat,n=R / 2:=⟨_,rfl⟩;have w1:IntKind.i64.wrap ((b:Int)-(a:Int))=(n:Int):=zW;have w2:IntKind.i64.wrap ((n:Int)-1)=(R:Int):=zW;have w3:IntKind.i64.wrap ((R:Int) / 2)=(n2:Int):=by rw[show(R:Int) / 2=((R / 2:Nat):Int) from rfl,<- X];exact wrap_i64 _ O O
 refine zN func121 ntmps121 [] ?_;refine fw w1 w2 w3 ?_;refine qL (fun m e j=>∃(c:PP),m<=n2+1/\e 0=.ms q 0 l.length/\e 6=i a/\e 7=i 0/\e 8=i n/\e 9=i ((m:Int)-1)/\j=bx I q c/\Pm a b l c/\xO m n a c) (n2+1) ?_ ?_
 .exact⟨l,O,Y,Y,Y,Y,Y,yL hH,.refl,fun k x h1 h2 h3=>by omega⟩
 rintro m e st1 ⟨c,hm,o,s,t,S,T,rfl,z,F⟩ JJ v;have D:=z.len;cases m with
 |succ m=>
  have g:e 9=i (m:Int):=by rw[T];congr 2;omega
  have w4:IntKind.i64.wrap ((m:Int)-1)=(m:Int)-1:=zW;have B:(0:Int)<=(m:Int):=O
  (refine v6 o s t S g B ?_;intro J E)
  rw[<- D];refine qF (siftDown c q m n a _ (by unfold small;omega) O O F Y) ?_;rintro r s2 ⟨c2,rfl,f,C⟩;rw[D];refine oG E g w4 ?_;exact v m _ _ O ⟨c2,O,Z o,Z s,Z t,Z S,Y,St.set_set _ _ _ _,z.trans (f.wide O O O),C⟩
 |zero=>
  clear v;have g:e 9=i (-1):=by rw[T];rfl
  refine ls o s t S g w2 ?_;refine qL (fun m e j=>∃(c:PP),m<=n/\e 0=.ms q 0 l.length/\e 6=i a/\e 7=i 0/\e 10=i ((m:Int)-1)/\j=bx I q c/\Pm a b l c/\xO 0 m a c/\S9 c a m n) n ?_ ?_
  .exact⟨c,au _,Z o,Z s,Z t,by simp;omega,rfl,z,F,fun p q h1 h2 h3=>by omega⟩
  clear o s t S T g z F D c e;rintro m e st1 ⟨c,hm,o,s,t,K,rfl,z,F,L⟩ JJ v;have D:=z.len;cases m with
  |zero=>
   have d:e 10=i (-1):=by rw[K];rfl
   refine df d ?_;refine⟨trivial,c,rfl,z,fun p q h1 h2 h3=>?_⟩;have:=L (p-a) (q-a) O O O
   rwa [show a+(p-a)=p by omega,show a+(q-a)=q by omega]at this
  |succ m=>
   have d:e 10=i (m:Int):=by rw[K];congr 2;omega
   have w4:IntKind.i64.wrap ((m:Int)-1)=(m:Int)-1:=zW;have B:(0:Int)<=(m:Int):=O;obtain⟨A,Q⟩:∃ x:Nat,x=a+m:=⟨_,rfl⟩;have w5:IntKind.i64.wrap ((a:Int)+(m:Int))=(A:Int):=zW;have U:=qG c a O;have y9:=qG c A O;have V:a<l.length:=O;have W:A<l.length:=O;have w:=F.pop O;have h:=fun c2=>Px (c2:=c2) F L O O;have M:=z.step a A O O O O O;rw[<- Q]at w h;have N:=FM c a A;have hsw:=fun x y=>pM I q c a A (x:=x) (y:=y) O O;generalize hy0:c.getD a 0=y0 at *;generalize hy1:c.getD A 0=y1 at *;have P:=hsw y0 y1 rfl rfl;refine jl o s t d B ?_
   (refine zS [] [q] [0,2,4,6,8,10,12,14,16,18,20,22,24,26,28,30,32,35,36,39] ?_;intro J E;simp[o,s,t,d,w5,V,W,D,U,y9];(repeat refine ca ?_);(refine zJ E ?_;clear E J))
   rw[P];generalize hc1:sw c a A=c1 at *
   (refine rC o s t d ?_;intro J E)
   rw[<- D,<- N];refine qF (siftDown c1 q 0 m a _ (by unfold small;omega) O O w Y) ?_;rintro r s2 ⟨c2,rfl,f,C⟩;rw[N,D];refine oG E d w4 ?_;exact v m _ _ O ⟨c2,O,Z o,Z s,Z t,Y,St.set_set _ _ _ _,M.trans (f.wide O O O),C,h c2 (by rw[Q];exact f)⟩
def yy(P:Int->Bool)(c:PP)(a b:Nat):Prop:=a<=b->P (c.getD a 0)=false
def yz(P:Int->Bool)(c:PP)(b a:Nat):Prop:=b<=a->P (c.getD a 0)=true
def partition(l:PP)(q a b pv:Nat)(S:St)(hl:small l)(r9:a<b)(hb:b<=l.length)(hp1:a<=pv)(hp2:pv<b)(hH:S.H q=.box 34 1 (us l)):
 aD prog 128 [.ms q 0 l.length,i a,i b,i pv] S fun r st'=>∃(c:PP) (mid:Nat) (p:Bool),r=.tu [i mid,bb p]/\st'=bx S q c/\Pm a b l c/\a<=mid/\mid<b/\dF c a mid b:=by
 unfold small at hl;refine zN func128 ntmps128 [.tmp 8,.tmp 9] ?_
 (repeat (apply qS));(refine zE ?_;intro J z;simp[];refine zJ z ?_)
 have W:a<l.length:=O;have hlp:pv<l.length:=O;have L:=fun x y=>Mj S q l a pv (x:=x) (y:=y) O O;have F:=qG l a O;have R:=qG l pv O;have u6:Pm a b l (sw l a pv):=Pm.one a pv O O O O O;have hx:(sw l a pv).getD a 0=l.getD pv 0:=by
  rw[dB _ _ _ _ O O];by_cases e:a=pv
  .rw[ac e,e]
  .rw[aa e,ac rfl]
 generalize hy0:l.getD a 0=y0 at *;generalize hy1:l.getD pv 0=x at *;have B:=L y0 x rfl rfl
 (repeat (apply qS));(refine zS [] [q] [0,2,4,6,8,10,12,14,16,18,20,22,24,27,28,31] ?_;intro J z;simp[hH,W,hlp,F,R];(repeat refine ca ?_);refine zJ z ?_)
 rw[B];clear L B F R hy0;generalize hc:sw l a pv=c at *;clear hc;have r8:=u6.len;have w1:=qN a O;have w2:=aY b O O;obtain⟨P,hPd⟩:∃ P:Int->Bool,∀ v,P v=decide (v<x):=⟨_,fun _=>rfl⟩;apply qS;refine cM (fun g j=>g 0=.ms q 0 l.length/\g 1=i a/\g 10=i ((a+1:Nat):Int)/\g 11=i ((b-1:Nat):Int)/\j=bx S q c) (by(refine zE ?_;intro J z;simp[w1,w2];refine zJ z ?_);simp) ?_;rintro g j ⟨k,n,o,s,rfl⟩;have M:a<a+1:=O;have N:a+1<=b-1+1:=O;have hjb:b-1<b:=O;have w:Lo P c a (a+1):=fun p h1 h2=>by omega
 have t:Hi P c (b-1) b:=fun p h1 h2=>by omega
 generalize a+1=d at *;generalize b-1=C at *;clear w1 w2;have F:=qG c a O;rw[hx]at F;apply qS;refine cM (fun g j=>∃ d:Nat,a<d/\d<=C+1/\g 0=.ms q 0 l.length/\g 1=i a/\g 10=i d/\g 11=i C/\j=bx S q c/\Lo P c a d/\yy P c d C) ?_ ?_
 .apply qB;refine qL (fun m g j=>∃ d:Nat,a<d/\d<=C+1/\m=C+1-d/\g 0=.ms q 0 l.length/\g 1=i a/\g 10=i d/\g 11=i C/\j=bx S q c/\Lo P c a d) (C+1-d) ?_ ?_
  .exact⟨d,O,O,rfl,Z k,Z n,Z o,Z s,rfl,w⟩
  clear k n o s w M N g d;rintro m g j ⟨d,M,N,rfl,k,n,o,s,rfl,w⟩ JJ D;have T:=qN d O;by_cases E:d<=C;rotate_left
  .clear D
   (repeat (apply qS));(refine zS [] [q] [0,2,4,6,8,10,12,14,16,18,20,22,25,26] ?_;intro J z;simp[k,n,o,s,E];refine zJ z ?_)
   refine bz ?_;exact⟨trivial,d,O,O,Z k,Z n,Z o,Z s,by trivial,w,fun h=>absurd h E⟩
  have U:d<l.length:=O;have R:=qG c d O;have X:=w.more;generalize hy:c.getD d 0=y at *
  (repeat (apply qS));(refine zS [] [q] [0,2,4,6,8,10,12,14,16,18,20,22,25,26] ?_;intro J z;simp[k,n,o,s,E,U,W,r8,F,R])
  refine aS (yK y x _) ?_;rintro r s2 ⟨rfl,rfl⟩;refine⟨fun _=>by simp,?_⟩;have hP:=hPd y;by_cases A:y<x
  ·(apply bM;simp[A];refine zJ z ?_)
   refine cm o T ?_;exact D (C+1-(d+1)) _ _ O ⟨d+1,O,O,rfl,Z k,Z n,Y,Z s,rfl,X (by rw[hP];simp[A])⟩
  .clear D
   (apply bM;simp[A];refine zJ z ?_)
   refine bz ?_;exact⟨trivial,d,O,O,Z k,Z n,Z o,Z s,by trivial,w,fun _=>by rw[hy,hP];simp[A]⟩
 clear k n o s w M N g d;rintro g j ⟨d,M,N,k,n,o,s,rfl,w,hst⟩;apply qS;refine cM (fun g j=>∃ f:Nat,a<=f/\f<=C/\d<=f+1/\g 0=.ms q 0 l.length/\g 1=i a/\g 10=i d/\g 11=i f/\j=bx S q c/\Hi P c f b/\yz P c d f) ?_ ?_
 .apply qB;refine qL (fun m g j=>∃ f:Nat,a<=f/\f<=C/\d<=f+1/\f=m/\g 0=.ms q 0 l.length/\g 1=i a/\g 10=i d/\g 11=i f/\j=bx S q c/\Hi P c f b) C ?_ ?_
  .exact⟨C,O,O,O,rfl,Z k,Z n,Z o,Z s,rfl,t⟩
  clear k n o s t g;rintro m g j ⟨f,hak,hkj,hik,rfl,k,n,o,s,rfl,t⟩ JJ D;by_cases E:d<=f;rotate_left
  .clear D
   (repeat (apply qS));(refine zS [] [q] [0,2,4,6,8,10,12,14,16,18,20,22,25,26,28] ?_;intro J z;simp[k,n,o,s,E];refine zJ z ?_)
   refine bz ?_;exact⟨trivial,f,O,O,O,Z k,Z n,Z o,Z s,by trivial,t,fun h=>absurd h E⟩
  have hja:=aY f O O;have hlj:f<l.length:=O;have R:=qG c f O;have X:=t.more;generalize hy:c.getD f 0=y at *
  (repeat (apply qS));(refine zS [] [q] [0,2,4,6,8,10,12,14,16,18,20,22,25,26,28] ?_;intro J z;simp[k,n,o,s,E,hlj,W,r8,F,R])
  refine aS (yK y x _) ?_;rintro r s2 ⟨rfl,rfl⟩;refine⟨fun _=>by simp,?_⟩;have hP:=hPd y;by_cases A:y<x
  .clear D
   (apply bM;simp[A];refine zJ z ?_)
   refine bz ?_;exact⟨trivial,f,O,O,O,Z k,Z n,Z o,Z s,by trivial,t,fun _=>by rw[hy,hP];simp[A]⟩
  ·(apply bM;simp[A];refine zJ z ?_)
   refine cm s hja ?_;exact D (f-1) _ _ O ⟨f-1,O,O,O,rfl,Z k,Z n,Z o,Y,rfl,X O (by rw[hP];simp[A])⟩
 clear k n o s t g;rintro g j ⟨f,hak,hkj,hik,k,n,o,s,rfl,t,K⟩;by_cases E:d<=f;rotate_left
 .have hke:d=f+1:=O;have hpl:=Az (hke ▸ w) t O O O;have I:=u6.step f a O O O O O;have V:f<l.length:=O;have R:=qG c f O;have L:=fun x y=>pM S q c f a (x:=x) (y:=y) O O;generalize hy1:c.getD f 0=y1 at *;have B:=L y1 x rfl hx
  (repeat' (first|apply qS|(apply qC;simp[k,n,o,s,E];(try with_reducible intro hc))|(refine zE ?_;intro J z;simp[k,n,o,s,E];refine zJ z ?_)))
  (refine zS [] [q] [0,2,4,6,8,10,12,14,16,18,20,22,24,27,28,31] ?_;intro J z;simp[k,n,o,s,W,V,r8,F,R];(repeat refine ca ?_);refine zJ z ?_)
  refine eI k n o s ?_;exact⟨_,f,rfl,B,I,O,O,by unfold dF;rw[hpl.2,hx];have h:=hpl.1;rwa [show P=_ from funext hPd]at h⟩
 have Q:d<f:=by
  rcases ec d f with h|h
  .exact h
  .exfalso;have e:d=f:=O;have h1:=hst O;have h2:=K E;rw[e,h2]at h1;cases h1
 have hLo2:=w.swp Q O (K E);have hHi2:=t.swp Q O (hst O);have I:=u6.step d f O O O O O;have hxx:(sw c d f).getD a 0=x:=by rw[dB _ _ _ _ O O,aa O,aa O];exact hx
 have U:d<l.length:=O;have V:f<l.length:=O;have R:=qG c d O;have hd2:=qG c f O;have L:=fun x y=>pM S q c d f (x:=x) (y:=y) O O;have T:=qN d O;have hka:=aY f O O;clear hst K;generalize hy1:c.getD d 0=y1 at *;generalize hy2:c.getD f 0=y2 at *;have B:=L y1 y2 rfl rfl
 (repeat' (first|apply qS|refine qK (zZ ?_)|(apply qC;simp[k,n,o,s,E];(try with_reducible refine⟨?_,?_⟩)<;>(try with_reducible intro hc)<;>try (exfalso;omega))|(refine zE ?_;intro J z;simp[k,n,o,s,E];refine zJ z ?_)))
 (refine zS [] [q] [0,2,4,6,8,10,12,14,16,18,20,22,24,27,28,31] ?_;intro J z;simp[k,n,o,s,U,V,r8,R,hd2];(repeat refine ca ?_);refine zJ z ?_)
 refine eI o s T hka ?_;rw[B];refine qL (fun m g j=>∃(d C:Nat) (c:PP),a<d/\d<=C+1/\C<b/\C=m/\g 0=.ms q 0 l.length/\g 1=i a/\g 10=i d/\g 11=i C/\j=bx S q c/\Pm a b l c/\c.getD a 0=x/\Lo P c a d/\Hi P c C b) (f-1) ?_ ?_
 .exact⟨d+1,f-1,sw c d f,O,O,O,rfl,Z k,Z n,Y,Y,rfl,I,hxx,hLo2,hHi2⟩
 clear k n o s w t hLo2 hHi2 u6 I hx hxx r8 F R hd2 L B hy1 hy2 y1 y2 M N hak hik Q U V T hka E hkj hjb d C f c g;rintro m g j ⟨d,C,c,M,N,hjb,rfl,k,n,o,s,rfl,u6,hx,w,t⟩ JJ0 hJ0;have r8:=u6.len;have F:=qG c a O;rw[hx]at F;apply qB;apply qS;refine cM (fun g j=>∃ d:Nat,a<d/\d<=C+1/\g 0=.ms q 0 l.length/\g 1=i a/\g 10=i d/\g 11=i C/\j=bx S q c/\Lo P c a d/\yy P c d C) ?_ ?_
 .apply qB;refine qL (fun m g j=>∃ d:Nat,a<d/\d<=C+1/\m=C+1-d/\g 0=.ms q 0 l.length/\g 1=i a/\g 10=i d/\g 11=i C/\j=bx S q c/\Lo P c a d) (C+1-d) ?_ ?_
  .exact⟨d,O,O,rfl,Z k,Z n,Z o,Z s,rfl,w⟩
  clear k n o s w M N g d;rintro m g j ⟨d,M,N,rfl,k,n,o,s,rfl,w⟩ JJ D;have T:=qN d O;by_cases E:d<=C;rotate_left
  .clear D
   (repeat (apply qS));(refine zS [] [q] [0,2,4,6,8,10,12,14,16,18,20,22,25,26] ?_;intro J z;simp[k,n,o,s,E];refine zJ z ?_)
   refine bz ?_;exact⟨trivial,d,O,O,Z k,Z n,Z o,Z s,by trivial,w,fun h=>absurd h E⟩
  have U:d<l.length:=O;have R:=qG c d O;have X:=w.more;generalize hy:c.getD d 0=y at *
  (repeat (apply qS));(refine zS [] [q] [0,2,4,6,8,10,12,14,16,18,20,22,25,26] ?_;intro J z;simp[k,n,o,s,E,U,W,r8,F,R])
  refine aS (yK y x _) ?_;rintro r s2 ⟨rfl,rfl⟩;refine⟨fun _=>by simp,?_⟩;have hP:=hPd y;by_cases A:y<x
  ·(apply bM;simp[A];refine zJ z ?_)
   refine cm o T ?_;exact D (C+1-(d+1)) _ _ O ⟨d+1,O,O,rfl,Z k,Z n,Y,Z s,rfl,X (by rw[hP];simp[A])⟩
  .clear D
   (apply bM;simp[A];refine zJ z ?_)
   refine bz ?_;exact⟨trivial,d,O,O,Z k,Z n,Z o,Z s,by trivial,w,fun _=>by rw[hy,hP];simp[A]⟩
 clear k n o s w M N g d;rintro g j ⟨d,M,N,k,n,o,s,rfl,w,hst⟩;apply qS;refine cM (fun g j=>∃ f:Nat,a<=f/\f<=C/\d<=f+1/\g 0=.ms q 0 l.length/\g 1=i a/\g 10=i d/\g 11=i f/\j=bx S q c/\Hi P c f b/\yz P c d f) ?_ ?_
 .apply qB;refine qL (fun m g j=>∃ f:Nat,a<=f/\f<=C/\d<=f+1/\f=m/\g 0=.ms q 0 l.length/\g 1=i a/\g 10=i d/\g 11=i f/\j=bx S q c/\Hi P c f b) C ?_ ?_
  .exact⟨C,O,O,O,rfl,Z k,Z n,Z o,Z s,rfl,t⟩
  clear k n o s t g;rintro m g j ⟨f,hak,hkj,hik,rfl,k,n,o,s,rfl,t⟩ JJ D;by_cases E:d<=f;rotate_left
  .clear D
   (repeat (apply qS));(refine zS [] [q] [0,2,4,6,8,10,12,14,16,18,20,22,25,26,28] ?_;intro J z;simp[k,n,o,s,E];refine zJ z ?_)
   refine bz ?_;exact⟨trivial,f,O,O,O,Z k,Z n,Z o,Z s,by trivial,t,fun h=>absurd h E⟩
  have hja:=aY f O O;have hlj:f<l.length:=O;have R:=qG c f O;have X:=t.more;generalize hy:c.getD f 0=y at *
  (repeat (apply qS));(refine zS [] [q] [0,2,4,6,8,10,12,14,16,18,20,22,25,26,28] ?_;intro J z;simp[k,n,o,s,E,hlj,W,r8,F,R])
  refine aS (yK y x _) ?_;rintro r s2 ⟨rfl,rfl⟩;refine⟨fun _=>by simp,?_⟩;have hP:=hPd y;by_cases A:y<x
  .clear D
   (apply bM;simp[A];refine zJ z ?_)
   refine bz ?_;exact⟨trivial,f,O,O,O,Z k,Z n,Z o,Z s,by trivial,t,fun _=>by rw[hy,hP];simp[A]⟩
  ·(apply bM;simp[A];refine zJ z ?_)
   refine cm s hja ?_;exact D (f-1) _ _ O ⟨f-1,O,O,O,rfl,Z k,Z n,Z o,Y,rfl,X O (by rw[hP];simp[A])⟩
 clear k n o s t g;rintro g j ⟨f,hak,hkj,hik,k,n,o,s,rfl,t,K⟩;by_cases E:d<=f;rotate_left
 .clear hJ0;have hke:d=f+1:=O;have hpl:=Az (hke ▸ w) t O O O;have I:=u6.step f a O O O O O;have V:f<l.length:=O;have R:=qG c f O;have L:=fun x y=>pM S q c f a (x:=x) (y:=y) O O;generalize hy1:c.getD f 0=y1 at *;have B:=L y1 x rfl hx
  (repeat' (first|apply qS|refine qX (zZ ?_)|(apply qC;simp[k,n,o,s,E];(try with_reducible intro hc))|(refine zE ?_;intro J z;simp[k,n,o,s,E];refine zJ z ?_)))
  (refine zS [] [q] [0,2,4,6,8,10,12,14,16,18,20,22,24,27,28,31] ?_;intro J z;simp[k,n,o,s,W,V,r8,F,R];(repeat refine ca ?_);refine zJ z ?_)
  refine eI k n o s ?_;exact⟨_,f,rfl,B,I,O,O,by unfold dF;rw[hpl.2,hx];have h:=hpl.1;rwa [show P=_ from funext hPd]at h⟩
 have Q:d<f:=by
  rcases ec d f with h|h
  .exact h
  .exfalso;have e:d=f:=O;have h1:=hst O;have h2:=K E;rw[e,h2]at h1;cases h1
 have hLo2:=w.swp Q O (K E);have hHi2:=t.swp Q O (hst O);have I:=u6.step d f O O O O O;have hxx:(sw c d f).getD a 0=x:=by rw[dB _ _ _ _ O O,aa O,aa O];exact hx
 have U:d<l.length:=O;have V:f<l.length:=O;have R:=qG c d O;have hd2:=qG c f O;have L:=fun x y=>pM S q c d f (x:=x) (y:=y) O O;have T:=qN d O;have hka:=aY f O O;clear hst K;generalize hy1:c.getD d 0=y1 at *;generalize hy2:c.getD f 0=y2 at *;have B:=L y1 y2 rfl rfl
 (repeat' (first|apply qS|refine qK (zZ ?_)|(apply qC;simp[k,n,o,s,E];(try with_reducible refine⟨?_,?_⟩)<;>(try with_reducible intro hc)<;>try (exfalso;omega))|(refine zE ?_;intro J z;simp[k,n,o,s,E];refine zJ z ?_)))
 (refine zS [] [q] [0,2,4,6,8,10,12,14,16,18,20,22,24,27,28,31] ?_;intro J z;simp[k,n,o,s,U,V,r8,R,hd2];(repeat refine ca ?_);refine zJ z ?_)
 refine eI o s T hka ?_;exact hJ0 (f-1) _ _ O ⟨d+1,f-1,sw c d f,O,O,O,rfl,Z k,Z n,Y,Y,B,I,hxx,hLo2,hHi2⟩
end Aw
end Go.Proofs.YtbgngpdonpeboaaGreatDoor
