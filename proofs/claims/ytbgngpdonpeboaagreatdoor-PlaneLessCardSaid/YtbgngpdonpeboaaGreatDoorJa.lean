/- Plain lists of numbers: places, least ones, turns. No program. -/
import Derived.RangeFuncBox
import Derived.RangeFuncLeaves
import Derived.Shelf.Abstract
import Derived.WalkKit
import Derived.OwnWalkIn
import Derived.TacticsInMore
import Derived.LoopNIn
import Derived.LoopIn
import Derived.Maps.AppendAt
import Derived.Test.YtbgngpdonpeboaaGreatDoorProg
import Derived.Test.YtbgngpdonpeboaaGreatDoorAwSet
import Derived.IntWalk
set_option linter.defProp false
set_option linter.unusedVariables false
set_option linter.unusedSimpArgs false
set_option maxHeartbeats 2000000
open Go.Proofs.Tryz
namespace Go.Proofs.YtbgngpdonpeboaaGreatDoor
namespace Pl
def gi(l:AN)(x:Int):Int:=if x∈l then(l.idxOf x:Int)else -1
def Th{l:AN}{x:Int}{k:Nat}(d:k<l.length)(h:l[k]=x)(g:∀ j (f:j<k),l[j]'(by omega)≠x):gi l x=k:=by
 have b:x∈l:=by rw[<- h];exact dq d
 unfold gi;rw[ad b]
 congr 1
 have c:l.idxOf x<l.length:=jy b;have e:l[l.idxOf x]=x:=mh c;rcases ni (l.idxOf x) k with a|a|a
 .grind
 .omega
 .have:=xz (p:=fun y=>y==x) (xs:=l) (i:=k) (by simpa[List.idxOf]using a)
  grind
def Ue{l:AN}{x:Int}(b:∀ j (a:j<l.length),l[j]≠x):gi l x = -1:=by
 grind [gi]
def AO(l:AN)(x:Int):gi l x<0↔x∉l:=by
 grind [gi]
def mn:AN->Int
 |[]=>0
 |x::l=>l.foldl (fun a b=>if b<a then b else a) x
def uO(l:AN):∀ a:Int,l.foldl (fun a b=>if b<a then b else a) a<=a/\(∀ x∈l,l.foldl (fun a b=>if b<a then b else a) a<=x)/\(l.foldl (fun a b=>if b<a then b else a) a=a\/l.foldl (fun a b=>if b<a then b else a) a∈l):=by
 induction l with
 |nil=>grind
 |cons b l e=>
  intro a;simp only[List.foldl_cons];obtain⟨d,g,h⟩:=e (if b<a then b else a);have c:(if b<a then b else a)<=a:=by split<;>omega
  have f:(if b<a then b else a)<=b:=by split<;>omega
  refine⟨Int.le_trans d c,?_,?_⟩
  .grind
  grind
def Rq{l:AN}{x:Int}(b:x∈l):mn l<=x:=by
 cases l with
 |nil=>grind
 |cons a l=>
  obtain⟨c,d,_⟩:=uO l a;rcases ah.1 b with rfl|b
  .exact c
  .exact d x b
theorem wO{l:AN}(h:l≠[]):mn l∈l:=by
 cases l with
 |nil=>grind
 |cons a l=>
  obtain⟨_,_,b⟩:=uO l a
  grind [mn]
def WD{l:AN}{m:Int}(a:m∈l)(h:∀ x∈l,m<=x):mn l=m:=by
 have b:=Rq a
 grind [wO,List.ne_nil_of_mem]
def Ny(l:AN)(x:Int)(h:l≠[]):mn (l++[x])=if x<mn l then x else mn l:=by
 cases l with
 |nil=>grind
 |cons a l=>grind [mn]
def UD(l:AN)(k:Nat)(b:0<k)(a:k<l.length):mn (l.take (k+1))=if l[k] < mn (l.take k)then l[k]else mn (l.take k):=by
 rw[eL a,Ny]
 grind [List.length_nil]
def rt(l:AN)(k:Nat):AN:=l.drop k++l.take k
def ev(l:AN):AN:=rt l (l.idxOf (mn l))
def wH(l:AN)(k:Nat):(rt l k).length=l.length:=by grind [rt]
theorem nW(l:AN):(ev l).length=l.length:=wH _ _
def Ww(l:AN)(k i:Nat)(b:k<=l.length)(a:i<l.length):(rt l k)[i]'(by rw[wH];exact a)=l[(k+i) % l.length]'(kz _ oO):=by
 unfold rt;by_cases h:i<l.length-k
 .rw[sa (by simpa using h)];simp only[oe]
  congr 1
  rw[ej oO]
 .rw[mz (by simp;omega)];simp only[mj,gk]
  congr 1
  rw[Nat.mod_eq_sub_mod oO,ej oO];omega
def Up(l:AN)(i:Nat)(a:i<l.length):(ev l)[i]'(by grind [nW])=l[(l.idxOf (mn l)+i) % l.length]'(kz _ oO):=
 Ww l _ i yl a
end Pl
namespace Eu
open Go
def it(f:Int->Int):Nat->Int->Int
 |0,x=>x
 |n+1,x=>it f n (f x)
theorem bF(f:Int->Int)(n:Nat)(x:Int):it f (n+1) x=f (it f n x):=by
 induction n generalizing x with
 |zero=>rfl
 |succ n a=>exact a (f x)
theorem lE(f:Int->Int)(m n:Nat)(x:Int):it f (m+n) x=it f m (it f n x):=by
 induction n generalizing x with
 |zero=>rfl
 |succ n a=>exact a (f x)
theorem KT{f:Int->Int}{p:Nat}{x:Int}(h:it f p x=x)(q:Nat):it f (q*p) x=x:=by
 induction q with
 |zero=>rw[vn];rfl
 |succ q a=>grind [Nat.succ_mul,lE]
def KQ{f:Int->Int}(a:∀ x y,f x=f y->x=y)(n:Nat){x y:Int}(h:it f n x=it f n y):x=y:=by
 induction n generalizing x y with
 |zero=>exact h
 |succ n b=>exact a _ _ (b h)
def Per(f:Int->Int):Prop:=∀ x,∃ p,0<p/\it f p x=x
def Orb(f:Int->Int)(x y:Int):Prop:=∃ n,it f n x=y
theorem Orb.refl(f:Int->Int)(x:Int):Orb f x x:=⟨0,rfl⟩
def Orb.step(f:Int->Int)(x:Int):Orb f x (f x):=⟨1,rfl⟩
def Orb.trans{f:Int->Int}{x y z:Int}(h:Orb f x y)(k:Orb f y z):Orb f x z:=by obtain⟨n,rfl⟩:=h;obtain⟨m,rfl⟩:=k;exact⟨m+n,lE f m n x⟩
def Orb.symm{f:Int->Int}(hf:Per f){x y:Int}(h:Orb f x y):Orb f y x:=by
 obtain⟨n,rfl⟩:=h;induction n generalizing x with
 |zero=>exact⟨0,rfl⟩
 |succ n ih=>
  refine(ih (x:=f x)).trans ?_;obtain⟨p,hp,h⟩:=hf x;cases p with
  |zero=>omega
  |succ p=>exact⟨p,h⟩
def Per.inj{f:Int->Int}(hf:Per f){x y:Int}(h:f x=f y):x=y:=by
 obtain⟨p,d,a⟩:=hf x;obtain⟨q,e,b⟩:=hf y;have g:=KT a q;have c:=KT b p;rw[lu]at c;obtain⟨k,j⟩:∃ k,q*p=k+1:=⟨q*p-1,by have:=vo e d;omega⟩
 grind [it]
def Pz{f:Int->Int}(D:AN)(n:∀ x∈D,f x∈D)(e:∀ x y,f x=f y->x=y)(g:∀ x,x∉D->f x=x):Per f:=by
 intro x;by_cases b:x∈D
 .refine fv fun m=>?_;have c:∀ p,0<p->it f p x≠x:=fun p l h=>m ⟨p,l,h⟩;have r:∀ k,it f k x∈D:=by
   intro k;induction k with
   |zero=>exact b
   |succ k q=>grind [bF]
  have a:((List.range (D.length+1)).map fun k=>it f k x).Nodup:=by unfold List.Nodup;rw[fa];refine nv.imp fun {i j} hij h=>?_;have d:j=i+(j-i):=oO;rw[d,lE]at h;exact c (j-i) oO (KQ e i h).symm
  have:=fg a (l₂:=D) fun y o=>by
   grind
  grind
 .exact⟨1,oO,g x b⟩
structure fJ(R:Int->Int->Prop):Prop where
 refl:∀ x,R x x
 symm:∀ {x y},R x y->R y x
 trans:∀ {x y z},R x y->R y z->R x z
theorem Per.eqv{f:Int->Int}(hf:Per f):fJ (Orb f):=⟨Orb.refl f,Orb.symm hf,Orb.trans⟩
noncomputable def bg(R:Int->Int->Prop):AN->Nat
 |[]=>0
 |x::l=>bg R l+@ite Nat (∃ y∈l,R y x) (Classical.propDecidable _) 0 1
theorem aY{R:Int->Int->Prop}{x:Int}{l:AN}(h:∃ y∈l,R y x):bg R (x::l)=bg R l:=by
 grind [bg]
theorem aN{R:Int->Int->Prop}{x:Int}{l:AN}(h:¬∃ y∈l,R y x):bg R (x::l)=bg R l+1:=by
 grind [bg]
theorem dA{R S:Int->Int->Prop}{l:AN}(h:∀ x∈l,∀ y∈l,(R x y↔S x y)):bg R l=bg S l:=by
 induction l with
 |nil=>rfl
 |cons x l e=>
  have f:=e fun a c b d=>h a (ar _ c) b (ar _ d);by_cases g:∃ y∈l,R y x
  .grind [aY]
  grind [aN]
theorem tY{R:Int->Int->Prop}(c:fJ R){l j:AN}(h:l.Perm j):bg R l=bg R j:=by
 induction h with
 |nil=>rfl
 |@cons x m p h o=>
  by_cases a:∃ y∈m,R y x
  .grind [aY]
  grind [aN]
 |swap x y l=>
  by_cases b:R x y
  .have d:=c.symm b;rw[aY ⟨x,aw,b⟩,aY ⟨y,aw,d⟩];by_cases a:∃ z∈l,R z x
   .rw[aY a,aY];obtain⟨z,f,e⟩:=a;exact⟨z,f,c.trans e b⟩
   .rw[aN a,aN];rintro⟨z,f,e⟩;exact a ⟨z,f,c.trans e d⟩
  .have d:¬R y x:=fun h=>b (c.symm h);have n:(∃ z∈x::l,R z y)↔∃ z∈l,R z y:=by
    constructor
    .grind
    .grind
   have g:(∃ z∈y::l,R z x)↔∃ z∈l,R z x:=by
    constructor
    .grind
    .grind
   by_cases a:∃ z∈l,R z x
   .rw[aY (x:=x) (l:=y::l) (g.2 a)];by_cases k:∃ z∈l,R z y
    .grind [aY]
    grind [aN,aY]
   .rw[aN (x:=x) (l:=y::l) (fun h=>a (g.1 h))];by_cases k:∃ z∈l,R z y
    .grind [aY,aN]
    grind [aN]
 |trans _ _ h1 h2=>omega
def Mg(R:Int->Int->Prop)(a b x y:Int):Prop:=R x y\/(R x a/\R b y)\/(R x b/\R a y)
theorem Mg.eqv{R:Int->Int->Prop}(c:fJ R)(a b:Int):fJ (Mg R a b):=by
 refine⟨fun x=>.inl (c.refl x),?_,?_⟩
 .rintro x y (h|⟨d,e⟩|⟨d,e⟩)
  .exact .inl (c.symm h)
  .exact .inr (.inr ⟨c.symm e,c.symm d⟩)
  .exact .inr (.inl ⟨c.symm e,c.symm d⟩)
 .rintro x y z (h|⟨d,e⟩|⟨d,e⟩) (k|⟨g,f⟩|⟨g,f⟩)
  .exact .inl (c.trans h k)
  .exact .inr (.inl ⟨c.trans h g,f⟩)
  .exact .inr (.inr ⟨c.trans h g,f⟩)
  .exact .inr (.inl ⟨d,c.trans e k⟩)
  .exact .inr (.inl ⟨d,f⟩)
  .exact .inl (c.trans d f)
  .exact .inr (.inr ⟨d,c.trans e k⟩)
  .exact .inl (c.trans d f)
  .exact .inr (.inr ⟨d,f⟩)
theorem Mg.same{R:Int->Int->Prop}(c:fJ R){a b:Int}(h:R a b)(x y:Int):Mg R a b x y↔R x y:=by
 constructor
 .rintro(k|⟨d,e⟩|⟨d,e⟩)
  .exact k
  .exact c.trans (c.trans d h) e
  .exact c.trans (c.trans d (c.symm h)) e
 .exact .inl
def Mg.le{R S:Int->Int->Prop}(c:fJ S){a b:Int}(f:S a b)(h:∀ x y,R x y->S x y){x y:Int}(k:Mg R a b x y):S x y:=by
 rcases k with k|⟨d,e⟩|⟨d,e⟩
 .grind
 .exact c.trans (c.trans (h _ _ d) f) (h _ _ e)
 .exact c.trans (c.trans (h _ _ d) (c.symm f)) (h _ _ e)
def pU{R:Int->Int->Prop}(e:fJ R){a b:Int}(h:¬R a b){l:AN}(k:a∈l)(n:b∈l):bg R l=bg (Mg R a b) l+1:=by
 have j:b≠a:=by rintro rfl;exact h (e.refl _)
 have p:∀ rest:AN,bg R (rest++[a,b])=bg (Mg R a b) (rest++[a,b])+1:=by
  intro rest;induction rest with
  |nil=>
   have s:bg R [a,b]=2:=by
    rw[aN,aN]
    .rfl
    .grind
    .rintro⟨y,d,c⟩;rw[bf]at d;subst d;exact h (e.symm c)
   have t:bg (Mg R a b) [a,b]=1:=by
    rw[aY,aN]
    .rfl
    .grind
    .exact⟨b,sS,.inr (.inr ⟨e.refl _,e.refl _⟩)⟩
   grind
  |cons x rest g=>
   rw[List.cons_append];have m:a∈rest++[a,b]:=sS;have o:b∈rest++[a,b]:=sS;by_cases f:∃ y∈rest++[a,b],R y x
   .rw[aY f,aY,g];obtain⟨y,d,c⟩:=f;exact⟨y,d,.inl c⟩
   .rw[aN f,aN,g];rintro⟨y,d,c|⟨_,c⟩|⟨_,c⟩⟩
    .grind
    .grind
    grind
 have q:l.Perm (a::l.erase a):=ym k;have r:(l.erase a).Perm (b::(l.erase a).erase b):=ym ((List.mem_erase_of_ne j).2 n);have v:l.Perm (((l.erase a).erase b)++[a,b]):=(q.trans (r.cons a)).trans (kc (l₁:=[a,b]))
 grind [tY,Mg.eqv]
def De{R:Int->Int->Prop}{t l:AN}(e:∀ x∈t,∀ y∈t,R x y)(g:∀ x∈t,∀ y∈l,¬R y x):bg R (t++l)=bg R l+if t=[]then 0 else 1:=by
 induction t with
 |nil=>simp
 |cons x t h=>
  have d:=h (fun a c b f=>e a (ar _ c) b (ar _ f)) (fun a c=>g a (ar _ c));rw[List.cons_append,ac sS];cases t with
  |nil=>
   grind [aN]
  |cons z t=>rw[aY ⟨z,sS,e z sS x sS⟩,d,ac sS]
theorem CI{R:Int->Int->Prop}:∀(a:List AN),(∀ t∈a,∀ x∈t,∀ y∈t,R x y)->a.Pairwise (fun t c=>∀ x∈t,∀ y∈c,¬R y x)->bg R a.flatten=(a.filter fun t=>decide (t≠[])).length
 |[],_,_=>rfl
 |t::a,h1,h2=>by
  rw[jq]at h2;rw[List.flatten_cons,De (h1 t aw),CI a (fun t b=>h1 t (ar _ b)) h2.2]
  .grind
  grind [List.mem_flatten]
def sw(a b x:Int):Int:=if x=a then b else if x=b then a else x
theorem tG(a b:Int):sw a b a=b:=by simp[sw]
theorem Cm(a b:Int):sw a b b=a:=by
 grind [sw]
theorem jT{a b x:Int}(c:x≠a)(d:x≠b):sw a b x=x:=by grind [sw]
theorem LH(a b x:Int):sw a b (sw a b x)=x:=by
 grind [tG,Cm,jT]
def YE(a b:Int){x y:Int}(h:sw a b x=sw a b y):x=y:=by grind [LH]
def least{P:Nat->Prop}{n:Nat}(h:P n):∃ m,P m/\∀ k,k<m->¬P k:=by
 induction n using Nat.strongRecOn with
 |ind n ih=>
  grind
section
variable {f f':Int->Int} {a b:Int}
theorem OI(j:∀ x,f' x=f (sw a b x))(t:a≠b)(h:Orb f b a):¬Orb f' a b:=by
 obtain⟨A,l⟩:=h;obtain⟨n,d,g⟩:=least (P:=fun n=>it f n b=a) l;have v:n≠0:=by rintro rfl;exact t d.symm
 have o:∀ i,0<i->i<=n->it f i b≠b:=by intro i p r m;have:n=(n-i)+i:=oO;rw[this,lE,m]at d;exact g (n-i) oO d
 have s:∀ x,(∃ i,0<i/\i<=n/\x=it f i b)->∃ i,0<i/\i<=n/\f' x=it f i b:=by
  rintro x ⟨i,p,r,rfl⟩;rcases dC i n with e|e
  .grind [jT,bF]
  .obtain rfl:i=n:=oO;exact⟨1,oO,oO,by rw[j,d,tG];rfl⟩
 rintro⟨k,z⟩;have c:∀ k,∃ i,0<i/\i<=n/\it f' k a=it f i b:=by
  intro k;induction k with
  |zero=>exact⟨n,oO,au _,d.symm⟩
  |succ k q=>rw[bF];exact s _ q
 obtain⟨i,e,w,y⟩:=c k
 grind
theorem QM(hf:Per f)(d:∀ x,f' x=f (sw a b x))(h:¬Orb f b a):Orb f' a b:=by
 obtain⟨p,g,c⟩:=hf b;obtain⟨n,⟨m,q⟩,T7⟩:=least (P:=fun n=>0<n/\it f n b=b) ⟨g,c⟩;have l:∀ k,0<k->k<=n->it f' k a=it f k b:=by
  intro k;induction k with
  |zero=>omega
  |succ k j=>
   intro _ o;rcases ql k with rfl|c
   .show f' a=f b
    grind [tG]
   .rw[bF,j c oO,d,jT (fun e=>h ⟨k,e⟩) (fun e=>T7 k oO ⟨c,e⟩),bF f k b]
 exact⟨n,by grind⟩
theorem Be(hf:Per f)(g:∀ x,f' x=f (sw a b x)){x y:Int}(h:Orb f' x y):Mg (Orb f) a b x y:=by
 have e:=Mg.eqv hf.eqv a b;obtain⟨n,rfl⟩:=h;induction n generalizing x with
 |zero=>exact e.refl _
 |succ n j=>
  refine e.trans ?_ (j (x:=f' x));rw[g];by_cases c:x=a
  .subst c;rw[tG];exact .inr (.inl ⟨Orb.refl _ _,Orb.step _ _⟩)
  .by_cases d:x=b
   .subst d;rw[Cm];exact .inr (.inr ⟨Orb.refl _ _,Orb.step _ _⟩)
   .rw[jT c d];exact .inl (Orb.step _ _)
theorem MH(hf:Per f)(c:Per f')(d:∀ x,f' x=f (sw a b x))(x y:Int):Mg (Orb f) a b x y↔Mg (Orb f') a b x y:=by
 have e:∀ x,f x=f' (sw a b x):=fun x=>by grind [LH]
 constructor
 .exact Mg.le (Mg.eqv c.eqv a b) (.inr (.inl ⟨Orb.refl _ _,Orb.refl _ _⟩)) fun x y h=>Be c e h
 .exact Mg.le (Mg.eqv hf.eqv a b) (.inr (.inl ⟨Orb.refl _ _,Orb.refl _ _⟩)) fun x y h=>Be hf d h
theorem sA{D:AN}(hf:Per f)(c:Per f')(d:∀ x,f' x=f (sw a b x))(j:a≠b)(e:a∈D)(g:b∈D)(h:Orb f a b):bg (Orb f') D=bg (Orb f) D+1:=by
 rw[pU c.eqv (OI d j (Orb.symm hf h)) e g]
 congr 1
 refine dA fun x _ y _=>?_;rw[<- MH hf c d,Mg.same hf.eqv h]
theorem nA{D:AN}(hf:Per f)(c:Per f')(d:∀ x,f' x=f (sw a b x))(g:a∈D)(j:b∈D)(h:¬Orb f a b):bg (Orb f) D=bg (Orb f') D+1:=by
 have e:Orb f' a b:=QM hf d fun k=>h (Orb.symm hf k);rw[pU hf.eqv h g j]
 congr 1
 refine dA fun x _ y _=>?_;rw[MH hf c d,Mg.same c.eqv e]
end
def Yc(f:Int->Int)(d:Int)(L:AN):Prop:=∃ p,0<p/\L=(List.range p).map (fun k=>it f k d)/\it f p d=d/\∀ q,0<q->q<p->it f q d≠d
def TB{f:Int->Int}{d:Int}{p:Nat}(a:0<p)(h:it f p d=d)(n:Nat):it f n d=it f (n % p) d:=by
 grind [Nat.mod_add_div,Nat.mul_comm,lE,KT]
end Eu
namespace Pl
def sw(c:AN)(a b:Nat):AN:=(c.set a (c.getD b 0)).set b (c.getD a 0)
theorem DT(c:AN)(a b:Nat):(sw c a b).length=c.length:=by simp[sw]
theorem cO(c:AN)(a b j:Nat)(d:a<c.length)(e:b<c.length):(sw c a b).getD j 0=if j=b then c.getD a 0 else if j=a then c.getD b 0 else c.getD j 0:=by
 grind [sw]
theorem UY(c:AN)(a b:Nat)(d:a<c.length)(e:b<c.length):(sw c a b).Perm c:=by
 grind [sw]
inductive Pm(a b:Nat)(l:List Int):List Int->Prop
 |refl:Pm a b l l
 |step {m:List Int} (h:Pm a b l m) (x y:Nat) (hx:a<=x) (S4:x<b) (hy:a<=y) (hy':y<b) (hb:b<=l.length):Pm a b l (sw m x y)
def Pm.len{a b:Nat}{l m:AN}(h:Pm a b l m):m.length=l.length:=by
 induction h with
 |refl=>rfl
 |step h x y _ _ _ _ _ c=>grind [DT]
def Pm.out{a b:Nat}{l m:AN}(h:Pm a b l m)(j:Nat)(k:j<a\/b<=j):m.getD j 0=l.getD j 0:=by
 induction h with
 |refl=>rfl
 |step h x y c d e f g n=>
  have:=h.len
  grind [cO]
def Pm.trans{a b:Nat}{l m n:AN}(h:Pm a b l m)(k:Pm a b m n):Pm a b l n:=by
 induction k with
 |refl=>exact h
 |step k x y c d e f j g=>have:=h.len;exact g.step x y c d e f oO
def Pm.wide{a b d c:Nat}{l m:AN}(h:Pm a b l m)(q:d<=a)(r:b<=c)(e:c<=l.length):Pm d c l m:=by
 induction h with
 |refl=>exact .refl
 |step k x y g j n o p f=>exact f.step x y oO oO oO oO e
def Pm.perm{a b:Nat}{l m:AN}(h:Pm a b l m):m.Perm l:=by
 induction h with
 |refl=>grind
 |step k x y c d e f g j=>have:=k.len;grind [UY]
def Pm.all{a b:Nat}{l m:AN}(h:Pm a b l m)(P:Int->Prop)(hP:∀ j,a<=j->j<b->P (l.getD j 0))(j:Nat)(h1:a<=j)(h2:j<b):P (m.getD j 0):=by
 induction h generalizing j with
 |refl=>grind
 |step k x y g1 g2 g3 g4 g5 ih=>
  have:=k.len
  grind [cO]
def Pm.one{a b:Nat}{l:AN}(x y:Nat)(f:a<=x)(d:x<b)(g:a<=y)(c:y<b)(e:b<=l.length):Pm a b l (sw l x y):=Pm.refl.step x y f d g c e
def Srt(a b:Nat)(l:AN):Prop:=∀ p q,a<=p->p<q->q<b->l.getD p 0<=l.getD q 0
def Ins(a j i:Nat)(d:AN):Prop:=∀ p q,a<=p->p<q->q<=i->q≠j->d.getD p 0<=d.getD q 0
def Srt.ins{a i:Nat}{d:AN}(h:Srt a i d):Ins a i i d:=fun p q b c e f=>h p q b c oO
def Ins.step{a j i:Nat}{d:AN}(h:Ins a j i d)(o:a<j)(n:j<=i)(m:i<d.length)(dF:d.getD j 0<d.getD (j-1) 0):Ins a (j-1) i (sw d j (j-1)):=by
 intro p q g l e k;rw[cO _ _ _ _ oO oO,cO _ _ _ _ oO oO];by_cases b:q=j
 .rw[ac k,ad b];by_cases c:p=j-1
  .omega
  .rw[ac c,ac oO];exact h p (j-1) g oO oO oO
 .rw[ac k,ac b];by_cases c:p=j-1
  .rw[ad c];exact h j q oO oO e b
  .rw[ac c];by_cases f:p=j
   .rw[ad f];exact h (j-1) q oO oO e b
   .rw[ac f];exact h p q g l e b
def Ins.done{a j i:Nat}{d:AN}(h:Ins a j i d)(m:a<=j)(b:j=a\/¬d.getD j 0<d.getD (j-1) 0):Srt a (i+1) d:=by
 intro p q c f k;by_cases e:q=j
 .subst e;have l:¬d.getD q 0<d.getD (q-1) 0:=by rcases b with b|b;omega;exact b
  by_cases g:p=q-1
  .grind
  .have:=h p (q-1) c oO oO oO;omega
 .exact h p q c f oO e
def uR(b a f:Nat)(d:AN):Prop:=∀ k c,b<=k->(c=2*k+1\/c=2*k+2)->c<a->d.getD (f+c) 0<=d.getD (f+k) 0
def uF(b a f r:Nat)(d:AN):Prop:=(∀ k c,b<=k->k≠r->(c=2*k+1\/c=2*k+2)->c<a->d.getD (f+c) 0<=d.getD (f+k) 0)/\
 (∀ k c,b<=k->(r=2*k+1\/r=2*k+2)->(c=2*r+1\/c=2*r+2)->c<a->d.getD (f+c) 0<=d.getD (f+k) 0)
def uR.x{a g f:Nat}{d:AN}(h:uR (a+1) g f d):uF a g f a d:=
 ⟨fun k c j l b e=>h k c oO b e,fun k c j l b e=>by omega⟩
def uF.leaf{b a f r:Nat}{d:AN}(h:uF b a f r d)(l:a<=2*r+1):uR b a f d:=by intro k c e g j;exact h.1 k c e oO g j
def uF.big{b a f r:Nat}{d:AN}(h:uF b a f r d)(m:∀ c,(c=2*r+1\/c=2*r+2)->c<a->d.getD (f+c) 0<=d.getD (f+r) 0):uR b a f d:=by
 intro k c g j l;by_cases e:k=r
 .grind
 .exact h.1 k c g e j l
def uF.step{m a f r c:Nat}{d:AN}(h:uF m a f r d)(q:m<=r)(p:c=2*r+1\/c=2*r+2)(l:c<a)(s:f+a<=d.length)(t:∀ x,(x=2*r+1\/x=2*r+2)->x<a->d.getD (f+x) 0<=d.getD (f+c) 0)
 (dF:d.getD (f+r) 0<d.getD (f+c) 0):uF m a f c (sw d (f+r) (f+c)):=by
 constructor
 .intro k x g o b j;rw[cO _ _ _ _ oO oO,cO _ _ _ _ oO oO];by_cases e:k=r
  .grind
  .rw[ac (show ¬f+k=f+c by omega),ac (show ¬f+k=f+r by omega)];by_cases n:x=r
   .subst n;rw[ac oO,ad (rfl:f+x=f+x)];exact h.2 k c g b p l
   .rw[ac oO,ac oO];exact h.1 k x g e b j
 .intro k x g o b j;have e:k=r:=oO;subst e;rw[cO _ _ _ _ oO oO,cO _ _ _ _ oO oO];rw[ac oO,ac oO,ac (show ¬f+k=f+c by omega),ad (rfl:f+k=f+k)];exact h.1 c x oO oO b j
def uR.top{a f:Nat}{d:AN}(h:uR 0 a f d):∀ c,c<a->d.getD (f+c) 0<=d.getD f 0:=by
 intro c;induction c using Nat.strongRecOn with
 |ind c ih=>
  intro b;by_cases e:c=0
  .grind
  .have g:=h ((c-1) / 2) c oO oO b
   grind
def uR.pop{j f:Nat}{c:AN}(h:uR 0 (j+1) f c)(e:f+j<c.length):uR 1 j f (sw c f (f+j)):=by intro k x b a d;rw[cO _ _ _ _ oO oO,cO _ _ _ _ oO oO];rw[ac oO,ac oO,ac oO,ac oO];exact h k x oO a oO
def PB{a f j:Nat}{c c2:AN}(l:uR 0 (j+1) f c)(m:∀ p q,p<q->j+1<=q->q<a->c.getD (f+p) 0<=c.getD (f+q) 0)(t:j<a)(v:f+a<=c.length)(b:Pm f (f+j) (sw c f (f+j)) c2):
 ∀ p q,p<q->j<=q->q<a->c2.getD (f+p) 0<=c2.getD (f+q) 0:=by
 intro p q r s k;have g:=fun x=>cO c f (f+j) x oO oO;rw[b.out (f+q) oO,g (f+q)];by_cases e:q=j
 .subst e;rw[ad rfl];refine b.all (fun x=>x<=c.getD f 0) (fun x n o=>?_) (f+p) oO oO;rw[g,ac oO];by_cases d:x=f
  .rw[ad d];exact l.top q oO
  .rw[ac d];have:=l.top (x-f) oO;simp_all
 .rw[ac oO,ac oO];by_cases d:p<j
  .refine b.all (fun x=>x<=c.getD (f+q) 0) (fun x n o=>?_) (f+p) oO oO;rw[g,ac oO];by_cases h:x=f
   .grind
   .rw[ac h];have:=m (x-f) q oO oO k;simp_all
  .rw[b.out (f+p) oO,g];by_cases h:p=j
   .rw[ad oO];have:=m 0 q oO oO k;omega
   grind
def Sl{a m b:Nat}{d:AN}(g:Srt a m d)(h:Srt (m+1) b d)(l:∀ p,a<=p->p<m->d.getD p 0<=d.getD m 0)(n:∀ q,m<q->q<b->d.getD m 0<=d.getD q 0):Srt a b d:=by
 intro p q j f k;rcases ni p m with e|e|e
 .rcases ni q m with c|c|c
  .exact g p q j f c
  .grind
  grind
 .grind
 .exact h p q oO f k
def Lo(P:Int->Bool)(c:AN)(a m:Nat):Prop:=∀ p,a<p->p<m->P (c.getD p 0)=true
def Hi(P:Int->Bool)(c:AN)(m b:Nat):Prop:=∀ p,m<p->p<b->P (c.getD p 0)=false
def Lo.more{P:Int->Bool}{c:AN}{a m:Nat}(h:Lo P c a m)(f:P (c.getD m 0)=true):Lo P c a (m+1):=by
 intro p b d;by_cases e:p=m
 .grind
 .exact h p b oO
def Hi.more{P:Int->Bool}{c:AN}{m b:Nat}(h:Hi P c m b)(d:0<m)(g:P (c.getD m 0)=false):Hi P c (m-1) b:=by
 intro p f a;by_cases e:p=m
 .grind
 .exact h p oO a
def Lo.swp{P:Int->Bool}{c:AN}{a k m:Nat}(h:Lo P c a k)(d:k<m)(g:m<c.length)(j:P (c.getD m 0)=true):Lo P (sw c k m) a (k+1):=by
 intro p b f;rw[cO _ _ _ _ oO oO,ac oO];by_cases e:p=k
 .grind
 .rw[ac e];exact h p b oO
def Hi.swp{P:Int->Bool}{c:AN}{k m b:Nat}(h:Hi P c m b)(d:k<m)(g:m<c.length)(j:P (c.getD k 0)=false):Hi P (sw c k m) (m-1) b:=by
 intro p f a;rw[cO _ _ _ _ oO oO];by_cases e:p=m
 .grind
 .rw[ac e,ac oO];exact h p oO a
def TG(P:Int->Bool)(c:AN)(a m b:Nat):Prop:=(∀ p,a<=p->p<m->P (c.getD p 0)=true)/\(∀ p,m<p->p<b->P (c.getD p 0)=false)
def ID(c:AN)(a m b:Nat)(x:Int):Prop:=(∀ p,a<=p->p<m->c.getD p 0<=x)/\(∀ p,m<=p->p<b->x<c.getD p 0)
def cS(c:AN)(a m b:Nat):Prop:=TG (fun v=>decide (v<c.getD m 0)) c a m b
def yA{P:Int->Bool}{c:AN}{a m b:Nat}(d:Lo P c a (m+1))(h:Hi P c m b)(j:a<=m)(k:m<b)(l:b<=c.length):TG P (sw c m a) a m b/\(sw c m a).getD m 0=c.getD a 0:=by
 refine⟨⟨fun p f g=>?_,fun p f g=>?_⟩,?_⟩
 .rw[cO _ _ _ _ oO oO];by_cases e:p=a
  .rw[ad e];exact d m oO oO
  .rw[ac e,ac oO];exact d p oO oO
 .rw[cO _ _ _ _ oO oO,ac oO,ac oO];exact h p f g
 grind [cO]
def Sr{l:AN}(h:Srt 0 l.length l):l.Pairwise (·<=·):=by
 refine fq.2 fun p q c b a=>?_;have:=h p q oO a b
 grind
def KX{l m:AN}(h:l.Pairwise (·<=·))(k:m.Pairwise (·<=·))(c:l.Perm m):l=m:=
 c.eq_of_pairwise (fun a b _ _ d e=>by omega) h k
end Pl
namespace Rg
open Go Go.RowKit Go.Shelf
attribute [local go_sem] Oper.semAt_some
def upto(a:AN)(k:Nat):AN:=(List.range k).map fun j=>a[j]?.getD 0
theorem DS(a:AN)(k:Nat):upto a (k+1)=upto a k++[a[k]?.getD 0]:=by simp[upto,vh]
theorem HN(a:AN)(k:Nat):(upto a k).length=k:=by simp[upto]
theorem QH(a:AN):upto a a.length=a:=by
 apply vc
 .simp[upto]
 grind [upto]
set_option maxRecDepth 100000 in
def KY(F:Fence)(n:Nat)(h7:F.fn 204)(T8:F.round=none)(hn:1<=n)(l Bs X0 b off len cap:Nat)(zs:AN)(hlen:len<=1048576)(hb:b<X0)(J Jx:AN->World->Prop)
 (hY:∀ pre x W,J pre W->pre.length<len->YieldAt F (n-1) prog l #[.int .u32 x] W fun e W'=>
   (e=.returned (.bool true)/\J (pre++[x]) W'/\Below X0 W W')\/(e=.returned (.bool false)/\Jx (pre++[x]) W'))
 (W:World) (hBs:W.cell? ⟨Bs,0,none⟩=some (.slice (some ⟨b,off,none⟩) len cap)) (hc:∀ j,j<len->W.cell? ⟨b,off+j,none⟩=some (.int .u32 (zs[j]?.getD 0))) (h0:J [] W):
 CallsIn F n prog 204 #[.func (.yield l) #[] #[],.pointer (some ⟨Bs,0,none⟩)] W fun e W'=>(∃ v,e=.returned v)/\
  ((∃ ys,ys=upto zs len/\J ys W')\/(∃ pre,(∃ k,k<=len/\pre=upto zs k)/\Jx pre W')):=by
 refine callsIn_of_wp func204 rfl h7 ?_ T8;simp only[ntmps204,ik,List.length_cons,List.length_nil,Nat.reduceAdd,Nat.reduceSub,li,Array.replicate_zero,lp,lj,List.nil_append,List.cons_append]
 gi_wp2
 gi_loopw [7] (fun i wr=>∃ k:Nat,k<=len/\i=.int .i64 k/\J (upto zs k) wr/\Below X0 W wr)
  (fun i _=>len-(intOf i).toNat)
 case atStart=>exact⟨0,je _,rfl,h0,Below.refl _ _⟩
 case round=>
  obtain⟨k,hk,rfl,hJs,hnx⟩:=hrel;have hcx:k<len->wr.cell? ⟨b,off+k,none⟩=some (.int .u32 (zs[k]?.getD 0)):=fun h=>(hnx.cell (p:=⟨b,off+k,none⟩) hb).trans (hc k h);by_cases dF:k<len
  .obtain⟨fn,tmps,assign,body,hy,hR⟩:=hY _ (zs[k]?.getD 0) wr hJs (by grind [HN]);have hcx':=hcx dF
   gi_wp2
   refine hR.mono ?_;rintro e W3 (⟨rfl,hJ3,u9⟩|⟨rfl,hJx3⟩)
   .gi_wp2
    go_roundw
    case rel=>exact⟨k+1,oO,sS,by grind [DS],hnx.trans u9⟩
    grind [intOf]
   .gi_wp2
    refine bodyPost_ret (results_none rfl _ _ _) rfl ?_;exact⟨⟨_,rfl⟩,.inr ⟨_,⟨k+1,oO,(DS _ _).symm⟩,hJx3⟩⟩
  .obtain rfl:k=len:=oO
   gi_wp2
   go_end0
   grind
set_option maxRecDepth 100000 in
def AV(F:Fence)(n:Nat)(h7:F.fn 204)(T8:F.round=none)(l Bs:Nat)(J:AN->World->Prop)(W:World)(A:Option Addr)(cap:Nat)(hBs:W.cell? ⟨Bs,0,none⟩=some (.slice A 0 cap))(h0:J [] W):
 CallsIn F n prog 204 #[.func (.yield l) #[] #[],.pointer (some ⟨Bs,0,none⟩)] W fun e W'=>(∃ v,e=.returned v)/\J [] W':=by
 refine callsIn_of_wp func204 rfl h7 ?_ T8;simp only[ntmps204,ik,List.length_cons,List.length_nil,Nat.reduceAdd,Nat.reduceSub,li,Array.replicate_zero,lp,lj,List.nil_append,List.cons_append]
 gi_wp2
 gi_loopw [7] (fun i wr=>i=.int .i64 0/\J [] wr) (fun _ _=>0)
 case atStart=>grind
 case round=>
  obtain⟨rfl,hJs⟩:=hrel
  gi_wp2
  go_end0
  grind
def Ints(e:Nat)(W:World)(d:Value)(c:AN):Prop:=
 (c=[]/\∃ A a,d=.slice A 0 a)\/∃ b off a,d=.slice (some ⟨b,off,none⟩) c.length a/\b<e/\∀ j,j<c.length->W.cell? ⟨b,off+j,none⟩=some (.int .u32 (c[j]?.getD 0))
def Ints.below{a:Nat}{A B:World}(h:Below a A B){c:Value}{d:AN}:Ints a A c d->Ints a B c d
 |.inl e=>.inl e
 |.inr ⟨b,off,cap,e,hb,hc⟩=>.inr ⟨b,off,cap,e,hb,fun j f=>(h.cell (p:=⟨b,off+j,none⟩) hb).trans (hc j f)⟩
def Fu(F:Fence)(n:Nat)(o:F.fn 204)(k:F.round=none)(E:1<=n)(Bs h:Nat)(r:Value)(d:AN)(g:d.length<=1048576)(w:World)(j:Bs<w.heap.size)(c:h<=w.heap.size)
 (B:w.cell? ⟨Bs,0,none⟩=some r) (v:Ints h w r d):
 SeqStopsK F n prog 204 #[.pointer (some ⟨Bs,0,none⟩)] (fun x:Int=>#[Value.int .u32 x]) (Below h) (fun H=>H=d) (fun _=>True) d.length w:=fun l J s W q _ _ y m=>by
 have f:=(q.cell (p:=⟨Bs,0,none⟩) j).trans B;rcases v.below (q.mono c)with⟨rfl,A,a,rfl⟩|⟨b,off,a,rfl,z,t⟩
 .exact(AV F n o k l Bs J W A a f m).mono fun e W' ⟨C,D⟩=>⟨C,.inl ⟨_,rfl,D⟩⟩
 .refine(KY F n o k E l Bs h b off d.length a d g z J s y W f t m).mono ?_
  grind [QH]
def SG:(prog.info? 34).map (fun i=>(i.zero,i.size,i.bytes))=some (some (.int .u32 0),1,4):=by kernel_rfl
set_option maxRecDepth 100000 in
def FW(F:Fence)(n:Nat)(h3:F.fn 147)(h7:F.fn 204)(T8:F.round=none)(hn:3<=n)(Bs:Nat)(sv:Value)(zs:AN)(hlen:zs.length<=1048576)(w:World)(hBs:Bs<w.heap.size)
 (hc:w.cell? ⟨Bs,0,none⟩=some sv) (hI:Ints w.heap.size w sv zs):
 CallsIn F n prog 147 #[.slice none 0 0,.func (.func 204) #[] #[.pointer (some ⟨Bs,0,none⟩)]] w fun e W'=>∃ v,e=.returned v/\W'.ownsRow w.heap.size 34 1 v zs.length (zs.map (Value.int .u32))/\Below w.heap.size w W':=by
 have h1:1<=n:=oO;obtain⟨i0,hi,hz0,hz1,hz2⟩:=info_parts SG;refine callsIn_of_wp_marks func147 rfl h3 ?_ T8;simp only[ntmps147,ik,List.length_cons,List.length_nil,Nat.reduceAdd,Nat.reduceSub,li,Array.replicate_zero,lp,lj,List.nil_append,List.cons_append]
 gi_wp2
 have bO:=Boxed.new w 22 (.slice none 0 0);have hB0:Below w.heap.size w (w.alloc (.cells #[.slice none 0 0] 22)):=(Below.refl _ w).alloc (au _) _
 refine wpIn_rangeFunc_ownG T8 h1 (gf:=204) (lb:=#[.pointer (some ⟨Bs,0,none⟩)]) rfl h7 (enters_of func204 (by kernel_rfl) rfl)
  (Fu F (n-1) h7 T8 oO Bs w.heap.size sv zs hlen _ (by simp;omega) sS ((hB0.cell (p:=⟨Bs,0,none⟩) hBs).trans hc) (hI.below hB0)) belowK_t (belowK_b sS) (Below.refl _ _) (fun _=>rfl)
  (fun pre W=>(∃ v,Boxed W w.heap.size 22 v/\W.ownsRow w.heap.size 34 1 v pre.length (pre.map (Value.int .u32))/\True)/\Below w.heap.size w W)
  (fun _ _ _=>False)
  (OwnFrom.and (Own.from (holdsRow_own w.heap.size w.heap.size 22 34 1 (fun pre:AN=>pre.length) (fun pre:AN=>pre.map (Value.int .u32)) (fun _ _=>True)) _) (ownFrom_below (au _) sS))
  (fun _ _ _ _ _ hs _ _=>hs)
  ⟨⟨_,bO,World.ownsRow_nil _ _ _ _,trivial⟩,hB0⟩
  (fun x=>{ tmps:=#[.slice none 0 0,.func (.func 204) #[] #[.pointer (some ⟨Bs,0,none⟩)],.pointer (some ⟨w.heap.size,0,none⟩),undef,.slice none 0 0,.int .u32 x,.func (.func 204) #[] #[.pointer (some ⟨Bs,0,none⟩)],.int .u32 x,undef,undef,undef,undef,undef],defers:=[] }) ?assign ?body ?done ?stop
 case assign=>
  intro l x W K hK
  gi_wp2
  omega
 case body=>
  rintro l pre x W ⟨⟨v,hv,j5,_⟩,hB⟩ dF;have hc:=hv.cell
  gi_wp2_with (gi_at_builtin;refine wpListIn_append_own _ rfl _ _ 22 rfl w.heap.size 34 i0 (.int .u32 0) 1 4 underlying22 hi hz0 hz1 hz2 rfl (by decide) _ _ _ rfl (j5.alloc _) ⟨W.heap.size,0,none⟩ 1 1 [.int .u32 x] rfl rfl (cell_one_new _ _ _) (by simp[Value.oneCell']) (by grind [maxLen]) oO (by have:=hB.size;simp;omega) ?_;intro v' w1 Z8 U6 _;obtain⟨g',cap',rfl⟩:=ownsRow_succ Z8;obtain⟨hv1,hv2,hr2,u5,V5⟩:=hv.appended (by decide) j5 hB.size (au _) Z8 U6;have hc1:=hv1.cell;have hf1:=hv1.frozen)
  exact⟨u5.from _,V5,⟨_,hv2,by grind,trivial⟩,hB.trans V5⟩
 case done=>
  rintro D ys W hD rfl ⟨⟨v,hv,j5,_⟩,hB⟩ hK;have hc:=hv.cell
  gi_wp2
  refine⟨sS,.inl ⟨_,_,rfl,run_takeDeferred hK,?_⟩⟩;exact⟨_,results_tmp rfl _ _ _,v,rfl,ownsRow_putObj j5 _ hK rfl,hB.trans (belowK_b (w:=w) (au _) W D _ _ (by simp at hD;omega) hK rfl rfl)⟩
 grind
set_option maxRecDepth 100000 in
def Jb(F:Fence)(n:Nat)(h2:F.fn 104)(h3:F.fn 147)(h7:F.fn 204)(T8:F.round=none)(hn:4<=n)(Bs:Nat)(sv:Value)(zs:AN)(hlen:zs.length<=1048576)(w:World)(hBs:Bs<w.heap.size)
 (hc:w.cell? ⟨Bs,0,none⟩=some sv) (hI:Ints w.heap.size w sv zs):
 CallsIn F n prog 104 #[.func (.func 204) #[] #[.pointer (some ⟨Bs,0,none⟩)]] w fun e W'=>∃ v,e=.returned v/\W'.ownsRow w.heap.size 34 1 v zs.length (zs.map (Value.int .u32))/\Below w.heap.size w W':=by
 have h1:1<=n:=oO;refine callsIn_of_wp func104 rfl h2 ?_ T8;simp only[ntmps104,ik,List.length_cons,List.length_nil,Nat.reduceAdd,Nat.reduceSub,li,Array.replicate_zero,lp,lj,List.nil_append,List.cons_append]
 gi_wp2_with (gi_at_call 147;refine(FW F (n-1) h3 h7 T8 oO Bs sv zs hlen _ hBs hc hI).mono ?_;rintro e w' ⟨v,rfl,j5,hbel⟩)
 go_ret
 simp_all
end Rg
namespace Aw
open Go Go.RowKit
def tw(d:Int):Int:=if d % 2=0 then d+1 else d-1
def wrap_u32(n:Int):IntKind.u32.wrap n=n % 4294967296:=by simp[IntKind.wrap,IntKind.signed,IntKind.bits]
def wrap_i64(n:Int)(a : -9223372036854775808<=n)(b:n<=9223372036854775807):IntKind.i64.wrap n=n:=by
 simp only[IntKind.wrap,IntKind.signed,IntKind.bits];simp
 split<;>omega
def Tm(a:Int)(e:Int)(d:0<=a)(g:a<4294967296)(h:a % 2=0)(f:e=0\/e=1):mq .u32 a e=a+e:=by
 unfold mq IntKind.bits;obtain⟨n,rfl⟩:=uj d;rw[wrap_u32,BitVec.toNat_or];have b:(BitVec.ofInt 32 (n:Int)).toNat=n:=by rw[BitVec.ofInt_natCast,su];exact ej oO
 rw[b];rcases f with rfl|rfl
 .simp;omega
 .have c:(BitVec.ofInt 32 1).toNat=1:=by decide
  have:n ||| 1=n+1:=by
   apply mB;intro j;cases j with
   |zero=>simp;omega
   |succ j=>rw[Nat.testBit_or];simp[vd];congr 1;omega
  rw[c,this];omega
def Uz(e:Int):wJ .i64 e 1=e % 2:=by
 show IntKind.i64.wrap ((BitVec.ofInt 64 e &&& BitVec.ofInt 64 1).toNat:Int)=_;have a:(BitVec.ofInt 64 1).toNat=1:=by decide
 rw[BitVec.toNat_and,a,Nat.and_one_is_mod,wrap_i64 _ oO oO,BitVec.toNat_ofInt];omega
def Ts(a:Int):Ee .u32 a 1=a*2 % 4294967296:=by unfold Ee;rw[wrap_u32];rfl
def Of(id e:Int)(b:St):
 aB prog 93 [u id,i e] b fun r a=>r=u (id*2 % 4294967296+e % 2)/\a=b:=by
 refine zN func93 ntmps93 [.tmp 4] ?_;refine bz ?_;rw[Ts,Uz,wrap_u32,Tm _ _ oO oO oO oO];omega
end Aw
namespace Aw
open Go Go.RowKit Pl
def qN(k:Nat)(h:k<9223372036854775807):IntKind.i64.wrap ((k:Int)+1)=((k+1:Nat):Int):=by rw[wrap_i64 _ oO oO];omega
def kO(l:AN)(k:Nat)(a:k<l.length):(us l).drop k=u l[k]::us (l.drop (k+1)):=by rw[us,<- qk,ir a];rfl
def qG(l:AN)(k:Nat)(a:k<l.length):(us l).drop k=u (l.getD k 0)::us (l.drop (k+1)):=by rw[kO l k a];simp[a]
def FR{l:AN}{d:Int}(h:d∈l):gi l d=((l.idxOf d:Nat):Int):=by unfold gi;rw[ad h]
def SR{l:AN}{d:Int}(h:¬d∈l):gi l d = -1:=by unfold gi;rw[ac h]
def bA(l:AN)(j:Nat)(a:j<l.length):l.getD j 0=l[j]:=by rw[cp,cg a];rfl
def St.ext'{a b:St}(h:a.z=b.z)(k:∀ x,a.H x=b.H x):a=b:=by cases a;cases b;simp only at h k;subst h;congr;funext x;exact k x
def small(l:AN):Prop:=l.length<=1048576
def Index(l:AN)(t:Nat)(x:Int)(q:St)(z:small l):
 aB prog 40 [.sl t l.length (us l),u x] q fun r a=>r=i (gi l x)/\a=q:=by
 unfold small at z;refine zN func40 ntmps40 [.tmp 4] ?_;refine bz ?_;refine qL (fun n c a=>∃ k:Nat,k<=l.length/\n=l.length-k/\c 0=.sl t l.length (us l)/\c 1=u x/\c 7=i l.length/\c 8=i k/\a=q/\∀ j (b:j<l.length),j<k->l[j]≠x) l.length ?_ ?_
 .exact⟨0,oO,oO,sS,sS,sS,sS,rfl,fun j _ h=>by omega⟩
 rintro n c a ⟨k,B,rfl,d,e,f,g,rfl,s⟩ A m;by_cases dF:k<l.length
 .have o:=kO l k dF;have p:=qN k oO
  (repeat' (first|apply qS|apply qB|refine qK (zZ ?_)|(refine qR (zZ ?_);simp[d,e,f,g,dF,o,p])|(apply qC;simp[d,e,f,g,dF,o,p];(try with_reducible refine⟨?_,?_⟩)<;>(try with_reducible intro v))|(refine zE ?_;intro J w;simp[d,e,f,g,dF,o,p];refine zJ w ?_)))
  .exact(Th dF v.symm (fun j b=>s j oO b)).symm
  .refine m _ _ _ ?_ ⟨k+1,oO,rfl,aa d,aa e,aa f,sS,rfl,fun j b y=>?_⟩
   .omega
   .rcases dC j k with h|h
    .exact s j b h
    .obtain rfl:j=k:=oO;exact fun h=>v h.symm
 .refine jg d e f g dF ?_;exact(Ue (fun j b=>s j b oO)).symm
def AY(l:AN)(t:Nat)(x:Int)(c:St)(e:small l):
 aB prog 16 [.sl t l.length (us l),u x] c fun r a=>r=bb (decide (x∈l))/\a=c:=by
 refine zN func16 ntmps16 [.tmp 4] ?_
 (refine eu ?_;intro J d)
 refine qF (Index l t x c e) ?_;rintro r a ⟨rfl,rfl⟩;refine dB d ?_;have:=AO l x;by_cases b:x∈l
 .simp[b];simp[b]at this;omega
 .simp[b];simp[b]at this;omega
def To(l:AN)(h:0<l.length):ki (us l)=u l[0]:=by
 cases l with
 |nil=>simp at h
 |cons a l=>rfl
def Min(l:AN)(t:Nat)(h:St)(v:small l)(p:l≠[]):
 aB prog 106 [.sl t l.length (us l)] h fun r b=>r=u (mn l)/\b=h:=by
 unfold small at v;have e:0<l.length:=iu.2 p;have d:=To l e;refine zN func106 ntmps106 [.tmp 2] ?_
 (repeat' (first|apply qS|apply qB|refine qK (zZ ?_)|(apply qC;simp[e,d];(try with_reducible refine⟨?_,?_⟩)<;>(try with_reducible intro y)<;>try (exfalso;omega))|(refine zE ?_;intro J q;simp[e,d];refine zJ q ?_)))
 refine qL (fun n f b=>∃ k:Nat,0<k/\k<=l.length/\n=l.length-k/\f 0=.sl t l.length (us l)/\f 4=i k/\f 3=u (mn (l.take k))/\b=h) (l.length-1) ?_ ?_
 .refine⟨1,oO,oO,oO,sS,sS,?_,rfl⟩;cases l with
  |nil=>simp at e
  |cons a l=>simp[mn]
 rintro n f b ⟨k,o,z,rfl,c,m,j,rfl⟩ x g;by_cases dF:k<l.length
 .have s:=kO l k dF;have w:=qN k oO;refine kj c j m dF s w ?_;refine g _ _ _ ?_ ⟨k+1,oO,oO,rfl,aa c,sS,by simp[UD l k o dF],rfl⟩;omega
 .refine ef c j m dF ?_;rw[dp oO]
def wrap_small(n:Int)(b:0<=n)(a:n<=9223372036854775807):IntKind.i64.wrap n=n:=wrap_i64 n oO a
def G3(n:Int)(f:St)(h:0<=n)(k:n<=4194304):
 aB prog 203 [.nil,i n] f fun r d=>∃ l g,r=.ms l 0 0/\f.z<=l/\d.H l=.box 34 1 g/\aA f d:=by
 have c:=wrap_small n h oO;have a:IntKind.i64.wrap 0=0:=by decide
 refine jU 34 1 ?_;refine zN func203 ntmps203 [.tmp 4] ?_;by_cases b:0<n
 ·(repeat' (first|apply qS|refine qK (zZ ?_)|(refine qR (zZ ?_);simp[c,a,b])|(apply qC;simp[c,a,b];(try with_reducible refine⟨?_,?_⟩)<;>(try with_reducible intro j)<;>try (exfalso;omega))|(refine zE ?_;intro J e;simp[c,a,b];(repeat refine ca ?_);refine zJ e ?_)))
  exact aA.new _ _
 ·(repeat' (first|apply qS|refine qK (zZ ?_)|(refine qR (zZ ?_);simp[c,a,b])|(apply qC;simp[c,a,b];(try with_reducible refine⟨?_,?_⟩)<;>(try with_reducible intro j)<;>try (exfalso;omega))|(refine zE ?_;intro J e;simp[c,a,b];refine zJ e ?_)))
  exact aA.new _ _
abbrev rows(a:List (Nat×AN)):List LV:=a.map fun p=>.sl p.1 p.2.length (us p.2)
def total(a:List (Nat×AN)):Nat:=(a.map fun p=>p.2.length).sum
def flat(a:List (Nat×AN)):AN:=(a.map fun p=>p.2).flatten
def xX(a:List (Nat×AN)):(flat a).length=total a:=by
 induction a with
 |nil=>rfl
 |cons p a b=>simp[flat,total,Function.comp_def]at b ⊢
def BC(a:List (Nat×AN))(k:Nat)(b:k<a.length):total (a.take (k+1))=total (a.take k)+a[k].2.length:=by rw[eL b,total,cr,List.sum_append];simp only[total,ax,np,List.sum_cons,List.sum_nil,Nat.add_zero]
def OT(a:List (Nat×AN))(k:Nat)(b:k<a.length):flat (a.take (k+1))=flat (a.take k)++a[k].2:=by rw[eL b,flat,cr,mg];simp only[flat,ax,np,List.flatten_cons,List.flatten_nil,eP]
def sV(a:List (Nat×AN))(k:Nat):total (a.take k)<=total a:=by
 have h:total a=total (a.take k)+total (a.drop k):=by
  conv=>lhs;rw[<- gd k a]
  rw[total,cr,List.sum_append];rfl
 omega
def Dl(a:List (Nat×AN))(k:Nat)(b:k<a.length):(rows a).drop k=.sl a[k].1 a[k].2.length (us a[k].2)::rows (a.drop (k+1)):=by rw[rows,<- qk,ir b];rfl
def KV(a:AN):(us a).all jP=true:=by simp[us,jP]
def VW(a:List (Nat×AN))(t:Nat)(F:St)(W:a.length<=1048576)(V:total a<=4194304):
 aB prog 183 [.sl t a.length (rows a)] F fun r e=>∃ l,r=.ms l 0 (flat a).length/\F.z<=l/\e.H l=.box 34 1 (us (flat a))/\aA F e:=by
 refine zN func183 ntmps183 [.tmp 2] ?_;refine bz ?_;refine qL (fun n b e=>∃ k:Nat,k<=a.length/\n=a.length-k/\b 0=.sl t a.length (rows a)/\b 9=.sl t a.length (rows a)/\b 10=i a.length/\b 11=i k/\b 3=i (total (a.take k))/\e=F) a.length ?_ ?_
 .exact⟨0,oO,oO,sS,sS,sS,sS,by simp[total],rfl⟩
 rintro n b C ⟨k,N,rfl,o,x,c,f,w,rfl⟩ P d;by_cases dF:k<a.length
 .have A:=Dl a k dF;have B:=qN k oO;have O:=BC a k dF;have S:=sV a (k+1);have I:IntKind.i64.wrap ((total (a.take k):Int)+(a[k].2.length:Int))=(total (a.take (k+1)):Int):=by rw[wrap_small _ oO oO];omega
  clear O
  (repeat' (first|apply qS|apply qB|refine qK (zZ ?_)|(apply qC;simp[o,x,c,f,w,dF,A,B,I];(try with_reducible refine⟨?_,?_⟩)<;>(try with_reducible intro U)<;>try (exfalso;omega))|(refine zE ?_;intro J q;simp[o,x,c,f,w,dF,A,B,I];(refine zJ q ?_;clear q J))))
  refine d _ _ _ ?_ ⟨k+1,oO,rfl,aa o,aa x,aa c,sS,sS,rfl⟩;omega
 .have K:k=a.length:=oO;have C4:a.take k=a:=dp oO;rw[C4]at w;clear d
  (refine ua o x c f w dF ?_;intro J q)
  refine qF (G3 (total a) _ oO oO) ?_;rintro r e ⟨R,Q,rfl,s,y,v⟩;refine pH q o ?_;refine Kj 0 y ?_;refine qL (fun n b j=>∃ k:Nat,k<=a.length/\n=a.length-k/\b 25=.sl t a.length (rows a)/\b 26=i a.length/\b 27=i k/\∃ l,b 6=.ms l 0 (flat (a.take k)).length/\j.H l=.box 34 1 (us (flat (a.take k)))/\C.z<=l/\aA C j) a.length ?_ ?_
  .exact⟨0,oO,oO,aa o,sS,sS,R,by simp[flat],by simp[flat],s,v.set s _⟩
  clear o x c f w dF y v s b N K C4;rintro n b j ⟨k,N,rfl,g,h,p,l,D,E,m,v⟩ P d;by_cases dF:k<a.length
  .have A:=Dl a k dF;have B:=qN k oO;have O:=BC a k dF;have S:=sV a (k+1);have hf:=OT a k dF;have T:=xX (a.take (k+1));have M:=xX (a.take k);have L:=KV (a[k].2)
   (repeat' (first|apply qS|apply qB|refine qK (zZ ?_)|(apply qC;simp[g,h,p,D,E,dF,A,B,L])|(refine zE ?_;intro J q;simp[g,h,p,D,E,dF,A,B,L];(repeat refine ca ?_);(refine zJ q ?_;clear q J))))
   refine d _ _ _ ?_ ⟨k+1,oO,rfl,aa g,aa h,sS,j.z,?_,?_,v.z,(v.set m _).trans (aA.new _ _)⟩
   .omega
   .simp[hf]
   .simp[hf]
  .have K:k=a.length:=oO;have C4:a.take k=a:=dp oO;rw[C4]at D E;clear d;refine jg g h p D dF ?_;exact⟨m,E,v⟩
def Xx(a:List (Nat×AN))(t:Nat)(c:St)(g:a.length<=1048576)(f:total a<=4194304):
 aB prog 183 [.sl t a.length (rows a)] c fun r b=>r=.sl 0 (flat a).length (us (flat a))/\aA c b:=by
 refine cE ((VW a t c g f).mono ?_);rintro r b ⟨l,rfl,dF,d,e⟩;exact⟨l,_,_,1,_,rfl,d,sS,by simp[dp],e.set dF _⟩
def WV(a:AN)(t:Nat)(d:St)(f:small a):
 aB prog 20 [.sl t a.length (us a)] d fun r b=>∃ l,r=.ms l 0 a.length/\d.z<=l/\b.H l=.box 34 1 (us a)/\aA d b:=by
 unfold small at f;refine jU 34 1 ?_;have c:=KV a;refine zN func20 ntmps20 [.tmp 2] ?_
 (repeat' (first|apply qS|refine qK (zZ ?_)|(refine qR (zZ ?_);simp[c])|(apply qC;simp[c])|(refine w_e [5] ?_;intro J e;simp only[];simp[c];(repeat refine ca ?_);((try with_reducible refine⟨?_,?_⟩)<;>(try with_reducible intro g)<;>refine zJ e ?_<;>clear e J<;>try subst g))))
 .exact((aA.new _ _).set (au _) _).trans (aA.new _ _)
 .exact aA.new _ _
def SS(a:AN)(t:Nat)(c:St)(f:small a):
 aB prog 20 [.sl t a.length (us a)] c fun r b=>r=.sl 0 a.length (us a)/\aA c b:=by
 refine cE ((WV a t c f).mono ?_);rintro r b ⟨l,rfl,dF,d,e⟩;exact⟨l,_,_,1,_,rfl,d,sS,by simp[dp],e.set dF _⟩
def nx(l:AN)(d:Int):Int:=if d∈l then l.getD ((l.idxOf d+1) % l.length) 0 else 0
def pv(l:AN)(d:Int):Int:=if d∈l then l.getD ((l.idxOf d+(l.length-1)) % l.length) 0 else 0
def iI{t:AN}(b:t.Nodup){j:Nat}(a:j<t.length):nx t t[j]=t[(j+1) % t.length]'(kz _ oO):=by unfold nx;rw[ad (dq a),b.idxOf_getElem j a,bA _ _ (kz _ oO)]
theorem KA{t:AN}{d:Int}(a:d∈t):nx t d∈t:=by unfold nx;have:0<t.length:=yc a;rw[ad a,bA _ _ (kz _ this)];exact dq _
def RU{t:AN}(f:t.Nodup){d e:Int}(l:d∈t)(m:e∈t)(h:nx t d=nx t e):d=e:=by
 obtain⟨j,n,rfl⟩:=eh l;obtain⟨k,o,rfl⟩:=eh m;rw[iI f n,iI f o]at h;have c:=congrArg t.idxOf h;rw[f.idxOf_getElem,f.idxOf_getElem]at c;have g:j=k:=by
  rcases dC (j+1) t.length with a|a
  .rw[ej a]at c;rcases dC (k+1) t.length with b|b
   .rw[ej b]at c;omega
   .rw[show k+1=t.length by omega,ri]at c;omega
  .rw[show j+1=t.length by omega,ri]at c;rcases dC (k+1) t.length with b|b
   .rw[ej b]at c;omega
   .omega
 subst g;rfl
def YX{t:AN}(b:t.Nodup){j:Nat}(a:j<t.length)(k:Nat):Eu.it (nx t) k t[j]=t[(j+k) % t.length]'(kz _ oO):=by
 induction k with
 |zero=>simp only[Eu.it,Nat.add_zero,ej a]
 |succ k c=>
  rw[Eu.bF,c,iI b]
  congr 1
  rw[Nat.mod_add_mod];rfl
def KN{t:AN}(g:t.Nodup){d e:Int}(a:d∈t)(b:e∈t):Eu.Orb (nx t) d e:=by
 obtain⟨j,c,rfl⟩:=eh a;obtain⟨k,f,rfl⟩:=eh b;refine⟨t.length-j+k,?_⟩;rw[YX g c]
 congr 1
 rw[show j+(t.length-j+k)=t.length+k by omega,Nat.add_mod_left,ej f]
def from_(l:AN)(t k:Nat)(c:St)(e:small l)(b:k<=l.length):
 aB prog 149 [.sl t l.length (us l),i k] c fun r a=>r=.sl 0 l.length (us (rt l k))/\aA c a:=by
 unfold small at e;refine zN func149 ntmps149 [.tmp 4] ?_;refine dd b ?_
 (refine NX lV [] 6 (by kernel_rfl) (by kernel_rfl) rfl rfl ?_;intro J d;simp[b];skip;skip)
 refine qE (Xx [(0,l.drop k),(0,l.take k)] c.z _ sS (by simp[total];omega)) (by simp[dp,ti b]) ?_;rintro r a ⟨rfl,f⟩;have hf:flat [(0,l.drop k),(0,l.take k)]=rt l k:=by simp[flat,rt]
 rw[hf,wH];refine dB d ?_;exact(aA.new _ _).trans f
def RD(l:AN)(t:Nat)(f:St)(e:small l):
 aB prog 110 [.sl t l.length (us l)] f fun r c=>r=.sl 0 l.length (us (ev l))/\aA f c:=by
 refine Hg ?_;refine zN func110 ntmps110 [.tmp 2] ?_;cases l with
 |nil=>refine bz ?_;exact⟨by decide,aA.refl _⟩
 |cons a b=>
  (repeat' (first|apply qS|refine qK (zZ ?_)|(apply qC;simp[];(try with_reducible refine⟨?_,?_⟩)<;>(try with_reducible intro j)<;>try (exfalso;omega))|(refine zE ?_;intro J d;simp[];(try (refine zJ d ?_;clear d J)))))
  refine qE (Min (a::b) t _ e sS) (by simp[]) ?_;rintro r c ⟨rfl,rfl⟩;refine dB d ?_;refine qE (Index (a::b) t (mn (a::b)) _ e) (by simp[]) ?_;rintro r c ⟨rfl,rfl⟩;refine dB d ?_;have g:gi (a::b) (mn (a::b))=(((a::b).idxOf (mn (a::b)):Nat):Int):=by unfold gi;rw[ad (wO sS)]
  rw[g];refine qE (from_ (a::b) t ((a::b).idxOf (mn (a::b))) _ e yl) (by simp[]) ?_;rintro r c ⟨rfl,h⟩;refine dB d ?_;exact⟨rfl,h⟩
def ins(l:AN)(b:Int)(m:AN):AN:=(if b∈l then l.take (l.idxOf b+1)++m++l.drop (l.idxOf b+1)else l++m)
def RT(c:AN)(k:Nat)(x:Int)(a:k<c.length):(c.set k x).take (k+1)=c.take k++[x]:=by
 grind [List.take_succ_eq_append_getElem,List.take_set_of_le]
def set_drop(c:AN)(k j:Nat)(x:Int)(h:k<=j):(c.set k x).drop (j+1)=c.drop (j+1):=by
 grind [List.drop_set_of_lt]
theorem FX(c:AN)(k:Nat)(x:Int)(a:k<c.length):(us c).take k++u x::(us c).drop (k+1)=us (c.set k x):=by
 grind [List.map_take,List.map_drop,List.set_eq_take_append_cons_drop]
theorem St.set_set(c:St)(q:Nat)(a b:cK):(c.set q a).set q b=c.set q b:=St.ext' rfl fun y=>by simp_all
def swp(c:AN)(a b:Nat):AN:=(c.set a (c.getD b 0)).set b (c.getD a 0)
def KJ(c:AN)(a b:Nat):(swp c a b).length=c.length:=by simp[swp]
def swp_get(c:AN)(a b j:Nat)(f:a<c.length)(g:b<c.length):(swp c a b).getD j 0=if j=b then c.getD a 0 else if j=a then c.getD b 0 else c.getD j 0:=by
 unfold swp;simp only[cp,sy];by_cases d:b=j
 .subst d;simp[g]
 .by_cases e:a=j
  .subst e;simp[d,f,fD d]
  .simp[d,e,fD d,fD e]
def WS(c:AN)(a b:Nat)(d:a<c.length)(e:b<c.length):us (swp c a b)=((us c).set a (u (c.getD b 0))).set b (u (c.getD a 0)):=by unfold swp;simp only[us,List.map_set]
def za(a:List LV)(o:Nat)(v:LV)(h:o<a.length):a.take o++v::a.drop (o+1)=a.set o v:=by rw[qd,ad h]
def WY(l c:AN)(b:c.length=l.length)(h:∀ j,j<l.length->c.getD j 0=l.getD (l.length-1-j) 0):c=l.reverse:=by apply vc (aa b);intro j a d;have:=h j oO;rw[cp,cp,cg a,cg oO]at this;rw[List.getElem_reverse];simpa using this
def zP(l:AN)(q:Nat)(t:St)(N:small l)(K:t.H q=.box 34 1 (us l)):
 aB prog 108 [.ms q 0 l.length] t fun r d=>d=t.set q (.box 34 1 (us l.reverse)):=by
 unfold small at N;have I:IntKind.i64.wrap ((l.length:Int)-1)=(l.length:Int)-1:=zW;refine zN func108 ntmps108 [] ?_;refine dd I ?_;refine qL (fun n g d=>∃(k:Nat) (c:AN),n=l.length-k/\k<=l.length/\g 0=.ms q 0 l.length/\g 2=i k/\g 3=i ((l.length:Int)-1-k)/\c.length=l.length/\d=t.set q (.box 34 1 (us c))/\∀ j,j<l.length->c.getD j 0=if j<k\/l.length<=j+k then l.getD (l.length-1-j) 0 else l.getD j 0) l.length ?_ ?_
 .refine⟨0,l,oO,oO,sS,sS,sS,rfl,St.ext' rfl fun x=>by by_cases P:x=q<;>simp[P,K],fun j p=>?_⟩;rw[ac oO]
 rintro n g Q ⟨k,c,rfl,S,o,b,a,f,rfl,s⟩ R e;by_cases dF:(k:Int)<(l.length:Int)-1-k
 .obtain⟨m,O⟩:∃ m:Nat,(l.length:Int)-1-k=m:=⟨l.length-1-k,oO⟩;rw[O]at a dF;have E:=qN k oO;have A:IntKind.i64.wrap ((m:Int)-1)=(m:Int)-1:=zW;have M:=qG c k oO;have F:=qG c m oO;have w:k<l.length:=oO;have v:m<l.length:=oO;refine ef o b a dF ?_
  (refine zS [] [q] [0,2,4,6,8,10,12,14,16,18,20,22,24,27,28,31] ?_;intro J L;simp[o,b,a,w,v,f,M,F];(repeat refine ca ?_);refine zJ L ?_)
  refine ef b a E A ?_;refine e _ _ _ ?_ ⟨k+1,swp c k m,rfl,oO,aa o,sS,?_,by rw[KJ];exact f,St.ext' rfl fun y=>?_,fun j p=>?_⟩
  .omega
  .simp only[Eb];simp;omega
  .by_cases D:y=q
   .subst D;have C:(us c).length=l.length:=by simp[f]
    simp only[bP,reduceIte,WS c k m oO oO];rw[za (us c) k _ oO,za _ m _ (by simp;omega)];simp[f,w,v]
   .simp[D]
  .rw[swp_get c k m j oO oO,s k w,s m v,s j p];by_cases B:j=m
   .rw[ad B,ac oO,ad oO];congr 1;omega
   .rw[ac B];by_cases b:j=k
    .rw[ad b,ac oO,ad oO];congr 1;omega
    .rw[ac b];by_cases a:j<k\/l.length<=j+k
     .rw[ad a,ad oO]
     .rw[ac a,ac oO]
 .have z:c=l.reverse:=?_
  .subst z;clear e;refine ef o b a dF ?_;simp
  refine WY l c f ?_;intro j p;rw[s j p];by_cases h:j<k\/l.length<=j+k
  .rw[ad h]
  .rw[ac h]
   congr 1
   omega
def isNaN(x:Int)(b:St):aB prog 118 [u x] b fun r a=>r=bb false/\a=b:=by refine zN func118 ntmps118 [.tmp 2] ?_;exact tt
def uL(x y:Int)(b:St):aB prog 126 [u x,u y] b fun r a=>r=bb (decide (x<y))/\a=b:=by
 refine zN func126 ntmps126 [.tmp 4] ?_
 (refine eu ?_;intro J c)
 refine qF (isNaN x _) ?_;rintro r a ⟨rfl,rfl⟩;exact UX c
def aV(k:Nat)(a:0<k)(h:k<9223372036854775807):IntKind.i64.wrap ((k:Int)-1)=((k-1:Nat):Int):=by rw[wrap_i64 _ oO oO];omega
abbrev bx(a:St)(q:Nat)(c:AN):St:=a.set q (.box 34 1 (us c))
def uM{a:St}{q:Nat}{c:AN}(h:a.H q=.box 34 1 (us c)):a=bx a q c:=
 St.ext' rfl fun x=>by by_cases b:x=q<;>simp[b,h]
def nD(a:St)(q:Nat)(c:AN)(k m:Nat){x y:Int}(b:k<c.length)(d:m<c.length)(f:c.getD k 0=x)(g:c.getD m 0=y):
 ((bx a q c).set q (.box 34 1 (List.take k (us c)++.atom (.int .u32 y)::List.drop (k+1) (us c)))).set q
   (.box 34 1 (List.take m (List.take k (us c)++.atom (.int .u32 y)::List.drop (k+1) (us c))++.atom (.int .u32 x)::List.drop (m+1) (List.take k (us c)++.atom (.int .u32 y)::List.drop (k+1) (us c))))=bx a q (sw c k m):=by
 have e:List.take k (us c)++.atom (.int .u32 y)::List.drop (k+1) (us c)=us (c.set k y):=FX c k y b;rw[e,FX (c.set k y) m x (by simpa using d)];unfold bx sw;rw[f,g];exact St.ext' rfl fun z=>by by_cases h:z=q<;>simp[h]
def insertionSort(l:AN)(q a b:Nat)(A:St)(hl:small l)(ha:a<=b)(hb:b<=l.length)(Z:A.H q=.box 34 1 (us l)):
 aB prog 120 [.ms q 0 l.length,i a,i b] A fun r m=>∃ c,m=bx A q c/\Pm a b l c/\Srt a b c:=by
 unfold small at hl;refine zN func120 ntmps120 [] ?_;have P:=qN a oO;refine dd P ?_;refine qL (fun n d m=>∃(k:Nat) (c:AN),a<k/\n=b-k/\d 0=.ms q 0 l.length/\d 1=i a/\d 2=i b/\d 6=i k/\m=bx A q c/\Pm a b l c/\Srt a k c) (b-(a+1)) ?_ ?_
 .exact⟨a+1,l,oO,rfl,sS,sS,sS,sS,uM Z,.refl,fun p q T U Y=>by omega⟩
 rintro n d Q ⟨k,c,hak,rfl,e,f,g,h,rfl,t,O⟩ JJ o;have E:=t.len;by_cases dF:k<b;rotate_left
 .clear o;have I9:¬(k:Int)<(b:Int):=oO;refine jg e f g h dF ?_;exact⟨trivial,c,rfl,t,fun p q T U Y=>O p q T U oO⟩
 have S:=qN k oO;refine jg e f g h dF ?_;refine qL (fun n d m=>∃(j:Nat) (c:AN),a<=j/\j<=k/\j=n/\d 0=.ms q 0 l.length/\d 1=i a/\d 2=i b/\d 6=i k/\d 7=i j/\m=bx A q c/\Pm a b l c/\Ins a j k c) k ?_ ?_
 .exact⟨k,c,oO,oO,rfl,aa e,aa f,aa g,aa h,sS,rfl,t,O.ins⟩
 clear e f g h O t E c d;rintro n d Q ⟨j,c,B,N,rfl,e,f,g,h,D,rfl,t,I⟩ W w;have E:=t.len;by_cases M:a<j;rotate_left
 .clear w;have hj':¬(a:Int)<(j:Int):=oO
  (repeat (apply qS));(refine zS [] [q] [0,2,4,6,8,10,12,14,16,18,20,22,24,27,28] ?_;intro J z;simp[e,f,g,h,D,M];refine zJ z ?_)
  refine cy h S ?_;exact o (b-(k+1)) _ _ oO ⟨k+1,c,oO,rfl,aa e,aa f,aa g,sS,rfl,t,I.done B (.inl oO)⟩
 have F:=aV j oO oO;have C:j<l.length:=oO;have v:j-1<l.length:=oO;have V:=qG c j oO;have R:=qG c (j-1) oO;have K:=I.step M N oO;have L:=I.done B;have X:=t.step j (j-1) oO oO oO oO oO;generalize hx:c.getD j 0=x at *;generalize hy:c.getD (j-1) 0=y at *
 (repeat (apply qS));(refine zS [] [q] [0,2,4,6,8,10,12,14,16,18,20,22,24,27,28] ?_;intro J z;simp[e,f,g,h,D,M,F,C,v,E,V,R])
 refine aO (uL x y _) ?_;rintro r s2 ⟨rfl,rfl⟩;refine⟨fun _=>by simp,?_⟩;by_cases s:x<y;rotate_left
 .clear w
  (apply bM;simp[s];refine zJ z ?_)
  refine cy h S ?_;exact o (b-(k+1)) _ _ oO ⟨k+1,c,oO,rfl,aa e,aa f,aa g,sS,rfl,t,L (.inr s)⟩
 clear o
 (apply bM;simp[s];refine zJ z ?_)
 refine bz ?_
 (refine zS [] [q] [0,2,4,6,8,10,12,14,16,18,20,22,24,26,28,31,32,35] ?_;intro J z;simp[e,f,g,h,D,F,C,v,E,V,R];(repeat refine ca ?_);refine zJ z ?_)
 refine cy D F ?_;exact w (j-1) _ _ oO ⟨j-1,sw c j (j-1),oO,oO,rfl,aa e,aa f,aa g,aa h,sS,nD A q c j (j-1) oO oO hx hy,X,K s⟩
def reverseRange(l:AN)(q a b:Nat)(f:St)(I:small l)(R:a<=b)(S:b<=l.length)(Q:0<b)(C:f.H q=.box 34 1 (us l)):
 aB prog 124 [.ms q 0 l.length,i a,i b] f fun r d=>∃ c,d=bx f q c/\Pm a b l c:=by
 unfold small at I;refine zN func124 ntmps124 [] ?_;have p:=aV b oO oO;refine dd p ?_;refine qL (fun n o d=>∃(k m:Nat) (c:AN),a<=k/\m<b/\m=n/\o 0=.ms q 0 l.length/\o 6=i k/\o 7=i m/\d=bx f q c/\Pm a b l c) (b-1) ?_ ?_
 .exact⟨a,b-1,l,oO,oO,rfl,sS,sS,sS,uM C,.refl⟩
 rintro n o O ⟨k,m,c,E,K,rfl,g,h,j,rfl,s⟩ P e;have N:=s.len;by_cases dF:k<m;rotate_left
 .clear e;refine ef g h j dF ?_;exact⟨trivial,c,rfl,s⟩
 have z:=qN k oO;have t:=aV m oO oO;have A:k<l.length:=oO;have w:m<l.length:=oO;have F:=qG c k oO;have v:=qG c m oO;have B:=s.step k m oO oO oO oO oO;generalize L:c.getD k 0=x at *;generalize M:c.getD m 0=y at *;refine ef g h j dF ?_
 (refine zS [] [q] [0,2,4,6,8,10,12,14,16,18,20,22,24,27,28,31] ?_;intro J D;simp[g,h,j,A,w,N,F,v];(repeat refine ca ?_);refine zJ D ?_)
 refine ef h j z t ?_;exact e (m-1) _ _ oO ⟨k+1,m-1,sw c k m,oO,oO,rfl,aa g,sS,sS,nD f q c k m oO oO L M,B⟩
def bW{P:Program}{N:Nat}{Q:AQ}{k:List gQ}{a:af}{b:St}{x y:Code}(I:af->St->Prop)(c:bq P N x (AK P N (fun e f s=>e=.normal/\I f s) []) a b)(d:∀ a b,I a b->bq P N y (AK P N Q k) a b):
 bq P N x (AK P N Q (.code y::k)) a b:=by
 refine dG c ?_;rintro e UK h ⟨rfl,g⟩;rw[jG];exact d _ _ g
def Ji(a:St)(q:Nat)(c:AN)(k m:Nat){x y:Int}(b:k<c.length)(d:m<c.length)(e:c.getD k 0=x)(f:c.getD m 0=y):
 (a.set q (.box 34 1 (List.take k (us c)++.atom (.int .u32 y)::List.drop (k+1) (us c)))).set q
   (.box 34 1 (List.take m (List.take k (us c)++.atom (.int .u32 y)::List.drop (k+1) (us c))++.atom (.int .u32 x)::List.drop (m+1) (List.take k (us c)++.atom (.int .u32 y)::List.drop (k+1) (us c))))=bx a q (sw c k m):=by
 rw[<- nD a q c k m b d e f];exact St.ext' rfl fun z=>by by_cases g:z=q<;>simp[g]
def Rb{P:Program}{N:Nat}{Q:AQ}{k:List gQ}{a:af}{b:St}{x y z:Code}(I:af->St->Prop)(d:bq P N x (AK P N (fun e f s=>e=.normal/\I f s) [.code y]) a b)(g:∀ a b,I a b->bq P N z (AK P N Q k) a b):
 bq P N x (AK P N Q (.code y::.code z::k)) a b:=by
 refine dG d ?_;rintro e UK j h;cases e with
 |normal=>rw[jG]at h ⊢;refine dG h ?_;rintro e c l ⟨rfl,h⟩;rw[jG];exact g _ _ h
 |_=>exact absurd h.1 sS
def ZB(c:AN)(f r b a:Nat):Prop:=∀ x,(x=2*r+1\/x=2*r+2)->x<b->c.getD (f+x) 0<=c.getD (f+a) 0
def siftDown(l:AN)(q v a f:Nat)(F:St)(hl:small l)(hb:f+a<=l.length)(hlo:v<=l.length)(hh:uR (v+1) a f l)(hH:F.H q=.box 34 1 (us l)):
 aB prog 163 [.ms q 0 l.length,i v,i a,i f] F fun r C=>∃ c,C=bx F q c/\Pm (f+v) (f+a) l c/\uR v a f c:=by
 unfold small at hl;refine zN func163 ntmps163 [] ?_;refine bz ?_;refine qL (fun n A C=>∃(r:Nat) (c:AN),v<=r/\r<=l.length/\n=a-r/\A 0=.ms q 0 l.length/\A 2=i a/\A 3=i f/\A 8=i r/\C=bx F q c/\Pm (f+v) (f+a) l c/\uF v a f r c) (a-v) ?_ ?_
 .exact⟨v,l,au _,hlo,rfl,sS,sS,sS,sS,uM hH,.refl,hh.x⟩
 rintro n A st1 ⟨r,c,hlr,hrl,rfl,e,j,k,p,rfl,U,Z⟩ JJ B;have r8:=U.len;obtain⟨m,hm⟩:∃ m:Nat,m=2*r+1:=⟨_,rfl⟩;obtain⟨E,hm2⟩:∃ m:Nat,m=2*r+2:=⟨_,rfl⟩;have w1:IntKind.i64.wrap (2*(r:Int))=2*(r:Int):=zW;have w2:IntKind.i64.wrap (2*(r:Int)+1)=(m:Int):=zW;have V:IntKind.i64.wrap ((m:Int)+1)=(E:Int):=zW;by_cases N:a<=m
 .clear B;refine mu e j k p w1 w2 N ?_;exact⟨trivial,c,rfl,U,Z.leaf oO⟩
 obtain⟨d,g⟩:∃ x:Nat,x=f+m:=⟨_,rfl⟩;obtain⟨Q,X⟩:∃ x:Nat,x=f+E:=⟨_,rfl⟩;obtain⟨D,M9⟩:∃ x:Nat,x=f+r:=⟨_,rfl⟩;have P:IntKind.i64.wrap ((f:Int)+(m:Int))=(d:Int):=zW;have w5:IntKind.i64.wrap ((d:Int)+1)=(Q:Int):=zW;have w6:IntKind.i64.wrap ((f:Int)+(r:Int))=(D:Int):=zW
 (repeat' (first|apply qS|apply qB|(refine zE ?_;intro J t;simp[e,j,k,p,w1,w2,N];refine zJ t ?_)))
 (apply qC;simp[])
 (repeat' (first|apply qS|refine qK (zZ ?_)))
 refine Rb (fun s O=>O=bx F q c/\s 0=.ms q 0 l.length/\s 2=i a/\s 3=i f/\s 8=i r/\∃ o:Nat,s 9=i o/\(o=2*r+1\/o=2*r+2)/\o<a/\ZB c f r a o) ?_ ?_
 .by_cases I:E<a;rotate_left
  ·(refine zS [] [q] [0,2,4,6,8,10,12,14,16,18,20,22,24,26,28,30,32,34,37,38] ?_;intro J t;simp[e,j,k,p,V,I];refine zJ t ?_)
   refine dd e ?_;refine⟨trivial,trivial,aa e,aa j,aa k,aa p,m,sS,oO,oO,fun x S T=>?_⟩;rw[show x=m by omega];exact oi _
  have W:=qG c d oO;have N3:=qG c Q oO;have w:d<l.length:=oO;have hl2:Q<l.length:=oO;generalize y:c.getD d 0=R at *;generalize X8:c.getD Q 0=y2 at *
  (refine zS [] [q] [0,2,4,6,8,10,12,14,16,18,20,22,24,26,28,30,32,34,37,38] ?_;intro J t;simp[e,j,k,p,V,P,w5,I,w,hl2,r8,W,N3])
  refine aO (uL R y2 _) ?_;rintro r1 s2 ⟨rfl,rfl⟩;refine⟨fun _=>by simp,?_⟩;by_cases h:R<y2
  ·(apply bM;simp[h];refine zJ t ?_)
   refine dd V ?_;refine⟨trivial,trivial,aa e,aa j,aa k,aa p,E,sS,oO,oO,fun x S T=>?_⟩;rcases(show x=m\/x=E by omega)with rfl|rfl
   .rw[<- g,<- X,y,X8];omega
   .exact oi _
  ·(apply bM;simp[h];refine zJ t ?_)
   refine bz ?_;refine⟨trivial,trivial,aa e,aa j,aa k,aa p,m,sS,oO,oO,fun x S T=>?_⟩;rcases(show x=m\/x=E by omega)with rfl|rfl
   .exact oi _
   .rw[<- g,<- X,y,X8];omega
 clear e j k p w1 w2 V P w5 g X d Q A;rintro A O ⟨rfl,e,j,k,p,o,Y,T5,K,b⟩;obtain⟨d,g⟩:∃ x:Nat,x=f+o:=⟨_,rfl⟩;have P:IntKind.i64.wrap ((f:Int)+(o:Int))=(d:Int):=zW;have W:=qG c d oO;have L:=qG c D oO;have w:d<l.length:=oO;have M:D<l.length:=oO;unfold ZB at b;have K0:=Z.step (c:=o) hlr T5 K oO b;have Y3:=U.step D d oO oO oO oO oO;have z:=Z.big;rw[<- M9,<- g]at K0;rw[<- M9]at z;rw[<- g]at b;generalize hy0:c.getD D 0=y0 at *;generalize y:c.getD d 0=R at *
 (repeat (apply qS));(refine zS [] [q] [0,2,4,6,8,10,12,14,16,18,20,22,25,26] ?_;intro J t;simp[e,j,k,p,Y,P,w6,w,M,r8,W,L])
 refine aO (uL y0 R _) ?_;rintro r1 s2 ⟨rfl,rfl⟩;refine⟨fun _=>by simp,?_⟩;by_cases h:y0<R;rotate_left
 .clear B
  (apply bM;simp[h];refine zJ t ?_)
  refine bz ?_;exact⟨c,rfl,U,z fun x S T=>by have:=b x S T;omega⟩
 (apply bM;simp[h];refine zJ t ?_)
 refine bz ?_
 (refine zS [] [q] [0,2,4,6,8,10,12,14,16,18,20,22,24,26,28,30,32,34,36,38,40,43,44,47] ?_;intro J t;simp[e,j,k,p,Y,P,w6,w,M,r8,W,L];(repeat refine ca ?_);refine zJ t ?_)
 refine dd Y ?_;exact B (a-o) _ _ oO ⟨o,sw c D d,oO,oO,rfl,aa e,aa j,aa k,sS,nD F q c D d oO oO hy0 y,Y3,K0 h⟩
def G1(c:AN)(f j a:Nat):Prop:=∀ p q,p<q->j<=q->q<a->c.getD (f+p) 0<=c.getD (f+q) 0
def heapSort(l:AN)(q a b:Nat)(F:St)(hl:small l)(ha:a<b)(hb:b<=l.length)(hH:F.H q=.box 34 1 (us l)):
 aB prog 121 [.ms q 0 l.length,i a,i b] F fun r g=>∃ c,g=bx F q c/\Pm a b l c/\Srt a b c:=by
 have T6:=hl;unfold small at hl;obtain⟨n,hn⟩:∃ n:Nat,n=b-a:=⟨_,rfl⟩;obtain⟨N,K5⟩:∃ n:Nat,n=b-a-1:=⟨_,rfl⟩;obtain⟨U,N0⟩:∃ n:Nat,n=N / 2:=⟨_,rfl⟩;have w1:IntKind.i64.wrap ((b:Int)-(a:Int))=(n:Int):=zW;have w2:IntKind.i64.wrap ((n:Int)-1)=(N:Int):=zW;have w3:IntKind.i64.wrap ((N:Int) / 2)=(U:Int):=by rw[show(N:Int) / 2=((N / 2:Nat):Int) from rfl,<- N0];exact wrap_i64 _ oO oO
 refine zN func121 ntmps121 [] ?_;refine fk w1 w2 w3 ?_;refine qL (fun m e g=>∃(c:AN),m<=U+1/\e 0=.ms q 0 l.length/\e 6=i a/\e 7=i 0/\e 8=i n/\e 9=i ((m:Int)-1)/\g=bx F q c/\Pm a b l c/\uR m n a c) (U+1) ?_ ?_
 .exact⟨l,oO,sS,sS,sS,sS,sS,uM hH,.refl,fun k x Y Z h3=>by omega⟩
 rintro m e V ⟨c,hm,h,j,o,P,Q,rfl,v,E⟩ JJ s;have C:=v.len;cases m with
 |succ m=>
  have f:e 9=i (m:Int):=by rw[Q];congr 2;omega
  have W:IntKind.i64.wrap ((m:Int)-1)=(m:Int)-1:=zW;have A:(0:Int)<=(m:Int):=oO
  (refine ua h j o P f A ?_;intro J D)
  rw[<- C];refine qF (siftDown c q m n a _ (by unfold small;omega) oO oO E sS) ?_;rintro r s2 ⟨z,rfl,O,B⟩;rw[C];refine vY D f W ?_;exact s m _ _ oO ⟨z,oO,aa h,aa j,aa o,aa P,sS,St.set_set _ _ _ _,v.trans (O.wide oO oO oO),B⟩
 |zero=>
  clear s;have f:e 9=i (-1):=by rw[Q];rfl
  refine kj h j o P f w2 ?_;refine qL (fun m e g=>∃(c:AN),m<=n/\e 0=.ms q 0 l.length/\e 6=i a/\e 7=i 0/\e 10=i ((m:Int)-1)/\g=bx F q c/\Pm a b l c/\uR 0 m a c/\G1 c a m n) n ?_ ?_
  .exact⟨c,au _,aa h,aa j,aa o,by simp;omega,rfl,v,E,fun p q Y Z h3=>by omega⟩
  clear h j o P Q f v E C c e;rintro m e V ⟨c,hm,h,j,o,I,rfl,v,E,K⟩ JJ s;have C:=v.len;cases m with
  |zero=>
   have d:e 10=i (-1):=by rw[I];rfl
   refine dd d ?_;refine⟨trivial,c,rfl,v,fun p q Y Z h3=>?_⟩;have:=K (p-a) (q-a) oO oO oO
   rwa [show a+(p-a)=p by omega,show a+(q-a)=q by omega]at this
  |succ m=>
   have d:e 10=i (m:Int):=by rw[I];congr 2;omega
   have W:IntKind.i64.wrap ((m:Int)-1)=(m:Int)-1:=zW;have A:(0:Int)<=(m:Int):=oO;obtain⟨w,M⟩:∃ x:Nat,x=a+m:=⟨_,rfl⟩;have w5:IntKind.i64.wrap ((a:Int)+(m:Int))=(w:Int):=zW;have R:=qG c a oO;have z7:=qG c w oO;have S:a<l.length:=oO;have T:w<l.length:=oO;have t:=E.pop oO;have X:=fun z=>PB (c2:=z) E K oO oO;have Y3:=v.step a w oO oO oO oO oO;rw[<- M]at t X;have L:=DT c a w;have N4:=fun x y=>nD F q c a w (x:=x) (y:=y) oO oO;generalize hy0:c.getD a 0=y0 at *;generalize hy1:c.getD w 0=y1 at *;have L8:=N4 y0 y1 rfl rfl;refine jg h j o d A ?_
   (refine zS [] [q] [0,2,4,6,8,10,12,14,16,18,20,22,24,26,28,30,32,35,36,39] ?_;intro J D;simp[h,j,o,d,w5,S,T,C,R,z7];(repeat refine ca ?_);(refine zJ D ?_;clear D J))
   rw[L8];generalize hc1:sw c a w=c1 at *
   (refine pq h j o d ?_;intro J D)
   rw[<- C,<- L];refine qF (siftDown c1 q 0 m a _ (by unfold small;omega) oO oO t sS) ?_;rintro r s2 ⟨z,rfl,O,B⟩;rw[L,C];refine vY D d W ?_;exact s m _ _ oO ⟨z,oO,aa h,aa j,aa o,sS,St.set_set _ _ _ _,Y3.trans (O.wide oO oO oO),B,X z (by rw[M];exact O)⟩
def wy(P:Int->Bool)(c:AN)(a b:Nat):Prop:=a<=b->P (c.getD a 0)=false
def wz(P:Int->Bool)(c:AN)(b a:Nat):Prop:=b<=a->P (c.getD a 0)=true
def partition(l:AN)(q a b pv:Nat)(M:St)(hl:small l)(x9:a<b)(hb:b<=l.length)(S7:a<=pv)(Z7:pv<b)(hH:M.H q=.box 34 1 (us l)):
 aB prog 128 [.ms q 0 l.length,i a,i b,i pv] M fun r st'=>∃(c:AN) (I8:Nat) (p:Bool),r=.tu [i I8,bb p]/\st'=bx M q c/\Pm a b l c/\a<=I8/\I8<b/\cS c a I8 b:=by
 unfold small at hl;refine zN func128 ntmps128 [.tmp 8,.tmp 9] ?_
 (repeat (apply qS));(refine zE ?_;intro J t;simp[];refine zJ t ?_)
 have R:a<l.length:=oO;have hlp:pv<l.length:=oO;have W:=fun x y=>Ji M q l a pv (x:=x) (y:=y) oO oO;have B:=qG l a oO;have L:=qG l pv oO;have u6:Pm a b l (sw l a pv):=Pm.one a pv oO oO oO oO oO;have Z:(sw l a pv).getD a 0=l.getD pv 0:=by
  rw[cO _ _ _ _ oO oO];by_cases e:a=pv
  .rw[ad e,e]
  .rw[ac e,ad rfl]
 generalize hy0:l.getD a 0=y0 at *;generalize Y:l.getD pv 0=x at *;have V:=W y0 x rfl rfl
 (repeat (apply qS));(refine zS [] [q] [0,2,4,6,8,10,12,14,16,18,20,22,24,27,28,31] ?_;intro J t;simp[hH,R,hlp,B,L];(repeat refine ca ?_);refine zJ t ?_)
 rw[V];clear W V B L hy0;generalize hc:sw l a pv=c at *;clear hc;have r8:=u6.len;have w1:=qN a oO;have w2:=aV b oO oO;obtain⟨P,hPd⟩:∃ P:Int->Bool,∀ v,P v=decide (v<x):=⟨_,fun _=>rfl⟩;apply qS;refine bW (fun g j=>g 0=.ms q 0 l.length/\g 1=i a/\g 10=i ((a+1:Nat):Int)/\g 11=i ((b-1:Nat):Int)/\j=bx M q c) (by(refine zE ?_;intro J t;simp[w1,w2];refine zJ t ?_);simp) ?_;rintro g j ⟨k,n,o,s,rfl⟩;have E:a<a+1:=oO;have F:a+1<=b-1+1:=oO;have hjb:b-1<b:=oO;have C:Lo P c a (a+1):=fun p h1 h2=>by omega
 have D:Hi P c (b-1) b:=fun p h1 h2=>by omega
 generalize a+1=d at *;generalize b-1=w at *;clear w1 w2;have B:=qG c a oO;rw[Z]at B;apply qS;refine bW (fun g j=>∃ d:Nat,a<d/\d<=w+1/\g 0=.ms q 0 l.length/\g 1=i a/\g 10=i d/\g 11=i w/\j=bx M q c/\Lo P c a d/\wy P c d w) ?_ ?_
 .apply qB;refine qL (fun m g j=>∃ d:Nat,a<d/\d<=w+1/\m=w+1-d/\g 0=.ms q 0 l.length/\g 1=i a/\g 10=i d/\g 11=i w/\j=bx M q c/\Lo P c a d) (w+1-d) ?_ ?_
  .exact⟨d,oO,oO,rfl,aa k,aa n,aa o,aa s,rfl,C⟩
  clear k n o s C E F g d;rintro m g j ⟨d,E,F,rfl,k,n,o,s,rfl,C⟩ JJ z;have N:=qN d oO;by_cases A:d<=w;rotate_left
  .clear z
   (repeat (apply qS));(refine zS [] [q] [0,2,4,6,8,10,12,14,16,18,20,22,25,26] ?_;intro J t;simp[k,n,o,s,A];refine zJ t ?_)
   refine bz ?_;exact⟨trivial,d,oO,oO,aa k,aa n,aa o,aa s,by trivial,C,fun h=>absurd h A⟩
  have O:d<l.length:=oO;have L:=qG c d oO;have S:=C.more;generalize hy:c.getD d 0=y at *
  (repeat (apply qS));(refine zS [] [q] [0,2,4,6,8,10,12,14,16,18,20,22,25,26] ?_;intro J t;simp[k,n,o,s,A,O,R,r8,B,L])
  refine aO (uL y x _) ?_;rintro r s2 ⟨rfl,rfl⟩;refine⟨fun _=>by simp,?_⟩;have X:=hPd y;by_cases K:y<x
  ·(apply bM;simp[K];refine zJ t ?_)
   refine cy o N ?_;exact z (w+1-(d+1)) _ _ oO ⟨d+1,oO,oO,rfl,aa k,aa n,sS,aa s,rfl,S (by rw[X];simp[K])⟩
  .clear z
   (apply bM;simp[K];refine zJ t ?_)
   refine bz ?_;exact⟨trivial,d,oO,oO,aa k,aa n,aa o,aa s,by trivial,C,fun _=>by rw[hy,X];simp[K]⟩
 clear k n o s C E F g d;rintro g j ⟨d,E,F,k,n,o,s,rfl,C,K2⟩;apply qS;refine bW (fun g j=>∃ f:Nat,a<=f/\f<=w/\d<=f+1/\g 0=.ms q 0 l.length/\g 1=i a/\g 10=i d/\g 11=i f/\j=bx M q c/\Hi P c f b/\wz P c d f) ?_ ?_
 .apply qB;refine qL (fun m g j=>∃ f:Nat,a<=f/\f<=w/\d<=f+1/\f=m/\g 0=.ms q 0 l.length/\g 1=i a/\g 10=i d/\g 11=i f/\j=bx M q c/\Hi P c f b) w ?_ ?_
  .exact⟨w,oO,oO,oO,rfl,aa k,aa n,aa o,aa s,rfl,D⟩
  clear k n o s D g;rintro m g j ⟨f,hak,hkj,hik,rfl,k,n,o,s,rfl,D⟩ JJ z;by_cases A:d<=f;rotate_left
  .clear z
   (repeat (apply qS));(refine zS [] [q] [0,2,4,6,8,10,12,14,16,18,20,22,25,26,28] ?_;intro J t;simp[k,n,o,s,A];refine zJ t ?_)
   refine bz ?_;exact⟨trivial,f,oO,oO,oO,aa k,aa n,aa o,aa s,by trivial,D,fun h=>absurd h A⟩
  have hja:=aV f oO oO;have hlj:f<l.length:=oO;have L:=qG c f oO;have S:=D.more;generalize hy:c.getD f 0=y at *
  (repeat (apply qS));(refine zS [] [q] [0,2,4,6,8,10,12,14,16,18,20,22,25,26,28] ?_;intro J t;simp[k,n,o,s,A,hlj,R,r8,B,L])
  refine aO (uL y x _) ?_;rintro r s2 ⟨rfl,rfl⟩;refine⟨fun _=>by simp,?_⟩;have X:=hPd y;by_cases K:y<x
  .clear z
   (apply bM;simp[K];refine zJ t ?_)
   refine bz ?_;exact⟨trivial,f,oO,oO,oO,aa k,aa n,aa o,aa s,by trivial,D,fun _=>by rw[hy,X];simp[K]⟩
  ·(apply bM;simp[K];refine zJ t ?_)
   refine cy s hja ?_;exact z (f-1) _ _ oO ⟨f-1,oO,oO,oO,rfl,aa k,aa n,aa o,sS,rfl,S oO (by rw[X];simp[K])⟩
 clear k n o s D g;rintro g j ⟨f,hak,hkj,hik,k,n,o,s,rfl,D,X3⟩;by_cases A:d<=f;rotate_left
 .have hke:d=f+1:=oO;have Q8:=yA (hke ▸ C) D oO oO oO;have N7:=u6.step f a oO oO oO oO oO;have Q:f<l.length:=oO;have L:=qG c f oO;have W:=fun x y=>nD M q c f a (x:=x) (y:=y) oO oO;generalize Y:c.getD f 0=y1 at *;have V:=W y1 x rfl Z
  (repeat' (first|apply qS|(apply qC;simp[k,n,o,s,A];(try with_reducible intro hc))|(refine zE ?_;intro J t;simp[k,n,o,s,A];refine zJ t ?_)))
  (refine zS [] [q] [0,2,4,6,8,10,12,14,16,18,20,22,24,27,28,31] ?_;intro J t;simp[k,n,o,s,R,Q,r8,B,L];(repeat refine ca ?_);refine zJ t ?_)
  refine ef k n o s ?_;exact⟨_,f,rfl,V,N7,oO,oO,by unfold cS;rw[Q8.2,Z];have h:=Q8.1;rwa [show P=_ from funext hPd]at h⟩
 have I:d<f:=by
  rcases dC d f with h|h
  .exact h
  .exfalso;have e:d=f:=oO;have h1:=K2 oO;have h2:=X3 A;rw[e,h2]at h1;cases h1
 have U:=C.swp I oO (X3 A);have T:=D.swp I oO (K2 oO);have N7:=u6.step d f oO oO oO oO oO;have hxx:(sw c d f).getD a 0=x:=by rw[cO _ _ _ _ oO oO,ac oO,ac oO];exact Z
 have O:d<l.length:=oO;have Q:f<l.length:=oO;have L:=qG c d oO;have N3:=qG c f oO;have W:=fun x y=>nD M q c d f (x:=x) (y:=y) oO oO;have N:=qN d oO;have hka:=aV f oO oO;clear K2 X3;generalize Y:c.getD d 0=y1 at *;generalize X8:c.getD f 0=y2 at *;have V:=W y1 y2 rfl rfl
 (repeat' (first|apply qS|refine qK (zZ ?_)|(apply qC;simp[k,n,o,s,A];(try with_reducible refine⟨?_,?_⟩)<;>(try with_reducible intro hc)<;>try (exfalso;omega))|(refine zE ?_;intro J t;simp[k,n,o,s,A];refine zJ t ?_)))
 (refine zS [] [q] [0,2,4,6,8,10,12,14,16,18,20,22,24,27,28,31] ?_;intro J t;simp[k,n,o,s,O,Q,r8,L,N3];(repeat refine ca ?_);refine zJ t ?_)
 refine ef o s N hka ?_;rw[V];refine qL (fun m g j=>∃(d w:Nat) (c:AN),a<d/\d<=w+1/\w<b/\w=m/\g 0=.ms q 0 l.length/\g 1=i a/\g 10=i d/\g 11=i w/\j=bx M q c/\Pm a b l c/\c.getD a 0=x/\Lo P c a d/\Hi P c w b) (f-1) ?_ ?_
 .exact⟨d+1,f-1,sw c d f,oO,oO,oO,rfl,aa k,aa n,sS,sS,rfl,N7,hxx,U,T⟩
 clear k n o s C D U T u6 N7 Z hxx r8 B L N3 W V Y X8 y1 y2 E F hak hik I O Q N hka A hkj hjb d w f c g;rintro m g j ⟨d,w,c,E,F,hjb,rfl,k,n,o,s,rfl,u6,Z,C,D⟩ JJ0 hJ0;have r8:=u6.len;have B:=qG c a oO;rw[Z]at B;apply qB;apply qS;refine bW (fun g j=>∃ d:Nat,a<d/\d<=w+1/\g 0=.ms q 0 l.length/\g 1=i a/\g 10=i d/\g 11=i w/\j=bx M q c/\Lo P c a d/\wy P c d w) ?_ ?_
 .apply qB;refine qL (fun m g j=>∃ d:Nat,a<d/\d<=w+1/\m=w+1-d/\g 0=.ms q 0 l.length/\g 1=i a/\g 10=i d/\g 11=i w/\j=bx M q c/\Lo P c a d) (w+1-d) ?_ ?_
  .exact⟨d,oO,oO,rfl,aa k,aa n,aa o,aa s,rfl,C⟩
  clear k n o s C E F g d;rintro m g j ⟨d,E,F,rfl,k,n,o,s,rfl,C⟩ JJ z;have N:=qN d oO;by_cases A:d<=w;rotate_left
  .clear z
   (repeat (apply qS));(refine zS [] [q] [0,2,4,6,8,10,12,14,16,18,20,22,25,26] ?_;intro J t;simp[k,n,o,s,A];refine zJ t ?_)
   refine bz ?_;exact⟨trivial,d,oO,oO,aa k,aa n,aa o,aa s,by trivial,C,fun h=>absurd h A⟩
  have O:d<l.length:=oO;have L:=qG c d oO;have S:=C.more;generalize hy:c.getD d 0=y at *
  (repeat (apply qS));(refine zS [] [q] [0,2,4,6,8,10,12,14,16,18,20,22,25,26] ?_;intro J t;simp[k,n,o,s,A,O,R,r8,B,L])
  refine aO (uL y x _) ?_;rintro r s2 ⟨rfl,rfl⟩;refine⟨fun _=>by simp,?_⟩;have X:=hPd y;by_cases K:y<x
  ·(apply bM;simp[K];refine zJ t ?_)
   refine cy o N ?_;exact z (w+1-(d+1)) _ _ oO ⟨d+1,oO,oO,rfl,aa k,aa n,sS,aa s,rfl,S (by rw[X];simp[K])⟩
  .clear z
   (apply bM;simp[K];refine zJ t ?_)
   refine bz ?_;exact⟨trivial,d,oO,oO,aa k,aa n,aa o,aa s,by trivial,C,fun _=>by rw[hy,X];simp[K]⟩
 clear k n o s C E F g d;rintro g j ⟨d,E,F,k,n,o,s,rfl,C,K2⟩;apply qS;refine bW (fun g j=>∃ f:Nat,a<=f/\f<=w/\d<=f+1/\g 0=.ms q 0 l.length/\g 1=i a/\g 10=i d/\g 11=i f/\j=bx M q c/\Hi P c f b/\wz P c d f) ?_ ?_
 .apply qB;refine qL (fun m g j=>∃ f:Nat,a<=f/\f<=w/\d<=f+1/\f=m/\g 0=.ms q 0 l.length/\g 1=i a/\g 10=i d/\g 11=i f/\j=bx M q c/\Hi P c f b) w ?_ ?_
  .exact⟨w,oO,oO,oO,rfl,aa k,aa n,aa o,aa s,rfl,D⟩
  clear k n o s D g;rintro m g j ⟨f,hak,hkj,hik,rfl,k,n,o,s,rfl,D⟩ JJ z;by_cases A:d<=f;rotate_left
  .clear z
   (repeat (apply qS));(refine zS [] [q] [0,2,4,6,8,10,12,14,16,18,20,22,25,26,28] ?_;intro J t;simp[k,n,o,s,A];refine zJ t ?_)
   refine bz ?_;exact⟨trivial,f,oO,oO,oO,aa k,aa n,aa o,aa s,by trivial,D,fun h=>absurd h A⟩
  have hja:=aV f oO oO;have hlj:f<l.length:=oO;have L:=qG c f oO;have S:=D.more;generalize hy:c.getD f 0=y at *
  (repeat (apply qS));(refine zS [] [q] [0,2,4,6,8,10,12,14,16,18,20,22,25,26,28] ?_;intro J t;simp[k,n,o,s,A,hlj,R,r8,B,L])
  refine aO (uL y x _) ?_;rintro r s2 ⟨rfl,rfl⟩;refine⟨fun _=>by simp,?_⟩;have X:=hPd y;by_cases K:y<x
  .clear z
   (apply bM;simp[K];refine zJ t ?_)
   refine bz ?_;exact⟨trivial,f,oO,oO,oO,aa k,aa n,aa o,aa s,by trivial,D,fun _=>by rw[hy,X];simp[K]⟩
  ·(apply bM;simp[K];refine zJ t ?_)
   refine cy s hja ?_;exact z (f-1) _ _ oO ⟨f-1,oO,oO,oO,rfl,aa k,aa n,aa o,sS,rfl,S oO (by rw[X];simp[K])⟩
 clear k n o s D g;rintro g j ⟨f,hak,hkj,hik,k,n,o,s,rfl,D,X3⟩;by_cases A:d<=f;rotate_left
 .clear hJ0;have hke:d=f+1:=oO;have Q8:=yA (hke ▸ C) D oO oO oO;have N7:=u6.step f a oO oO oO oO oO;have Q:f<l.length:=oO;have L:=qG c f oO;have W:=fun x y=>nD M q c f a (x:=x) (y:=y) oO oO;generalize Y:c.getD f 0=y1 at *;have V:=W y1 x rfl Z
  (repeat' (first|apply qS|refine qX (zZ ?_)|(apply qC;simp[k,n,o,s,A];(try with_reducible intro hc))|(refine zE ?_;intro J t;simp[k,n,o,s,A];refine zJ t ?_)))
  (refine zS [] [q] [0,2,4,6,8,10,12,14,16,18,20,22,24,27,28,31] ?_;intro J t;simp[k,n,o,s,R,Q,r8,B,L];(repeat refine ca ?_);refine zJ t ?_)
  refine ef k n o s ?_;exact⟨_,f,rfl,V,N7,oO,oO,by unfold cS;rw[Q8.2,Z];have h:=Q8.1;rwa [show P=_ from funext hPd]at h⟩
 have I:d<f:=by
  rcases dC d f with h|h
  .exact h
  .exfalso;have e:d=f:=oO;have h1:=K2 oO;have h2:=X3 A;rw[e,h2]at h1;cases h1
 have U:=C.swp I oO (X3 A);have T:=D.swp I oO (K2 oO);have N7:=u6.step d f oO oO oO oO oO;have hxx:(sw c d f).getD a 0=x:=by rw[cO _ _ _ _ oO oO,ac oO,ac oO];exact Z
 have O:d<l.length:=oO;have Q:f<l.length:=oO;have L:=qG c d oO;have N3:=qG c f oO;have W:=fun x y=>nD M q c d f (x:=x) (y:=y) oO oO;have N:=qN d oO;have hka:=aV f oO oO;clear K2 X3;generalize Y:c.getD d 0=y1 at *;generalize X8:c.getD f 0=y2 at *;have V:=W y1 y2 rfl rfl
 (repeat' (first|apply qS|refine qK (zZ ?_)|(apply qC;simp[k,n,o,s,A];(try with_reducible refine⟨?_,?_⟩)<;>(try with_reducible intro hc)<;>try (exfalso;omega))|(refine zE ?_;intro J t;simp[k,n,o,s,A];refine zJ t ?_)))
 (refine zS [] [q] [0,2,4,6,8,10,12,14,16,18,20,22,24,27,28,31] ?_;intro J t;simp[k,n,o,s,O,Q,r8,L,N3];(repeat refine ca ?_);refine zJ t ?_)
 refine ef o s N hka ?_;exact hJ0 (f-1) _ _ oO ⟨d+1,f-1,sw c d f,oO,oO,oO,rfl,aa k,aa n,sS,sS,V,N7,hxx,U,T⟩
end Aw
end Go.Proofs.YtbgngpdonpeboaaGreatDoor
