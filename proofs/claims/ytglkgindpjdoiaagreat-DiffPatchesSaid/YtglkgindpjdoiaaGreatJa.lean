/- Plain lists of numbers: places, least ones, turns. No program. -/
import Derived.RangeFuncBox
import Derived.RangeFuncLeaves
import Derived.Shelf.Abstract
import Derived.WalkKit
import Derived.OwnWalkIn
import Derived.TacticsInMore
import Derived.LoopNIn
import Derived.LoopIn
import Derived.Maps.AppendAt
import Derived.Test.YtglkgindpjdoiaaGreatProg
import Derived.Test.YtglkgindpjdoiaaGreatAwSet
import Derived.IntWalk
namespace Go.Proofs.YtglkgindpjdoiaaGreat.Pl
def gi (l:List Int) (x:Int):Int:=if x∈l then (l.idxOf x:Int) else -1
theorem gi_some {l:List Int} {x:Int} {k:Nat} (hk:k < l.length) (h:l[k]=x) (hn:∀ j (hj:j < k),l[j]'(by omega)≠x):gi l x=k:=by
 have hm:x∈l:=by rw [← h];exact List.getElem_mem hk
 unfold gi
 rw [if_pos hm]
 congr 1
 have h1:l.idxOf x < l.length:=List.idxOf_lt_length_of_mem hm
 have h2:l[l.idxOf x]=x:=List.getElem_idxOf h1
 rcases Nat.lt_trichotomy (l.idxOf x) k with h3 | h3 | h3
 ·exact absurd h2 (hn _ h3)
 ·exact h3
 ·have:=List.not_of_lt_findIdx (p:=fun y=>y==x) (xs:=l) (i:=k) (by simpa [List.idxOf] using h3)
  simp [h] at this
theorem gi_none {l:List Int} {x:Int} (hn:∀ j (hj:j < l.length),l[j]≠x):gi l x = -1:=by
 unfold gi
 rw [if_neg]
 intro hm
 obtain ⟨j,hj,h⟩:=List.getElem_of_mem hm
 exact hn j hj h
theorem gi_neg (l:List Int) (x:Int):gi l x < 0↔x∉l:=by
 unfold gi
 split
 ·rename_i h;simp [h]
 ·rename_i h;simp [h]
def mn:List Int→Int
 | []=>0
 | x::l=>l.foldl (fun a b=>if b < a then b else a) x
theorem foldl_min_le (l:List Int):∀ a:Int,l.foldl (fun a b=>if b < a then b else a) a≤a∧(∀ x∈l,l.foldl (fun a b=>if b < a then b else a) a≤x)∧(l.foldl (fun a b=>if b < a then b else a) a=a∨l.foldl (fun a b=>if b < a then b else a) a∈l):=by
 induction l with
 | nil=>intro a;simp
 | cons b l ih=>
   intro a
   simp only [List.foldl_cons]
   obtain ⟨h1,h2,h3⟩:=ih (if b < a then b else a)
   have c1:(if b < a then b else a)≤a:=by split<;>omega
   have c2:(if b < a then b else a)≤b:=by split<;>omega
   refine ⟨Int.le_trans h1 c1,?_,?_⟩
   ·intro x hx
    rcases List.mem_cons.1 hx with rfl | hx
    ·exact Int.le_trans h1 c2
    ·exact h2 x hx
   ·rcases h3 with h3 | h3
    ·rw [h3]
     split
     ·right;simp
     ·left;rfl
    ·right;simp [h3]
theorem mn_le {l:List Int} {x:Int} (hx:x∈l):mn l≤x:=by
 cases l with
 | nil=>simp at hx
 | cons a l=>
   obtain ⟨h1,h2,_⟩:=foldl_min_le l a
   rcases List.mem_cons.1 hx with rfl | hx
   ·exact h1
   ·exact h2 x hx
theorem mn_mem {l:List Int} (h:l≠[]):mn l∈l:=by
 cases l with
 | nil=>exact absurd rfl h
 | cons a l=>
   obtain ⟨_,_,h3⟩:=foldl_min_le l a
   rcases h3 with h3 | h3
   ·simp only [mn];rw [h3];simp
   ·simp only [mn];exact List.mem_cons_of_mem _ h3
theorem mn_eq {l:List Int} {m:Int} (hm:m∈l) (h:∀ x∈l,m≤x):mn l=m:=by
 have h1:=mn_le hm
 have h2:=h _ (mn_mem (List.ne_nil_of_mem hm))
 omega
theorem mn_append (l:List Int) (x:Int) (h:l≠[]):mn (l++[x])=if x < mn l then x else mn l:=by
 cases l with
 | nil=>exact absurd rfl h
 | cons a l=>rw [List.cons_append,mn,List.foldl_append];rfl
theorem mn_take (l:List Int) (k:Nat) (h0:0 < k) (hk:k < l.length):mn (l.take (k+1))=if l[k] < mn (l.take k) then l[k] else mn (l.take k):=by
 rw [List.take_succ_eq_append_getElem hk,mn_append]
 intro h
 have:=congrArg List.length h
 rw [List.length_take,List.length_nil] at this
 omega
def rt (l:List Int) (k:Nat):List Int:=l.drop k++l.take k
def nrm (l:List Int):List Int:=rt l (l.idxOf (mn l))
theorem rt_length (l:List Int) (k:Nat):(rt l k).length=l.length:=by simp [rt];omega
theorem nrm_length (l:List Int):(nrm l).length=l.length:=rt_length _ _
theorem rt_mem (l:List Int) (k:Nat) (x:Int):x∈rt l k↔x∈l:=by
 unfold rt
 rw [List.mem_append,or_comm,← List.mem_append,List.take_append_drop]
theorem nrm_mem (l:List Int) (x:Int):x∈nrm l↔x∈l:=rt_mem _ _ _
theorem rt_get (l:List Int) (k i:Nat) (hk:k≤l.length) (hi:i < l.length):(rt l k)[i]'(by rw [rt_length];exact hi)=l[(k+i) % l.length]'(Nat.mod_lt _ (by omega)):=by
 unfold rt
 by_cases h:i < l.length - k
 ·rw [List.getElem_append_left (by simpa using h)]
  simp only [List.getElem_drop]
  congr 1
  rw [Nat.mod_eq_of_lt (by omega)]
 ·rw [List.getElem_append_right (by simp;omega)]
  simp only [List.getElem_take,List.length_drop]
  congr 1
  rw [Nat.mod_eq_sub_mod (by omega),Nat.mod_eq_of_lt (by omega)]
  omega
theorem nrm_get (l:List Int) (i:Nat) (hi:i < l.length):(nrm l)[i]'(by rw [nrm_length];exact hi)=l[(l.idxOf (mn l)+i) % l.length]'(Nat.mod_lt _ (by omega)):=
 rt_get l _ i List.idxOf_le_length hi
end Go.Proofs.YtglkgindpjdoiaaGreat.Pl
namespace Go.Proofs.YtglkgindpjdoiaaGreat.Eu
open Go
set_option linter.unusedSimpArgs false
set_option linter.unusedVariables false
def it (f:Int→Int):Nat→Int→Int
 | 0,x=>x
 | n+1,x=>it f n (f x)
theorem it_succ (f:Int→Int) (n:Nat) (x:Int):it f (n+1) x=f (it f n x):=by
 induction n generalizing x with
 | zero=>rfl
 | succ n ih=>exact ih (f x)
theorem it_add (f:Int→Int) (m n:Nat) (x:Int):it f (m+n) x=it f m (it f n x):=by
 induction n generalizing x with
 | zero=>rfl
 | succ n ih=>exact ih (f x)
theorem it_mul {f:Int→Int} {p:Nat} {x:Int} (h:it f p x=x) (q:Nat):it f (q * p) x=x:=by
 induction q with
 | zero=>rw [Nat.zero_mul];rfl
 | succ q ih=>rw [Nat.succ_mul,it_add,h,ih]
theorem it_inj {f:Int→Int} (hi:∀ x y,f x=f y→x=y) (n:Nat) {x y:Int} (h:it f n x=it f n y):x=y:=by
 induction n generalizing x y with
 | zero=>exact h
 | succ n ih=>exact hi _ _ (ih h)
def Per (f:Int→Int):Prop:=∀ x,∃ p,0 < p∧it f p x=x
def Orb (f:Int→Int) (x y:Int):Prop:=∃ n,it f n x=y
theorem Orb.refl (f:Int→Int) (x:Int):Orb f x x:=⟨0,rfl⟩
theorem Orb.step (f:Int→Int) (x:Int):Orb f x (f x):=⟨1,rfl⟩
theorem Orb.trans {f:Int→Int} {x y z:Int} (h:Orb f x y) (k:Orb f y z):Orb f x z:=by
 obtain ⟨n,rfl⟩:=h
 obtain ⟨m,rfl⟩:=k
 exact ⟨m+n,it_add f m n x⟩
theorem Orb.symm {f:Int→Int} (hf:Per f) {x y:Int} (h:Orb f x y):Orb f y x:=by
 obtain ⟨n,rfl⟩:=h
 induction n generalizing x with
 | zero=>exact ⟨0,rfl⟩
 | succ n ih=>
   refine (ih (x:=f x)).trans ?_
   obtain ⟨p,hp,h⟩:=hf x
   cases p with
   | zero=>omega
   | succ p=>exact ⟨p,h⟩
theorem Per.inj {f:Int→Int} (hf:Per f) {x y:Int} (h:f x=f y):x=y:=by
 obtain ⟨p,hp,h1⟩:=hf x
 obtain ⟨q,hq,h2⟩:=hf y
 have h3:=it_mul h1 q
 have h4:=it_mul h2 p
 rw [Nat.mul_comm] at h4
 obtain ⟨k,hk⟩:∃ k,q * p=k+1:=⟨q * p - 1,by have:=Nat.mul_pos hq hp;omega⟩
 rw [hk] at h3 h4
 have h5:it f k (f x)=x:=h3
 have h6:it f k (f y)=y:=h4
 rw [← h5,h,h6]
theorem per_of {f:Int→Int} (D:List Int) (hD:∀ x∈D,f x∈D) (hi:∀ x y,f x=f y→x=y) (ho:∀ x,x∉D→f x=x):Per f:=by
 intro x
 by_cases hx:x∈D
 ·refine Classical.byContradiction fun hno=>?_
  have hne:∀ p,0 < p→it f p x≠x:=fun p hp h=>hno ⟨p,hp,h⟩
  have hin:∀ k,it f k x∈D:=by
   intro k
   induction k with
   | zero=>exact hx
   | succ k ih=>rw [it_succ];exact hD _ ih
  have hnd:((List.range (D.length+1)).map fun k=>it f k x).Nodup:=by
   unfold List.Nodup
   rw [List.pairwise_map]
   refine List.pairwise_lt_range.imp fun {i j} hij h=>?_
   have h2:j=i+(j - i):=by omega
   rw [h2,it_add] at h
   exact hne (j - i) (by omega) (it_inj hi i h).symm
  have:=List.Nodup.length_le_of_subset hnd (l₂:=D) fun y hy=>by
   obtain ⟨k,_,rfl⟩:=List.mem_map.1 hy
   exact hin k
  simp at this
  omega
 ·exact ⟨1,by omega,ho x hx⟩
structure Eqv (R:Int→Int→Prop):Prop where
 refl:∀ x,R x x
 symm:∀ {x y},R x y→R y x
 trans:∀ {x y z},R x y→R y z→R x z
theorem Per.eqv {f:Int→Int} (hf:Per f):Eqv (Orb f):=⟨Orb.refl f,Orb.symm hf,Orb.trans⟩
noncomputable def ncl (R:Int→Int→Prop):List Int→Nat
 | []=>0
 | x::l=>ncl R l+@ite Nat (∃ y∈l,R y x) (Classical.propDecidable _) 0 1
theorem ncl_cons_in {R:Int→Int→Prop} {x:Int} {l:List Int} (h:∃ y∈l,R y x):ncl R (x::l)=ncl R l:=by
 simp only [ncl];rw [if_pos h];rfl
theorem ncl_cons_new {R:Int→Int→Prop} {x:Int} {l:List Int} (h:¬ ∃ y∈l,R y x):ncl R (x::l)=ncl R l+1:=by
 simp only [ncl];rw [if_neg h]
theorem ncl_congr {R S:Int→Int→Prop} {l:List Int} (h:∀ x∈l,∀ y∈l,(R x y↔S x y)):ncl R l=ncl S l:=by
 induction l with
 | nil=>rfl
 | cons x l ih=>
   have ih':=ih fun a ha b hb=>h a (List.mem_cons_of_mem _ ha) b (List.mem_cons_of_mem _ hb)
   by_cases hx:∃ y∈l,R y x
   ·rw [ncl_cons_in hx,ncl_cons_in,ih']
    obtain ⟨y,hy,hr⟩:=hx
    exact ⟨y,hy,(h y (List.mem_cons_of_mem _ hy) x List.mem_cons_self).1 hr⟩
   ·rw [ncl_cons_new hx,ncl_cons_new,ih']
    rintro ⟨y,hy,hr⟩
    exact hx ⟨y,hy,(h y (List.mem_cons_of_mem _ hy) x List.mem_cons_self).2 hr⟩
theorem ncl_perm {R:Int→Int→Prop} (hR:Eqv R) {l l':List Int} (h:l.Perm l'):ncl R l=ncl R l':=by
 induction h with
 | nil=>rfl
 | @cons x l1 l2 h ih=>
   by_cases hx:∃ y∈l1,R y x
   ·rw [ncl_cons_in hx,ncl_cons_in,ih]
    obtain ⟨y,hy,hr⟩:=hx
    exact ⟨y,h.mem_iff.1 hy,hr⟩
   ·rw [ncl_cons_new hx,ncl_cons_new,ih]
    rintro ⟨y,hy,hr⟩
    exact hx ⟨y,h.mem_iff.2 hy,hr⟩
 | swap x y l=>
   by_cases hxy:R x y
   ·have hyx:=hR.symm hxy
    rw [ncl_cons_in ⟨x,List.mem_cons_self,hxy⟩,ncl_cons_in ⟨y,List.mem_cons_self,hyx⟩]
    by_cases hx:∃ z∈l,R z x
    ·rw [ncl_cons_in hx,ncl_cons_in]
     obtain ⟨z,hz,hr⟩:=hx
     exact ⟨z,hz,hR.trans hr hxy⟩
    ·rw [ncl_cons_new hx,ncl_cons_new]
     rintro ⟨z,hz,hr⟩
     exact hx ⟨z,hz,hR.trans hr hyx⟩
   ·have hyx:¬ R y x:=fun h=>hxy (hR.symm h)
    have e1:(∃ z∈x::l,R z y)↔∃ z∈l,R z y:=by
     constructor
     ·rintro ⟨z,hz,hr⟩
      rcases List.mem_cons.1 hz with rfl | hz
      ·exact absurd hr hxy
      ·exact ⟨z,hz,hr⟩
     ·rintro ⟨z,hz,hr⟩;exact ⟨z,List.mem_cons_of_mem _ hz,hr⟩
    have e2:(∃ z∈y::l,R z x)↔∃ z∈l,R z x:=by
     constructor
     ·rintro ⟨z,hz,hr⟩
      rcases List.mem_cons.1 hz with rfl | hz
      ·exact absurd hr hyx
      ·exact ⟨z,hz,hr⟩
     ·rintro ⟨z,hz,hr⟩;exact ⟨z,List.mem_cons_of_mem _ hz,hr⟩
    by_cases hx:∃ z∈l,R z x
    ·rw [ncl_cons_in (x:=x) (l:=y::l) (e2.2 hx)]
     by_cases hy:∃ z∈l,R z y
     ·rw [ncl_cons_in (x:=y) (l:=x::l) (e1.2 hy),ncl_cons_in hx,ncl_cons_in hy]
     ·rw [ncl_cons_new (x:=y) (l:=x::l) (fun h=>hy (e1.1 h)),ncl_cons_in hx,ncl_cons_new hy]
    ·rw [ncl_cons_new (x:=x) (l:=y::l) (fun h=>hx (e2.1 h))]
     by_cases hy:∃ z∈l,R z y
     ·rw [ncl_cons_in (x:=y) (l:=x::l) (e1.2 hy),ncl_cons_new hx,ncl_cons_in hy]
     ·rw [ncl_cons_new (x:=y) (l:=x::l) (fun h=>hy (e1.1 h)),ncl_cons_new hx,ncl_cons_new hy]
 | trans _ _ h1 h2=>exact h1.trans h2
def Mg (R:Int→Int→Prop) (a b x y:Int):Prop:=R x y∨(R x a∧R b y)∨(R x b∧R a y)
theorem Mg.eqv {R:Int→Int→Prop} (hR:Eqv R) (a b:Int):Eqv (Mg R a b):=by
 refine ⟨fun x=>.inl (hR.refl x),?_,?_⟩
 ·rintro x y (h | ⟨h1,h2⟩ | ⟨h1,h2⟩)
  ·exact .inl (hR.symm h)
  ·exact .inr (.inr ⟨hR.symm h2,hR.symm h1⟩)
  ·exact .inr (.inl ⟨hR.symm h2,hR.symm h1⟩)
 ·rintro x y z (h | ⟨h1,h2⟩ | ⟨h1,h2⟩) (k | ⟨k1,k2⟩ | ⟨k1,k2⟩)
  ·exact .inl (hR.trans h k)
  ·exact .inr (.inl ⟨hR.trans h k1,k2⟩)
  ·exact .inr (.inr ⟨hR.trans h k1,k2⟩)
  ·exact .inr (.inl ⟨h1,hR.trans h2 k⟩)
  ·exact .inr (.inl ⟨h1,k2⟩)
  ·exact .inl (hR.trans h1 k2)
  ·exact .inr (.inr ⟨h1,hR.trans h2 k⟩)
  ·exact .inl (hR.trans h1 k2)
  ·exact .inr (.inr ⟨h1,k2⟩)
theorem Mg.same {R:Int→Int→Prop} (hR:Eqv R) {a b:Int} (h:R a b) (x y:Int):Mg R a b x y↔R x y:=by
 constructor
 ·rintro (k | ⟨k1,k2⟩ | ⟨k1,k2⟩)
  ·exact k
  ·exact hR.trans (hR.trans k1 h) k2
  ·exact hR.trans (hR.trans k1 (hR.symm h)) k2
 ·exact .inl
theorem Mg.le {R S:Int→Int→Prop} (hS:Eqv S) {a b:Int} (hab:S a b) (h:∀ x y,R x y→S x y) {x y:Int} (k:Mg R a b x y):S x y:=by
 rcases k with k | ⟨k1,k2⟩ | ⟨k1,k2⟩
 ·exact h _ _ k
 ·exact hS.trans (hS.trans (h _ _ k1) hab) (h _ _ k2)
 ·exact hS.trans (hS.trans (h _ _ k1) (hS.symm hab)) (h _ _ k2)
theorem ncl_mg {R:Int→Int→Prop} (hR:Eqv R) {a b:Int} (hab:¬ R a b) {l:List Int} (ha:a∈l) (hb:b∈l):ncl R l=ncl (Mg R a b) l+1:=by
 have hne:b≠a:=by rintro rfl;exact hab (hR.refl _)
 have key:∀ rest:List Int,ncl R (rest++[a,b])=ncl (Mg R a b) (rest++[a,b])+1:=by
  intro rest
  induction rest with
  | nil=>
    have h1:ncl R [a,b]=2:=by
     rw [ncl_cons_new,ncl_cons_new]
     ·rfl
     ·rintro ⟨y,hy,_⟩;cases hy
     ·rintro ⟨y,hy,hr⟩
      rw [List.mem_singleton] at hy
      subst hy
      exact hab (hR.symm hr)
    have h2:ncl (Mg R a b) [a,b]=1:=by
     rw [ncl_cons_in,ncl_cons_new]
     ·rfl
     ·rintro ⟨y,hy,_⟩;cases hy
     ·exact ⟨b,by simp,.inr (.inr ⟨hR.refl _,hR.refl _⟩)⟩
    rw [List.nil_append,h1,h2]
  | cons x rest ih=>
    rw [List.cons_append]
    have haL:a∈rest++[a,b]:=by simp
    have hbL:b∈rest++[a,b]:=by simp
    by_cases hx:∃ y∈rest++[a,b],R y x
    ·rw [ncl_cons_in hx,ncl_cons_in,ih]
     obtain ⟨y,hy,hr⟩:=hx
     exact ⟨y,hy,.inl hr⟩
    ·rw [ncl_cons_new hx,ncl_cons_new,ih]
     rintro ⟨y,hy,hr | ⟨_,hr⟩ | ⟨_,hr⟩⟩
     ·exact hx ⟨y,hy,hr⟩
     ·exact hx ⟨b,hbL,hr⟩
     ·exact hx ⟨a,haL,hr⟩
 have p1:l.Perm (a::l.erase a):=List.perm_cons_erase ha
 have p2:(l.erase a).Perm (b::(l.erase a).erase b):=List.perm_cons_erase ((List.mem_erase_of_ne hne).2 hb)
 have p3:l.Perm (((l.erase a).erase b)++[a,b]):=(p1.trans (p2.cons a)).trans (List.perm_append_comm (l₁:=[a,b]))
 rw [ncl_perm hR p3,ncl_perm (Mg.eqv hR a b) p3]
 exact key _
theorem ncl_block {R:Int→Int→Prop} {t l:List Int} (ht:∀ x∈t,∀ y∈t,R x y) (hl:∀ x∈t,∀ y∈l,¬ R y x):ncl R (t++l)=ncl R l+if t=[] then 0 else 1:=by
 induction t with
 | nil=>simp
 | cons x t ih=>
   have ih':=ih (fun a ha b hb=>ht a (List.mem_cons_of_mem _ ha) b (List.mem_cons_of_mem _ hb)) (fun a ha=>hl a (List.mem_cons_of_mem _ ha))
   rw [List.cons_append,if_neg (by simp)]
   cases t with
   | nil=>
     rw [List.nil_append,ncl_cons_new]
     rintro ⟨y,hy,hr⟩
     exact hl x List.mem_cons_self y hy hr
   | cons z t=>
     rw [ncl_cons_in ⟨z,by simp,ht z (by simp) x (by simp)⟩,ih',if_neg (by simp)]
theorem ncl_rows {R:Int→Int→Prop}:∀ (ts:List (List Int)),(∀ t∈ts,∀ x∈t,∀ y∈t,R x y)→ts.Pairwise (fun t t'=>∀ x∈t,∀ y∈t',¬ R y x)→ncl R ts.flatten=(ts.filter fun t=>decide (t≠[])).length
 | [],_,_=>rfl
 | t::ts,h1,h2=>by
   rw [List.pairwise_cons] at h2
   rw [List.flatten_cons,ncl_block (h1 t List.mem_cons_self),ncl_rows ts (fun t ht=>h1 t (List.mem_cons_of_mem _ ht)) h2.2]
   ·by_cases ht:t=[]
    ·simp [ht]
    ·simp [ht]
   ·intro x hx y hy
    obtain ⟨t',ht',hy'⟩:=List.mem_flatten.1 hy
    exact h2.1 t' ht' x hx y hy'
def sw (a b x:Int):Int:=if x=a then b else if x=b then a else x
theorem sw_a (a b:Int):sw a b a=b:=by simp [sw]
theorem sw_b (a b:Int):sw a b b=a:=by
 unfold sw
 by_cases h:b=a<;>simp [h]
theorem sw_o {a b x:Int} (h1:x≠a) (h2:x≠b):sw a b x=x:=by simp [sw,h1,h2]
theorem sw_sw (a b x:Int):sw a b (sw a b x)=x:=by
 by_cases h1:x=a
 ·subst h1;rw [sw_a,sw_b]
 ·by_cases h2:x=b
  ·subst h2;rw [sw_b,sw_a]
  ·rw [sw_o h1 h2,sw_o h1 h2]
theorem sw_inj (a b:Int) {x y:Int} (h:sw a b x=sw a b y):x=y:=by rw [← sw_sw a b x,h,sw_sw]
theorem least {P:Nat→Prop} {n:Nat} (h:P n):∃ m,P m∧∀ k,k < m→¬ P k:=by
 induction n using Nat.strongRecOn with
 | ind n ih=>
   by_cases hk:∃ k,k < n∧P k
   ·obtain ⟨k,h1,h2⟩:=hk
    exact ih k h1 h2
   ·exact ⟨n,h,fun k h1 h2=>hk ⟨k,h1,h2⟩⟩
section
variable {f f':Int→Int} {a b:Int}
theorem split_cyc (hf':∀ x,f' x=f (sw a b x)) (hab:a≠b) (h:Orb f b a):¬ Orb f' a b:=by
 obtain ⟨n0,h0⟩:=h
 obtain ⟨n,hn,hmin⟩:=least (P:=fun n=>it f n b=a) h0
 have hn0:n≠0:=by rintro rfl;exact hab hn.symm
 have hbb:∀ i,0 < i→i≤n→it f i b≠b:=by
  intro i hi hin hb
  have:n=(n - i)+i:=by omega
  rw [this,it_add,hb] at hn
  exact hmin (n - i) (by omega) hn
 have hcl:∀ x,(∃ i,0 < i∧i≤n∧x=it f i b)→∃ i,0 < i∧i≤n∧f' x=it f i b:=by
  rintro x ⟨i,hi,hin,rfl⟩
  rcases Nat.lt_or_ge i n with h1 | h1
  ·refine ⟨i+1,by omega,by omega,?_⟩
   rw [hf',sw_o (hmin i h1) (hbb i hi hin),it_succ]
  ·obtain rfl:i=n:=by omega
   exact ⟨1,by omega,by omega,by rw [hf',hn,sw_a];rfl⟩
 rintro ⟨k,hk⟩
 have hall:∀ k,∃ i,0 < i∧i≤n∧it f' k a=it f i b:=by
  intro k
  induction k with
  | zero=>exact ⟨n,by omega,Nat.le_refl _,hn.symm⟩
  | succ k ih=>rw [it_succ];exact hcl _ ih
 obtain ⟨i,h1,h2,h3⟩:=hall k
 rw [hk] at h3
 exact hbb i h1 h2 h3.symm
theorem join_cyc (hf:Per f) (hf':∀ x,f' x=f (sw a b x)) (h:¬ Orb f b a):Orb f' a b:=by
 obtain ⟨p,hp,h0⟩:=hf b
 obtain ⟨n,⟨hn0,hn⟩,hmin⟩:=least (P:=fun n=>0 < n∧it f n b=b) ⟨hp,h0⟩
 have key:∀ k,0 < k→k≤n→it f' k a=it f k b:=by
  intro k
  induction k with
  | zero=>intro h;omega
  | succ k ih=>
    intro _ hk
    rcases Nat.eq_zero_or_pos k with rfl | h0
    ·show f' a=f b
     rw [hf',sw_a]
    ·rw [it_succ,ih h0 (by omega),hf',sw_o (fun e=>h ⟨k,e⟩) (fun e=>hmin k (by omega) ⟨h0,e⟩),it_succ f k b]
 exact ⟨n,by rw [key n hn0 (Nat.le_refl _),hn]⟩
theorem mg_le (hf:Per f) (hf':∀ x,f' x=f (sw a b x)) {x y:Int} (h:Orb f' x y):Mg (Orb f) a b x y:=by
 have hE:=Mg.eqv hf.eqv a b
 obtain ⟨n,rfl⟩:=h
 induction n generalizing x with
 | zero=>exact hE.refl _
 | succ n ih=>
   refine hE.trans ?_ (ih (x:=f' x))
   rw [hf']
   by_cases h1:x=a
   ·subst h1
    rw [sw_a]
    exact .inr (.inl ⟨Orb.refl _ _,Orb.step _ _⟩)
   ·by_cases h2:x=b
    ·subst h2
     rw [sw_b]
     exact .inr (.inr ⟨Orb.refl _ _,Orb.step _ _⟩)
    ·rw [sw_o h1 h2]
     exact .inl (Orb.step _ _)
theorem mg_same (hf:Per f) (hp':Per f') (hf':∀ x,f' x=f (sw a b x)) (x y:Int):Mg (Orb f) a b x y↔Mg (Orb f') a b x y:=by
 have hb:∀ x,f x=f' (sw a b x):=fun x=>by rw [hf',sw_sw]
 constructor
 ·exact Mg.le (Mg.eqv hp'.eqv a b) (.inr (.inl ⟨Orb.refl _ _,Orb.refl _ _⟩)) fun x y h=>mg_le hp' hb h
 ·exact Mg.le (Mg.eqv hf.eqv a b) (.inr (.inl ⟨Orb.refl _ _,Orb.refl _ _⟩)) fun x y h=>mg_le hf hf' h
theorem ncl_split {D:List Int} (hf:Per f) (hp':Per f') (hf':∀ x,f' x=f (sw a b x)) (hab:a≠b) (ha:a∈D) (hb:b∈D) (h:Orb f a b):ncl (Orb f') D=ncl (Orb f) D+1:=by
 rw [ncl_mg hp'.eqv (split_cyc hf' hab (Orb.symm hf h)) ha hb]
 congr 1
 refine ncl_congr fun x _ y _=>?_
 rw [← mg_same hf hp' hf',Mg.same hf.eqv h]
theorem ncl_join {D:List Int} (hf:Per f) (hp':Per f') (hf':∀ x,f' x=f (sw a b x)) (ha:a∈D) (hb:b∈D) (h:¬ Orb f a b):ncl (Orb f) D=ncl (Orb f') D+1:=by
 have h':Orb f' a b:=join_cyc hf hf' fun k=>h (Orb.symm hf k)
 rw [ncl_mg hf.eqv h ha hb]
 congr 1
 refine ncl_congr fun x _ y _=>?_
 rw [mg_same hf hp' hf',Mg.same hp'.eqv h']
end
def IsCyc (f:Int→Int) (d:Int) (L:List Int):Prop:=∃ p,0 < p∧L=(List.range p).map (fun k=>it f k d)∧it f p d=d∧∀ q,0 < q→q < p→it f q d≠d
theorem isCyc_ex {f:Int→Int} (hf:Per f) (d:Int):∃ L,IsCyc f d L:=by
 obtain ⟨p,hp,h0⟩:=hf d
 obtain ⟨n,⟨hn0,hn⟩,hmin⟩:=least (P:=fun n=>0 < n∧it f n d=d) ⟨hp,h0⟩
 exact ⟨_,n,hn0,rfl,hn,fun q h1 h2 h3=>hmin q h2 ⟨h1,h3⟩⟩
theorem IsCyc.unique {f:Int→Int} {d:Int} {L L':List Int} (h:IsCyc f d L) (h':IsCyc f d L'):L=L':=by
 obtain ⟨p,hp,rfl,h1,h2⟩:=h
 obtain ⟨q,hq,rfl,k1,k2⟩:=h'
 have:p=q:=by
  rcases Nat.lt_trichotomy p q with h | h | h
  ·exact absurd h1 (k2 p hp h)
  ·exact h
  ·exact absurd k1 (h2 q hq h)
 rw [this]
theorem it_mod {f:Int→Int} {d:Int} {p:Nat} (hp:0 < p) (h:it f p d=d) (n:Nat):it f n d=it f (n % p) d:=by
 have h1:n=n % p+n / p * p:=by have:=Nat.mod_add_div n p;rw [Nat.mul_comm] at this;omega
 conv=>lhs;rw [h1,it_add,it_mul h]
theorem IsCyc.mem {f:Int→Int} {d:Int} {L:List Int} (h:IsCyc f d L) {x:Int}:x∈L↔Orb f d x:=by
 obtain ⟨p,hp,rfl,h1,h2⟩:=h
 rw [List.mem_map]
 constructor
 ·rintro ⟨k,_,rfl⟩;exact ⟨k,rfl⟩
 ·rintro ⟨n,rfl⟩
  exact ⟨n % p,List.mem_range.2 (Nat.mod_lt _ hp),(it_mod hp h1 n).symm⟩
theorem IsCyc.nodup {f:Int→Int} (hi:∀ x y,f x=f y→x=y) {d:Int} {L:List Int} (h:IsCyc f d L):L.Nodup:=by
 obtain ⟨p,hp,rfl,h1,h2⟩:=h
 unfold List.Nodup
 rw [List.pairwise_map]
 refine (List.pairwise_lt_range (n:=p)).imp_of_mem fun {i j} hi' hj hij h=>?_
 rw [List.mem_range] at hi' hj
 have e:j=i+(j - i):=by omega
 rw [e,it_add] at h
 exact h2 (j - i) (by omega) (by omega) (it_inj hi i h).symm
theorem IsCyc.ne {f:Int→Int} {d:Int} {L:List Int} (h:IsCyc f d L):L≠[]:=by
 obtain ⟨p,hp,rfl,h1,h2⟩:=h
 intro h
 have:=congrArg List.length h
 simp at this
 omega
end Go.Proofs.YtglkgindpjdoiaaGreat.Eu
namespace Go.Proofs.YtglkgindpjdoiaaGreat.Pl
def sw (c:List Int) (a b:Nat):List Int:=(c.set a (c.getD b 0)).set b (c.getD a 0)
theorem sw_length (c:List Int) (a b:Nat):(sw c a b).length=c.length:=by simp [sw]
theorem sw_get (c:List Int) (a b j:Nat) (ha:a < c.length) (hb:b < c.length):(sw c a b).getD j 0=if j=b then c.getD a 0 else if j=a then c.getD b 0 else c.getD j 0:=by
 unfold sw
 simp only [List.getD_eq_getElem?_getD,List.getElem?_set]
 by_cases h1:b=j
 ·subst h1;simp [hb]
 ·by_cases h2:a=j
  ·subst h2;simp [h1,ha,Ne.symm h1]
  ·simp [h1,h2,Ne.symm h1,Ne.symm h2]
theorem sw_perm (c:List Int) (a b:Nat) (ha:a < c.length) (hb:b < c.length):(sw c a b).Perm c:=by
 unfold sw
 have h:=List.set_set_perm ha hb
 simp only [List.getD_eq_getElem?_getD,List.getElem?_eq_getElem ha,List.getElem?_eq_getElem hb,Option.getD_some]
 exact h
inductive Pm (a b:Nat) (l:List Int):List Int→Prop
 | refl:Pm a b l l
 | step {m:List Int} (h:Pm a b l m) (x y:Nat) (hx:a≤x) (hx':x < b) (hy:a≤y) (hy':y < b) (hb:b≤l.length):Pm a b l (sw m x y)
theorem Pm.len {a b:Nat} {l m:List Int} (h:Pm a b l m):m.length=l.length:=by
 induction h with
 | refl=>rfl
 | step h x y _ _ _ _ _ ih=>rw [sw_length];exact ih
theorem Pm.out {a b:Nat} {l m:List Int} (h:Pm a b l m) (j:Nat) (hj:j < a∨b≤j):m.getD j 0=l.getD j 0:=by
 induction h with
 | refl=>rfl
 | step h x y h1 h2 h3 h4 h5 ih=>
   have:=h.len
   rw [sw_get _ _ _ _ (by omega) (by omega),if_neg (by omega),if_neg (by omega)];exact ih
theorem Pm.trans {a b:Nat} {l m n:List Int} (h:Pm a b l m) (k:Pm a b m n):Pm a b l n:=by
 induction k with
 | refl=>exact h
 | step k x y h1 h2 h3 h4 h5 ih=>have:=h.len;exact ih.step x y h1 h2 h3 h4 (by omega)
theorem Pm.wide {a b a' b':Nat} {l m:List Int} (h:Pm a b l m) (ha:a'≤a) (hb:b≤b') (hl:b'≤l.length):Pm a' b' l m:=by
 induction h with
 | refl=>exact .refl
 | step k x y h1 h2 h3 h4 h5 ih=>exact ih.step x y (by omega) (by omega) (by omega) (by omega) hl
theorem Pm.perm {a b:Nat} {l m:List Int} (h:Pm a b l m):m.Perm l:=by
 induction h with
 | refl=>exact .refl _
 | step k x y h1 h2 h3 h4 h5 ih=>have:=k.len;exact (sw_perm _ _ _ (by omega) (by omega)).trans ih
theorem Pm.all {a b:Nat} {l m:List Int} (h:Pm a b l m) (P:Int→Prop) (hP:∀ j,a≤j→j < b→P (l.getD j 0)) (j:Nat) (h1:a≤j) (h2:j < b):P (m.getD j 0):=by
 induction h generalizing j with
 | refl=>exact hP j h1 h2
 | step k x y g1 g2 g3 g4 g5 ih=>
   have:=k.len
   rw [sw_get _ _ _ _ (by omega) (by omega)]
   by_cases e1:j=y
   ·rw [if_pos e1];exact ih x g1 g2
   ·rw [if_neg e1]
    by_cases e2:j=x
    ·rw [if_pos e2];exact ih y g3 g4
    ·rw [if_neg e2];exact ih j h1 h2
theorem Pm.one {a b:Nat} {l:List Int} (x y:Nat) (hx:a≤x) (hx':x < b) (hy:a≤y) (hy':y < b) (hb:b≤l.length):Pm a b l (sw l x y):=Pm.refl.step x y hx hx' hy hy' hb
def Srt (a b:Nat) (l:List Int):Prop:=∀ p q,a≤p→p < q→q < b→l.getD p 0≤l.getD q 0
def Ins (a j i:Nat) (d:List Int):Prop:=∀ p q,a≤p→p < q→q≤i→q≠j→d.getD p 0≤d.getD q 0
theorem Srt.ins {a i:Nat} {d:List Int} (h:Srt a i d):Ins a i i d:=fun p q h1 h2 h3 h4=>h p q h1 h2 (by omega)
theorem Ins.step {a j i:Nat} {d:List Int} (h:Ins a j i d) (hj:a < j) (hi:j≤i) (hil:i < d.length) (hlt:d.getD j 0 < d.getD (j - 1) 0):Ins a (j - 1) i (sw d j (j - 1)):=by
 intro p q h1 h2 h3 h4
 rw [sw_get _ _ _ _ (by omega) (by omega),sw_get _ _ _ _ (by omega) (by omega)]
 by_cases e1:q=j
 ·rw [if_neg h4,if_pos e1]
  by_cases e2:p=j - 1
  ·rw [if_pos e2];omega
  ·rw [if_neg e2,if_neg (by omega)];exact h p (j - 1) h1 (by omega) (by omega) (by omega)
 ·rw [if_neg h4,if_neg e1]
  by_cases e2:p=j - 1
  ·rw [if_pos e2];exact h j q (by omega) (by omega) h3 e1
  ·rw [if_neg e2]
   by_cases e3:p=j
   ·rw [if_pos e3];exact h (j - 1) q (by omega) (by omega) h3 e1
   ·rw [if_neg e3];exact h p q h1 h2 h3 e1
theorem Ins.done {a j i:Nat} {d:List Int} (h:Ins a j i d) (hj:a≤j) (hs:j=a∨¬ d.getD j 0 < d.getD (j - 1) 0):Srt a (i+1) d:=by
 intro p q h1 h2 h3
 by_cases e:q=j
 ·subst e
  have h5:¬ d.getD q 0 < d.getD (q - 1) 0:=by rcases hs with hs | hs;omega;exact hs
  by_cases e2:p=q - 1
  ·subst e2;omega
  ·have:=h p (q - 1) h1 (by omega) (by omega) (by omega);omega
 ·exact h p q h1 h2 (by omega) e
def Heap (lo hi f:Nat) (d:List Int):Prop:=∀ k c,lo≤k→(c=2 * k+1∨c=2 * k+2)→c < hi→d.getD (f+c) 0≤d.getD (f+k) 0
def HeapX (lo hi f r:Nat) (d:List Int):Prop:=(∀ k c,lo≤k→k≠r→(c=2 * k+1∨c=2 * k+2)→c < hi→d.getD (f+c) 0≤d.getD (f+k) 0)∧
 (∀ k c,lo≤k→(r=2 * k+1∨r=2 * k+2)→(c=2 * r+1∨c=2 * r+2)→c < hi→d.getD (f+c) 0≤d.getD (f+k) 0)
theorem Heap.x {lo hi f:Nat} {d:List Int} (h:Heap (lo+1) hi f d):HeapX lo hi f lo d:=
 ⟨fun k c h1 h2 h3 h4=>h k c (by omega) h3 h4,fun k c h1 h2 h3 h4=>by omega⟩
theorem HeapX.leaf {lo hi f r:Nat} {d:List Int} (h:HeapX lo hi f r d) (hr:hi≤2 * r+1):Heap lo hi f d:=by
 intro k c h1 h2 h3
 exact h.1 k c h1 (by omega) h2 h3
theorem HeapX.big {lo hi f r:Nat} {d:List Int} (h:HeapX lo hi f r d) (hr:∀ c,(c=2 * r+1∨c=2 * r+2)→c < hi→d.getD (f+c) 0≤d.getD (f+r) 0):Heap lo hi f d:=by
 intro k c h1 h2 h3
 by_cases e:k=r
 ·subst e;exact hr c h2 h3
 ·exact h.1 k c h1 e h2 h3
theorem HeapX.step {lo hi f r c:Nat} {d:List Int} (h:HeapX lo hi f r d) (hlo:lo≤r) (hc:c=2 * r+1∨c=2 * r+2) (hci:c < hi) (hl:f+hi≤d.length) (hm:∀ x,(x=2 * r+1∨x=2 * r+2)→x < hi→d.getD (f+x) 0≤d.getD (f+c) 0)
 (hlt:d.getD (f+r) 0 < d.getD (f+c) 0):HeapX lo hi f c (sw d (f+r) (f+c)):=by
 constructor
 ·intro k x h1 h2 h3 h4
  rw [sw_get _ _ _ _ (by omega) (by omega),sw_get _ _ _ _ (by omega) (by omega)]
  by_cases e1:k=r
  ·subst e1
   rw [if_neg (show ¬ f+k=f+c by omega),if_pos (rfl:f+k=f+k)]
   by_cases e2:x=c
   ·rw [if_pos (by omega)];omega
   ·rw [if_neg (by omega),if_neg (by omega)];exact hm x h3 h4
  ·rw [if_neg (show ¬ f+k=f+c by omega),if_neg (show ¬ f+k=f+r by omega)]
   by_cases e2:x=r
   ·subst e2
    rw [if_neg (by omega),if_pos (rfl:f+x=f+x)];exact h.2 k c h1 h3 hc hci
   ·rw [if_neg (by omega),if_neg (by omega)];exact h.1 k x h1 e1 h3 h4
 ·intro k x h1 h2 h3 h4
  have e1:k=r:=by omega
  subst e1
  rw [sw_get _ _ _ _ (by omega) (by omega),sw_get _ _ _ _ (by omega) (by omega)]
  rw [if_neg (by omega),if_neg (by omega),if_neg (show ¬ f+k=f+c by omega),if_pos (rfl:f+k=f+k)]
  exact h.1 c x (by omega) (by omega) h3 h4
theorem Heap.top {hi f:Nat} {d:List Int} (h:Heap 0 hi f d):∀ c,c < hi→d.getD (f+c) 0≤d.getD f 0:=by
 intro c
 induction c using Nat.strongRecOn with
 | ind c ih=>
   intro hc
   by_cases h0:c=0
   ·subst h0;simp
   ·have h1:=h ((c - 1) / 2) c (by omega) (by omega) hc
    have h2:=ih ((c - 1) / 2) (by omega) (by omega)
    omega
theorem Heap.pop {j f:Nat} {c:List Int} (h:Heap 0 (j+1) f c) (hl:f+j < c.length):Heap 1 j f (sw c f (f+j)):=by
 intro k x h1 h2 h3
 rw [sw_get _ _ _ _ (by omega) (by omega),sw_get _ _ _ _ (by omega) (by omega)]
 rw [if_neg (by omega),if_neg (by omega),if_neg (by omega),if_neg (by omega)]
 exact h k x (by omega) h2 (by omega)
theorem heap_next {hi f j:Nat} {c c2:List Int} (hH:Heap 0 (j+1) f c) (ho:∀ p q,p < q→j+1≤q→q < hi→c.getD (f+p) 0≤c.getD (f+q) 0) (hj:j < hi) (hl:f+hi≤c.length) (hp:Pm f (f+j) (sw c f (f+j)) c2):
 ∀ p q,p < q→j≤q→q < hi→c2.getD (f+p) 0≤c2.getD (f+q) 0:=by
 intro p q h1 h2 h3
 have g:=fun x=>sw_get c f (f+j) x (by omega) (by omega)
 rw [hp.out (f+q) (by omega),g (f+q)]
 by_cases e:q=j
 ·subst e
  rw [if_pos rfl]
  refine hp.all (fun x=>x≤c.getD f 0) (fun x h4 h5=>?_) (f+p) (by omega) (by omega)
  rw [g,if_neg (by omega)]
  by_cases e2:x=f
  ·rw [if_pos e2];exact hH.top q (by omega)
  ·rw [if_neg e2]
   have:=hH.top (x - f) (by omega)
   rwa [show f+(x - f)=x by omega] at this
 ·rw [if_neg (by omega),if_neg (by omega)]
  by_cases e2:p < j
  ·refine hp.all (fun x=>x≤c.getD (f+q) 0) (fun x h4 h5=>?_) (f+p) (by omega) (by omega)
   rw [g,if_neg (by omega)]
   by_cases e3:x=f
   ·rw [if_pos e3];exact ho j q (by omega) (by omega) h3
   ·rw [if_neg e3]
    have:=ho (x - f) q (by omega) (by omega) h3
    rwa [show f+(x - f)=x by omega] at this
  ·rw [hp.out (f+p) (by omega),g]
   by_cases e3:p=j
   ·rw [if_pos (by omega)]
    have:=ho 0 q (by omega) (by omega) h3
    rwa [Nat.add_zero] at this
   ·rw [if_neg (by omega),if_neg (by omega)];exact ho p q h1 (by omega) h3
theorem srt_glue {a m b:Nat} {d:List Int} (h1:Srt a m d) (h2:Srt (m+1) b d) (h3:∀ p,a≤p→p < m→d.getD p 0≤d.getD m 0) (h4:∀ q,m < q→q < b→d.getD m 0≤d.getD q 0):Srt a b d:=by
 intro p q k1 k2 k3
 rcases Nat.lt_trichotomy p m with e | e | e
 ·rcases Nat.lt_trichotomy q m with e' | e' | e'
  ·exact h1 p q k1 k2 e'
  ·subst e';exact h3 p k1 e
  ·have:=h3 p k1 e;have:=h4 q e' k3;omega
 ·subst e;exact h4 q k2 k3
 ·exact h2 p q (by omega) k2 k3
def Lo (P:Int→Bool) (c:List Int) (a m:Nat):Prop:=∀ p,a < p→p < m→P (c.getD p 0)=true
def Hi (P:Int→Bool) (c:List Int) (m b:Nat):Prop:=∀ p,m < p→p < b→P (c.getD p 0)=false
theorem Lo.more {P:Int→Bool} {c:List Int} {a m:Nat} (h:Lo P c a m) (hm:P (c.getD m 0)=true):Lo P c a (m+1):=by
 intro p h1 h2
 by_cases e:p=m
 ·rw [e];exact hm
 ·exact h p h1 (by omega)
theorem Hi.more {P:Int→Bool} {c:List Int} {m b:Nat} (h:Hi P c m b) (h0:0 < m) (hm:P (c.getD m 0)=false):Hi P c (m - 1) b:=by
 intro p h1 h2
 by_cases e:p=m
 ·rw [e];exact hm
 ·exact h p (by omega) h2
theorem Lo.swp {P:Int→Bool} {c:List Int} {a k m:Nat} (h:Lo P c a k) (hkm:k < m) (hm:m < c.length) (hp:P (c.getD m 0)=true):Lo P (sw c k m) a (k+1):=by
 intro p h1 h2
 rw [sw_get _ _ _ _ (by omega) (by omega),if_neg (by omega)]
 by_cases e:p=k
 ·rw [if_pos e];exact hp
 ·rw [if_neg e];exact h p h1 (by omega)
theorem Hi.swp {P:Int→Bool} {c:List Int} {k m b:Nat} (h:Hi P c m b) (hkm:k < m) (hm:m < c.length) (hp:P (c.getD k 0)=false):Hi P (sw c k m) (m - 1) b:=by
 intro p h1 h2
 rw [sw_get _ _ _ _ (by omega) (by omega)]
 by_cases e:p=m
 ·rw [if_pos e];exact hp
 ·rw [if_neg e,if_neg (by omega)];exact h p (by omega) h2
def Parted (P:Int→Bool) (c:List Int) (a m b:Nat):Prop:=(∀ p,a≤p→p < m→P (c.getD p 0)=true)∧(∀ p,m < p→p < b→P (c.getD p 0)=false)
def PartedEq (c:List Int) (a m b:Nat) (x:Int):Prop:=(∀ p,a≤p→p < m→c.getD p 0≤x)∧(∀ p,m≤p→p < b→x < c.getD p 0)
def PartedAt (c:List Int) (a m b:Nat):Prop:=Parted (fun v=>decide (v < c.getD m 0)) c a m b
theorem parted_last {P:Int→Bool} {c:List Int} {a m b:Nat} (h1:Lo P c a (m+1)) (h2:Hi P c m b) (ham:a≤m) (hmb:m < b) (hb:b≤c.length):Parted P (sw c m a) a m b∧(sw c m a).getD m 0=c.getD a 0:=by
 refine ⟨⟨fun p k1 k2=>?_,fun p k1 k2=>?_⟩,?_⟩
 ·rw [sw_get _ _ _ _ (by omega) (by omega)]
  by_cases e:p=a
  ·rw [if_pos e];exact h1 m (by omega) (by omega)
  ·rw [if_neg e,if_neg (by omega)];exact h1 p (by omega) (by omega)
 ·rw [sw_get _ _ _ _ (by omega) (by omega),if_neg (by omega),if_neg (by omega)];exact h2 p k1 k2
 ·rw [sw_get _ _ _ _ (by omega) (by omega)]
  by_cases e:m=a
  ·rw [if_pos e,e]
  ·rw [if_neg e,if_pos rfl]
theorem srt_pair {l:List Int} (h:Srt 0 l.length l):l.Pairwise (·≤·):=by
 refine List.pairwise_iff_getElem.2 fun p q hp hq hpq=>?_
 have:=h p q (by omega) hpq hq
 rwa [List.getD_eq_getElem?_getD,List.getD_eq_getElem?_getD,List.getElem?_eq_getElem hp,List.getElem?_eq_getElem hq] at this
theorem srt_unique {l m:List Int} (h:l.Pairwise (·≤·)) (k:m.Pairwise (·≤·)) (hp:l.Perm m):l=m:=
 hp.eq_of_pairwise (fun a b _ _ h1 h2=>by omega) h k
end Go.Proofs.YtglkgindpjdoiaaGreat.Pl
namespace Go.Proofs.YtglkgindpjdoiaaGreat.Rg
open Go Go.RowKit Go.Shelf
set_option linter.unusedSimpArgs false
set_option linter.unusedVariables false
attribute [local go_sem] Oper.semAt_some
def upto (zs:List Int) (k:Nat):List Int:=(List.range k).map fun j=>zs[j]?.getD 0
theorem upto_succ (zs:List Int) (k:Nat):upto zs (k+1)=upto zs k++[zs[k]?.getD 0]:=by simp [upto,List.range_succ]
theorem upto_length (zs:List Int) (k:Nat):(upto zs k).length=k:=by simp [upto]
theorem upto_all (zs:List Int):upto zs zs.length=zs:=by
 apply List.ext_getElem
 ·simp [upto]
 ·intro i h1 h2
  simp [upto,h2]
set_option maxRecDepth 100000 in
set_option maxHeartbeats 2000000 in
theorem values1_in (F:Fence) (n:Nat) (h7:F.fn 116) (hro:F.round=none) (hn:1≤n) (l Bs n₀ b off len cap:Nat) (zs:List Int) (hlen:len≤1048576) (hb:b < n₀) (J Jx:List Int→World→Prop)
 (hY:∀ pre x W,J pre W→pre.length < len→YieldAt F (n - 1) Tryz.prog l #[.int .u32 x] W fun e W'=>
   (e=.returned (.bool true)∧J (pre++[x]) W'∧Below n₀ W W')∨(e=.returned (.bool false)∧Jx (pre++[x]) W'))
 (W:World) (hBs:W.cell? ⟨Bs,0,none⟩=some (.slice (some ⟨b,off,none⟩) len cap)) (hc:∀ j,j < len→W.cell? ⟨b,off+j,none⟩=some (.int .u32 (zs[j]?.getD 0))) (h0:J [] W):
 CallsIn F n Tryz.prog 116 #[.func (.yield l) #[] #[],.pointer (some ⟨Bs,0,none⟩)] W fun e W'=>(∃ v,e=.returned v)∧
  ((∃ ys,ys=upto zs len∧J ys W')∨(∃ pre,(∃ k,k≤len∧pre=upto zs k)∧Jx pre W')):=by
 refine callsIn_of_wp Tryz.func116 rfl h7 ?_ hro
 simp only [Tryz.ntmps116,List.size_toArray,List.length_cons,List.length_nil,Nat.reduceAdd,Nat.reduceSub,Array.replicate_succ,Array.replicate_zero,List.push_toArray,List.append_toArray,List.nil_append,List.cons_append]
 gi_wp2
 gi_loopw [7] (fun i wr=>∃ k:Nat,k≤len∧i=.int .i64 k∧J (upto zs k) wr∧Below n₀ W wr)
  (fun i _=>len - (intOf i).toNat)
 case atStart=>exact ⟨0,Nat.zero_le _,rfl,h0,Below.refl _ _⟩
 case round=>
  obtain ⟨k,hk,rfl,hJs,hnx⟩:=hrel
  have hcx:k < len→wr.cell? ⟨b,off+k,none⟩=some (.int .u32 (zs[k]?.getD 0)):=fun h=>(hnx.cell (p:=⟨b,off+k,none⟩) hb).trans (hc k h)
  by_cases hlt:k < len
  ·obtain ⟨fn,tmps,assign,body,hy,hR⟩:=hY _ (zs[k]?.getD 0) wr hJs (by rw [upto_length];exact hlt)
   have hcx':=hcx hlt
   gi_wp2
   refine hR.mono ?_
   rintro e W3 (⟨rfl,hJ3,hk3⟩ | ⟨rfl,hJx3⟩)
   ·gi_wp2
    go_roundw
    case rel=>exact ⟨k+1,by omega,by simp,by rw [upto_succ];exact hJ3,hnx.trans hk3⟩
    case measure=>simp [intOf];omega
   ·gi_wp2
    refine bodyPost_ret (results_none rfl _ _ _) rfl ?_
    exact ⟨⟨_,rfl⟩,.inr ⟨_,⟨k+1,by omega,(upto_succ _ _).symm⟩,hJx3⟩⟩
  ·obtain rfl:k=len:=by omega
   gi_wp2
   go_end0
   exact ⟨⟨_,rfl⟩,.inl ⟨_,rfl,hJs⟩⟩
set_option maxRecDepth 100000 in
set_option maxHeartbeats 1000000 in
theorem values1_nil_in (F:Fence) (n:Nat) (h7:F.fn 116) (hro:F.round=none) (l Bs:Nat) (J:List Int→World→Prop) (W:World) (A:Option Addr) (cap:Nat) (hBs:W.cell? ⟨Bs,0,none⟩=some (.slice A 0 cap)) (h0:J [] W):
 CallsIn F n Tryz.prog 116 #[.func (.yield l) #[] #[],.pointer (some ⟨Bs,0,none⟩)] W fun e W'=>(∃ v,e=.returned v)∧J [] W':=by
 refine callsIn_of_wp Tryz.func116 rfl h7 ?_ hro
 simp only [Tryz.ntmps116,List.size_toArray,List.length_cons,List.length_nil,Nat.reduceAdd,Nat.reduceSub,Array.replicate_succ,Array.replicate_zero,List.push_toArray,List.append_toArray,List.nil_append,List.cons_append]
 gi_wp2
 gi_loopw [7] (fun i wr=>i=.int .i64 0∧J [] wr) (fun _ _=>0)
 case atStart=>exact ⟨rfl,h0⟩
 case round=>
  obtain ⟨rfl,hJs⟩:=hrel
  gi_wp2
  go_end0
  exact ⟨⟨_,rfl⟩,hJs⟩
def Ints (n₀:Nat) (W:World) (sv:Value) (zs:List Int):Prop:=
 (zs=[]∧∃ A cap,sv=.slice A 0 cap)∨∃ b off cap,sv=.slice (some ⟨b,off,none⟩) zs.length cap∧b < n₀∧∀ j,j < zs.length→W.cell? ⟨b,off+j,none⟩=some (.int .u32 (zs[j]?.getD 0))
theorem Ints.below {n₀:Nat} {A B:World} (h:Below n₀ A B) {sv:Value} {zs:List Int}:Ints n₀ A sv zs→Ints n₀ B sv zs
 | .inl e=>.inl e
 | .inr ⟨b,off,cap,e,hb,hc⟩=>.inr ⟨b,off,cap,e,hb,fun j hj=>(h.cell (p:=⟨b,off+j,none⟩) hb).trans (hc j hj)⟩
theorem values_stops (F:Fence) (n:Nat) (h7:F.fn 116) (hro:F.round=none) (hn:1≤n) (Bs n₀:Nat) (sv:Value) (zs:List Int) (hlen:zs.length≤1048576) (w:World) (hBs:Bs < w.heap.size) (hn₀:n₀≤w.heap.size)
 (hc:w.cell? ⟨Bs,0,none⟩=some sv) (hI:Ints n₀ w sv zs):
 SeqStopsK F n Tryz.prog 116 #[.pointer (some ⟨Bs,0,none⟩)] (fun x:Int=>#[Value.int .u32 x]) (Below n₀) (fun ys=>ys=zs) (fun _=>True) zs.length w:=fun l J Jx W hW _ _ hY h0=>by
 have hc':=(hW.cell (p:=⟨Bs,0,none⟩) hBs).trans hc
 rcases hI.below (hW.mono hn₀) with ⟨rfl,A,cap,rfl⟩ | ⟨b,off,cap,rfl,hb,hcs⟩
 ·exact (values1_nil_in F n h7 hro l Bs J W A cap hc' h0).mono fun e W' ⟨he,hj⟩=>⟨he,.inl ⟨_,rfl,hj⟩⟩
 ·refine (values1_in F n h7 hro hn l Bs n₀ b off zs.length cap zs hlen hb J Jx hY W hc' hcs h0).mono ?_
  rintro e W' ⟨he,⟨ys,rfl,hj⟩ | ⟨pre,⟨k,hk,rfl⟩,hj⟩⟩
  ·exact ⟨he,.inl ⟨_,upto_all zs,hj⟩⟩
  ·exact ⟨he,.inr ⟨_,trivial,hj⟩⟩
theorem infoU:(Tryz.prog.info? 29).map (fun i=>(i.zero,i.size,i.bytes))=some (some (.int .u32 0),1,4):=by kernel_rfl
set_option maxRecDepth 100000 in
set_option maxHeartbeats 2000000 in
theorem appendSeq_in (F:Fence) (n:Nat) (h3:F.fn 134) (h7:F.fn 116) (hro:F.round=none) (hn:3≤n) (Bs:Nat) (sv:Value) (zs:List Int) (hlen:zs.length≤1048576) (w:World) (hBs:Bs < w.heap.size)
 (hc:w.cell? ⟨Bs,0,none⟩=some sv) (hI:Ints w.heap.size w sv zs):
 CallsIn F n Tryz.prog 134 #[.slice none 0 0,.func (.func 116) #[] #[.pointer (some ⟨Bs,0,none⟩)]] w fun e W'=>∃ v,e=.returned v∧W'.ownsRow w.heap.size 29 1 v zs.length (zs.map (Value.int .u32))∧Below w.heap.size w W':=by
 have h1:1≤n:=by omega
 obtain ⟨i0,hi,hz0,hz1,hz2⟩:=info_parts infoU
 refine callsIn_of_wp_marks Tryz.func134 rfl h3 ?_ hro
 simp only [Tryz.ntmps134,List.size_toArray,List.length_cons,List.length_nil,Nat.reduceAdd,Nat.reduceSub,Array.replicate_succ,Array.replicate_zero,List.push_toArray,List.append_toArray,List.nil_append,List.cons_append]
 gi_wp2
 have bO:=Boxed.new w 22 (.slice none 0 0)
 have hB0:Below w.heap.size w (w.alloc (.cells #[.slice none 0 0] 22)):=(Below.refl _ w).alloc (Nat.le_refl _) _
 refine wpIn_rangeFunc_ownG hro h1 (gf:=116) (lb:=#[.pointer (some ⟨Bs,0,none⟩)]) rfl h7 (enters_of Tryz.func116 (by kernel_rfl) rfl)
  (values_stops F (n - 1) h7 hro (by omega) Bs w.heap.size sv zs hlen _ (by simp;omega) (by simp) ((hB0.cell (p:=⟨Bs,0,none⟩) hBs).trans hc) (hI.below hB0)) belowK_t (belowK_b (by simp)) (Below.refl _ _) (fun _=>rfl)
  (fun pre W=>(∃ v,Boxed W w.heap.size 22 v∧W.ownsRow w.heap.size 29 1 v pre.length (pre.map (Value.int .u32))∧True)∧Below w.heap.size w W)
  (fun _ _ _=>False)
  (OwnFrom.and (Own.from (holdsRow_own w.heap.size w.heap.size 22 29 1 (fun pre:List Int=>pre.length) (fun pre:List Int=>pre.map (Value.int .u32)) (fun _ _=>True)) _) (ownFrom_below (Nat.le_refl _) (by simp)))
  (fun _ _ _ _ _ hs _ _=>hs)
  ⟨⟨_,bO,World.ownsRow_nil _ _ _ _,trivial⟩,hB0⟩
  (fun x=>{ tmps:=#[.slice none 0 0,.func (.func 116) #[] #[.pointer (some ⟨Bs,0,none⟩)],.pointer (some ⟨w.heap.size,0,none⟩),undef,.slice none 0 0,.int .u32 x,.func (.func 116) #[] #[.pointer (some ⟨Bs,0,none⟩)],.int .u32 x,undef,undef,undef,undef,undef],defers:=[] }) ?assign ?body ?done ?stop
 case assign=>
  intro l x W K hK
  gi_wp2
  exact hK
 case body=>
  rintro l pre x W ⟨⟨v,hv,hrow,_⟩,hB⟩ hlt
  have hc:=hv.cell
  gi_wp2_with (gi_at_builtin;refine wpListIn_append_own _ rfl _ _ 22 rfl w.heap.size 29 i0 (.int .u32 0) 1 4 Tryz.underlying22 hi hz0 hz1 hz2 rfl (by decide) _ _ _ rfl (hrow.alloc _) ⟨W.heap.size,0,none⟩ 1 1 [.int .u32 x] rfl rfl (cell_one_new _ _ _) (by simp [Value.oneCell']) (by simp only [maxLen];omega) (by omega) (by have:=hB.size;simp;omega) ?_;intro v' w1 hown' hgrow _;obtain ⟨g',cap',rfl⟩:=ownsRow_succ hown';obtain ⟨hv1,hv2,hr2,hk2,hb2⟩:=hv.appended (by decide) hrow hB.size (Nat.le_refl _) hown' hgrow;have hc1:=hv1.cell;have hf1:=hv1.frozen)
  exact ⟨hk2.from _,hb2,⟨_,hv2,by simpa using hr2,trivial⟩,hB.trans hb2⟩
 case done=>
  rintro D ys W hD rfl ⟨⟨v,hv,hrow,_⟩,hB⟩ hK
  have hc:=hv.cell
  gi_wp2
  refine ⟨by simp,.inl ⟨_,_,rfl,run_takeDeferred hK,?_⟩⟩
  exact ⟨_,results_tmp rfl _ _ _,v,rfl,ownsRow_putObj hrow _ hK rfl,hB.trans (belowK_b (w:=w) (Nat.le_refl _) W D _ _ (by simp at hD;omega) hK rfl rfl)⟩
 case stop=>
  rintro D c pre W _ _ h _
  exact h.elim
set_option maxRecDepth 100000 in
set_option maxHeartbeats 1000000 in
theorem collect_in (F:Fence) (n:Nat) (h2:F.fn 114) (h3:F.fn 134) (h7:F.fn 116) (hro:F.round=none) (hn:4≤n) (Bs:Nat) (sv:Value) (zs:List Int) (hlen:zs.length≤1048576) (w:World) (hBs:Bs < w.heap.size)
 (hc:w.cell? ⟨Bs,0,none⟩=some sv) (hI:Ints w.heap.size w sv zs):
 CallsIn F n Tryz.prog 114 #[.func (.func 116) #[] #[.pointer (some ⟨Bs,0,none⟩)]] w fun e W'=>∃ v,e=.returned v∧W'.ownsRow w.heap.size 29 1 v zs.length (zs.map (Value.int .u32))∧Below w.heap.size w W':=by
 have h1:1≤n:=by omega
 refine callsIn_of_wp Tryz.func114 rfl h2 ?_ hro
 simp only [Tryz.ntmps114,List.size_toArray,List.length_cons,List.length_nil,Nat.reduceAdd,Nat.reduceSub,Array.replicate_succ,Array.replicate_zero,List.push_toArray,List.append_toArray,List.nil_append,List.cons_append]
 gi_wp2_with (gi_at_call 134;refine (appendSeq_in F (n - 1) h3 h7 hro (by omega) Bs sv zs hlen _ hBs hc hI).mono ?_;rintro e w' ⟨v,rfl,hrow,hbel⟩)
 go_ret
 exact ⟨v,rfl,hrow,hbel⟩
end Go.Proofs.YtglkgindpjdoiaaGreat.Rg
namespace Go.Proofs.YtglkgindpjdoiaaGreat.Aw
open Go Go.RowKit
set_option linter.unusedSimpArgs false
set_option linter.unusedVariables false
def tw (d:Int):Int:=if d % 2=0 then d+1 else d - 1
theorem wrap_u32 (n:Int):IntKind.u32.wrap n=n % 4294967296:=by simp [IntKind.wrap,IntKind.signed,IntKind.bits]
theorem wrap_i64 (n:Int) (h1 : -9223372036854775808≤n) (h2:n≤9223372036854775807):IntKind.i64.wrap n=n:=by
 simp only [IntKind.wrap,IntKind.signed,IntKind.bits]
 simp
 split<;>omega
theorem xor_one (n:Nat):n ^^^ 1=if n % 2=0 then n+1 else n - 1:=by
 have h:∀ a b:Nat,(∀ j,a.testBit j=b.testBit j)→a=b:=fun a b h=>Nat.eq_of_testBit_eq h
 split
 ·apply h;intro j
  cases j with
  | zero=>simp;omega
  | succ j=>rw [Nat.testBit_xor];simp [Nat.testBit_succ];congr 1;omega
 ·apply h;intro j
  cases j with
  | zero=>simp;omega
  | succ j=>rw [Nat.testBit_xor];simp [Nat.testBit_succ];congr 1;omega
theorem twin_bits (d:Int) (h0:0≤d) (h1:d < 4294967296):gxor .u32 d 1=tw d:=by
 unfold gxor IntKind.bits
 obtain ⟨n,rfl⟩:=Int.eq_ofNat_of_zero_le h0
 have hn:n < 4294967296:=by omega
 rw [wrap_u32,BitVec.toNat_xor]
 have e1:(BitVec.ofInt 32 (n:Int)).toNat=n:=by rw [BitVec.ofInt_natCast,BitVec.toNat_ofNat];exact Nat.mod_eq_of_lt (by omega)
 have e2:(BitVec.ofInt 32 1).toNat=1:=by decide
 rw [e1,e2,xor_one]
 unfold tw
 split<;>split<;>omega
theorem of_bits (a:Int) (e:Int) (h0:0≤a) (h1:a < 4294967296) (ha:a % 2=0) (he:e=0∨e=1):gor .u32 a e=a+e:=by
 unfold gor IntKind.bits
 obtain ⟨n,rfl⟩:=Int.eq_ofNat_of_zero_le h0
 rw [wrap_u32,BitVec.toNat_or]
 have e1:(BitVec.ofInt 32 (n:Int)).toNat=n:=by rw [BitVec.ofInt_natCast,BitVec.toNat_ofNat];exact Nat.mod_eq_of_lt (by omega)
 rw [e1]
 rcases he with rfl | rfl
 ·simp;omega
 ·have e2:(BitVec.ofInt 32 1).toNat=1:=by decide
  have:n ||| 1=n+1:=by
   apply Nat.eq_of_testBit_eq;intro j
   cases j with
   | zero=>simp;omega
   | succ j=>rw [Nat.testBit_or];simp [Nat.testBit_succ];congr 1;omega
  rw [e2,this];omega
theorem and_one (e:Int):gand .i64 e 1=e % 2:=by
 show IntKind.i64.wrap ((BitVec.ofInt 64 e &&& BitVec.ofInt 64 1).toNat:Int)=_
 have e2:(BitVec.ofInt 64 1).toNat=1:=by decide
 rw [BitVec.toNat_and,e2,Nat.and_one_is_mod,wrap_i64 _ (by omega) (by omega),BitVec.toNat_ofInt]
 omega
theorem shl_one (a:Int):gshl .u32 a 1=a * 2 % 4294967296:=by
 unfold gshl;rw [wrap_u32];rfl
theorem shr_one (a:Int):gshr .u32 a 1=a / 2:=by
 unfold gshr
 show a.fdiv 2=a / 2
 rw [Int.fdiv_eq_ediv_of_nonneg _ (by decide)]
theorem Of (id e:Int) (st:St):
 ACalls Tryz.prog 34 [u id,i e] st fun r st'=>r=u (id * 2 % 4294967296+e % 2)∧st'=st:=by
 refine qO tabOk Tryz.func34 rfl rfl Tryz.ntmps34 (rs:=[.tmp 4]) rfl (by simp) ?_
 (repeat' (first | refine qS ?_ | (refine qR ?_;simp only [ak,reduceIte];simp []) | (refine w_e [] ?_;intro J hJ;simp only [];simp [];(refine hJ _ _ ?_;clear hJ J;simp only [ak,reduceIte]))))
 rw [shl_one,and_one,wrap_u32,of_bits _ _ (by omega) (by omega) (by omega) (by omega)]
 omega
theorem Edge (d:Int) (st:St):ACalls Tryz.prog 73 [u d] st fun r st'=>r=u (d / 2)∧st'=st:=by
 refine qO tabOk Tryz.func73 rfl rfl Tryz.ntmps73 (rs:=[.tmp 2]) rfl (by simp) ?_
 (repeat' (first | refine qS ?_ | (refine qR ?_;simp only [ak,reduceIte];simp [shr_one]) | (refine w_e [] ?_;intro J hJ;simp only [];simp [shr_one];(refine hJ _ _ ?_;clear hJ J;simp only [ak,reduceIte]))))
theorem Twin (d:Int) (st:St) (h0:0≤d) (h1:d < 4294967296):ACalls Tryz.prog 33 [u d] st fun r st'=>r=u (tw d)∧st'=st:=by
 refine qO tabOk Tryz.func33 rfl rfl Tryz.ntmps33 (rs:=[.tmp 2]) rfl (by simp) ?_
 (repeat' (first | refine qS ?_ | (refine qR ?_;simp only [ak,reduceIte];simp [twin_bits d h0 h1]) | (refine w_e [] ?_;intro J hJ;simp only [];simp [twin_bits d h0 h1];(refine hJ _ _ ?_;clear hJ J;simp only [ak,reduceIte]))))
end Go.Proofs.YtglkgindpjdoiaaGreat.Aw
namespace Go.Proofs.YtglkgindpjdoiaaGreat.Aw
open Go Go.RowKit Go.Proofs.YtglkgindpjdoiaaGreat.Pl
set_option linter.unusedSimpArgs false
set_option linter.unusedVariables false
theorem qN (k:Nat) (h:k < 9223372036854775807):IntKind.i64.wrap ((k:Int)+1)=((k+1:Nat):Int):=by
 rw [wrap_i64 _ (by omega) (by omega)];omega
theorem us_drop_head (l:List Int) (k:Nat) (hk:k < l.length):(us l).drop k=u l[k]::us (l.drop (k+1)):=by
 rw [us,← List.map_drop,List.drop_eq_getElem_cons hk];rfl
theorem qG (l:List Int) (k:Nat) (hk:k < l.length):(us l).drop k=u (l.getD k 0)::us (l.drop (k+1)):=by
 rw [us_drop_head l k hk];simp [hk]
theorem gi_mem {l:List Int} {d:Int} (h:d∈l):gi l d=((l.idxOf d:Nat):Int):=by unfold gi;rw [if_pos h]
theorem gi_not {l:List Int} {d:Int} (h:¬ d∈l):gi l d = -1:=by unfold gi;rw [if_neg h]
theorem tmod_nat (a b c:Nat) (h:a % b=c):((a:Int).tmod (b:Int))=(c:Int):=by
 rw [← h];exact (Int.ofNat_tmod a b).symm
theorem getD_lt (l:List Int) (j:Nat) (hj:j < l.length):l.getD j 0=l[j]:=by
 rw [List.getD_eq_getElem?_getD,List.getElem?_eq_getElem hj];rfl
theorem St.ext' {a b:St} (h:a.next=b.next) (k:∀ x,a.H x=b.H x):a=b:=by
 cases a;cases b;simp only at h k;subst h;congr;funext x;exact k x
def small (l:List Int):Prop:=l.length≤1048576
theorem Index (l:List Int) (t:Nat) (x:Int) (st:St) (hl:small l):
 ACalls Tryz.prog 36 [.sl t l.length (us l),u x] st fun r st'=>r=i (gi l x)∧st'=st:=by
 unfold small at hl
 refine qO tabOk Tryz.func36 rfl rfl Tryz.ntmps36 (rs:=[.tmp 4]) rfl (by simp) ?_
 (repeat' (first | refine qS ?_ | refine qB ?_ | (refine w_e [] ?_;intro J hJ;simp only [];simp [];(refine hJ _ _ ?_;clear hJ J;simp only [ak,reduceIte]))))
 refine qL (fun n fr st'=>∃ k:Nat,k≤l.length∧n=l.length - k∧fr 0=.sl t l.length (us l)∧fr 1=u x∧fr 7=i l.length∧fr 8=i k∧st'=st∧∀ j (hj:j < l.length),j < k→l[j]≠x) l.length ?_ ?_
 ·exact ⟨0,by omega,by omega,by simp,by simp,by simp,by simp,rfl,fun j _ h=>by omega⟩
 rintro n fr st' ⟨k,hk,rfl,h0,h1,h7,h8,rfl,hno⟩ JJ hJJ
 by_cases hlt:k < l.length
 ·have hd:=us_drop_head l k hlt
  have hw:=qN k (by omega)
  (repeat' (first | refine qS ?_ | refine qB ?_ | (refine qK ?_;simp only [ak,reduceIte]) | (refine qR ?_;simp only [ak,reduceIte];simp [h0,h1,h7,h8,hlt,hd,hw]) | (refine qC ?_;simp [h0,h1,h7,h8,hlt,hd,hw];(try with_reducible refine ⟨?_,?_⟩)<;>(try with_reducible intro hc)) | (refine w_e [] ?_;intro J hJ;simp only [];simp [h0,h1,h7,h8,hlt,hd,hw];(refine hJ _ _ ?_;clear hJ J;simp only [ak,reduceIte]))))
  ·exact (gi_some hlt hc.symm (fun j hj=>hno j (by omega) hj)).symm
  ·refine hJJ _ _ _ ?_ ⟨k+1,by omega,rfl,by simp [h0],by simp [h1],by simp [h7],by simp,rfl,fun j hj hjk=>?_⟩
   ·omega
   ·rcases Nat.lt_or_ge j k with h | h
    ·exact hno j hj h
    ·obtain rfl:j=k:=by omega
     exact fun h=>hc h.symm
 ·(repeat' (first | refine qS ?_ | (refine qX ?_;simp only [ak,reduceIte]) | (refine qR ?_;simp only [ak,reduceIte];simp [h0,h1,h7,h8,hlt]) | (refine qC ?_;simp [h0,h1,h7,h8,hlt]) | (refine w_e [] ?_;intro J hJ;simp only [];simp [h0,h1,h7,h8,hlt];(refine hJ _ _ ?_;clear hJ J;simp only [ak,reduceIte]))))
  exact (gi_none (fun j hj=>hno j hj (by omega))).symm
theorem Find (l:List Int) (t:Nat) (x:Int) (st:St) (hl:small l):
 ACalls Tryz.prog 57 [.sl t l.length (us l),u x] st fun r st'=>r=i (gi l x)∧st'=st:=by
 unfold small at hl
 refine qO tabOk Tryz.func57 rfl rfl Tryz.ntmps57 (rs:=[.tmp 4]) rfl (by simp) ?_
 (repeat' (first | refine qS ?_ | refine qB ?_ | (refine w_e [] ?_;intro J hJ;simp only [];simp [];(refine hJ _ _ ?_;clear hJ J;simp only [ak,reduceIte]))))
 refine qL (fun n fr st'=>∃ k:Nat,k≤l.length∧n=l.length - k∧fr 7=.sl t l.length (us l)∧fr 1=u x∧fr 8=i l.length∧fr 9=i k∧st'=st∧∀ j (hj:j < l.length),j < k→l[j]≠x) l.length ?_ ?_
 ·exact ⟨0,by omega,by omega,by simp,by simp,by simp,by simp,rfl,fun j _ h=>by omega⟩
 rintro n fr st' ⟨k,hk,rfl,h0,h1,h7,h8,rfl,hno⟩ JJ hJJ
 by_cases hlt:k < l.length
 ·have hd:=us_drop_head l k hlt
  have hw:=qN k (by omega)
  (repeat' (first | refine qS ?_ | refine qB ?_ | (refine qK ?_;simp only [ak,reduceIte]) | (refine qR ?_;simp only [ak,reduceIte];simp [h0,h1,h7,h8,hlt,hd,hw]) | (refine qC ?_;simp [h0,h1,h7,h8,hlt,hd,hw];(try with_reducible refine ⟨?_,?_⟩)<;>(try with_reducible intro hc)) | (refine w_e [] ?_;intro J hJ;simp only [];simp [h0,h1,h7,h8,hlt,hd,hw];(refine hJ _ _ ?_;clear hJ J;simp only [ak,reduceIte]))))
  ·exact (gi_some hlt hc (fun j hj=>hno j (by omega) hj)).symm
  ·refine hJJ _ _ _ ?_ ⟨k+1,by omega,rfl,by simp [h0],by simp [h1],by simp [h7],by simp,rfl,fun j hj hjk=>?_⟩
   ·omega
   ·rcases Nat.lt_or_ge j k with h | h
    ·exact hno j hj h
    ·obtain rfl:j=k:=by omega
     exact hc
 ·(repeat' (first | refine qS ?_ | (refine qX ?_;simp only [ak,reduceIte]) | (refine qR ?_;simp only [ak,reduceIte];simp [h0,h1,h7,h8,hlt]) | (refine qC ?_;simp [h0,h1,h7,h8,hlt]) | (refine w_e [] ?_;intro J hJ;simp only [];simp [h0,h1,h7,h8,hlt];(refine hJ _ _ ?_;clear hJ J;simp only [ak,reduceIte]))))
  exact (gi_none (fun j hj=>hno j hj (by omega))).symm
theorem Contains (l:List Int) (t:Nat) (x:Int) (st:St) (hl:small l):
 ACalls Tryz.prog 13 [.sl t l.length (us l),u x] st fun r st'=>r=bb (decide (x∈l))∧st'=st:=by
 refine qO tabOk Tryz.func13 rfl rfl Tryz.ntmps13 (rs:=[.tmp 4]) rfl (by simp) ?_
 (repeat' (first | refine qS ?_ | (refine w_e [] ?_;intro J hJ;simp only [];simp [];(try (refine hJ _ _ ?_;clear hJ J;simp only [ak,reduceIte])))))
 refine qF (Index l t x st hl) ?_;rintro r st' ⟨rfl,rfl⟩
 (repeat' (first | (refine qR ?_;simp only [ak,reduceIte];simp []) | (refine e_go ?_;simp [];(refine hJ _ _ ?_;clear hJ J;simp only [ak,reduceIte]))))
 have:=gi_neg l x
 by_cases hx:x∈l
 ·simp [hx];simp [hx] at this;omega
 ·simp [hx];simp [hx] at this;omega
theorem us_head (l:List Int) (h:0 < l.length):hdL (us l)=u l[0]:=by
 cases l with
 | nil=>simp at h
 | cons a l=>rfl
theorem Min (l:List Int) (t:Nat) (st:St) (hl:small l) (h0:l≠[]):
 ACalls Tryz.prog 67 [.sl t l.length (us l)] st fun r st'=>r=u (mn l)∧st'=st:=by
 unfold small at hl
 have hpos:0 < l.length:=List.length_pos_iff.2 h0
 have hd0:=us_head l hpos
 refine qO tabOk Tryz.func67 rfl rfl Tryz.ntmps67 (rs:=[.tmp 2]) rfl (by simp) ?_
 (repeat' (first | refine qS ?_ | refine qB ?_ | (refine qK ?_;simp only [ak,reduceIte]) | (refine qC ?_;simp [hpos,hd0];(try with_reducible refine ⟨?_,?_⟩)<;>(try with_reducible intro hc)<;>try (exfalso;omega)) | (refine w_e [] ?_;intro J hJ;simp only [];simp [hpos,hd0];(refine hJ _ _ ?_;clear hJ J;simp only [ak,reduceIte]))))
 refine qL (fun n fr st'=>∃ k:Nat,0 < k∧k≤l.length∧n=l.length - k∧fr 0=.sl t l.length (us l)∧fr 4=i k∧fr 3=u (mn (l.take k))∧st'=st) (l.length - 1) ?_ ?_
 ·refine ⟨1,by omega,by omega,by omega,by simp,by simp,?_,rfl⟩
  cases l with
  | nil=>simp at hpos
  | cons a l=>simp [mn]
 rintro n fr st' ⟨k,hk0,hk,rfl,h0',h4,h3,rfl⟩ JJ hJJ
 by_cases hlt:k < l.length
 ·have hd:=us_drop_head l k hlt
  have hw:=qN k (by omega)
  (repeat' (first | refine qS ?_ | refine qB ?_ | (refine qK ?_;simp only [ak,reduceIte]) | (refine qC ?_;simp [h0',h3,h4,hlt,hd,hw]) | (refine w_e [] ?_;intro J hJ;simp only [];simp [h0',h3,h4,hlt,hd,hw];(refine hJ _ _ ?_;clear hJ J;simp only [ak,reduceIte]))))
  refine hJJ _ _ _ ?_ ⟨k+1,by omega,by omega,rfl,by simp [h0'],by simp,by simp [mn_take l k hk0 hlt],rfl⟩
  omega
 ·(repeat' (first | refine qS ?_ | (refine qX ?_;simp only [ak,reduceIte]) | (refine qR ?_;simp only [ak,reduceIte];simp [h0',h3,h4,hlt]) | (refine qC ?_;simp [h0',h3,h4,hlt]) | (refine w_e [] ?_;intro J hJ;simp only [];simp [h0',h3,h4,hlt];(refine hJ _ _ ?_;clear hJ J;simp only [ak,reduceIte]))))
  rw [List.take_of_length_le (by omega)]
theorem ref_Same (a b:List Int) (t t':Nat) (st:St) (hl:small a):
 ACalls Tryz.prog 41 [.sl t a.length (us a),.sl t' b.length (us b)] st fun r st'=>r=bb (decide (a=b))∧st'=st:=by
 unfold small at hl
 refine qO tabOk Tryz.func41 rfl rfl Tryz.ntmps41 (rs:=[.tmp 4]) rfl (by simp) ?_
 by_cases hab:a.length=b.length
 ·have hab':((a.length:Int) != (b.length:Int))=false:=by simp [hab]
  (repeat' (first | refine qS ?_ | refine qB ?_ | (refine qK ?_;simp only [ak,reduceIte]) | (refine qC ?_;simp [hab]) | (refine w_e [] ?_;intro J hJ;simp only [];simp [hab];(refine hJ _ _ ?_;clear hJ J;simp only [ak,reduceIte]))))
  refine qL (fun n fr st'=>∃ k:Nat,k≤a.length∧n=a.length - k∧fr 0=.sl t a.length (us a)∧fr 1=.sl t' b.length (us b)∧fr 12=i a.length∧fr 13=i k∧st'=st∧∀ j (hj:j < a.length),j < k→a[j]=b[j]'(by omega)) a.length ?_ ?_
  ·exact ⟨0,by omega,by omega,by simp [hab],by simp [hab],by simp [hab],by simp,rfl,fun j _ h=>by omega⟩
  rintro n fr st' ⟨k,hk,rfl,h0,h1,h7,h8,rfl,hno⟩ JJ hJJ
  by_cases hlt:k < a.length
  ·have hlt':k < b.length:=by omega
   have hd:=us_drop_head a k hlt
   have hd':=us_drop_head b k hlt'
   have hw:=qN k (by omega)
   (repeat' (first | refine qS ?_ | refine qB ?_ | (refine qK ?_;simp only [ak,reduceIte]) | (refine qR ?_;simp only [ak,reduceIte];simp [h0,h1,h7,h8,hlt,hlt',hd,hd',hw]) | (refine qC ?_;simp [h0,h1,h7,h8,hlt,hlt',hd,hd',hw];(try with_reducible refine ⟨?_,?_⟩)<;>(try with_reducible intro hc)) | ((first | (refine w_e [] ?_;intro J hJ;simp only []) | (refine w_q ?_;intro J hJ));simp [h0,h1,h7,h8,hlt,hlt',hd,hd',hw];(refine hJ _ _ ?_;clear hJ J;simp only [ak,reduceIte]))))
   ·intro h;apply hc;simp [h]
   ·refine hJJ _ _ _ ?_ ⟨k+1,by omega,rfl,by simp [h0],by simp [h1],by simp [h7],by simp,rfl,fun j hj hjk=>?_⟩
    ·omega
    ·rcases Nat.lt_or_ge j k with h | h
     ·exact hno j hj h
     ·obtain rfl:j=k:=by omega
      exact hc
  ·(repeat' (first | refine qS ?_ | (refine qX ?_;simp only [ak,reduceIte]) | (refine qR ?_;simp only [ak,reduceIte];simp [h0,h1,h7,h8,hlt]) | (refine qC ?_;simp [h0,h1,h7,h8,hlt]) | (refine w_e [] ?_;intro J hJ;simp only [];simp [h0,h1,h7,h8,hlt];(refine hJ _ _ ?_;clear hJ J;simp only [ak,reduceIte]))))
   exact List.ext_getElem hab (fun j hj _=>hno j hj (by omega))
 ·(repeat' (first | refine qS ?_ | (refine qR ?_;simp only [ak,reduceIte];simp [hab]) | (refine qC ?_;simp [hab];(try with_reducible refine ⟨?_,?_⟩)<;>(try with_reducible intro hc)<;>try (exfalso;omega)) | (refine w_e [] ?_;intro J hJ;simp only [];simp [hab];(refine hJ _ _ ?_;clear hJ J;simp only [ak,reduceIte]))))
  intro h;exact hab (by rw [h])
theorem Equal (a b:List Int) (t t':Nat) (st:St) (hl:small a):
 ACalls Tryz.prog 83 [.sl t a.length (us a),.sl t' b.length (us b)] st fun r st'=>r=bb (decide (a=b))∧st'=st:=by
 unfold small at hl
 refine qO tabOk Tryz.func83 rfl rfl Tryz.ntmps83 (rs:=[.tmp 4]) rfl (by simp) ?_
 by_cases hab:a.length=b.length
 ·(repeat' (first | refine qS ?_ | refine qB ?_ | (refine qK ?_;simp only [ak,reduceIte]) | (refine qC ?_;simp [hab]) | (refine w_e [] ?_;intro J hJ;simp only [];simp [hab];(refine hJ _ _ ?_;clear hJ J;simp only [ak,reduceIte]))))
  refine qL (fun n fr st'=>∃ k:Nat,k≤a.length∧n=a.length - k∧fr 0=.sl t a.length (us a)∧fr 1=.sl t' b.length (us b)∧fr 12=i a.length∧fr 13=i k∧st'=st∧∀ j (hj:j < a.length),j < k→a[j]=b[j]'(by omega)) a.length ?_ ?_
  ·exact ⟨0,by omega,by omega,by simp [hab],by simp [hab],by simp [hab],by simp,rfl,fun j _ h=>by omega⟩
  rintro n fr st' ⟨k,hk,rfl,h0,h1,h7,h8,rfl,hno⟩ JJ hJJ
  by_cases hlt:k < a.length
  ·have hlt':k < b.length:=by omega
   have hd:=us_drop_head a k hlt
   have hd':=us_drop_head b k hlt'
   have hw:=qN k (by omega)
   (repeat' (first | refine qS ?_ | refine qB ?_ | (refine qK ?_;simp only [ak,reduceIte]) | (refine qR ?_;simp only [ak,reduceIte];simp [h0,h1,h7,h8,hlt,hlt',hd,hd',hw]) | (refine qC ?_;simp [h0,h1,h7,h8,hlt,hlt',hd,hd',hw];(try with_reducible refine ⟨?_,?_⟩)<;>(try with_reducible intro hc)) | ((first | (refine w_e [] ?_;intro J hJ;simp only []) | (refine w_q ?_;intro J hJ));simp [h0,h1,h7,h8,hlt,hlt',hd,hd',hw];(refine hJ _ _ ?_;clear hJ J;simp only [ak,reduceIte]))))
   ·intro h;apply hc;simp [h]
   ·refine hJJ _ _ _ ?_ ⟨k+1,by omega,rfl,by simp [h0],by simp [h1],by simp [h7],by simp,rfl,fun j hj hjk=>?_⟩
    ·omega
    ·rcases Nat.lt_or_ge j k with h | h
     ·exact hno j hj h
     ·obtain rfl:j=k:=by omega
      exact hc
  ·(repeat' (first | refine qS ?_ | (refine qX ?_;simp only [ak,reduceIte]) | (refine qR ?_;simp only [ak,reduceIte];simp [h0,h1,h7,h8,hlt]) | (refine qC ?_;simp [h0,h1,h7,h8,hlt]) | (refine w_e [] ?_;intro J hJ;simp only [];simp [h0,h1,h7,h8,hlt];(refine hJ _ _ ?_;clear hJ J;simp only [ak,reduceIte]))))
   exact List.ext_getElem hab (fun j hj _=>hno j hj (by omega))
 ·(repeat' (first | refine qS ?_ | (refine qR ?_;simp only [ak,reduceIte];simp [hab]) | (refine qC ?_;simp [hab];(try with_reducible refine ⟨?_,?_⟩)<;>(try with_reducible intro hc)<;>try (exfalso;omega)) | (refine w_e [] ?_;intro J hJ;simp only [];simp [hab];(refine hJ _ _ ?_;clear hJ J;simp only [ak,reduceIte]))))
  intro h;exact hab (by rw [h])
theorem wrap_small (n:Int) (h0:0≤n) (h1:n≤9223372036854775807):IntKind.i64.wrap n=n:=wrap_i64 n (by omega) h1
theorem Grow (n:Int) (st:St) (h0:0≤n) (h1:n≤4194304):
 ACalls Tryz.prog 133 [.nil,i n] st fun r st'=>∃ l cs,r=.ms l 0 0∧st.next≤l∧st'.H l=.box 29 1 cs∧Keeps st st':=by
 have hw:=wrap_small n h0 (by omega)
 have hw':IntKind.i64.wrap 0=0:=by decide
 refine acalls_nilM 29 1 ?_
 refine qO tabOk Tryz.func133 rfl rfl Tryz.ntmps133 (rs:=[.tmp 4]) rfl (by simp) ?_
 by_cases hp:0 < n
 ·(repeat' (first | refine qS ?_ | (refine qK ?_;simp only [ak,reduceIte]) | (refine qR ?_;simp only [ak,reduceIte];simp [hw,hw',hp]) | (refine qC ?_;simp [hw,hw',hp];(try with_reducible refine ⟨?_,?_⟩)<;>(try with_reducible intro hc)<;>try (exfalso;omega)) | (refine w_e [] ?_;intro J hJ;simp only [];simp [hw,hw',hp];(repeat refine ca ?_);(refine hJ _ _ ?_;clear hJ J;simp only [ak,reduceIte]))))
  exact Keeps.new _ _
 ·(repeat' (first | refine qS ?_ | (refine qK ?_;simp only [ak,reduceIte]) | (refine qR ?_;simp only [ak,reduceIte];simp [hw,hw',hp]) | (refine qC ?_;simp [hw,hw',hp];(try with_reducible refine ⟨?_,?_⟩)<;>(try with_reducible intro hc)<;>try (exfalso;omega)) | (refine w_e [] ?_;intro J hJ;simp only [];simp [hw,hw',hp];(refine hJ _ _ ?_;clear hJ J;simp only [ak,reduceIte]))))
  exact Keeps.new _ _
abbrev rows (ls:List (Nat×List Int)):List LV:=ls.map fun p=>.sl p.1 p.2.length (us p.2)
def total (ls:List (Nat×List Int)):Nat:=(ls.map fun p=>p.2.length).sum
def flat (ls:List (Nat×List Int)):List Int:=(ls.map fun p=>p.2).flatten
theorem flat_length (ls:List (Nat×List Int)):(flat ls).length=total ls:=by
 induction ls with
 | nil=>rfl
 | cons p ls ih=>simp [flat,total,Function.comp_def] at ih ⊢
theorem total_take (ls:List (Nat×List Int)) (k:Nat) (hk:k < ls.length):total (ls.take (k+1))=total (ls.take k)+ls[k].2.length:=by
 rw [List.take_succ_eq_append_getElem hk,total,List.map_append,List.sum_append];simp only [total,List.map_cons,List.map_nil,List.sum_cons,List.sum_nil,Nat.add_zero]
theorem flat_take (ls:List (Nat×List Int)) (k:Nat) (hk:k < ls.length):flat (ls.take (k+1))=flat (ls.take k)++ls[k].2:=by
 rw [List.take_succ_eq_append_getElem hk,flat,List.map_append,List.flatten_append];simp only [flat,List.map_cons,List.map_nil,List.flatten_cons,List.flatten_nil,List.append_nil]
theorem total_take_le (ls:List (Nat×List Int)) (k:Nat):total (ls.take k)≤total ls:=by
 have h:total ls=total (ls.take k)+total (ls.drop k):=by
  conv=>lhs;rw [← List.take_append_drop k ls]
  rw [total,List.map_append,List.sum_append];rfl
 omega
theorem rows_drop (ls:List (Nat×List Int)) (k:Nat) (hk:k < ls.length):(rows ls).drop k=.sl ls[k].1 ls[k].2.length (us ls[k].2)::rows (ls.drop (k+1)):=by
 rw [rows,← List.map_drop,List.drop_eq_getElem_cons hk];rfl
theorem us_append (a b:List Int):us a++us b=us (a++b):=by simp [us]
theorem us_one (a:List Int):(us a).all oneL=true:=by simp [us,oneL]
theorem ConcatM (ls:List (Nat×List Int)) (t:Nat) (st:St) (hn:ls.length≤1048576) (hl:total ls≤4194304):
 ACalls Tryz.prog 108 [.sl t ls.length (rows ls)] st fun r st'=>∃ l,r=.ms l 0 (flat ls).length∧st.next≤l∧st'.H l=.box 29 1 (us (flat ls))∧Keeps st st':=by
 refine qO tabOk Tryz.func108 rfl rfl Tryz.ntmps108 (rs:=[.tmp 2]) rfl (by simp) ?_
 (repeat' (first | refine qS ?_ | refine qB ?_ | (refine w_e [] ?_;intro J hJ;simp only [];simp [];(refine hJ _ _ ?_;clear hJ J;simp only [ak,reduceIte]))))
 refine qL (fun n fr st'=>∃ k:Nat,k≤ls.length∧n=ls.length - k∧fr 0=.sl t ls.length (rows ls)∧fr 9=.sl t ls.length (rows ls)∧fr 10=i ls.length∧fr 11=i k∧fr 3=i (total (ls.take k))∧st'=st) ls.length ?_ ?_
 ·exact ⟨0,by omega,by omega,by simp,by simp,by simp,by simp,by simp [total],rfl⟩
 rintro n fr st1 ⟨k,hk,rfl,h0,h9,h10,h11,h3,rfl⟩ JJ hJJ
 by_cases hlt:k < ls.length
 ·have hd:=rows_drop ls k hlt
  have hw:=qN k (by omega)
  have ht:=total_take ls k hlt
  have hle:=total_take_le ls (k+1)
  have hw2:IntKind.i64.wrap ((total (ls.take k):Int)+(ls[k].2.length:Int))=(total (ls.take (k+1)):Int):=by
   rw [wrap_small _ (by omega) (by omega)];omega
  clear ht
  (repeat' (first | refine qS ?_ | refine qB ?_ | (refine qK ?_;simp only [ak,reduceIte]) | (refine qC ?_;simp [h0,h9,h10,h11,h3,hlt,hd,hw,hw2];(try with_reducible refine ⟨?_,?_⟩)<;>(try with_reducible intro hc)<;>try (exfalso;omega)) | (refine w_e [] ?_;intro J hJ;simp only [];simp [h0,h9,h10,h11,h3,hlt,hd,hw,hw2];(refine hJ _ _ ?_;clear hJ J;simp only [ak,reduceIte]))))
  refine hJJ _ _ _ ?_ ⟨k+1,by omega,rfl,by simp [h0],by simp [h9],by simp [h10],by simp,by simp,rfl⟩
  omega
 ·have hk':k=ls.length:=by omega
  have htk:ls.take k=ls:=List.take_of_length_le (by omega)
  rw [htk] at h3
  clear hJJ
  (repeat' (first | refine qS ?_ | (refine qX ?_;simp only [ak,reduceIte]) | (refine qC ?_;simp [h0,h9,h10,h11,h3,hlt]) | (refine w_e [] ?_;intro J hJ;simp only [];simp [h0,h9,h10,h11,h3,hlt];(try (refine hJ _ _ ?_;clear hJ J;simp only [ak,reduceIte])))))
  refine qF (Grow (total ls) _ (by omega) (by omega)) ?_;rintro r st' ⟨l0,cs0,rfl,hl0,hH0,hkp⟩
  (repeat' (first | refine qS ?_ | refine qB ?_ | ((first | (refine w_e [] ?_;intro J hJ;simp only []) | (refine e_go ?_));simp [h0];(refine hJ _ _ ?_;clear hJ J;simp only [ak,reduceIte]))))
  refine awp_shrink 0 hH0 ?_
  refine qL (fun n fr st2=>∃ k:Nat,k≤ls.length∧n=ls.length - k∧fr 25=.sl t ls.length (rows ls)∧fr 26=i ls.length∧fr 27=i k∧∃ l,fr 6=.ms l 0 (flat (ls.take k)).length∧st2.H l=.box 29 1 (us (flat (ls.take k)))∧st1.next≤l∧Keeps st1 st2) ls.length ?_ ?_
  ·exact ⟨0,by omega,by omega,by simp [h0],by simp,by simp,l0,by simp [flat],by simp [flat],hl0,hkp.set hl0 _⟩
  clear h0 h9 h10 h11 h3 hlt hH0 hkp hl0 fr hk hk' htk
  rintro n fr st2 ⟨k,hk,rfl,h25,h26,h27,l,h6,hH,hlt0,hkp⟩ JJ hJJ
  by_cases hlt:k < ls.length
  ·have hd:=rows_drop ls k hlt
   have hw:=qN k (by omega)
   have ht:=total_take ls k hlt
   have hle:=total_take_le ls (k+1)
   have hf:=flat_take ls k hlt
   have hfl:=flat_length (ls.take (k+1))
   have hfl':=flat_length (ls.take k)
   have hone:=us_one (ls[k].2)
   (repeat' (first | refine qS ?_ | refine qB ?_ | (refine qK ?_;simp only [ak,reduceIte]) | (refine qC ?_;simp [h25,h26,h27,h6,hH,hlt,hd,hw,hone]) | (refine w_e [] ?_;intro J hJ;simp only [];simp [h25,h26,h27,h6,hH,hlt,hd,hw,hone];(repeat refine ca ?_);(refine hJ _ _ ?_;clear hJ J;simp only [ak,reduceIte]))))
   refine hJJ _ _ _ ?_ ⟨k+1,by omega,rfl,by simp [h25],by simp [h26],by simp,st2.next,?_,?_,hkp.next,(hkp.set hlt0 _).trans (Keeps.new _ _)⟩
   ·omega
   ·simp [hf]
   ·simp [hf]
  ·have hk':k=ls.length:=by omega
   have htk:ls.take k=ls:=List.take_of_length_le (by omega)
   rw [htk] at h6 hH
   clear hJJ
   (repeat' (first | refine qS ?_ | (refine qX ?_;simp only [ak,reduceIte]) | (refine qR ?_;simp only [ak,reduceIte];simp [h25,h26,h27,h6,hlt]) | (refine qC ?_;simp [h25,h26,h27,h6,hlt]) | (refine w_e [] ?_;intro J hJ;simp only [];simp [h25,h26,h27,h6,hlt];(refine hJ _ _ ?_;clear hJ J;simp only [ak,reduceIte]))))
   exact ⟨hlt0,hH,hkp⟩
theorem Concat (ls:List (Nat×List Int)) (t:Nat) (st:St) (hn:ls.length≤1048576) (hl:total ls≤4194304):
 ACalls Tryz.prog 108 [.sl t ls.length (rows ls)] st fun r st'=>r=.sl 0 (flat ls).length (us (flat ls))∧Keeps st st':=by
 refine acalls_freeze ((ConcatM ls t st hn hl).mono ?_)
 rintro r st' ⟨l,rfl,hlt,hH,hk⟩
 exact ⟨l,_,_,1,_,rfl,hH,by simp,by simp [List.take_of_length_le],hk.set hlt _⟩
theorem CloneM (a:List Int) (t:Nat) (st:St) (hl:small a):
 ACalls Tryz.prog 37 [.sl t a.length (us a)] st fun r st'=>∃ l,r=.ms l 0 a.length∧st.next≤l∧st'.H l=.box 29 1 (us a)∧Keeps st st':=by
 unfold small at hl
 refine acalls_nilM 29 1 ?_
 have hone:=us_one a
 refine qO tabOk Tryz.func37 rfl rfl Tryz.ntmps37 (rs:=[.tmp 2]) rfl (by simp) ?_
 (repeat' (first | refine qS ?_ | (refine qK ?_;simp only [ak,reduceIte]) | (refine qR ?_;simp only [ak,reduceIte];simp [hone]) | (refine qC ?_;simp [hone]) | (refine w_e [5] ?_;intro J hJ;simp only [];simp [hone];(repeat refine ca ?_);((try with_reducible refine ⟨?_,?_⟩)<;>(try with_reducible intro hnil)<;>refine hJ _ _ ?_<;>clear hJ J<;>simp only [ak,reduceIte]<;>try subst hnil))))
 ·exact ((Keeps.new _ _).set (Nat.le_refl _) _).trans (Keeps.new _ _)
 ·exact Keeps.new _ _
theorem Clone (a:List Int) (t:Nat) (st:St) (hl:small a):
 ACalls Tryz.prog 37 [.sl t a.length (us a)] st fun r st'=>r=.sl 0 a.length (us a)∧Keeps st st':=by
 refine acalls_freeze ((CloneM a t st hl).mono ?_)
 rintro r st' ⟨l,rfl,hlt,hH,hk⟩
 exact ⟨l,_,_,1,_,rfl,hH,by simp,by simp [List.take_of_length_le],hk.set hlt _⟩
def nx (l:List Int) (d:Int):Int:=if d∈l then l.getD ((l.idxOf d+1) % l.length) 0 else 0
def pv (l:List Int) (d:Int):Int:=if d∈l then l.getD ((l.idxOf d+(l.length - 1)) % l.length) 0 else 0
theorem ref_Next (l:List Int) (t:Nat) (d:Int) (st:St) (hl:small l):
 ACalls Tryz.prog 111 [.sl t l.length (us l),u d] st fun r st'=>r=u (nx l d)∧st'=st:=by
 refine qO tabOk Tryz.func111 rfl rfl Tryz.ntmps111 (rs:=[.tmp 4]) rfl (by simp) ?_
 (repeat' (first | refine qS ?_ | (refine w_e [] ?_;intro J hJ;simp only [];simp [];(try (refine hJ _ _ ?_;clear hJ J;simp only [ak,reduceIte])))))
 refine qE (Find l t d _ hl) (by simp []) ?_;rintro r st' ⟨rfl,rfl⟩
 unfold small at hl
 by_cases hd:d∈l
 ·have hi:=List.idxOf_lt_length_of_mem hd
  have hnil:=List.ne_nil_of_mem hd
  rw [gi_mem hd]
  have hnx:nx l d=l.getD ((l.idxOf d+1) % l.length) 0:=by unfold nx;rw [if_pos hd]
  generalize hk:l.idxOf d=k at *
  have hw:=qN k (by omega)
  generalize hk1:k+1=k1 at *
  by_cases he:k1=l.length
  ·have hdr:=us_head l (by omega)
   rw [he,Nat.mod_self] at hnx
   rw [he] at hw
   have hpos:0 < l.length:=by omega
   (repeat' (first | refine qS ?_ | (refine qK ?_;simp only [ak,reduceIte]) | (refine qR ?_;simp only [ak,reduceIte];simp [hw,hdr,he,hpos,hnx,hnil]) | (refine qC ?_;simp [hw,hdr,he,hpos,hnx,hnil];(try with_reducible refine ⟨?_,?_⟩)<;>(try with_reducible intro hc)<;>try (exfalso;omega)) | ((first | (refine w_e [] ?_;intro J hJ;simp only []) | (refine e_go ?_));simp [hw,hdr,he,hpos,hnx,hnil];(refine hJ _ _ ?_;clear hJ J;simp only [ak,reduceIte]))))
  ·rw [Nat.mod_eq_of_lt (by omega)] at hnx
   have hlt:k1 < l.length:=by omega
   have hdr:=qG l k1 hlt
   have hne:((k1:Int)==(l.length:Int))=false:=by simp;omega
   (repeat' (first | refine qS ?_ | (refine qK ?_;simp only [ak,reduceIte]) | (refine qR ?_;simp only [ak,reduceIte];simp [hw,hdr,hne,hlt,hnx,hnil]) | (refine qC ?_;simp [hw,hdr,hne,hlt,hnx,hnil];(try with_reducible refine ⟨?_,?_⟩)<;>(try with_reducible intro hc)<;>try (exfalso;omega)) | ((first | (refine w_e [] ?_;intro J hJ;simp only []) | (refine e_go ?_));simp [hw,hdr,hne,hlt,hnx,hnil];(refine hJ _ _ ?_;clear hJ J;simp only [ak,reduceIte]))))
 ·rw [gi_not hd]
  have hnx:nx l d=0:=by unfold nx;rw [if_neg hd]
  (repeat' (first | refine qS ?_ | (refine qR ?_;simp only [ak,reduceIte];simp [hnx]) | (refine qC ?_;simp [hnx]) | ((first | (refine w_e [] ?_;intro J hJ;simp only []) | (refine e_go ?_));simp [hnx];(refine hJ _ _ ?_;clear hJ J;simp only [ak,reduceIte]))))
theorem nx_get {t:List Int} (hn:t.Nodup) {j:Nat} (hj:j < t.length):nx t t[j]=t[(j+1) % t.length]'(Nat.mod_lt _ (by omega)):=by
 unfold nx
 rw [if_pos (List.getElem_mem hj),hn.idxOf_getElem j hj,getD_lt _ _ (Nat.mod_lt _ (by omega))]
theorem nx_mem {t:List Int} {d:Int} (hd:d∈t):nx t d∈t:=by
 unfold nx
 have:0 < t.length:=List.length_pos_of_mem hd
 rw [if_pos hd,getD_lt _ _ (Nat.mod_lt _ this)]
 exact List.getElem_mem _
theorem nx_inj {t:List Int} (hn:t.Nodup) {d e:Int} (hd:d∈t) (he:e∈t) (h:nx t d=nx t e):d=e:=by
 obtain ⟨j,hj,rfl⟩:=List.getElem_of_mem hd
 obtain ⟨k,hk,rfl⟩:=List.getElem_of_mem he
 rw [nx_get hn hj,nx_get hn hk] at h
 have h1:=congrArg t.idxOf h
 rw [hn.idxOf_getElem,hn.idxOf_getElem] at h1
 have h2:j=k:=by
  rcases Nat.lt_or_ge (j+1) t.length with a | a
  ·rw [Nat.mod_eq_of_lt a] at h1
   rcases Nat.lt_or_ge (k+1) t.length with b | b
   ·rw [Nat.mod_eq_of_lt b] at h1;omega
   ·rw [show k+1=t.length by omega,Nat.mod_self] at h1;omega
  ·rw [show j+1=t.length by omega,Nat.mod_self] at h1
   rcases Nat.lt_or_ge (k+1) t.length with b | b
   ·rw [Nat.mod_eq_of_lt b] at h1;omega
   ·omega
 subst h2;rfl
theorem nx_it {t:List Int} (hn:t.Nodup) {j:Nat} (hj:j < t.length) (k:Nat):Eu.it (nx t) k t[j]=t[(j+k) % t.length]'(Nat.mod_lt _ (by omega)):=by
 induction k with
 | zero=>simp only [Eu.it,Nat.add_zero,Nat.mod_eq_of_lt hj]
 | succ k ih=>
   rw [Eu.it_succ,ih,nx_get hn]
   congr 1
   rw [Nat.mod_add_mod];rfl
theorem nx_orb {t:List Int} (hn:t.Nodup) {d e:Int} (hd:d∈t) (he:e∈t):Eu.Orb (nx t) d e:=by
 obtain ⟨j,hj,rfl⟩:=List.getElem_of_mem hd
 obtain ⟨k,hk,rfl⟩:=List.getElem_of_mem he
 refine ⟨t.length - j+k,?_⟩
 rw [nx_it hn hj]
 congr 1
 rw [show j+(t.length - j+k)=t.length+k by omega,Nat.add_mod_left,Nat.mod_eq_of_lt hk]
theorem us_drop (l:List Int) (k:Nat):(us l).drop k=us (l.drop k):=by simp [us]
theorem us_take (l:List Int) (k:Nat):(us l).take k=us (l.take k):=by simp [us]
theorem from_ (l:List Int) (t k:Nat) (st:St) (hl:small l) (hk:k≤l.length):
 ACalls Tryz.prog 66 [.sl t l.length (us l),i k] st fun r st'=>r=.sl 0 l.length (us (rt l k))∧Keeps st st':=by
 unfold small at hl
 refine qO tabOk Tryz.func66 rfl rfl Tryz.ntmps66 (rs:=[.tmp 4]) rfl (by simp) ?_
 (repeat' (first | refine qS ?_ | (refine w_e [] ?_;intro J hJ;simp only [];simp [hk];(refine hJ _ _ ?_;clear hJ J;simp only [ak,reduceIte]))))
 (refine awp_drawE tabOk [] 6 (by kernel_rfl) (by kernel_rfl) rfl rfl ?_;intro J hJ;simp [hk];skip;skip)
 refine qE (Concat [(0,l.drop k),(0,l.take k)] st.next _ (by simp) (by simp [total];omega)) (by simp [List.take_of_length_le,Nat.min_eq_left hk]) ?_;rintro r st' ⟨rfl,hkp⟩
 have hf:flat [(0,l.drop k),(0,l.take k)]=rt l k:=by simp [flat,rt]
 rw [hf,rt_length]
 (repeat' (first | (refine qR ?_;simp only [ak,reduceIte];simp []) | (refine e_go ?_;simp [];(refine hJ _ _ ?_;clear hJ J;simp only [ak,reduceIte]))))
 exact (Keeps.new _ _).trans hkp
theorem Normal (l:List Int) (t:Nat) (st:St) (hl:small l):
 ACalls Tryz.prog 35 [.sl t l.length (us l)] st fun r st'=>r=.sl 0 l.length (us (nrm l))∧Keeps st st':=by
 refine acalls_norm ?_
 refine qO tabOk Tryz.func35 rfl rfl Tryz.ntmps35 (rs:=[.tmp 2]) rfl (by simp) ?_
 cases l with
 | nil=>
   (repeat' (first | refine qS ?_ | (refine qR ?_;simp only [ak,reduceIte];simp []) | (refine qC ?_;simp []) | (refine w_e [] ?_;intro J hJ;simp only [];simp [];(refine hJ _ _ ?_;clear hJ J;simp only [ak,reduceIte]))))
   exact ⟨by decide,Keeps.refl _⟩
 | cons a l'=>
   (repeat' (first | refine qS ?_ | (refine qK ?_;simp only [ak,reduceIte]) | (refine qC ?_;simp [];(try with_reducible refine ⟨?_,?_⟩)<;>(try with_reducible intro hc)<;>try (exfalso;omega)) | (refine w_e [] ?_;intro J hJ;simp only [];simp [];(try (refine hJ _ _ ?_;clear hJ J;simp only [ak,reduceIte])))))
   refine qE (Min (a::l') t _ hl (by simp)) (by simp []) ?_;rintro r st' ⟨rfl,rfl⟩
   (repeat' (refine e_go ?_;simp []))
   refine qE (Index (a::l') t (mn (a::l')) _ hl) (by simp []) ?_;rintro r st' ⟨rfl,rfl⟩
   (repeat' (refine e_go ?_;simp []))
   have hg:gi (a::l') (mn (a::l'))=(((a::l').idxOf (mn (a::l')):Nat):Int):=by
    unfold gi;rw [if_pos (mn_mem (by simp))]
   rw [hg]
   refine qE (from_ (a::l') t ((a::l').idxOf (mn (a::l'))) _ hl List.idxOf_le_length) (by simp []) ?_;rintro r st' ⟨rfl,hkp⟩
   (repeat' (first | (refine qR ?_;simp only [ak,reduceIte];simp []) | (refine e_go ?_;simp [];(refine hJ _ _ ?_;clear hJ J;simp only [ak,reduceIte]))))
   exact ⟨rfl,hkp⟩
def ins (l:List Int) (b:Int) (m:List Int):List Int:=(if b∈l then l.take (l.idxOf b+1)++m++l.drop (l.idxOf b+1) else l++m)
theorem Insert (l m:List Int) (b:Int) (t t':Nat) (st:St) (hl:small l) (hm:small m) (hlm:l.length+m.length≤1048576):
 ACalls Tryz.prog 105 [.sl t l.length (us l),u b,.sl t' m.length (us m)] st fun r st'=>r=.sl 0 (l.length+m.length) (us (nrm (ins l b m)))∧Keeps st st':=by
 refine qO tabOk Tryz.func105 rfl rfl Tryz.ntmps105 (rs:=[.tmp 6]) rfl (by simp) ?_
 (repeat' (first | refine qS ?_ | (refine w_e [] ?_;intro J hJ;simp only [];simp [];(try (refine hJ _ _ ?_;clear hJ J;simp only [ak,reduceIte])))))
 refine qE (Index l t b _ hl) (by simp []) ?_;rintro r st' ⟨rfl,rfl⟩
 by_cases hb:b∈l
 ·have hi:=List.idxOf_lt_length_of_mem hb
  have hg:gi l b=((l.idxOf b:Nat):Int):=by unfold gi;rw [if_pos hb]
  have hw:=qN (l.idxOf b) (by unfold small at hl;omega)
  have hne:¬ (((l.idxOf b+1:Nat):Int)=0):=by omega
  generalize hk:l.idxOf b+1=k at *
  rw [hg]
  clear hg
  (repeat' (first | refine qS ?_ | (refine qK ?_;simp only [ak,reduceIte]) | (refine qC ?_;simp [hw,hne];(try with_reducible refine ⟨?_,?_⟩)<;>(try with_reducible intro hc)<;>try (exfalso;omega)) | ((first | (refine w_e [] ?_;intro J hJ;simp only []) | (refine e_go ?_));simp [hw,hne];(refine hJ _ _ ?_;clear hJ J;simp only [ak,reduceIte]))))
  (refine awp_drawE tabOk [] 7 (by kernel_rfl) (by kernel_rfl) rfl rfl ?_;intro J hJ;simp [];(repeat refine ca ?_);skip)
  refine qE (Concat [(0,l.take k),(t',m),(0,l.drop k)] st'.next _ (by simp) (by simp [total];omega)) (by simp [List.take_of_length_le,Nat.min_eq_left (show k≤l.length by omega)]) ?_;rintro r st' ⟨rfl,hkp⟩
  have hf:flat [(0,l.take k),(t',m),(0,l.drop k)]=ins l b m:=by simp [flat,ins,hb,hk]
  have hfl:(ins l b m).length=l.length+m.length:=by simp [ins,hb,hk];omega
  rw [hf]
  (repeat' (refine e_go ?_;simp []))
  refine qE (Normal (ins l b m) 0 _ (by unfold small;omega)) (by simp []) ?_;rintro r st' ⟨rfl,hkp2⟩
  rw [hfl]
  (repeat' (first | (refine qR ?_;simp only [ak,reduceIte];simp []) | (refine e_go ?_;simp [];(refine hJ _ _ ?_;clear hJ J;simp only [ak,reduceIte]))))
  exact ((Keeps.new _ _).trans hkp).trans hkp2
 ·have hg:gi l b = -1:=by unfold gi;rw [if_neg hb]
  have hw:IntKind.i64.wrap 0=0:=by decide
  rw [hg]
  clear hg
  (repeat' (first | refine qS ?_ | (refine qC ?_;simp [hw]) | ((first | (refine w_e [] ?_;intro J hJ;simp only []) | (refine e_go ?_));simp [hw];(refine hJ _ _ ?_;clear hJ J;simp only [ak,reduceIte]))))
  (refine awp_drawE tabOk [] 7 (by kernel_rfl) (by kernel_rfl) rfl rfl ?_;intro J hJ;simp [];skip;skip)
  refine qE (Concat [(0,l),(t',m),(0,[])] st'.next _ (by simp) (by simp [total];omega)) (by simp [List.take_of_length_le,List.drop_of_length_le]) ?_;rintro r st' ⟨rfl,hkp⟩
  have hf:flat [(0,l),(t',m),(0,[])]=ins l b m:=by simp [flat,ins,hb]
  have hfl:(ins l b m).length=l.length+m.length:=by simp [ins,hb]
  rw [hf]
  (repeat' (refine e_go ?_;simp []))
  refine qE (Normal (ins l b m) 0 _ (by unfold small;omega)) (by simp []) ?_;rintro r st' ⟨rfl,hkp2⟩
  rw [hfl]
  (repeat' (first | (refine qR ?_;simp only [ak,reduceIte];simp []) | (refine e_go ?_;simp [];(refine hJ _ _ ?_;clear hJ J;simp only [ak,reduceIte]))))
  exact ((Keeps.new _ _).trans hkp).trans hkp2
theorem Next (l:List Int) (t:Nat) (d:Int) (st:St) (hl:small l):
 ACalls Tryz.prog 15 [.sl t l.length (us l),u d] st fun r st'=>r=u (nx l d)∧st'=st:=by
 refine qO tabOk Tryz.func15 rfl rfl Tryz.ntmps15 (rs:=[.tmp 4]) rfl (by simp) ?_
 (repeat' (first | refine qS ?_ | (refine w_e [] ?_;intro J hJ;simp only [];simp [];(try (refine hJ _ _ ?_;clear hJ J;simp only [ak,reduceIte])))))
 refine qE (Index l t d _ hl) (by simp []) ?_;rintro r st' ⟨rfl,rfl⟩
 unfold small at hl
 by_cases hd:d∈l
 ·have hi:=List.idxOf_lt_length_of_mem hd
  have hnil:=List.ne_nil_of_mem hd
  rw [gi_mem hd]
  have hnx:nx l d=l.getD ((l.idxOf d+1) % l.length) 0:=by unfold nx;rw [if_pos hd]
  generalize hk:l.idxOf d=k at *
  have hw:=qN k (by omega)
  have hlt:=Nat.mod_lt (k+1) (show 0 < l.length by omega)
  generalize hk1:k+1=k1 at *
  have ht:=tmod_nat k1 l.length _ rfl
  generalize hj:k1 % l.length=j at *
  have hdr:=qG l j hlt
  (repeat' (first | refine qS ?_ | (refine qK ?_;simp only [ak,reduceIte]) | (refine qR ?_;simp only [ak,reduceIte];simp [hw,ht,hdr,hlt,hnx,hnil]) | (refine qC ?_;simp [hw,ht,hdr,hlt,hnx,hnil];(try with_reducible refine ⟨?_,?_⟩)<;>(try with_reducible intro hc)<;>try (exfalso;omega)) | ((first | (refine w_e [] ?_;intro J hJ;simp only []) | (refine e_go ?_));simp [hw,ht,hdr,hlt,hnx,hnil];(refine hJ _ _ ?_;clear hJ J;simp only [ak,reduceIte]))))
 ·rw [gi_not hd]
  have hnx:nx l d=0:=by unfold nx;rw [if_neg hd]
  (repeat' (first | refine qS ?_ | (refine qR ?_;simp only [ak,reduceIte];simp [hnx]) | (refine qC ?_;simp [hnx]) | ((first | (refine w_e [] ?_;intro J hJ;simp only []) | (refine e_go ?_));simp [hnx];(refine hJ _ _ ?_;clear hJ J;simp only [ak,reduceIte]))))
theorem Prev (l:List Int) (t:Nat) (d:Int) (st:St) (hl:small l):
 ACalls Tryz.prog 49 [.sl t l.length (us l),u d] st fun r st'=>r=u (pv l d)∧st'=st:=by
 refine qO tabOk Tryz.func49 rfl rfl Tryz.ntmps49 (rs:=[.tmp 4]) rfl (by simp) ?_
 (repeat' (first | refine qS ?_ | (refine w_e [] ?_;intro J hJ;simp only [];simp [];(try (refine hJ _ _ ?_;clear hJ J;simp only [ak,reduceIte])))))
 refine qE (Index l t d _ hl) (by simp []) ?_;rintro r st' ⟨rfl,rfl⟩
 unfold small at hl
 by_cases hd:d∈l
 ·have hi:=List.idxOf_lt_length_of_mem hd
  have hnil:=List.ne_nil_of_mem hd
  rw [gi_mem hd]
  have hnx:pv l d=l.getD ((l.idxOf d+(l.length - 1)) % l.length) 0:=by unfold pv;rw [if_pos hd]
  generalize hk:l.idxOf d=k at *
  have hlt:=Nat.mod_lt (k+(l.length - 1)) (show 0 < l.length by omega)
  have hw:IntKind.i64.wrap ((k:Int)+(l.length:Int))=((k+l.length:Nat):Int):=by rw [wrap_i64 _ (by omega) (by omega)];omega
  have hw2:IntKind.i64.wrap (((k+l.length:Nat):Int) - 1)=((k+(l.length - 1):Nat):Int):=by rw [wrap_i64 _ (by omega) (by omega)];omega
  generalize hk1:k+(l.length - 1)=k1 at *
  generalize hk2:k+l.length=k2 at *
  have ht:=tmod_nat k1 l.length _ rfl
  generalize hj:k1 % l.length=j at *
  have hdr:=qG l j hlt
  (repeat' (first | refine qS ?_ | (refine qK ?_;simp only [ak,reduceIte]) | (refine qR ?_;simp only [ak,reduceIte];simp [hw,hw2,ht,hdr,hlt,hnx,hnil]) | (refine qC ?_;simp [hw,hw2,ht,hdr,hlt,hnx,hnil];(try with_reducible refine ⟨?_,?_⟩)<;>(try with_reducible intro hc)<;>try (exfalso;omega)) | ((first | (refine w_e [] ?_;intro J hJ;simp only []) | (refine e_go ?_));simp [hw,hw2,ht,hdr,hlt,hnx,hnil];(refine hJ _ _ ?_;clear hJ J;simp only [ak,reduceIte]))))
 ·rw [gi_not hd]
  have hnx:pv l d=0:=by unfold pv;rw [if_neg hd]
  (repeat' (first | refine qS ?_ | (refine qR ?_;simp only [ak,reduceIte];simp [hnx]) | (refine qC ?_;simp [hnx]) | ((first | (refine w_e [] ?_;intro J hJ;simp only []) | (refine e_go ?_));simp [hnx];(refine hJ _ _ ?_;clear hJ J;simp only [ak,reduceIte]))))
theorem Same (a b:List Int) (t t':Nat) (st:St) (ha:small a) (hb:small b):
 ACalls Tryz.prog 71 [.sl t a.length (us a),.sl t' b.length (us b)] st fun r st'=>r=bb (decide (nrm a=nrm b))∧Keeps st st':=by
 refine qO tabOk Tryz.func71 rfl rfl Tryz.ntmps71 (rs:=[.tmp 4]) rfl (by simp) ?_
 (repeat' (first | refine qS ?_ | (refine w_e [] ?_;intro J hJ;simp only [];simp [];(try (refine hJ _ _ ?_;clear hJ J;simp only [ak,reduceIte])))))
 refine qE (Normal a t _ ha) (by simp []) ?_;rintro r st' ⟨rfl,hk1⟩
 (repeat' (refine e_go ?_;simp []))
 refine qE (Normal b t' _ hb) (by simp []) ?_;rintro r st' ⟨rfl,hk2⟩
 (repeat' (refine e_go ?_;simp []))
 refine qE (Equal (nrm a) (nrm b) 0 0 _ (by unfold small at *;rw [nrm_length];exact ha)) (by simp [nrm_length]) ?_;rintro r st' ⟨rfl,rfl⟩
 (repeat' (first | (refine qR ?_;simp only [ak,reduceIte];simp []) | (refine e_go ?_;simp [];(refine hJ _ _ ?_;clear hJ J;simp only [ak,reduceIte]))))
 exact hk1.trans hk2
def lat (l:List Int) (k:Nat):Nat:=(l.take k).idxOf (mn (l.take k))
theorem lat_lt (l:List Int) (k:Nat) (hk:k < l.length):lat l k < l.length:=by
 unfold lat
 have:=List.idxOf_le_length (a:=mn (l.take k)) (l:=l.take k)
 simp at this;omega
theorem lat_get (l:List Int) (k:Nat) (h0:0 < k) (hk:k≤l.length):l.getD (lat l k) 0=mn (l.take k):=by
 have hne:l.take k≠[]:=by intro h;have:=congrArg List.length h;rw [List.length_take,List.length_nil] at this;omega
 have h1:=List.idxOf_lt_length_of_mem (mn_mem hne)
 have h2:(l.take k)[(l.take k).idxOf (mn (l.take k))]=mn (l.take k):=List.getElem_idxOf h1
 rw [List.getElem_take] at h2
 unfold lat
 rw [List.length_take] at h1
 rw [List.getD_eq_getElem?_getD,List.getElem?_eq_getElem (by omega)]
 exact h2
theorem lat_step (l:List Int) (k:Nat) (hk:k < l.length):lat l (k+1)=if l.getD k 0 < l.getD (lat l k) 0 then k else lat l k:=by
 have hg:l.getD k 0=l[k]:=by rw [List.getD_eq_getElem?_getD,List.getElem?_eq_getElem hk];rfl
 rcases Nat.eq_zero_or_pos k with rfl | h0
 ·have:lat l 0=0:=by simp [lat]
  rw [this,if_neg (by omega)]
  unfold lat
  cases l with
  | nil=>simp at hk
  | cons a l=>simp [mn]
 ·rw [lat_get l k h0 (by omega),hg]
  have hne:l.take k≠[]:=by intro h;have:=congrArg List.length h;rw [List.length_take,List.length_nil] at this;omega
  have hm:=mn_take l k h0 hk
  unfold lat
  rw [hm]
  rw [List.take_succ_eq_append_getElem hk]
  by_cases hc:l[k] < mn (l.take k)
  ·rw [if_pos hc,if_pos hc]
   have hnot:¬ l[k]∈l.take k:=fun h=>by have:=mn_le h;omega
   rw [List.idxOf_append,if_neg hnot]
   simp;omega
  ·rw [if_neg hc,if_neg hc]
   rw [List.idxOf_append,if_pos (mn_mem hne)]
theorem lat_all (l:List Int):lat l l.length=l.idxOf (mn l):=by unfold lat;rw [List.take_length]
theorem nrm_take (l:List Int) (k:Nat) (hk:k < l.length):(nrm l).take (k+1)=(nrm l).take k++[l.getD ((l.idxOf (mn l)+k) % l.length) 0]:=by
 rw [List.take_succ_eq_append_getElem (by rw [nrm_length];exact hk),nrm_get l k hk,List.getD_eq_getElem?_getD,List.getElem?_eq_getElem (Nat.mod_lt _ (by omega))]
 rfl
theorem ref_NormalM (l:List Int) (t:Nat) (st:St) (hl:small l):
 ACalls Tryz.prog 56 [.sl t l.length (us l)] st fun r st'=>∃ q,r=.ms q 0 l.length∧st.next≤q∧st'.H q=.box 29 1 (us (nrm l))∧Keeps st st':=by
 unfold small at hl
 refine qO tabOk Tryz.func56 rfl rfl Tryz.ntmps56 (rs:=[.tmp 2]) rfl (by simp) ?_
 (repeat' (first | refine qS ?_ | refine qB ?_ | (refine w_e [] ?_;intro J hJ;simp only [];simp [];(refine hJ _ _ ?_;clear hJ J;simp only [ak,reduceIte]))))
 refine qL (fun n fr st'=>∃ k:Nat,k≤l.length∧n=l.length - k∧fr 0=.sl t l.length (us l)∧fr 8=.sl t l.length (us l)∧fr 9=i l.length∧fr 10=i k∧fr 3=i (lat l k)∧st'=st) l.length ?_ ?_
 ·exact ⟨0,by omega,by omega,by simp,by simp,by simp,by simp,by simp [lat],rfl⟩
 rintro n fr st1 ⟨k,hk,rfl,h0,h8,h9,h10,h3,rfl⟩ JJ hJJ
 by_cases hlt:k < l.length
 ·have hd:=qG l k hlt
  have hw:=qN k (by omega)
  have hla:=lat_lt l k hlt
  have hd2:=qG l (lat l k) hla
  have hst:=lat_step l k hlt
  generalize hj:lat l k=j at *
  (repeat' (first | refine qS ?_ | refine qB ?_ | (refine qK ?_;simp only [ak,reduceIte]) | (refine qC ?_;simp [h0,h8,h9,h10,h3,hlt,hla,hd,hd2,hw];(try with_reducible refine ⟨?_,?_⟩)<;>(try with_reducible intro hc)) | (refine w_e [] ?_;intro J hJ;simp only [];simp [h0,h8,h9,h10,h3,hlt,hla,hd,hd2,hw];(refine hJ _ _ ?_;clear hJ J;simp only [ak,reduceIte]))))
  ·refine hJJ _ _ _ ?_ ⟨k+1,by omega,rfl,by simp [h0],by simp [h8],by simp [h9],by simp,?_,rfl⟩
   ·omega
   ·rw [hst,if_pos (by simpa [hlt,hla] using hc)];simp
  ·refine hJJ _ _ _ ?_ ⟨k+1,by omega,rfl,by simp [h0],by simp [h8],by simp [h9],by simp,?_,rfl⟩
   ·omega
   ·rw [hst,if_neg (by simpa [hlt,hla] using hc)];simp [h3]
 ·have hk':k=l.length:=by omega
  rw [hk',lat_all] at h3
  clear hJJ
  (repeat' (first | refine qS ?_ | refine qB ?_ | (refine qX ?_;simp only [ak,reduceIte]) | (refine qC ?_;simp [h0,h8,h9,h10,h3,hlt]) | (refine w_e [] ?_;intro J hJ;simp only [];simp [h0,h8,h9,h10,h3,hlt];(refine hJ _ _ ?_;clear hJ J;simp only [ak,reduceIte]))))
  refine awp_ownM 6 29 1 (by simp) ?_
  refine qL (fun n fr st2=>∃ k:Nat,k≤l.length∧n=l.length - k∧fr 0=.sl t l.length (us l)∧fr 3=i (l.idxOf (mn l))∧fr 24=i l.length∧fr 25=i k∧∃ q,fr 6=.ms q 0 k∧st2.H q=.box 29 1 (us ((nrm l).take k))∧st1.next≤q∧q < st2.next∧Keeps st1 st2) l.length ?_ ?_
  ·exact ⟨0,by omega,by omega,by simp [h0],by simp [h3],by simp,by simp,st1.next,by simp,by simp,Nat.le_refl _,by simp,Keeps.new _ _⟩
  clear h0 h8 h9 h10 h3 hlt hk hk' fr k
  rintro n fr st2 ⟨k,hk,rfl,h0,h3,h24,h25,q,h6,hH,hq,hqn,hkp⟩ JJ hJJ
  by_cases hlt:k < l.length
  ·have hg:=nrm_take l k hlt
   have hil:=List.idxOf_le_length (a:=mn l) (l:=l)
   generalize hx:l.idxOf (mn l)=x at *
   have hj:=Nat.mod_lt (x+k) (show 0 < l.length by omega)
   have hw:=qN k (by omega)
   have hw2:IntKind.i64.wrap ((x:Int)+(k:Int))=((x+k:Nat):Int):=by rw [wrap_i64 _ (by omega) (by omega)];omega
   generalize hy:x+k=y at *
   have ht:=tmod_nat y l.length _ rfl
   generalize hz:y % l.length=z at *
   have hd:=qG l z hj
   have hnil:¬ l=[]:=fun h=>by rw [h] at hlt;simp at hlt
   have hmin:min k (nrm l).length=k:=by rw [nrm_length];omega
   have hqne:¬ q=st2.next:=by omega
   (repeat' (first | refine qS ?_ | refine qB ?_ | (refine qK ?_;simp only [ak,reduceIte]) | (refine qC ?_;simp [h0,h3,h24,h25,h6,hH,hlt,hj,hw,hw2,ht,hd,hnil,nrm_length,hmin,hqne]) | (refine w_e [] ?_;intro J hJ;simp only [];simp [h0,h3,h24,h25,h6,hH,hlt,hj,hw,hw2,ht,hd,hnil,nrm_length,hmin,hqne];(repeat refine ca ?_);(refine hJ _ _ ?_;clear hJ J;simp only [ak,reduceIte]))))
   refine hJJ _ _ _ ?_ ⟨k+1,by omega,rfl,by simp [h0],by simp [h3],by simp [h24],by simp,st2.next+1,by simp,?_,by have:=hkp.next;omega,by simp,((hkp.trans (Keeps.new _ _)).set hq _).trans (Keeps.new _ _)⟩
   ·omega
   ·simp [hg,hj,List.take_take]
  ·have hk':k=l.length:=by omega
   rw [hk',List.take_of_length_le (by rw [nrm_length];exact Nat.le_refl _)] at hH
   rw [hk'] at h6
   clear hJJ
   (repeat' (first | refine qS ?_ | (refine qX ?_;simp only [ak,reduceIte]) | (refine qR ?_;simp only [ak,reduceIte];simp [h0,h3,h24,h25,h6,hlt]) | (refine qC ?_;simp [h0,h3,h24,h25,h6,hlt]) | (refine w_e [] ?_;intro J hJ;simp only [];simp [h0,h3,h24,h25,h6,hlt];(refine hJ _ _ ?_;clear hJ J;simp only [ak,reduceIte]))))
   exact ⟨hq,hH,hkp⟩
theorem ref_Normal (l:List Int) (t:Nat) (st:St) (hl:small l):
 ACalls Tryz.prog 56 [.sl t l.length (us l)] st fun r st'=>r=.sl 0 l.length (us (nrm l))∧Keeps st st':=by
 refine acalls_freeze ((ref_NormalM l t st hl).mono ?_)
 rintro r st' ⟨q,rfl,hlt,hH,hk⟩
 exact ⟨q,_,_,1,_,rfl,hH,by simp [nrm_length],by simp [List.take_of_length_le,nrm_length],hk.set hlt _⟩
def wo (l m:List Int):List Int:=l.filter fun x=>!decide (x∈m)
theorem wo_le (l m:List Int):(wo l m).length≤l.length:=List.length_filter_le _ _
theorem freezeU {P:Program} {f:FuncId} {post:List LV} {st:St} {Q:LV→St→Prop} {l:Nat} (a:List Int) (hl:st.H l=.box 29 1 (us a)) (h:ACalls P f (.sl 0 a.length (us a)::post) (st.set l .dead) Q):ACalls P f (.ms l 0 a.length::post) st Q:=by
 refine acalls_freezeArg (pre:=[]) hl (by simp) ?_
 rw [Nat.mul_one,List.take_of_length_le (by simp)]
 exact h
theorem take_getD (l:List Int) (k:Nat) (hk:k < l.length):l.take (k+1)=l.take k++[l.getD k 0]:=by
 rw [List.take_succ_eq_append_getElem hk,List.getD_eq_getElem?_getD,List.getElem?_eq_getElem hk];rfl
def io (l m:List Int) (a k:Nat):List Int:=if k≤a then l.take k else l.take (a+1)++m++(l.take k).drop (a+1)
theorem io_at (l m:List Int) (a:Nat) (ha:a < l.length):io l m a (a+1)=io l m a a++[l.getD a 0]++m:=by
 unfold io
 rw [if_neg (by omega),if_pos (Nat.le_refl _),take_getD l a ha]
 rw [← take_getD l a ha,List.drop_of_length_le (by rw [List.length_take];omega)]
 simp
theorem io_off (l m:List Int) (a k:Nat) (hk:k < l.length) (hne:k≠a):io l m a (k+1)=io l m a k++[l.getD k 0]:=by
 unfold io
 by_cases h:k+1≤a
 ·rw [if_pos h,if_pos (by omega),take_getD l k hk]
 ·rw [if_neg h,if_neg (by omega),take_getD l k hk,List.drop_append_of_le_length (by rw [List.length_take];omega)]
  simp
theorem io_le (l m:List Int) (a k:Nat):(io l m a k).length≤k+m.length:=by
 unfold io
 split
 ·rw [List.length_take];omega
 ·simp only [List.length_append,List.length_take,List.length_drop];omega
theorem io_ins (l m:List Int) (b:Int) (a:Nat) (ha:a < l.length) (h:b∈l→a=l.idxOf b) (h':¬ b∈l→a=l.length - 1):io l m a l.length=ins l b m:=by
 unfold io ins
 rw [if_neg (by omega),List.take_length]
 by_cases hb:b∈l
 ·rw [if_pos hb,h hb]
 ·rw [if_neg hb,h' hb,show l.length - 1+1=l.length by omega,List.take_length,List.drop_length,List.append_nil]
theorem ins_length (l m:List Int) (b:Int):(ins l b m).length=l.length+m.length:=by
 unfold ins
 by_cases hb:b∈l
 ·have:=List.idxOf_lt_length_of_mem hb
  rw [if_pos hb];simp only [List.length_append,List.length_take,List.length_drop];omega
 ·rw [if_neg hb];simp
theorem ref_Insert (l m:List Int) (b:Int) (t t':Nat) (st:St) (hl:small l) (hm:small m) (hlm:l.length+m.length≤1048576):
 ACalls Tryz.prog 112 [.sl t l.length (us l),u b,.sl t' m.length (us m)] st fun r st'=>r=.sl 0 (l.length+m.length) (us (nrm (ins l b m)))∧Keeps st st':=by
 have hl':=hl
 unfold small at hl'
 have hone:=us_one m
 have hil:=ins_length l m b
 refine qO tabOk Tryz.func112 rfl rfl Tryz.ntmps112 (rs:=[.tmp 6]) rfl (by simp) ?_
 (repeat' (first | refine qS ?_ | (refine w_e [] ?_;intro J hJ;simp only [];simp [];(try (refine hJ _ _ ?_;clear hJ J;simp only [ak,reduceIte])))))
 refine qE (Find l t b _ hl) (by simp []) ?_;rintro r st' ⟨rfl,rfl⟩
 by_cases h0:l=[]
 ·subst h0
  rw [gi_not (by simp)]
  have hw:IntKind.i64.wrap (-1) = -1:=by decide
  (repeat' (first | refine qS ?_ | refine qB ?_ | (refine qC ?_;simp [hw]) | ((first | (refine w_e [] ?_;intro J hJ;simp only []) | (refine e_go ?_));simp [hw];(refine hJ _ _ ?_;clear hJ J;simp only [ak,reduceIte]))))
  refine awp_ownM 8 29 1 (by simp) ?_
  refine qL (fun n fr st2=>n=0∧fr 0=.sl t 0 []∧fr 2=.sl t' m.length (us m)∧fr 20=i 0∧fr 21=i 0∧fr 8=.ms st'.next 0 0∧st2=st'.new (.box 29 1 [])) 0 ?_ ?_
  ·exact ⟨rfl,by simp,by simp,by simp,by simp,by simp,rfl⟩
  rintro n fr st2 ⟨rfl,h0,h2,h20,h21,h8,rfl⟩ JJ hJJ
  (repeat' (first | refine qS ?_ | (refine qX ?_;simp only [ak,reduceIte]) | (refine qC ?_;simp [h0,h2,h20,h21,h8,hone]) | (refine w_e [] ?_;intro J hJ;simp only [];simp [h0,h2,h20,h21,h8,hone];(repeat refine ca ?_);(try (refine hJ _ _ ?_;clear hJ J;simp only [ak,reduceIte])))))
  refine qF (freezeU m (by simp) (ref_Normal m 0 _ hm)) ?_
  rintro r st2 ⟨rfl,hk2⟩
  have hi:ins [] b m=m:=by simp [ins]
  (repeat' (first | (refine qR ?_;simp only [ak,reduceIte];simp [hi]) | (refine e_go ?_;simp [hi];(refine hJ _ _ ?_;clear hJ J;simp only [ak,reduceIte]))))
  exact (((Keeps.new _ _).set (Nat.le_refl _) _).trans ((Keeps.new _ _).set (Nat.le_refl _) _)).trans hk2
 ·have hpos:0 < l.length:=List.length_pos_iff.2 h0
  obtain ⟨a,ha,ha1,ha2,hins⟩:∃ a:Nat,a < l.length∧(gi l b < 0→IntKind.i64.wrap ((l.length:Int) - 1)=(a:Int))∧(¬ gi l b < 0→gi l b=(a:Int))∧io l m a l.length=ins l b m:=by
   by_cases hb:b∈l
   ·have:=List.idxOf_lt_length_of_mem hb
    refine ⟨l.idxOf b,this,?_,?_,io_ins l m b _ this (fun _=>rfl) (fun h=>absurd hb h)⟩
    ·rw [gi_mem hb];omega
    ·rw [gi_mem hb];omega
   ·refine ⟨l.length - 1,by omega,?_,?_,io_ins l m b _ (by omega) (fun h=>absurd h hb) (fun _=>rfl)⟩
    ·intro _;rw [wrap_i64 _ (by omega) (by omega)];omega
    ·rw [gi_not hb];omega
  generalize hg:gi l b=gv at *
  (repeat' (first | refine qS ?_ | refine qB ?_ | (refine qK ?_;simp only [ak,reduceIte]) | (refine qC ?_;simp [];(try with_reducible refine ⟨?_,?_⟩)<;>(try with_reducible intro hc)) | ((first | (refine w_e [] ?_;intro J hJ;simp only []) | (refine e_go ?_));simp [];(refine hJ _ _ ?_;clear hJ J;simp only [ak,reduceIte]))))
  all_goals (refine awp_ownM 8 29 1 (by simp) ?_)
  all_goals (refine qL (fun n fr st2=>∃ k:Nat,k≤l.length∧n=l.length - k∧fr 0=.sl t l.length (us l)∧fr 2=.sl t' m.length (us m)∧fr 7=i a∧fr 19=.sl t l.length (us l)∧fr 20=i l.length∧fr 21=i k∧∃ q,fr 8=.ms q 0 (io l m a k).length∧st2.H q=.box 29 1 (us (io l m a k))∧st'.next≤q∧q < st2.next∧Keeps st' st2) l.length ?_ ?_)
  all_goals first
   | exact ⟨0,by omega,by omega,by simp,by simp,by simp;omega,by simp,by simp,by simp,st'.next,by simp [io],by simp [io],Nat.le_refl _,by simp,Keeps.new _ _⟩
   | skip
  all_goals (
   rintro n fr st2 ⟨k,hk,rfl,h0',h2,h7,h19,h20,h21,q,h8,hH,hq,hqn,hkp⟩ JJ hJJ
   by_cases hlt:k < l.length
   ·have hd:=qG l k hlt
    have hw:=qN k (by omega)
    have hle:=io_le l m a k
    have hqne:¬ q=st2.next:=by omega
    have hmx:m.length≤1048576:=hm
    by_cases hka:k=a
    ·subst hka
     have hst:=io_at l m k hlt
     generalize hx:l.getD k 0=x at *
     (repeat' (first | refine qS ?_ | refine qB ?_ | (refine qK ?_;simp only [ak,reduceIte]) | (refine qC ?_;simp [h0',h2,h7,h19,h20,h21,h8,hH,hlt,hd,hw,hqne,hone]) | (refine w_e [] ?_;intro J hJ;simp only [];simp [h0',h2,h7,h19,h20,h21,h8,hH,hlt,hd,hw,hqne,hone];(repeat refine ca ?_);(refine hJ _ _ ?_;clear hJ J;simp only [ak,reduceIte]))))
     refine hJJ _ _ _ ?_ ⟨k+1,by omega,rfl,by simp [h0'],by simp [h2],by simp [h7],by simp [h19],by simp [h20],by simp,st2.next+1+1,by simp [hst];omega,by simp [hst],by have:=hkp.next;omega,by simp,((((hkp.trans (Keeps.new _ _)).set hq _).trans (Keeps.new _ _)).set (by have:=hkp.next;omega) _).trans (Keeps.new _ _)⟩
     omega
    ·have hst:=io_off l m a k hlt hka
     have hka':¬ (k:Int)=(a:Int):=by omega
     generalize hx:l.getD k 0=x at *
     (repeat' (first | refine qS ?_ | refine qB ?_ | (refine qK ?_;simp only [ak,reduceIte]) | (refine qC ?_;simp [h0',h2,h7,h19,h20,h21,h8,hH,hlt,hd,hw,hqne,hka,hka']) | (refine w_e [] ?_;intro J hJ;simp only [];simp [h0',h2,h7,h19,h20,h21,h8,hH,hlt,hd,hw,hqne,hka,hka'];(repeat refine ca ?_);(refine hJ _ _ ?_;clear hJ J;simp only [ak,reduceIte]))))
     refine hJJ _ _ _ ?_ ⟨k+1,by omega,rfl,by simp [h0'],by simp [h2],by simp [h7],by simp [h19],by simp [h20],by simp,st2.next+1,by simp [hst],by simp [hst],by have:=hkp.next;omega,by simp,((hkp.trans (Keeps.new _ _)).set hq _).trans (Keeps.new _ _)⟩
     omega
   ·have hk':k=l.length:=by omega
    rw [hk',hins] at hH h8
    clear hJJ
    (repeat' (first | refine qS ?_ | (refine qK ?_;simp only [ak,reduceIte]) | (refine qX ?_;simp only [ak,reduceIte]) | (refine qC ?_;simp [h0',h2,h7,h19,h20,h21,h8,hlt,h0]) | (refine w_e [] ?_;intro J hJ;simp only [];simp [h0',h2,h7,h19,h20,h21,h8,hlt,h0];(try (refine hJ _ _ ?_;clear hJ J;simp only [ak,reduceIte])))))
    refine qF (freezeU (ins l b m) hH (ref_Normal (ins l b m) 0 _ (by unfold small;omega))) ?_
    rintro r st3 ⟨rfl,hk2⟩
    (repeat' (first | (refine qR ?_;simp only [ak,reduceIte];simp [hil]) | (refine e_go ?_;simp [hil];(refine hJ _ _ ?_;clear hJ J;simp only [ak,reduceIte]))))
    exact (hkp.set hq _).trans hk2)
def fi (l:List Int) (p:Int→Bool):Int:=if l.any p then (l.findIdx p:Int) else -1
theorem fi_some {l:List Int} {p:Int→Bool} {k:Nat} (hk:k < l.length) (h:p (l.getD k 0)=true) (hn:∀ j,j < k→p (l.getD j 0)=false):fi l p=k:=by
 have hg:∀ j (hj:j < l.length),l.getD j 0=l[j]:=fun j hj=>by rw [List.getD_eq_getElem?_getD,List.getElem?_eq_getElem hj];rfl
 rw [hg k hk] at h
 unfold fi
 rw [if_pos (List.any_eq_true.2 ⟨_,List.getElem_mem hk,h⟩)]
 congr 1
 refine (List.findIdx_eq hk).2 ⟨h,fun j hj=>?_⟩
 have:=hn j hj
 rwa [hg j (by omega)] at this
theorem fi_none {l:List Int} {p:Int→Bool} (hn:∀ j,j < l.length→p (l.getD j 0)=false):fi l p = -1:=by
 unfold fi
 rw [if_neg]
 intro h
 obtain ⟨x,hx,hp⟩:=List.any_eq_true.1 h
 obtain ⟨j,hj,rfl⟩:=List.getElem_of_mem hx
 have:=hn j hj
 rw [List.getD_eq_getElem?_getD,List.getElem?_eq_getElem hj] at this
 simp [hp] at this
def kept (p:Int→Bool) (l:List Int):List Int:=l.filter fun x=>!p x
theorem kept_take (l:List Int) (p:Int→Bool) (k:Nat) (hk:k < l.length):kept p (l.take (k+1))=if p (l.getD k 0)=true then kept p (l.take k) else kept p (l.take k)++[l.getD k 0]:=by
 rw [show l.take (k+1)=l.take k++[l.getD k 0] by rw [getD_lt _ _ hk];exact List.take_succ_eq_append_getElem hk]
 unfold kept
 rw [List.filter_append]
 generalize l.getD k 0=x
 by_cases h:p x=true
 ·rw [if_pos h];simp [h]
 ·rw [if_neg h]
  have h:p x=false:=by simpa using h
  simp [h]
theorem kept_le (p:Int→Bool) (l:List Int):(kept p l).length≤l.length:=List.length_filter_le _ _
theorem fi_lt {l:List Int} {p:Int→Bool} (h:l.any p=true):fi l p=((l.findIdx p:Nat):Int)∧l.findIdx p < l.length:=by
 unfold fi
 rw [if_pos h]
 obtain ⟨x,hx,hp⟩:=List.any_eq_true.1 h
 exact ⟨rfl,List.findIdx_lt_length_of_exists ⟨x,hx,hp⟩⟩
theorem kept_first (l:List Int) (p:Int→Bool) (h:l.findIdx p < l.length):kept p (l.take (l.findIdx p+1))=l.take (l.findIdx p):=by
 rw [kept_take l p _ h]
 have hg:l.getD (l.findIdx p) 0=l[l.findIdx p]:=by rw [List.getD_eq_getElem?_getD,List.getElem?_eq_getElem h];rfl
 rw [hg,if_pos (List.findIdx_getElem (w:=h))]
 unfold kept
 rw [List.filter_eq_self]
 intro x hx
 obtain ⟨j,hj,rfl⟩:=List.getElem_of_mem hx
 rw [List.length_take] at hj
 rw [List.getElem_take]
 have:=List.not_of_lt_findIdx (p:=p) (xs:=l) (i:=j) (by omega)
 simp [this]
theorem kept_none (l:List Int) (p:Int→Bool) (h:l.any p=false):kept p l=l:=by
 unfold kept
 rw [List.filter_eq_self]
 intro x hx
 have:=List.any_eq_false.1 h x hx
 simpa using this
theorem set_take (c:List Int) (k:Nat) (x:Int) (hk:k < c.length):(c.set k x).take (k+1)=c.take k++[x]:=by
 rw [List.take_succ_eq_append_getElem (by simpa using hk),List.getElem_set_self]
 rw [List.take_set_of_le (Nat.le_refl _)]
theorem set_drop (c:List Int) (k j:Nat) (x:Int) (h:k≤j):(c.set k x).drop (j+1)=c.drop (j+1):=by
 rw [List.drop_set_of_lt (by omega)]
theorem us_set (c:List Int) (k:Nat) (x:Int) (hk:k < c.length):(us c).take k++u x::(us c).drop (k+1)=us (c.set k x):=by
 simp only [us]
 rw [← List.map_take,← List.map_drop,List.set_eq_take_append_cons_drop,if_pos hk]
 simp
theorem St.set_set (st:St) (q:Nat) (a b:LObj):(st.set q a).set q b=st.set q b:=St.ext' rfl fun y=>by by_cases hy:y=q<;>simp [hy]
end Go.Proofs.YtglkgindpjdoiaaGreat.Aw
