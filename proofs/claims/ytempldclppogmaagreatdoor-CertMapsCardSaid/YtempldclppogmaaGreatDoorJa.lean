/- Plain lists of numbers: places, least ones, turns. No program. -/
import Derived.RangeFuncBox
import Derived.RangeFuncLeaves
import Derived.Shelf.Abstract
import Derived.WalkKit
import Derived.OwnWalkIn
import Derived.TacticsInMore
import Derived.LoopNIn
import Derived.LoopIn
import Derived.Maps.AppendAt
import Derived.Test.YtempldclppogmaaGreatDoorProg
import Derived.Test.YtempldclppogmaaGreatDoorAwSet
import Derived.IntWalk
set_option linter.unusedVariables false
set_option linter.unusedSimpArgs false
namespace Go.Proofs.YtempldclppogmaaGreatDoor.Pl
def gi(l:List Int)(x:Int):Int:=if x∈l then(l.idxOf x:Int)else -1
theorem aFM{l:List Int}{x:Int}{k:Nat}(hk:k<l.length)(h:l[k]=x)(hn:∀ j (hj:j<k),l[j]'(by omega)≠x):gi l x=k:=by
 have hm:x∈l:=by rw[← h];exact List.getElem_mem hk
 unfold gi
 rw[if_pos hm]
 congr 1
 have h1:l.idxOf x<l.length:=List.idxOf_lt_length_of_mem hm
 have h2:l[l.idxOf x]=x:=List.getElem_idxOf h1
 rcases Nat.lt_trichotomy (l.idxOf x) k with h3|h3|h3
 ·exact absurd h2 (hn _ h3)
 ·exact h3
 ·have:=List.not_of_lt_findIdx (p:=fun y=>y==x) (xs:=l) (i:=k) (by simpa[List.idxOf]using h3)
  simp[h]at this
theorem aFK{l:List Int}{x:Int}(hn:∀ j (hj:j<l.length),l[j]≠x):gi l x = -1:=by
 unfold gi
 rw[if_neg]
 intro hm
 obtain⟨j,hj,h⟩:=List.getElem_of_mem hm
 exact hn j hj h
theorem aBB(l:List Int)(x:Int):gi l x<0↔x∉l:=by
 unfold gi
 split
 ·rename_i h;simp[h]
 ·rename_i h;simp[h]
def mn:List Int→Int
 |[]=>0
 |x::l=>l.foldl (fun a b=>if b<a then b else a) x
theorem pW(l:List Int):∀ a:Int,l.foldl (fun a b=>if b<a then b else a) a≤a∧(∀ x∈l,l.foldl (fun a b=>if b<a then b else a) a≤x)∧(l.foldl (fun a b=>if b<a then b else a) a=a∨l.foldl (fun a b=>if b<a then b else a) a∈l):=by
 induction l with
 |nil=>intro a;simp
 |cons b l ih=>
  intro a
  simp only[List.foldl_cons]
  obtain⟨h1,h2,h3⟩:=ih (if b<a then b else a)
  have c1:(if b<a then b else a)≤a:=by split<;>omega
  have c2:(if b<a then b else a)≤b:=by split<;>omega
  refine⟨Int.le_trans h1 c1,?_,?_⟩
  ·intro x hx
   rcases List.mem_cons.1 hx with rfl|hx
   ·exact Int.le_trans h1 c2
   ·exact h2 x hx
  ·rcases h3 with h3|h3
   ·rw[h3]
    split
    ·right;simp
    ·left;rfl
   ·right;simp[h3]
theorem aFI{l:List Int}{x:Int}(hx:x∈l):mn l≤x:=by
 cases l with
 |nil=>simp at hx
 |cons a l=>
  obtain⟨h1,h2,_⟩:=pW l a
  rcases List.mem_cons.1 hx with rfl|hx
  ·exact h1
  ·exact h2 x hx
theorem qY{l:List Int}(h:l≠[]):mn l∈l:=by
 cases l with
 |nil=>exact absurd rfl h
 |cons a l=>
  obtain⟨_,_,h3⟩:=pW l a
  rcases h3 with h3|h3
  ·simp only[mn];rw[h3];simp
  ·simp only[mn];exact List.mem_cons_of_mem _ h3
theorem aFB{l:List Int}{m:Int}(hm:m∈l)(h:∀ x∈l,m≤x):mn l=m:=by
 have h1:=aFI hm
 have h2:=h _ (qY (List.ne_nil_of_mem hm))
 omega
theorem aHc(l:List Int)(x:Int)(h:l≠[]):mn (l++[x])=if x<mn l then x else mn l:=by
 cases l with
 |nil=>exact absurd rfl h
 |cons a l=>rw[List.cons_append,mn,List.foldl_append];rfl
theorem aFV(l:List Int)(k:Nat)(h0:0<k)(hk:k<l.length):mn (l.take (k+1))=if l[k] < mn (l.take k)then l[k]else mn (l.take k):=by
 rw[List.take_succ_eq_append_getElem hk,aHc]
 intro h
 have:=congrArg List.length h
 rw[List.length_take,List.length_nil]at this
 omega
def rt(l:List Int)(k:Nat):List Int:=l.drop k++l.take k
def nrm(l:List Int):List Int:=rt l (l.idxOf (mn l))
theorem sL(l:List Int)(k:Nat):(rt l k).length=l.length:=by simp[rt];omega
theorem bX(l:List Int):(nrm l).length=l.length:=sL _ _
theorem aNY(l:List Int)(k i:Nat)(hk:k≤l.length)(hi:i<l.length):(rt l k)[i]'(by rw[sL];exact hi)=l[(k+i) % l.length]'(Nat.mod_lt _ oO):=by
 unfold rt
 by_cases h:i<l.length-k
 ·rw[List.getElem_append_left (by simpa using h)]
  simp only[List.getElem_drop]
  congr 1
  rw[Nat.mod_eq_of_lt oO]
 ·rw[List.getElem_append_right (by simp;omega)]
  simp only[List.getElem_take,List.length_drop]
  congr 1
  rw[Nat.mod_eq_sub_mod oO,Nat.mod_eq_of_lt oO]
  omega
theorem aGb(l:List Int)(i:Nat)(hi:i<l.length):(nrm l)[i]'(by rw[bX];exact hi)=l[(l.idxOf (mn l)+i) % l.length]'(Nat.mod_lt _ oO):=
 aNY l _ i List.idxOf_le_length hi
end Go.Proofs.YtempldclppogmaaGreatDoor.Pl
namespace Go.Proofs.YtempldclppogmaaGreatDoor.Eu
open Go
def it(f:Int→Int):Nat→Int→Int
 |0,x=>x
 |n+1,x=>it f n (f x)
theorem dZ(f:Int→Int)(n:Nat)(x:Int):it f (n+1) x=f (it f n x):=by
 induction n generalizing x with
 |zero=>rfl
 |succ n ih=>exact ih (f x)
theorem oH(f:Int→Int)(m n:Nat)(x:Int):it f (m+n) x=it f m (it f n x):=by
 induction n generalizing x with
 |zero=>rfl
 |succ n ih=>exact ih (f x)
theorem aNE{f:Int→Int}{p:Nat}{x:Int}(h:it f p x=x)(q:Nat):it f (q*p) x=x:=by
 induction q with
 |zero=>rw[Nat.zero_mul];rfl
 |succ q ih=>rw[Nat.succ_mul,oH,h,ih]
theorem aEM{f:Int→Int}(hi:∀ x y,f x=f y→x=y)(n:Nat){x y:Int}(h:it f n x=it f n y):x=y:=by
 induction n generalizing x y with
 |zero=>exact h
 |succ n ih=>exact hi _ _ (ih h)
def Per(f:Int→Int):Prop:=∀ x,∃ p,0<p∧it f p x=x
def Orb(f:Int→Int)(x y:Int):Prop:=∃ n,it f n x=y
theorem Orb.refl(f:Int→Int)(x:Int):Orb f x x:=⟨0,rfl⟩
theorem Orb.step(f:Int→Int)(x:Int):Orb f x (f x):=⟨1,rfl⟩
theorem Orb.trans{f:Int→Int}{x y z:Int}(h:Orb f x y)(k:Orb f y z):Orb f x z:=by
 obtain⟨n,rfl⟩:=h
 obtain⟨m,rfl⟩:=k
 exact⟨m+n,oH f m n x⟩
theorem Orb.symm{f:Int→Int}(hf:Per f){x y:Int}(h:Orb f x y):Orb f y x:=by
 obtain⟨n,rfl⟩:=h
 induction n generalizing x with
 |zero=>exact⟨0,rfl⟩
 |succ n ih=>
  refine(ih (x:=f x)).trans ?_
  obtain⟨p,hp,h⟩:=hf x
  cases p with
  |zero=>omega
  |succ p=>exact⟨p,h⟩
theorem aOd{f:Int→Int}(D:List Int)(hD:∀ x∈D,f x∈D)(hi:∀ x y,f x=f y→x=y)(ho:∀ x,x∉D→f x=x):Per f:=by
 intro x
 by_cases hx:x∈D
 ·refine Classical.byContradiction fun hno=>?_
  have hne:∀ p,0<p→it f p x≠x:=fun p hp h=>hno ⟨p,hp,h⟩
  have hin:∀ k,it f k x∈D:=by
   intro k
   induction k with
   |zero=>exact hx
   |succ k ih=>rw[dZ];exact hD _ ih
  have hnd:((List.range (D.length+1)).map fun k=>it f k x).Nodup:=by
   unfold List.Nodup
   rw[List.pairwise_map]
   refine List.pairwise_lt_range.imp fun {i j} hij h=>?_
   have h2:j=i+(j-i):=oO
   rw[h2,oH]at h
   exact hne (j-i) oO (aEM hi i h).symm
  have:=List.Nodup.length_le_of_subset hnd (l₂:=D) fun y hy=>by
   obtain⟨k,_,rfl⟩:=List.mem_map.1 hy
   exact hin k
  simp at this
  omega
 ·exact⟨1,oO,ho x hx⟩
structure Eqv(R:Int→Int→Prop):Prop where
 refl:∀ x,R x x
 symm:∀ {x y},R x y→R y x
 trans:∀ {x y z},R x y→R y z→R x z
theorem Per.eqv{f:Int→Int}(hf:Per f):Eqv (Orb f):=⟨Orb.refl f,Orb.symm hf,Orb.trans⟩
noncomputable def ncl(R:Int→Int→Prop):List Int→Nat
 |[]=>0
 |x::l=>ncl R l+@ite Nat (∃ y∈l,R y x) (Classical.propDecidable _) 0 1
theorem aZ{R:Int→Int→Prop}{x:Int}{l:List Int}(h:∃ y∈l,R y x):ncl R (x::l)=ncl R l:=by
 simp only[ncl];rw[if_pos h];rfl
theorem aP{R:Int→Int→Prop}{x:Int}{l:List Int}(h:¬∃ y∈l,R y x):ncl R (x::l)=ncl R l+1:=by
 simp only[ncl];rw[if_neg h]
theorem kB{R S:Int→Int→Prop}{l:List Int}(h:∀ x∈l,∀ y∈l,(R x y↔S x y)):ncl R l=ncl S l:=by
 induction l with
 |nil=>rfl
 |cons x l ih=>
  have ih':=ih fun a ha b hb=>h a (List.mem_cons_of_mem _ ha) b (List.mem_cons_of_mem _ hb)
  by_cases hx:∃ y∈l,R y x
  ·rw[aZ hx,aZ,ih']
   obtain⟨y,hy,hr⟩:=hx
   exact⟨y,hy,(h y (List.mem_cons_of_mem _ hy) x List.mem_cons_self).1 hr⟩
  ·rw[aP hx,aP,ih']
   rintro⟨y,hy,hr⟩
   exact hx ⟨y,hy,(h y (List.mem_cons_of_mem _ hy) x List.mem_cons_self).2 hr⟩
theorem lX{R:Int→Int→Prop}(hR:Eqv R){l l':List Int}(h:l.Perm l'):ncl R l=ncl R l':=by
 induction h with
 |nil=>rfl
 |@cons x l1 l2 h ih=>
  by_cases hx:∃ y∈l1,R y x
  ·rw[aZ hx,aZ,ih]
   obtain⟨y,hy,hr⟩:=hx
   exact⟨y,h.mem_iff.1 hy,hr⟩
  ·rw[aP hx,aP,ih]
   rintro⟨y,hy,hr⟩
   exact hx ⟨y,h.mem_iff.2 hy,hr⟩
 |swap x y l=>
  by_cases hxy:R x y
  ·have hyx:=hR.symm hxy
   rw[aZ ⟨x,List.mem_cons_self,hxy⟩,aZ ⟨y,List.mem_cons_self,hyx⟩]
   by_cases hx:∃ z∈l,R z x
   ·rw[aZ hx,aZ]
    obtain⟨z,hz,hr⟩:=hx
    exact⟨z,hz,hR.trans hr hxy⟩
   ·rw[aP hx,aP]
    rintro⟨z,hz,hr⟩
    exact hx ⟨z,hz,hR.trans hr hyx⟩
  ·have hyx:¬R y x:=fun h=>hxy (hR.symm h)
   have e1:(∃ z∈x::l,R z y)↔∃ z∈l,R z y:=by
    constructor
    ·rintro⟨z,hz,hr⟩
     rcases List.mem_cons.1 hz with rfl|hz
     ·exact absurd hr hxy
     ·exact⟨z,hz,hr⟩
    ·rintro⟨z,hz,hr⟩;exact⟨z,List.mem_cons_of_mem _ hz,hr⟩
   have e2:(∃ z∈y::l,R z x)↔∃ z∈l,R z x:=by
    constructor
    ·rintro⟨z,hz,hr⟩
     rcases List.mem_cons.1 hz with rfl|hz
     ·exact absurd hr hyx
     ·exact⟨z,hz,hr⟩
    ·rintro⟨z,hz,hr⟩;exact⟨z,List.mem_cons_of_mem _ hz,hr⟩
   by_cases hx:∃ z∈l,R z x
   ·rw[aZ (x:=x) (l:=y::l) (e2.2 hx)]
    by_cases hy:∃ z∈l,R z y
    ·rw[aZ (x:=y) (l:=x::l) (e1.2 hy),aZ hx,aZ hy]
    ·rw[aP (x:=y) (l:=x::l) (fun h=>hy (e1.1 h)),aZ hx,aP hy]
   ·rw[aP (x:=x) (l:=y::l) (fun h=>hx (e2.1 h))]
    by_cases hy:∃ z∈l,R z y
    ·rw[aZ (x:=y) (l:=x::l) (e1.2 hy),aP hx,aZ hy]
    ·rw[aP (x:=y) (l:=x::l) (fun h=>hy (e1.1 h)),aP hx,aP hy]
 |trans _ _ h1 h2=>exact h1.trans h2
def Mg(R:Int→Int→Prop)(a b x y:Int):Prop:=R x y∨(R x a∧R b y)∨(R x b∧R a y)
theorem Mg.eqv{R:Int→Int→Prop}(hR:Eqv R)(a b:Int):Eqv (Mg R a b):=by
 refine⟨fun x=>.inl (hR.refl x),?_,?_⟩
 ·rintro x y (h|⟨h1,h2⟩|⟨h1,h2⟩)
  ·exact .inl (hR.symm h)
  ·exact .inr (.inr ⟨hR.symm h2,hR.symm h1⟩)
  ·exact .inr (.inl ⟨hR.symm h2,hR.symm h1⟩)
 ·rintro x y z (h|⟨h1,h2⟩|⟨h1,h2⟩) (k|⟨k1,k2⟩|⟨k1,k2⟩)
  ·exact .inl (hR.trans h k)
  ·exact .inr (.inl ⟨hR.trans h k1,k2⟩)
  ·exact .inr (.inr ⟨hR.trans h k1,k2⟩)
  ·exact .inr (.inl ⟨h1,hR.trans h2 k⟩)
  ·exact .inr (.inl ⟨h1,k2⟩)
  ·exact .inl (hR.trans h1 k2)
  ·exact .inr (.inr ⟨h1,hR.trans h2 k⟩)
  ·exact .inl (hR.trans h1 k2)
  ·exact .inr (.inr ⟨h1,k2⟩)
theorem Mg.same{R:Int→Int→Prop}(hR:Eqv R){a b:Int}(h:R a b)(x y:Int):Mg R a b x y↔R x y:=by
 constructor
 ·rintro(k|⟨k1,k2⟩|⟨k1,k2⟩)
  ·exact k
  ·exact hR.trans (hR.trans k1 h) k2
  ·exact hR.trans (hR.trans k1 (hR.symm h)) k2
 ·exact .inl
theorem Mg.le{R S:Int→Int→Prop}(hS:Eqv S){a b:Int}(hab:S a b)(h:∀ x y,R x y→S x y){x y:Int}(k:Mg R a b x y):S x y:=by
 rcases k with k|⟨k1,k2⟩|⟨k1,k2⟩
 ·exact h _ _ k
 ·exact hS.trans (hS.trans (h _ _ k1) hab) (h _ _ k2)
 ·exact hS.trans (hS.trans (h _ _ k1) (hS.symm hab)) (h _ _ k2)
theorem aFc{R:Int→Int→Prop}(hR:Eqv R){a b:Int}(hab:¬R a b){l:List Int}(ha:a∈l)(hb:b∈l):ncl R l=ncl (Mg R a b) l+1:=by
 have hne:b≠a:=by rintro rfl;exact hab (hR.refl _)
 have key:∀ rest:List Int,ncl R (rest++[a,b])=ncl (Mg R a b) (rest++[a,b])+1:=by
  intro rest
  induction rest with
  |nil=>
   have h1:ncl R [a,b]=2:=by
    rw[aP,aP]
    ·rfl
    ·rintro⟨y,hy,_⟩;cases hy
    ·rintro⟨y,hy,hr⟩
     rw[List.mem_singleton]at hy
     subst hy
     exact hab (hR.symm hr)
   have h2:ncl (Mg R a b) [a,b]=1:=by
    rw[aZ,aP]
    ·rfl
    ·rintro⟨y,hy,_⟩;cases hy
    ·exact⟨b,sS,.inr (.inr ⟨hR.refl _,hR.refl _⟩)⟩
   rw[List.nil_append,h1,h2]
  |cons x rest ih=>
   rw[List.cons_append]
   have haL:a∈rest++[a,b]:=sS
   have hbL:b∈rest++[a,b]:=sS
   by_cases hx:∃ y∈rest++[a,b],R y x
   ·rw[aZ hx,aZ,ih]
    obtain⟨y,hy,hr⟩:=hx
    exact⟨y,hy,.inl hr⟩
   ·rw[aP hx,aP,ih]
    rintro⟨y,hy,hr|⟨_,hr⟩|⟨_,hr⟩⟩
    ·exact hx ⟨y,hy,hr⟩
    ·exact hx ⟨b,hbL,hr⟩
    ·exact hx ⟨a,haL,hr⟩
 have p1:l.Perm (a::l.erase a):=List.perm_cons_erase ha
 have p2:(l.erase a).Perm (b::(l.erase a).erase b):=List.perm_cons_erase ((List.mem_erase_of_ne hne).2 hb)
 have p3:l.Perm (((l.erase a).erase b)++[a,b]):=(p1.trans (p2.cons a)).trans (List.perm_append_comm (l₁:=[a,b]))
 rw[lX hR p3,lX (Mg.eqv hR a b) p3]
 exact key _
theorem aHY{R:Int→Int→Prop}{t l:List Int}(ht:∀ x∈t,∀ y∈t,R x y)(hl:∀ x∈t,∀ y∈l,¬R y x):ncl R (t++l)=ncl R l+if t=[]then 0 else 1:=by
 induction t with
 |nil=>simp
 |cons x t ih=>
  have ih':=ih (fun a ha b hb=>ht a (List.mem_cons_of_mem _ ha) b (List.mem_cons_of_mem _ hb)) (fun a ha=>hl a (List.mem_cons_of_mem _ ha))
  rw[List.cons_append,if_neg sS]
  cases t with
  |nil=>
   rw[List.nil_append,aP]
   rintro⟨y,hy,hr⟩
   exact hl x List.mem_cons_self y hy hr
  |cons z t=>
   rw[aZ ⟨z,sS,ht z sS x sS⟩,ih',if_neg sS]
theorem aDM{R:Int→Int→Prop}:∀(ts:List (List Int)),(∀ t∈ts,∀ x∈t,∀ y∈t,R x y)→ts.Pairwise (fun t t'=>∀ x∈t,∀ y∈t',¬R y x)→ncl R ts.flatten=(ts.filter fun t=>decide (t≠[])).length
 |[],_,_=>rfl
 |t::ts,h1,h2=>by
  rw[List.pairwise_cons]at h2
  rw[List.flatten_cons,aHY (h1 t List.mem_cons_self),aDM ts (fun t ht=>h1 t (List.mem_cons_of_mem _ ht)) h2.2]
  ·by_cases ht:t=[]
   ·simp[ht]
   ·simp[ht]
  ·intro x hx y hy
   obtain⟨t',ht',hy'⟩:=List.mem_flatten.1 hy
   exact h2.1 t' ht' x hx y hy'
def sw(a b x:Int):Int:=if x=a then b else if x=b then a else x
theorem aHo(a b:Int):sw a b a=b:=by simp[sw]
theorem aLD(a b:Int):sw a b b=a:=by
 unfold sw
 by_cases h:b=a<;>simp[h]
theorem aId{a b x:Int}(h1:x≠a)(h2:x≠b):sw a b x=x:=by simp[sw,h1,h2]
theorem aPn(a b x:Int):sw a b (sw a b x)=x:=by
 by_cases h1:x=a
 ·subst h1;rw[aHo,aLD]
 ·by_cases h2:x=b
  ·subst h2;rw[aLD,aHo]
  ·rw[aId h1 h2,aId h1 h2]
theorem least{P:Nat→Prop}{n:Nat}(h:P n):∃ m,P m∧∀ k,k<m→¬P k:=by
 induction n using Nat.strongRecOn with
 |ind n ih=>
  by_cases hk:∃ k,k<n∧P k
  ·obtain⟨k,h1,h2⟩:=hk
   exact ih k h1 h2
  ·exact⟨n,h,fun k h1 h2=>hk ⟨k,h1,h2⟩⟩
section
variable {f f':Int→Int} {a b:Int}
theorem aGz(hf':∀ x,f' x=f (sw a b x))(hab:a≠b)(h:Orb f b a):¬Orb f' a b:=by
 obtain⟨n0,h0⟩:=h
 obtain⟨n,hn,hmin⟩:=least (P:=fun n=>it f n b=a) h0
 have hn0:n≠0:=by rintro rfl;exact hab hn.symm
 have hbb:∀ i,0<i→i≤n→it f i b≠b:=by
  intro i hi hin hb
  have:n=(n-i)+i:=oO
  rw[this,oH,hb]at hn
  exact hmin (n-i) oO hn
 have hcl:∀ x,(∃ i,0<i∧i≤n∧x=it f i b)→∃ i,0<i∧i≤n∧f' x=it f i b:=by
  rintro x ⟨i,hi,hin,rfl⟩
  rcases Nat.lt_or_ge i n with h1|h1
  ·refine⟨i+1,oO,oO,?_⟩
   rw[hf',aId (hmin i h1) (hbb i hi hin),dZ]
  ·obtain rfl:i=n:=oO
   exact⟨1,oO,oO,by rw[hf',hn,aHo];rfl⟩
 rintro⟨k,hk⟩
 have hall:∀ k,∃ i,0<i∧i≤n∧it f' k a=it f i b:=by
  intro k
  induction k with
  |zero=>exact⟨n,oO,Nat.le_refl _,hn.symm⟩
  |succ k ih=>rw[dZ];exact hcl _ ih
 obtain⟨i,h1,h2,h3⟩:=hall k
 rw[hk]at h3
 exact hbb i h1 h2 h3.symm
theorem aKK(hf:Per f)(hf':∀ x,f' x=f (sw a b x))(h:¬Orb f b a):Orb f' a b:=by
 obtain⟨p,hp,h0⟩:=hf b
 obtain⟨n,⟨hn0,hn⟩,hmin⟩:=least (P:=fun n=>0<n∧it f n b=b) ⟨hp,h0⟩
 have key:∀ k,0<k→k≤n→it f' k a=it f k b:=by
  intro k
  induction k with
  |zero=>intro h;omega
  |succ k ih=>
   intro _ hk
   rcases Nat.eq_zero_or_pos k with rfl|h0
   ·show f' a=f b
    rw[hf',aHo]
   ·rw[dZ,ih h0 oO,hf',aId (fun e=>h ⟨k,e⟩) (fun e=>hmin k oO ⟨h0,e⟩),dZ f k b]
 exact⟨n,by rw[key n hn0 (Nat.le_refl _),hn]⟩
theorem aNo(hf:Per f)(hf':∀ x,f' x=f (sw a b x)){x y:Int}(h:Orb f' x y):Mg (Orb f) a b x y:=by
 have hE:=Mg.eqv hf.eqv a b
 obtain⟨n,rfl⟩:=h
 induction n generalizing x with
 |zero=>exact hE.refl _
 |succ n ih=>
  refine hE.trans ?_ (ih (x:=f' x))
  rw[hf']
  by_cases h1:x=a
  ·subst h1
   rw[aHo]
   exact .inr (.inl ⟨Orb.refl _ _,Orb.step _ _⟩)
  ·by_cases h2:x=b
   ·subst h2
    rw[aLD]
    exact .inr (.inr ⟨Orb.refl _ _,Orb.step _ _⟩)
   ·rw[aId h1 h2]
    exact .inl (Orb.step _ _)
theorem aFD(hf:Per f)(hp':Per f')(hf':∀ x,f' x=f (sw a b x))(x y:Int):Mg (Orb f) a b x y↔Mg (Orb f') a b x y:=by
 have hb:∀ x,f x=f' (sw a b x):=fun x=>by rw[hf',aPn]
 constructor
 ·exact Mg.le (Mg.eqv hp'.eqv a b) (.inr (.inl ⟨Orb.refl _ _,Orb.refl _ _⟩)) fun x y h=>aNo hp' hb h
 ·exact Mg.le (Mg.eqv hf.eqv a b) (.inr (.inl ⟨Orb.refl _ _,Orb.refl _ _⟩)) fun x y h=>aNo hf hf' h
theorem aHW{D:List Int}(hf:Per f)(hp':Per f')(hf':∀ x,f' x=f (sw a b x))(hab:a≠b)(ha:a∈D)(hb:b∈D)(h:Orb f a b):ncl (Orb f') D=ncl (Orb f) D+1:=by
 rw[aFc hp'.eqv (aGz hf' hab (Orb.symm hf h)) ha hb]
 congr 1
 refine kB fun x _ y _=>?_
 rw[← aFD hf hp' hf',Mg.same hf.eqv h]
theorem aKC{D:List Int}(hf:Per f)(hp':Per f')(hf':∀ x,f' x=f (sw a b x))(ha:a∈D)(hb:b∈D)(h:¬Orb f a b):ncl (Orb f) D=ncl (Orb f') D+1:=by
 have h':Orb f' a b:=aKK hf hf' fun k=>h (Orb.symm hf k)
 rw[aFc hf.eqv h ha hb]
 congr 1
 refine kB fun x _ y _=>?_
 rw[aFD hf hp' hf',Mg.same hp'.eqv h']
end
def fP(f:Int→Int)(d:Int)(L:List Int):Prop:=∃ p,0<p∧L=(List.range p).map (fun k=>it f k d)∧it f p d=d∧∀ q,0<q→q<p→it f q d≠d
theorem aDs{f:Int→Int}(hf:Per f)(d:Int):∃ L,fP f d L:=by
 obtain⟨p,hp,h0⟩:=hf d
 obtain⟨n,⟨hn0,hn⟩,hmin⟩:=least (P:=fun n=>0<n∧it f n d=d) ⟨hp,h0⟩
 exact⟨_,n,hn0,rfl,hn,fun q h1 h2 h3=>hmin q h2 ⟨h1,h3⟩⟩
theorem aNQ{f:Int→Int}{d:Int}{p:Nat}(hp:0<p)(h:it f p d=d)(n:Nat):it f n d=it f (n % p) d:=by
 have h1:n=n % p+n / p*p:=by have:=Nat.mod_add_div n p;rw[Nat.mul_comm]at this;omega
 conv=>lhs;rw[h1,oH,aNE h]
theorem fP.mem{f:Int→Int}{d:Int}{L:List Int}(h:fP f d L){x:Int}:x∈L↔Orb f d x:=by
 obtain⟨p,hp,rfl,h1,h2⟩:=h
 rw[List.mem_map]
 constructor
 ·rintro⟨k,_,rfl⟩;exact⟨k,rfl⟩
 ·rintro⟨n,rfl⟩
  exact⟨n % p,List.mem_range.2 (Nat.mod_lt _ hp),(aNQ hp h1 n).symm⟩
theorem fP.nodup{f:Int→Int}(hi:∀ x y,f x=f y→x=y){d:Int}{L:List Int}(h:fP f d L):L.Nodup:=by
 obtain⟨p,hp,rfl,h1,h2⟩:=h
 unfold List.Nodup
 rw[List.pairwise_map]
 refine(List.pairwise_lt_range (n:=p)).imp_of_mem fun {i j} hi' hj hij h=>?_
 rw[List.mem_range]at hi' hj
 have e:j=i+(j-i):=oO
 rw[e,oH]at h
 exact h2 (j-i) oO oO (aEM hi i h).symm
theorem fP.ne{f:Int→Int}{d:Int}{L:List Int}(h:fP f d L):L≠[]:=by
 obtain⟨p,hp,rfl,h1,h2⟩:=h
 intro h
 have:=congrArg List.length h
 simp at this
 omega
end Go.Proofs.YtempldclppogmaaGreatDoor.Eu
namespace Go.Proofs.YtempldclppogmaaGreatDoor.Pl
def sw(c:List Int)(a b:Nat):List Int:=(c.set a (c.getD b 0)).set b (c.getD a 0)
theorem aAq(c:List Int)(a b:Nat):(sw c a b).length=c.length:=by simp[sw]
theorem cK(c:List Int)(a b j:Nat)(ha:a<c.length)(hb:b<c.length):(sw c a b).getD j 0=if j=b then c.getD a 0 else if j=a then c.getD b 0 else c.getD j 0:=by
 unfold sw
 simp only[List.getD_eq_getElem?_getD,List.getElem?_set]
 by_cases h1:b=j
 ·subst h1;simp[hb]
 ·by_cases h2:a=j
  ·subst h2;simp[h1,ha,Ne.symm h1]
  ·simp[h1,h2,Ne.symm h1,Ne.symm h2]
theorem aLn(c:List Int)(a b:Nat)(ha:a<c.length)(hb:b<c.length):(sw c a b).Perm c:=by
 unfold sw
 have h:=List.set_set_perm ha hb
 simp only[List.getD_eq_getElem?_getD,List.getElem?_eq_getElem ha,List.getElem?_eq_getElem hb,Option.getD_some]
 exact h
inductive Pm(a b:Nat)(l:List Int):List Int→Prop
 |refl:Pm a b l l
 |step {m:List Int} (h:Pm a b l m) (x y:Nat) (hx:a≤x) (hx':x<b) (hy:a≤y) (hy':y<b) (hb:b≤l.length):Pm a b l (sw m x y)
theorem Pm.len{a b:Nat}{l m:List Int}(h:Pm a b l m):m.length=l.length:=by
 induction h with
 |refl=>rfl
 |step h x y _ _ _ _ _ ih=>rw[aAq];exact ih
theorem Pm.out{a b:Nat}{l m:List Int}(h:Pm a b l m)(j:Nat)(hj:j<a∨b≤j):m.getD j 0=l.getD j 0:=by
 induction h with
 |refl=>rfl
 |step h x y h1 h2 h3 h4 h5 ih=>
  have:=h.len
  rw[cK _ _ _ _ oO oO,if_neg oO,if_neg oO];exact ih
theorem Pm.trans{a b:Nat}{l m n:List Int}(h:Pm a b l m)(k:Pm a b m n):Pm a b l n:=by
 induction k with
 |refl=>exact h
 |step k x y h1 h2 h3 h4 h5 ih=>have:=h.len;exact ih.step x y h1 h2 h3 h4 oO
theorem Pm.wide{a b a' b':Nat}{l m:List Int}(h:Pm a b l m)(ha:a'≤a)(hb:b≤b')(hl:b'≤l.length):Pm a' b' l m:=by
 induction h with
 |refl=>exact .refl
 |step k x y h1 h2 h3 h4 h5 ih=>exact ih.step x y oO oO oO oO hl
theorem Pm.perm{a b:Nat}{l m:List Int}(h:Pm a b l m):m.Perm l:=by
 induction h with
 |refl=>exact .refl _
 |step k x y h1 h2 h3 h4 h5 ih=>have:=k.len;exact(aLn _ _ _ oO oO).trans ih
theorem Pm.all{a b:Nat}{l m:List Int}(h:Pm a b l m)(P:Int→Prop)(hP:∀ j,a≤j→j<b→P (l.getD j 0))(j:Nat)(h1:a≤j)(h2:j<b):P (m.getD j 0):=by
 induction h generalizing j with
 |refl=>exact hP j h1 h2
 |step k x y g1 g2 g3 g4 g5 ih=>
  have:=k.len
  rw[cK _ _ _ _ oO oO]
  by_cases e1:j=y
  ·rw[if_pos e1];exact ih x g1 g2
  ·rw[if_neg e1]
   by_cases e2:j=x
   ·rw[if_pos e2];exact ih y g3 g4
   ·rw[if_neg e2];exact ih j h1 h2
theorem Pm.one{a b:Nat}{l:List Int}(x y:Nat)(hx:a≤x)(hx':x<b)(hy:a≤y)(hy':y<b)(hb:b≤l.length):Pm a b l (sw l x y):=Pm.refl.step x y hx hx' hy hy' hb
def Srt(a b:Nat)(l:List Int):Prop:=∀ p q,a≤p→p<q→q<b→l.getD p 0≤l.getD q 0
def Ins(a j i:Nat)(d:List Int):Prop:=∀ p q,a≤p→p<q→q≤i→q≠j→d.getD p 0≤d.getD q 0
theorem Srt.ins{a i:Nat}{d:List Int}(h:Srt a i d):Ins a i i d:=fun p q h1 h2 h3 h4=>h p q h1 h2 oO
theorem Ins.step{a j i:Nat}{d:List Int}(h:Ins a j i d)(hj:a<j)(hi:j≤i)(hil:i<d.length)(hlt:d.getD j 0<d.getD (j-1) 0):Ins a (j-1) i (sw d j (j-1)):=by
 intro p q h1 h2 h3 h4
 rw[cK _ _ _ _ oO oO,cK _ _ _ _ oO oO]
 by_cases e1:q=j
 ·rw[if_neg h4,if_pos e1]
  by_cases e2:p=j-1
  ·rw[if_pos e2];omega
  ·rw[if_neg e2,if_neg oO];exact h p (j-1) h1 oO oO oO
 ·rw[if_neg h4,if_neg e1]
  by_cases e2:p=j-1
  ·rw[if_pos e2];exact h j q oO oO h3 e1
  ·rw[if_neg e2]
   by_cases e3:p=j
   ·rw[if_pos e3];exact h (j-1) q oO oO h3 e1
   ·rw[if_neg e3];exact h p q h1 h2 h3 e1
theorem Ins.done{a j i:Nat}{d:List Int}(h:Ins a j i d)(hj:a≤j)(hs:j=a∨¬d.getD j 0<d.getD (j-1) 0):Srt a (i+1) d:=by
 intro p q h1 h2 h3
 by_cases e:q=j
 ·subst e
  have h5:¬d.getD q 0<d.getD (q-1) 0:=by rcases hs with hs|hs;omega;exact hs
  by_cases e2:p=q-1
  ·subst e2;omega
  ·have:=h p (q-1) h1 oO oO oO;omega
 ·exact h p q h1 h2 oO e
def pN(lo hi f:Nat)(d:List Int):Prop:=∀ k c,lo≤k→(c=2*k+1∨c=2*k+2)→c<hi→d.getD (f+c) 0≤d.getD (f+k) 0
def pD(lo hi f r:Nat)(d:List Int):Prop:=(∀ k c,lo≤k→k≠r→(c=2*k+1∨c=2*k+2)→c<hi→d.getD (f+c) 0≤d.getD (f+k) 0)∧
 (∀ k c,lo≤k→(r=2*k+1∨r=2*k+2)→(c=2*r+1∨c=2*r+2)→c<hi→d.getD (f+c) 0≤d.getD (f+k) 0)
theorem pN.x{lo hi f:Nat}{d:List Int}(h:pN (lo+1) hi f d):pD lo hi f lo d:=
 ⟨fun k c h1 h2 h3 h4=>h k c oO h3 h4,fun k c h1 h2 h3 h4=>by omega⟩
theorem pD.leaf{lo hi f r:Nat}{d:List Int}(h:pD lo hi f r d)(hr:hi≤2*r+1):pN lo hi f d:=by
 intro k c h1 h2 h3
 exact h.1 k c h1 oO h2 h3
theorem pD.big{lo hi f r:Nat}{d:List Int}(h:pD lo hi f r d)(hr:∀ c,(c=2*r+1∨c=2*r+2)→c<hi→d.getD (f+c) 0≤d.getD (f+r) 0):pN lo hi f d:=by
 intro k c h1 h2 h3
 by_cases e:k=r
 ·subst e;exact hr c h2 h3
 ·exact h.1 k c h1 e h2 h3
theorem pD.step{lo hi f r c:Nat}{d:List Int}(h:pD lo hi f r d)(hlo:lo≤r)(hc:c=2*r+1∨c=2*r+2)(hci:c<hi)(hl:f+hi≤d.length)(hm:∀ x,(x=2*r+1∨x=2*r+2)→x<hi→d.getD (f+x) 0≤d.getD (f+c) 0)
 (hlt:d.getD (f+r) 0<d.getD (f+c) 0):pD lo hi f c (sw d (f+r) (f+c)):=by
 constructor
 ·intro k x h1 h2 h3 h4
  rw[cK _ _ _ _ oO oO,cK _ _ _ _ oO oO]
  by_cases e1:k=r
  ·subst e1
   rw[if_neg (show ¬f+k=f+c by omega),if_pos (rfl:f+k=f+k)]
   by_cases e2:x=c
   ·rw[if_pos oO];omega
   ·rw[if_neg oO,if_neg oO];exact hm x h3 h4
  ·rw[if_neg (show ¬f+k=f+c by omega),if_neg (show ¬f+k=f+r by omega)]
   by_cases e2:x=r
   ·subst e2
    rw[if_neg oO,if_pos (rfl:f+x=f+x)];exact h.2 k c h1 h3 hc hci
   ·rw[if_neg oO,if_neg oO];exact h.1 k x h1 e1 h3 h4
 ·intro k x h1 h2 h3 h4
  have e1:k=r:=oO
  subst e1
  rw[cK _ _ _ _ oO oO,cK _ _ _ _ oO oO]
  rw[if_neg oO,if_neg oO,if_neg (show ¬f+k=f+c by omega),if_pos (rfl:f+k=f+k)]
  exact h.1 c x oO oO h3 h4
theorem pN.top{hi f:Nat}{d:List Int}(h:pN 0 hi f d):∀ c,c<hi→d.getD (f+c) 0≤d.getD f 0:=by
 intro c
 induction c using Nat.strongRecOn with
 |ind c ih=>
  intro hc
  by_cases h0:c=0
  ·subst h0;simp
  ·have h1:=h ((c-1) / 2) c oO oO hc
   have h2:=ih ((c-1) / 2) oO oO
   omega
theorem pN.pop{j f:Nat}{c:List Int}(h:pN 0 (j+1) f c)(hl:f+j<c.length):pN 1 j f (sw c f (f+j)):=by
 intro k x h1 h2 h3
 rw[cK _ _ _ _ oO oO,cK _ _ _ _ oO oO]
 rw[if_neg oO,if_neg oO,if_neg oO,if_neg oO]
 exact h k x oO h2 oO
theorem aHk{hi f j:Nat}{c c2:List Int}(hH:pN 0 (j+1) f c)(ho:∀ p q,p<q→j+1≤q→q<hi→c.getD (f+p) 0≤c.getD (f+q) 0)(hj:j<hi)(hl:f+hi≤c.length)(hp:Pm f (f+j) (sw c f (f+j)) c2):
 ∀ p q,p<q→j≤q→q<hi→c2.getD (f+p) 0≤c2.getD (f+q) 0:=by
 intro p q h1 h2 h3
 have g:=fun x=>cK c f (f+j) x oO oO
 rw[hp.out (f+q) oO,g (f+q)]
 by_cases e:q=j
 ·subst e
  rw[if_pos rfl]
  refine hp.all (fun x=>x≤c.getD f 0) (fun x h4 h5=>?_) (f+p) oO oO
  rw[g,if_neg oO]
  by_cases e2:x=f
  ·rw[if_pos e2];exact hH.top q oO
  ·rw[if_neg e2]
   have:=hH.top (x-f) oO
   rwa [show f+(x-f)=x by omega]at this
 ·rw[if_neg oO,if_neg oO]
  by_cases e2:p<j
  ·refine hp.all (fun x=>x≤c.getD (f+q) 0) (fun x h4 h5=>?_) (f+p) oO oO
   rw[g,if_neg oO]
   by_cases e3:x=f
   ·rw[if_pos e3];exact ho j q oO oO h3
   ·rw[if_neg e3]
    have:=ho (x-f) q oO oO h3
    rwa [show f+(x-f)=x by omega]at this
  ·rw[hp.out (f+p) oO,g]
   by_cases e3:p=j
   ·rw[if_pos oO]
    have:=ho 0 q oO oO h3
    rwa [Nat.add_zero]at this
   ·rw[if_neg oO,if_neg oO];exact ho p q h1 oO h3
theorem aJe{a m b:Nat}{d:List Int}(h1:Srt a m d)(h2:Srt (m+1) b d)(h3:∀ p,a≤p→p<m→d.getD p 0≤d.getD m 0)(h4:∀ q,m<q→q<b→d.getD m 0≤d.getD q 0):Srt a b d:=by
 intro p q k1 k2 k3
 rcases Nat.lt_trichotomy p m with e|e|e
 ·rcases Nat.lt_trichotomy q m with e'|e'|e'
  ·exact h1 p q k1 k2 e'
  ·subst e';exact h3 p k1 e
  ·have:=h3 p k1 e;have:=h4 q e' k3;omega
 ·subst e;exact h4 q k2 k3
 ·exact h2 p q oO k2 k3
def Lo(P:Int→Bool)(c:List Int)(a m:Nat):Prop:=∀ p,a<p→p<m→P (c.getD p 0)=true
def Hi(P:Int→Bool)(c:List Int)(m b:Nat):Prop:=∀ p,m<p→p<b→P (c.getD p 0)=false
theorem Lo.more{P:Int→Bool}{c:List Int}{a m:Nat}(h:Lo P c a m)(hm:P (c.getD m 0)=true):Lo P c a (m+1):=by
 intro p h1 h2
 by_cases e:p=m
 ·rw[e];exact hm
 ·exact h p h1 oO
theorem Hi.more{P:Int→Bool}{c:List Int}{m b:Nat}(h:Hi P c m b)(h0:0<m)(hm:P (c.getD m 0)=false):Hi P c (m-1) b:=by
 intro p h1 h2
 by_cases e:p=m
 ·rw[e];exact hm
 ·exact h p oO h2
theorem Lo.swp{P:Int→Bool}{c:List Int}{a k m:Nat}(h:Lo P c a k)(hkm:k<m)(hm:m<c.length)(hp:P (c.getD m 0)=true):Lo P (sw c k m) a (k+1):=by
 intro p h1 h2
 rw[cK _ _ _ _ oO oO,if_neg oO]
 by_cases e:p=k
 ·rw[if_pos e];exact hp
 ·rw[if_neg e];exact h p h1 oO
theorem Hi.swp{P:Int→Bool}{c:List Int}{k m b:Nat}(h:Hi P c m b)(hkm:k<m)(hm:m<c.length)(hp:P (c.getD k 0)=false):Hi P (sw c k m) (m-1) b:=by
 intro p h1 h2
 rw[cK _ _ _ _ oO oO]
 by_cases e:p=m
 ·rw[if_pos e];exact hp
 ·rw[if_neg e,if_neg oO];exact h p oO h2
def aJm(P:Int→Bool)(c:List Int)(a m b:Nat):Prop:=(∀ p,a≤p→p<m→P (c.getD p 0)=true)∧(∀ p,m<p→p<b→P (c.getD p 0)=false)
def aDN(c:List Int)(a m b:Nat)(x:Int):Prop:=(∀ p,a≤p→p<m→c.getD p 0≤x)∧(∀ p,m≤p→p<b→x<c.getD p 0)
def cN(c:List Int)(a m b:Nat):Prop:=aJm (fun v=>decide (v<c.getD m 0)) c a m b
theorem sW{P:Int→Bool}{c:List Int}{a m b:Nat}(h1:Lo P c a (m+1))(h2:Hi P c m b)(ham:a≤m)(hmb:m<b)(hb:b≤c.length):aJm P (sw c m a) a m b∧(sw c m a).getD m 0=c.getD a 0:=by
 refine⟨⟨fun p k1 k2=>?_,fun p k1 k2=>?_⟩,?_⟩
 ·rw[cK _ _ _ _ oO oO]
  by_cases e:p=a
  ·rw[if_pos e];exact h1 m oO oO
  ·rw[if_neg e,if_neg oO];exact h1 p oO oO
 ·rw[cK _ _ _ _ oO oO,if_neg oO,if_neg oO];exact h2 p k1 k2
 ·rw[cK _ _ _ _ oO oO]
  by_cases e:m=a
  ·rw[if_pos e,e]
  ·rw[if_neg e,if_pos rfl]
theorem yE{l:List Int}(h:Srt 0 l.length l):l.Pairwise (·≤·):=by
 refine List.pairwise_iff_getElem.2 fun p q hp hq hpq=>?_
 have:=h p q oO hpq hq
 rwa [List.getD_eq_getElem?_getD,List.getD_eq_getElem?_getD,List.getElem?_eq_getElem hp,List.getElem?_eq_getElem hq]at this
theorem oL{l m:List Int}(h:l.Pairwise (·≤·))(k:m.Pairwise (·≤·))(hp:l.Perm m):l=m:=
 hp.eq_of_pairwise (fun a b _ _ h1 h2=>by omega) h k
end Go.Proofs.YtempldclppogmaaGreatDoor.Pl
namespace Go.Proofs.YtempldclppogmaaGreatDoor.Rg
open Go Go.RowKit Go.Shelf
attribute [local go_sem] Oper.semAt_some
def upto(zs:List Int)(k:Nat):List Int:=(List.range k).map fun j=>zs[j]?.getD 0
theorem aAc(zs:List Int)(k:Nat):upto zs (k+1)=upto zs k++[zs[k]?.getD 0]:=by simp[upto,List.range_succ]
theorem aCt(zs:List Int)(k:Nat):(upto zs k).length=k:=by simp[upto]
theorem aKj(zs:List Int):upto zs zs.length=zs:=by
 apply List.ext_getElem
 ·simp[upto]
 ·intro i h1 h2
  simp[upto,h2]
set_option maxRecDepth 100000 in
set_option maxHeartbeats 2000000 in
theorem aEm(F:Fence)(n:Nat)(h7:F.fn 140)(hro:F.round=none)(hn:1≤n)(l Bs n₀ b off len cap:Nat)(zs:List Int)(hlen:len≤1048576)(hb:b<n₀)(J Jx:List Int→World→Prop)
 (hY:∀ pre x W,J pre W→pre.length<len→YieldAt F (n-1) Tryz.prog l #[.int .u32 x] W fun e W'=>
   (e=.returned (.bool true)∧J (pre++[x]) W'∧Below n₀ W W')∨(e=.returned (.bool false)∧Jx (pre++[x]) W'))
 (W:World) (hBs:W.cell? ⟨Bs,0,none⟩=some (.slice (some ⟨b,off,none⟩) len cap)) (hc:∀ j,j<len→W.cell? ⟨b,off+j,none⟩=some (.int .u32 (zs[j]?.getD 0))) (h0:J [] W):
 CallsIn F n Tryz.prog 140 #[.func (.yield l) #[] #[],.pointer (some ⟨Bs,0,none⟩)] W fun e W'=>(∃ v,e=.returned v)∧
  ((∃ ys,ys=upto zs len∧J ys W')∨(∃ pre,(∃ k,k≤len∧pre=upto zs k)∧Jx pre W')):=by
 refine callsIn_of_wp Tryz.func140 rfl h7 ?_ hro
 simp only[Tryz.ntmps140,List.size_toArray,List.length_cons,List.length_nil,Nat.reduceAdd,Nat.reduceSub,Array.replicate_succ,Array.replicate_zero,List.push_toArray,List.append_toArray,List.nil_append,List.cons_append]
 gi_wp2
 gi_loopw [7] (fun i wr=>∃ k:Nat,k≤len∧i=.int .i64 k∧J (upto zs k) wr∧Below n₀ W wr)
  (fun i _=>len-(intOf i).toNat)
 case atStart=>exact⟨0,Nat.zero_le _,rfl,h0,Below.refl _ _⟩
 case round=>
  obtain⟨k,hk,rfl,hJs,hnx⟩:=hrel
  have hcx:k<len→wr.cell? ⟨b,off+k,none⟩=some (.int .u32 (zs[k]?.getD 0)):=fun h=>(hnx.cell (p:=⟨b,off+k,none⟩) hb).trans (hc k h)
  by_cases hlt:k<len
  ·obtain⟨fn,tmps,assign,body,hy,hR⟩:=hY _ (zs[k]?.getD 0) wr hJs (by rw[aCt];exact hlt)
   have hcx':=hcx hlt
   gi_wp2
   refine hR.mono ?_
   rintro e W3 (⟨rfl,hJ3,hk3⟩|⟨rfl,hJx3⟩)
   ·gi_wp2
    go_roundw
    case rel=>exact⟨k+1,oO,sS,by rw[aAc];exact hJ3,hnx.trans hk3⟩
    case measure=>simp[intOf];omega
   ·gi_wp2
    refine bodyPost_ret (results_none rfl _ _ _) rfl ?_
    exact⟨⟨_,rfl⟩,.inr ⟨_,⟨k+1,oO,(aAc _ _).symm⟩,hJx3⟩⟩
  ·obtain rfl:k=len:=oO
   gi_wp2
   go_end0
   exact⟨⟨_,rfl⟩,.inl ⟨_,rfl,hJs⟩⟩
set_option maxRecDepth 100000 in
set_option maxHeartbeats 1000000 in
theorem wB(F:Fence)(n:Nat)(h7:F.fn 140)(hro:F.round=none)(l Bs:Nat)(J:List Int→World→Prop)(W:World)(A:Option Addr)(cap:Nat)(hBs:W.cell? ⟨Bs,0,none⟩=some (.slice A 0 cap))(h0:J [] W):
 CallsIn F n Tryz.prog 140 #[.func (.yield l) #[] #[],.pointer (some ⟨Bs,0,none⟩)] W fun e W'=>(∃ v,e=.returned v)∧J [] W':=by
 refine callsIn_of_wp Tryz.func140 rfl h7 ?_ hro
 simp only[Tryz.ntmps140,List.size_toArray,List.length_cons,List.length_nil,Nat.reduceAdd,Nat.reduceSub,Array.replicate_succ,Array.replicate_zero,List.push_toArray,List.append_toArray,List.nil_append,List.cons_append]
 gi_wp2
 gi_loopw [7] (fun i wr=>i=.int .i64 0∧J [] wr) (fun _ _=>0)
 case atStart=>exact⟨rfl,h0⟩
 case round=>
  obtain⟨rfl,hJs⟩:=hrel
  gi_wp2
  go_end0
  exact⟨⟨_,rfl⟩,hJs⟩
def aFh(n₀:Nat)(W:World)(sv:Value)(zs:List Int):Prop:=
 (zs=[]∧∃ A cap,sv=.slice A 0 cap)∨∃ b off cap,sv=.slice (some ⟨b,off,none⟩) zs.length cap∧b<n₀∧∀ j,j<zs.length→W.cell? ⟨b,off+j,none⟩=some (.int .u32 (zs[j]?.getD 0))
theorem aFh.below{n₀:Nat}{A B:World}(h:Below n₀ A B){sv:Value}{zs:List Int}:aFh n₀ A sv zs→aFh n₀ B sv zs
 |.inl e=>.inl e
 |.inr ⟨b,off,cap,e,hb,hc⟩=>.inr ⟨b,off,cap,e,hb,fun j hj=>(h.cell (p:=⟨b,off+j,none⟩) hb).trans (hc j hj)⟩
theorem aBr(F:Fence)(n:Nat)(h7:F.fn 140)(hro:F.round=none)(hn:1≤n)(Bs n₀:Nat)(sv:Value)(zs:List Int)(hlen:zs.length≤1048576)(w:World)(hBs:Bs<w.heap.size)(hn₀:n₀≤w.heap.size)
 (hc:w.cell? ⟨Bs,0,none⟩=some sv) (hI:aFh n₀ w sv zs):
 SeqStopsK F n Tryz.prog 140 #[.pointer (some ⟨Bs,0,none⟩)] (fun x:Int=>#[Value.int .u32 x]) (Below n₀) (fun ys=>ys=zs) (fun _=>True) zs.length w:=fun l J Jx W hW _ _ hY h0=>by
 have hc':=(hW.cell (p:=⟨Bs,0,none⟩) hBs).trans hc
 rcases hI.below (hW.mono hn₀)with⟨rfl,A,cap,rfl⟩|⟨b,off,cap,rfl,hb,hcs⟩
 ·exact(wB F n h7 hro l Bs J W A cap hc' h0).mono fun e W' ⟨he,hj⟩=>⟨he,.inl ⟨_,rfl,hj⟩⟩
 ·refine(aEm F n h7 hro hn l Bs n₀ b off zs.length cap zs hlen hb J Jx hY W hc' hcs h0).mono ?_
  rintro e W' ⟨he,⟨ys,rfl,hj⟩|⟨pre,⟨k,hk,rfl⟩,hj⟩⟩
  ·exact⟨he,.inl ⟨_,aKj zs,hj⟩⟩
  ·exact⟨he,.inr ⟨_,trivial,hj⟩⟩
theorem aJV:(Tryz.prog.info? 34).map (fun i=>(i.zero,i.size,i.bytes))=some (some (.int .u32 0),1,4):=by kernel_rfl
set_option maxRecDepth 100000 in
set_option maxHeartbeats 2000000 in
theorem aAP(F:Fence)(n:Nat)(h3:F.fn 121)(h7:F.fn 140)(hro:F.round=none)(hn:3≤n)(Bs:Nat)(sv:Value)(zs:List Int)(hlen:zs.length≤1048576)(w:World)(hBs:Bs<w.heap.size)
 (hc:w.cell? ⟨Bs,0,none⟩=some sv) (hI:aFh w.heap.size w sv zs):
 CallsIn F n Tryz.prog 121 #[.slice none 0 0,.func (.func 140) #[] #[.pointer (some ⟨Bs,0,none⟩)]] w fun e W'=>∃ v,e=.returned v∧W'.ownsRow w.heap.size 34 1 v zs.length (zs.map (Value.int .u32))∧Below w.heap.size w W':=by
 have h1:1≤n:=oO
 obtain⟨i0,hi,hz0,hz1,hz2⟩:=info_parts aJV
 refine callsIn_of_wp_marks Tryz.func121 rfl h3 ?_ hro
 simp only[Tryz.ntmps121,List.size_toArray,List.length_cons,List.length_nil,Nat.reduceAdd,Nat.reduceSub,Array.replicate_succ,Array.replicate_zero,List.push_toArray,List.append_toArray,List.nil_append,List.cons_append]
 gi_wp2
 have bO:=Boxed.new w 22 (.slice none 0 0)
 have hB0:Below w.heap.size w (w.alloc (.cells #[.slice none 0 0] 22)):=(Below.refl _ w).alloc (Nat.le_refl _) _
 refine wpIn_rangeFunc_ownG hro h1 (gf:=140) (lb:=#[.pointer (some ⟨Bs,0,none⟩)]) rfl h7 (enters_of Tryz.func140 (by kernel_rfl) rfl)
  (aBr F (n-1) h7 hro oO Bs w.heap.size sv zs hlen _ (by simp;omega) sS ((hB0.cell (p:=⟨Bs,0,none⟩) hBs).trans hc) (hI.below hB0)) belowK_t (belowK_b sS) (Below.refl _ _) (fun _=>rfl)
  (fun pre W=>(∃ v,Boxed W w.heap.size 22 v∧W.ownsRow w.heap.size 34 1 v pre.length (pre.map (Value.int .u32))∧True)∧Below w.heap.size w W)
  (fun _ _ _=>False)
  (OwnFrom.and (Own.from (holdsRow_own w.heap.size w.heap.size 22 34 1 (fun pre:List Int=>pre.length) (fun pre:List Int=>pre.map (Value.int .u32)) (fun _ _=>True)) _) (ownFrom_below (Nat.le_refl _) sS))
  (fun _ _ _ _ _ hs _ _=>hs)
  ⟨⟨_,bO,World.ownsRow_nil _ _ _ _,trivial⟩,hB0⟩
  (fun x=>{ tmps:=#[.slice none 0 0,.func (.func 140) #[] #[.pointer (some ⟨Bs,0,none⟩)],.pointer (some ⟨w.heap.size,0,none⟩),undef,.slice none 0 0,.int .u32 x,.func (.func 140) #[] #[.pointer (some ⟨Bs,0,none⟩)],.int .u32 x,undef,undef,undef,undef,undef],defers:=[] }) ?assign ?body ?done ?stop
 case assign=>
  intro l x W K hK
  gi_wp2
  exact hK
 case body=>
  rintro l pre x W ⟨⟨v,hv,hrow,_⟩,hB⟩ hlt
  have hc:=hv.cell
  gi_wp2_with (gi_at_builtin;refine wpListIn_append_own _ rfl _ _ 22 rfl w.heap.size 34 i0 (.int .u32 0) 1 4 Tryz.underlying22 hi hz0 hz1 hz2 rfl (by decide) _ _ _ rfl (hrow.alloc _) ⟨W.heap.size,0,none⟩ 1 1 [.int .u32 x] rfl rfl (cell_one_new _ _ _) (by simp[Value.oneCell']) (by simp only[maxLen];omega) oO (by have:=hB.size;simp;omega) ?_;intro v' w1 hown' hgrow _;obtain⟨g',cap',rfl⟩:=ownsRow_succ hown';obtain⟨hv1,hv2,hr2,hk2,hb2⟩:=hv.appended (by decide) hrow hB.size (Nat.le_refl _) hown' hgrow;have hc1:=hv1.cell;have hf1:=hv1.frozen)
  exact⟨hk2.from _,hb2,⟨_,hv2,by simpa using hr2,trivial⟩,hB.trans hb2⟩
 case done=>
  rintro D ys W hD rfl ⟨⟨v,hv,hrow,_⟩,hB⟩ hK
  have hc:=hv.cell
  gi_wp2
  refine⟨sS,.inl ⟨_,_,rfl,run_takeDeferred hK,?_⟩⟩
  exact⟨_,results_tmp rfl _ _ _,v,rfl,ownsRow_putObj hrow _ hK rfl,hB.trans (belowK_b (w:=w) (Nat.le_refl _) W D _ _ (by simp at hD;omega) hK rfl rfl)⟩
 case stop=>
  rintro D c pre W _ _ h _
  exact h.elim
set_option maxRecDepth 100000 in
set_option maxHeartbeats 1000000 in
theorem aDZ(F:Fence)(n:Nat)(h2:F.fn 78)(h3:F.fn 121)(h7:F.fn 140)(hro:F.round=none)(hn:4≤n)(Bs:Nat)(sv:Value)(zs:List Int)(hlen:zs.length≤1048576)(w:World)(hBs:Bs<w.heap.size)
 (hc:w.cell? ⟨Bs,0,none⟩=some sv) (hI:aFh w.heap.size w sv zs):
 CallsIn F n Tryz.prog 78 #[.func (.func 140) #[] #[.pointer (some ⟨Bs,0,none⟩)]] w fun e W'=>∃ v,e=.returned v∧W'.ownsRow w.heap.size 34 1 v zs.length (zs.map (Value.int .u32))∧Below w.heap.size w W':=by
 have h1:1≤n:=oO
 refine callsIn_of_wp Tryz.func78 rfl h2 ?_ hro
 simp only[Tryz.ntmps78,List.size_toArray,List.length_cons,List.length_nil,Nat.reduceAdd,Nat.reduceSub,Array.replicate_succ,Array.replicate_zero,List.push_toArray,List.append_toArray,List.nil_append,List.cons_append]
 gi_wp2_with (gi_at_call 121;refine(aAP F (n-1) h3 h7 hro oO Bs sv zs hlen _ hBs hc hI).mono ?_;rintro e w' ⟨v,rfl,hrow,hbel⟩)
 go_ret
 exact⟨v,rfl,hrow,hbel⟩
end Go.Proofs.YtempldclppogmaaGreatDoor.Rg
namespace Go.Proofs.YtempldclppogmaaGreatDoor.Aw
open Go Go.RowKit
def tw(d:Int):Int:=if d % 2=0 then d+1 else d-1
theorem wrap_u32(n:Int):IntKind.u32.wrap n=n % 4294967296:=by simp[IntKind.wrap,IntKind.signed,IntKind.bits]
theorem wrap_i64(n:Int)(h1 : -9223372036854775808≤n)(h2:n≤9223372036854775807):IntKind.i64.wrap n=n:=by
 simp only[IntKind.wrap,IntKind.signed,IntKind.bits]
 simp
 split<;>omega
theorem aMz(n:Nat):n ^^^ 1=if n % 2=0 then n+1 else n-1:=by
 have h:∀ a b:Nat,(∀ j,a.testBit j=b.testBit j)→a=b:=fun a b h=>Nat.eq_of_testBit_eq h
 split
 ·apply h;intro j
  cases j with
  |zero=>simp;omega
  |succ j=>rw[Nat.testBit_xor];simp[Nat.testBit_succ];congr 1;omega
 ·apply h;intro j
  cases j with
  |zero=>simp;omega
  |succ j=>rw[Nat.testBit_xor];simp[Nat.testBit_succ];congr 1;omega
theorem zI(d:Int)(h0:0≤d)(h1:d<4294967296):aEp .u32 d 1=tw d:=by
 unfold aEp IntKind.bits
 obtain⟨n,rfl⟩:=Int.eq_ofNat_of_zero_le h0
 have hn:n<4294967296:=oO
 rw[wrap_u32,BitVec.toNat_xor]
 have e1:(BitVec.ofInt 32 (n:Int)).toNat=n:=by rw[BitVec.ofInt_natCast,BitVec.toNat_ofNat];exact Nat.mod_eq_of_lt oO
 have e2:(BitVec.ofInt 32 1).toNat=1:=by decide
 rw[e1,e2,aMz]
 unfold tw
 split<;>split<;>omega
theorem aLZ(a:Int)(e:Int)(h0:0≤a)(h1:a<4294967296)(ha:a % 2=0)(he:e=0∨e=1):gor .u32 a e=a+e:=by
 unfold gor IntKind.bits
 obtain⟨n,rfl⟩:=Int.eq_ofNat_of_zero_le h0
 rw[wrap_u32,BitVec.toNat_or]
 have e1:(BitVec.ofInt 32 (n:Int)).toNat=n:=by rw[BitVec.ofInt_natCast,BitVec.toNat_ofNat];exact Nat.mod_eq_of_lt oO
 rw[e1]
 rcases he with rfl|rfl
 ·simp;omega
 ·have e2:(BitVec.ofInt 32 1).toNat=1:=by decide
  have:n ||| 1=n+1:=by
   apply Nat.eq_of_testBit_eq;intro j
   cases j with
   |zero=>simp;omega
   |succ j=>rw[Nat.testBit_or];simp[Nat.testBit_succ];congr 1;omega
  rw[e2,this];omega
theorem aLB(e:Int):rN .i64 e 1=e % 2:=by
 show IntKind.i64.wrap ((BitVec.ofInt 64 e &&& BitVec.ofInt 64 1).toNat:Int)=_
 have e2:(BitVec.ofInt 64 1).toNat=1:=by decide
 rw[BitVec.toNat_and,e2,Nat.and_one_is_mod,wrap_i64 _ oO oO,BitVec.toNat_ofInt]
 omega
theorem aLu(a:Int):aAM .u32 a 1=a*2 % 4294967296:=by
 unfold aAM;rw[wrap_u32];rfl
theorem Of(id e:Int)(st:St):
 aB Tryz.prog 32 [u id,i e] st fun r st'=>r=u (id*2 % 4294967296+e % 2)∧st'=st:=by
 refine qO aF Tryz.func32 rfl rfl Tryz.ntmps32 (rs:=[.tmp 4]) rfl sS ?_
 (repeat' (first|refine qS ?_|(refine qR (zZ ?_);simp[])|(refine w_e [] ?_;intro J hJ;simp only[];simp[];refine hJ _ _ (zZ ?_))))
 rw[aLu,aLB,wrap_u32,aLZ _ _ oO oO oO oO]
 omega
theorem Twin(d:Int)(st:St)(h0:0≤d)(h1:d<4294967296):aB Tryz.prog 94 [u d] st fun r st'=>r=u (tw d)∧st'=st:=by
 refine qO aF Tryz.func94 rfl rfl Tryz.ntmps94 (rs:=[.tmp 2]) rfl sS ?_
 (repeat' (first|refine qS ?_|(refine qR (zZ ?_);simp[zI d h0 h1])|(refine w_e [] ?_;intro J hJ;simp only[];simp[zI d h0 h1];refine hJ _ _ (zZ ?_))))
end Go.Proofs.YtempldclppogmaaGreatDoor.Aw
namespace Go.Proofs.YtempldclppogmaaGreatDoor.Aw
open Go Go.RowKit Go.Proofs.YtempldclppogmaaGreatDoor.Pl
theorem qN(k:Nat)(h:k<9223372036854775807):IntKind.i64.wrap ((k:Int)+1)=((k+1:Nat):Int):=by
 rw[wrap_i64 _ oO oO];omega
theorem cO(l:List Int)(k:Nat)(hk:k<l.length):(us l).drop k=u l[k]::us (l.drop (k+1)):=by
 rw[us,← List.map_drop,List.drop_eq_getElem_cons hk];rfl
theorem qG(l:List Int)(k:Nat)(hk:k<l.length):(us l).drop k=u (l.getD k 0)::us (l.drop (k+1)):=by
 rw[cO l k hk];simp[hk]
theorem oU{l:List Int}{d:Int}(h:d∈l):gi l d=((l.idxOf d:Nat):Int):=by unfold gi;rw[if_pos h]
theorem yI{l:List Int}{d:Int}(h:¬d∈l):gi l d = -1:=by unfold gi;rw[if_neg h]
theorem aCo(a b c:Nat)(h:a % b=c):((a:Int).tmod (b:Int))=(c:Int):=by
 rw[← h];exact(Int.ofNat_tmod a b).symm
theorem aI(l:List Int)(j:Nat)(hj:j<l.length):l.getD j 0=l[j]:=by
 rw[List.getD_eq_getElem?_getD,List.getElem?_eq_getElem hj];rfl
theorem St.ext'{a b:St}(h:a.next=b.next)(k:∀ x,a.H x=b.H x):a=b:=by
 cases a;cases b;simp only at h k;subst h;congr;funext x;exact k x
def small(l:List Int):Prop:=l.length≤1048576
theorem Index(l:List Int)(t:Nat)(x:Int)(st:St)(hl:small l):
 aB Tryz.prog 90 [.sl t l.length (us l),u x] st fun r st'=>r=i (gi l x)∧st'=st:=by
 unfold small at hl
 refine qO aF Tryz.func90 rfl rfl Tryz.ntmps90 (rs:=[.tmp 4]) rfl sS ?_
 (repeat' (first|refine qS ?_|refine qB ?_|(refine w_e [] ?_;intro J hJ;simp only[];simp[];refine hJ _ _ (zZ ?_))))
 refine qL (fun n fr st'=>∃ k:Nat,k≤l.length∧n=l.length-k∧fr 0=.sl t l.length (us l)∧fr 1=u x∧fr 7=i l.length∧fr 8=i k∧st'=st∧∀ j (hj:j<l.length),j<k→l[j]≠x) l.length ?_ ?_
 ·exact⟨0,oO,oO,sS,sS,sS,sS,rfl,fun j _ h=>by omega⟩
 rintro n fr st' ⟨k,hk,rfl,h0,h1,h7,h8,rfl,hno⟩ JJ hJJ
 by_cases hlt:k<l.length
 ·have hd:=cO l k hlt
  have hw:=qN k oO
  (repeat' (first|refine qS ?_|refine qB ?_|(refine qK (zZ ?_))|(refine qR (zZ ?_);simp[h0,h1,h7,h8,hlt,hd,hw])|(refine qC ?_;simp[h0,h1,h7,h8,hlt,hd,hw];(try with_reducible refine⟨?_,?_⟩)<;>(try with_reducible intro hc))|(refine w_e [] ?_;intro J hJ;simp only[];simp[h0,h1,h7,h8,hlt,hd,hw];refine hJ _ _ (zZ ?_))))
  ·exact(aFM hlt hc.symm (fun j hj=>hno j oO hj)).symm
  ·refine hJJ _ _ _ ?_ ⟨k+1,oO,rfl,by simp[h0],by simp[h1],by simp[h7],sS,rfl,fun j hj hjk=>?_⟩
   ·omega
   ·rcases Nat.lt_or_ge j k with h|h
    ·exact hno j hj h
    ·obtain rfl:j=k:=oO
     exact fun h=>hc h.symm
 ·(repeat' (first|refine qS ?_|(refine qX (zZ ?_))|(refine qR (zZ ?_);simp[h0,h1,h7,h8,hlt])|(refine qC ?_;simp[h0,h1,h7,h8,hlt])|(refine w_e [] ?_;intro J hJ;simp only[];simp[h0,h1,h7,h8,hlt];refine hJ _ _ (zZ ?_))))
  exact(aFK (fun j hj=>hno j hj oO)).symm
theorem aNS(l:List Int)(t:Nat)(x:Int)(st:St)(hl:small l):
 aB Tryz.prog 87 [.sl t l.length (us l),u x] st fun r st'=>r=i (gi l x)∧st'=st:=by
 unfold small at hl
 refine qO aF Tryz.func87 rfl rfl Tryz.ntmps87 (rs:=[.tmp 4]) rfl sS ?_
 (repeat' (first|refine qS ?_|refine qB ?_|(refine w_e [] ?_;intro J hJ;simp only[];simp[];refine hJ _ _ (zZ ?_))))
 refine qL (fun n fr st'=>∃ k:Nat,k≤l.length∧n=l.length-k∧fr 7=.sl t l.length (us l)∧fr 1=u x∧fr 8=i l.length∧fr 9=i k∧st'=st∧∀ j (hj:j<l.length),j<k→l[j]≠x) l.length ?_ ?_
 ·exact⟨0,oO,oO,sS,sS,sS,sS,rfl,fun j _ h=>by omega⟩
 rintro n fr st' ⟨k,hk,rfl,h0,h1,h7,h8,rfl,hno⟩ JJ hJJ
 by_cases hlt:k<l.length
 ·have hd:=cO l k hlt
  have hw:=qN k oO
  (repeat' (first|refine qS ?_|refine qB ?_|(refine qK (zZ ?_))|(refine qR (zZ ?_);simp[h0,h1,h7,h8,hlt,hd,hw])|(refine qC ?_;simp[h0,h1,h7,h8,hlt,hd,hw];(try with_reducible refine⟨?_,?_⟩)<;>(try with_reducible intro hc))|(refine w_e [] ?_;intro J hJ;simp only[];simp[h0,h1,h7,h8,hlt,hd,hw];refine hJ _ _ (zZ ?_))))
  ·exact(aFM hlt hc (fun j hj=>hno j oO hj)).symm
  ·refine hJJ _ _ _ ?_ ⟨k+1,oO,rfl,by simp[h0],by simp[h1],by simp[h7],sS,rfl,fun j hj hjk=>?_⟩
   ·omega
   ·rcases Nat.lt_or_ge j k with h|h
    ·exact hno j hj h
    ·obtain rfl:j=k:=oO
     exact hc
 ·(repeat' (first|refine qS ?_|(refine qX (zZ ?_))|(refine qR (zZ ?_);simp[h0,h1,h7,h8,hlt])|(refine qC ?_;simp[h0,h1,h7,h8,hlt])|(refine w_e [] ?_;intro J hJ;simp only[];simp[h0,h1,h7,h8,hlt];refine hJ _ _ (zZ ?_))))
  exact(aFK (fun j hj=>hno j hj oO)).symm
theorem nJ(l:List Int)(h:0<l.length):hdL (us l)=u l[0]:=by
 cases l with
 |nil=>simp at h
 |cons a l=>rfl
theorem Min(l:List Int)(t:Nat)(st:St)(hl:small l)(h0:l≠[]):
 aB Tryz.prog 81 [.sl t l.length (us l)] st fun r st'=>r=u (mn l)∧st'=st:=by
 unfold small at hl
 have hpos:0<l.length:=List.length_pos_iff.2 h0
 have hd0:=nJ l hpos
 refine qO aF Tryz.func81 rfl rfl Tryz.ntmps81 (rs:=[.tmp 2]) rfl sS ?_
 (repeat' (first|refine qS ?_|refine qB ?_|(refine qK (zZ ?_))|(refine qC ?_;simp[hpos,hd0];(try with_reducible refine⟨?_,?_⟩)<;>(try with_reducible intro hc)<;>try (exfalso;omega))|(refine w_e [] ?_;intro J hJ;simp only[];simp[hpos,hd0];refine hJ _ _ (zZ ?_))))
 refine qL (fun n fr st'=>∃ k:Nat,0<k∧k≤l.length∧n=l.length-k∧fr 0=.sl t l.length (us l)∧fr 4=i k∧fr 3=u (mn (l.take k))∧st'=st) (l.length-1) ?_ ?_
 ·refine⟨1,oO,oO,oO,sS,sS,?_,rfl⟩
  cases l with
  |nil=>simp at hpos
  |cons a l=>simp[mn]
 rintro n fr st' ⟨k,hk0,hk,rfl,h0',h4,h3,rfl⟩ JJ hJJ
 by_cases hlt:k<l.length
 ·have hd:=cO l k hlt
  have hw:=qN k oO
  (repeat' (first|refine qS ?_|refine qB ?_|(refine qK (zZ ?_))|(refine qC ?_;simp[h0',h3,h4,hlt,hd,hw])|(refine w_e [] ?_;intro J hJ;simp only[];simp[h0',h3,h4,hlt,hd,hw];refine hJ _ _ (zZ ?_))))
  refine hJJ _ _ _ ?_ ⟨k+1,oO,oO,rfl,by simp[h0'],sS,by simp[aFV l k hk0 hlt],rfl⟩
  omega
 ·(repeat' (first|refine qS ?_|(refine qX (zZ ?_))|(refine qR (zZ ?_);simp[h0',h3,h4,hlt])|(refine qC ?_;simp[h0',h3,h4,hlt])|(refine w_e [] ?_;intro J hJ;simp only[];simp[h0',h3,h4,hlt];refine hJ _ _ (zZ ?_))))
  rw[List.take_of_length_le oO]
theorem aIK(a b:List Int)(t t':Nat)(st:St)(hl:small a):
 aB Tryz.prog 11 [.sl t a.length (us a),.sl t' b.length (us b)] st fun r st'=>r=bb (decide (a=b))∧st'=st:=by
 unfold small at hl
 refine qO aF Tryz.func11 rfl rfl Tryz.ntmps11 (rs:=[.tmp 4]) rfl sS ?_
 by_cases hab:a.length=b.length
 ·have hab':((a.length:Int) != (b.length:Int))=false:=by simp[hab]
  (repeat' (first|refine qS ?_|refine qB ?_|(refine qK (zZ ?_))|(refine qC ?_;simp[hab])|(refine w_e [] ?_;intro J hJ;simp only[];simp[hab];refine hJ _ _ (zZ ?_))))
  refine qL (fun n fr st'=>∃ k:Nat,k≤a.length∧n=a.length-k∧fr 0=.sl t a.length (us a)∧fr 1=.sl t' b.length (us b)∧fr 12=i a.length∧fr 13=i k∧st'=st∧∀ j (hj:j<a.length),j<k→a[j]=b[j]'(by omega)) a.length ?_ ?_
  ·exact⟨0,oO,oO,by simp[hab],by simp[hab],by simp[hab],sS,rfl,fun j _ h=>by omega⟩
  rintro n fr st' ⟨k,hk,rfl,h0,h1,h7,h8,rfl,hno⟩ JJ hJJ
  by_cases hlt:k<a.length
  ·have hlt':k<b.length:=oO
   have hd:=cO a k hlt
   have hd':=cO b k hlt'
   have hw:=qN k oO
   (repeat' (first|refine qS ?_|refine qB ?_|(refine qK (zZ ?_))|(refine qR (zZ ?_);simp[h0,h1,h7,h8,hlt,hlt',hd,hd',hw])|(refine qC ?_;simp[h0,h1,h7,h8,hlt,hlt',hd,hd',hw];(try with_reducible refine⟨?_,?_⟩)<;>(try with_reducible intro hc))|((first|(refine w_e [] ?_;intro J hJ;simp only[])|(refine w_q ?_;intro J hJ));simp[h0,h1,h7,h8,hlt,hlt',hd,hd',hw];refine hJ _ _ (zZ ?_))))
   ·intro h;apply hc;simp[h]
   ·refine hJJ _ _ _ ?_ ⟨k+1,oO,rfl,by simp[h0],by simp[h1],by simp[h7],sS,rfl,fun j hj hjk=>?_⟩
    ·omega
    ·rcases Nat.lt_or_ge j k with h|h
     ·exact hno j hj h
     ·obtain rfl:j=k:=oO
      exact hc
  ·(repeat' (first|refine qS ?_|(refine qX (zZ ?_))|(refine qR (zZ ?_);simp[h0,h1,h7,h8,hlt])|(refine qC ?_;simp[h0,h1,h7,h8,hlt])|(refine w_e [] ?_;intro J hJ;simp only[];simp[h0,h1,h7,h8,hlt];refine hJ _ _ (zZ ?_))))
   exact List.ext_getElem hab (fun j hj _=>hno j hj oO)
 ·(repeat' (first|refine qS ?_|(refine qR (zZ ?_);simp[hab])|(refine qC ?_;simp[hab];(try with_reducible refine⟨?_,?_⟩)<;>(try with_reducible intro hc)<;>try (exfalso;omega))|(refine w_e [] ?_;intro J hJ;simp only[];simp[hab];refine hJ _ _ (zZ ?_))))
  intro h;exact hab (by rw[h])
theorem aJw(a b:List Int)(t t':Nat)(st:St)(hl:small a):
 aB Tryz.prog 37 [.sl t a.length (us a),.sl t' b.length (us b)] st fun r st'=>r=bb (decide (a=b))∧st'=st:=by
 unfold small at hl
 refine qO aF Tryz.func37 rfl rfl Tryz.ntmps37 (rs:=[.tmp 4]) rfl sS ?_
 by_cases hab:a.length=b.length
 ·(repeat' (first|refine qS ?_|refine qB ?_|(refine qK (zZ ?_))|(refine qC ?_;simp[hab])|(refine w_e [] ?_;intro J hJ;simp only[];simp[hab];refine hJ _ _ (zZ ?_))))
  refine qL (fun n fr st'=>∃ k:Nat,k≤a.length∧n=a.length-k∧fr 0=.sl t a.length (us a)∧fr 1=.sl t' b.length (us b)∧fr 12=i a.length∧fr 13=i k∧st'=st∧∀ j (hj:j<a.length),j<k→a[j]=b[j]'(by omega)) a.length ?_ ?_
  ·exact⟨0,oO,oO,by simp[hab],by simp[hab],by simp[hab],sS,rfl,fun j _ h=>by omega⟩
  rintro n fr st' ⟨k,hk,rfl,h0,h1,h7,h8,rfl,hno⟩ JJ hJJ
  by_cases hlt:k<a.length
  ·have hlt':k<b.length:=oO
   have hd:=cO a k hlt
   have hd':=cO b k hlt'
   have hw:=qN k oO
   (repeat' (first|refine qS ?_|refine qB ?_|(refine qK (zZ ?_))|(refine qR (zZ ?_);simp[h0,h1,h7,h8,hlt,hlt',hd,hd',hw])|(refine qC ?_;simp[h0,h1,h7,h8,hlt,hlt',hd,hd',hw];(try with_reducible refine⟨?_,?_⟩)<;>(try with_reducible intro hc))|((first|(refine w_e [] ?_;intro J hJ;simp only[])|(refine w_q ?_;intro J hJ));simp[h0,h1,h7,h8,hlt,hlt',hd,hd',hw];refine hJ _ _ (zZ ?_))))
   ·intro h;apply hc;simp[h]
   ·refine hJJ _ _ _ ?_ ⟨k+1,oO,rfl,by simp[h0],by simp[h1],by simp[h7],sS,rfl,fun j hj hjk=>?_⟩
    ·omega
    ·rcases Nat.lt_or_ge j k with h|h
     ·exact hno j hj h
     ·obtain rfl:j=k:=oO
      exact hc
  ·(repeat' (first|refine qS ?_|(refine qX (zZ ?_))|(refine qR (zZ ?_);simp[h0,h1,h7,h8,hlt])|(refine qC ?_;simp[h0,h1,h7,h8,hlt])|(refine w_e [] ?_;intro J hJ;simp only[];simp[h0,h1,h7,h8,hlt];refine hJ _ _ (zZ ?_))))
   exact List.ext_getElem hab (fun j hj _=>hno j hj oO)
 ·(repeat' (first|refine qS ?_|(refine qR (zZ ?_);simp[hab])|(refine qC ?_;simp[hab];(try with_reducible refine⟨?_,?_⟩)<;>(try with_reducible intro hc)<;>try (exfalso;omega))|(refine w_e [] ?_;intro J hJ;simp only[];simp[hab];refine hJ _ _ (zZ ?_))))
  intro h;exact hab (by rw[h])
theorem wrap_small(n:Int)(h0:0≤n)(h1:n≤9223372036854775807):IntKind.i64.wrap n=n:=wrap_i64 n oO h1
theorem aRd(n:Int)(st:St)(h0:0≤n)(h1:n≤4194304):
 aB Tryz.prog 197 [.nil,i n] st fun r st'=>∃ l cs,r=.ms l 0 0∧st.next≤l∧st'.H l=.box 34 1 cs∧aA st st':=by
 have hw:=wrap_small n h0 oO
 have hw':IntKind.i64.wrap 0=0:=by decide
 refine gJ 34 1 ?_
 refine qO aF Tryz.func197 rfl rfl Tryz.ntmps197 (rs:=[.tmp 4]) rfl sS ?_
 by_cases hp:0<n
 ·(repeat' (first|refine qS ?_|(refine qK (zZ ?_))|(refine qR (zZ ?_);simp[hw,hw',hp])|(refine qC ?_;simp[hw,hw',hp];(try with_reducible refine⟨?_,?_⟩)<;>(try with_reducible intro hc)<;>try (exfalso;omega))|(refine w_e [] ?_;intro J hJ;simp only[];simp[hw,hw',hp];(repeat refine ca ?_);refine hJ _ _ (zZ ?_))))
  exact aA.new _ _
 ·(repeat' (first|refine qS ?_|(refine qK (zZ ?_))|(refine qR (zZ ?_);simp[hw,hw',hp])|(refine qC ?_;simp[hw,hw',hp];(try with_reducible refine⟨?_,?_⟩)<;>(try with_reducible intro hc)<;>try (exfalso;omega))|(refine w_e [] ?_;intro J hJ;simp only[];simp[hw,hw',hp];refine hJ _ _ (zZ ?_))))
  exact aA.new _ _
abbrev rows(ls:List (Nat×List Int)):List LV:=ls.map fun p=>.sl p.1 p.2.length (us p.2)
def total(ls:List (Nat×List Int)):Nat:=(ls.map fun p=>p.2.length).sum
def flat(ls:List (Nat×List Int)):List Int:=(ls.map fun p=>p.2).flatten
theorem sR(ls:List (Nat×List Int)):(flat ls).length=total ls:=by
 induction ls with
 |nil=>rfl
 |cons p ls ih=>simp[flat,total,Function.comp_def]at ih ⊢
theorem xN(ls:List (Nat×List Int))(k:Nat)(hk:k<ls.length):total (ls.take (k+1))=total (ls.take k)+ls[k].2.length:=by
 rw[List.take_succ_eq_append_getElem hk,total,List.map_append,List.sum_append];simp only[total,List.map_cons,List.map_nil,List.sum_cons,List.sum_nil,Nat.add_zero]
theorem aGL(ls:List (Nat×List Int))(k:Nat)(hk:k<ls.length):flat (ls.take (k+1))=flat (ls.take k)++ls[k].2:=by
 rw[List.take_succ_eq_append_getElem hk,flat,List.map_append,List.flatten_append];simp only[flat,List.map_cons,List.map_nil,List.flatten_cons,List.flatten_nil,List.append_nil]
theorem nU(ls:List (Nat×List Int))(k:Nat):total (ls.take k)≤total ls:=by
 have h:total ls=total (ls.take k)+total (ls.drop k):=by
  conv=>lhs;rw[← List.take_append_drop k ls]
  rw[total,List.map_append,List.sum_append];rfl
 omega
theorem zN(ls:List (Nat×List Int))(k:Nat)(hk:k<ls.length):(rows ls).drop k=.sl ls[k].1 ls[k].2.length (us ls[k].2)::rows (ls.drop (k+1)):=by
 rw[rows,← List.map_drop,List.drop_eq_getElem_cons hk];rfl
theorem aEf(a:List Int):(us a).all fM=true:=by simp[us,fM]
theorem aKW(ls:List (Nat×List Int))(t:Nat)(st:St)(hn:ls.length≤1048576)(hl:total ls≤4194304):
 aB Tryz.prog 175 [.sl t ls.length (rows ls)] st fun r st'=>∃ l,r=.ms l 0 (flat ls).length∧st.next≤l∧st'.H l=.box 34 1 (us (flat ls))∧aA st st':=by
 refine qO aF Tryz.func175 rfl rfl Tryz.ntmps175 (rs:=[.tmp 2]) rfl sS ?_
 (repeat' (first|refine qS ?_|refine qB ?_|(refine w_e [] ?_;intro J hJ;simp only[];simp[];refine hJ _ _ (zZ ?_))))
 refine qL (fun n fr st'=>∃ k:Nat,k≤ls.length∧n=ls.length-k∧fr 0=.sl t ls.length (rows ls)∧fr 9=.sl t ls.length (rows ls)∧fr 10=i ls.length∧fr 11=i k∧fr 3=i (total (ls.take k))∧st'=st) ls.length ?_ ?_
 ·exact⟨0,oO,oO,sS,sS,sS,sS,by simp[total],rfl⟩
 rintro n fr st1 ⟨k,hk,rfl,h0,h9,h10,h11,h3,rfl⟩ JJ hJJ
 by_cases hlt:k<ls.length
 ·have hd:=zN ls k hlt
  have hw:=qN k oO
  have ht:=xN ls k hlt
  have hle:=nU ls (k+1)
  have hw2:IntKind.i64.wrap ((total (ls.take k):Int)+(ls[k].2.length:Int))=(total (ls.take (k+1)):Int):=by
   rw[wrap_small _ oO oO];omega
  clear ht
  (repeat' (first|refine qS ?_|refine qB ?_|(refine qK (zZ ?_))|(refine qC ?_;simp[h0,h9,h10,h11,h3,hlt,hd,hw,hw2];(try with_reducible refine⟨?_,?_⟩)<;>(try with_reducible intro hc)<;>try (exfalso;omega))|(refine w_e [] ?_;intro J hJ;simp only[];simp[h0,h9,h10,h11,h3,hlt,hd,hw,hw2];refine hJ _ _ (zZ ?_))))
  refine hJJ _ _ _ ?_ ⟨k+1,oO,rfl,by simp[h0],by simp[h9],by simp[h10],sS,sS,rfl⟩
  omega
 ·have hk':k=ls.length:=oO
  have htk:ls.take k=ls:=List.take_of_length_le oO
  rw[htk]at h3
  clear hJJ
  (repeat' (first|refine qS ?_|(refine qX (zZ ?_))|(refine qC ?_;simp[h0,h9,h10,h11,h3,hlt])|(refine w_e [] ?_;intro J hJ;simp only[];simp[h0,h9,h10,h11,h3,hlt];(try refine hJ _ _ (zZ ?_)))))
  refine qF (aRd (total ls) _ oO oO) ?_;rintro r st' ⟨l0,cs0,rfl,hl0,hH0,hkp⟩
  (repeat' (first|refine qS ?_|refine qB ?_|((first|(refine w_e [] ?_;intro J hJ;simp only[])|(refine aE ?_));simp[h0];refine hJ _ _ (zZ ?_))))
  refine aEy 0 hH0 ?_
  refine qL (fun n fr st2=>∃ k:Nat,k≤ls.length∧n=ls.length-k∧fr 25=.sl t ls.length (rows ls)∧fr 26=i ls.length∧fr 27=i k∧∃ l,fr 6=.ms l 0 (flat (ls.take k)).length∧st2.H l=.box 34 1 (us (flat (ls.take k)))∧st1.next≤l∧aA st1 st2) ls.length ?_ ?_
  ·exact⟨0,oO,oO,by simp[h0],sS,sS,l0,by simp[flat],by simp[flat],hl0,hkp.set hl0 _⟩
  clear h0 h9 h10 h11 h3 hlt hH0 hkp hl0 fr hk hk' htk
  rintro n fr st2 ⟨k,hk,rfl,h25,h26,h27,l,h6,hH,hlt0,hkp⟩ JJ hJJ
  by_cases hlt:k<ls.length
  ·have hd:=zN ls k hlt
   have hw:=qN k oO
   have ht:=xN ls k hlt
   have hle:=nU ls (k+1)
   have hf:=aGL ls k hlt
   have hfl:=sR (ls.take (k+1))
   have hfl':=sR (ls.take k)
   have hone:=aEf (ls[k].2)
   (repeat' (first|refine qS ?_|refine qB ?_|(refine qK (zZ ?_))|(refine qC ?_;simp[h25,h26,h27,h6,hH,hlt,hd,hw,hone])|(refine w_e [] ?_;intro J hJ;simp only[];simp[h25,h26,h27,h6,hH,hlt,hd,hw,hone];(repeat refine ca ?_);refine hJ _ _ (zZ ?_))))
   refine hJJ _ _ _ ?_ ⟨k+1,oO,rfl,by simp[h25],by simp[h26],sS,st2.next,?_,?_,hkp.next,(hkp.set hlt0 _).trans (aA.new _ _)⟩
   ·omega
   ·simp[hf]
   ·simp[hf]
  ·have hk':k=ls.length:=oO
   have htk:ls.take k=ls:=List.take_of_length_le oO
   rw[htk]at h6 hH
   clear hJJ
   (repeat' (first|refine qS ?_|(refine qX (zZ ?_))|(refine qR (zZ ?_);simp[h25,h26,h27,h6,hlt])|(refine qC ?_;simp[h25,h26,h27,h6,hlt])|(refine w_e [] ?_;intro J hJ;simp only[];simp[h25,h26,h27,h6,hlt];refine hJ _ _ (zZ ?_))))
   exact⟨hlt0,hH,hkp⟩
theorem aOY(ls:List (Nat×List Int))(t:Nat)(st:St)(hn:ls.length≤1048576)(hl:total ls≤4194304):
 aB Tryz.prog 175 [.sl t ls.length (rows ls)] st fun r st'=>r=.sl 0 (flat ls).length (us (flat ls))∧aA st st':=by
 refine bQ ((aKW ls t st hn hl).mono ?_)
 rintro r st' ⟨l,rfl,hlt,hH,hk⟩
 exact⟨l,_,_,1,_,rfl,hH,sS,by simp[List.take_of_length_le],hk.set hlt _⟩
theorem aOM(a:List Int)(t:Nat)(st:St)(hl:small a):
 aB Tryz.prog 69 [.sl t a.length (us a)] st fun r st'=>∃ l,r=.ms l 0 a.length∧st.next≤l∧st'.H l=.box 34 1 (us a)∧aA st st':=by
 unfold small at hl
 refine gJ 34 1 ?_
 have hone:=aEf a
 refine qO aF Tryz.func69 rfl rfl Tryz.ntmps69 (rs:=[.tmp 2]) rfl sS ?_
 (repeat' (first|refine qS ?_|(refine qK (zZ ?_))|(refine qR (zZ ?_);simp[hone])|(refine qC ?_;simp[hone])|(refine w_e [5] ?_;intro J hJ;simp only[];simp[hone];(repeat refine ca ?_);((try with_reducible refine⟨?_,?_⟩)<;>(try with_reducible intro hnil)<;>refine hJ _ _ ?_<;>clear hJ J<;>simp only[ak,reduceIte]<;>try subst hnil))))
 ·exact((aA.new _ _).set (Nat.le_refl _) _).trans (aA.new _ _)
 ·exact aA.new _ _
theorem aJq(a:List Int)(t:Nat)(st:St)(hl:small a):
 aB Tryz.prog 69 [.sl t a.length (us a)] st fun r st'=>r=.sl 0 a.length (us a)∧aA st st':=by
 refine bQ ((aOM a t st hl).mono ?_)
 rintro r st' ⟨l,rfl,hlt,hH,hk⟩
 exact⟨l,_,_,1,_,rfl,hH,sS,by simp[List.take_of_length_le],hk.set hlt _⟩
def nx(l:List Int)(d:Int):Int:=if d∈l then l.getD ((l.idxOf d+1) % l.length) 0 else 0
theorem aKm(l:List Int)(t:Nat)(d:Int)(st:St)(hl:small l):
 aB Tryz.prog 178 [.sl t l.length (us l),u d] st fun r st'=>r=u (nx l d)∧st'=st:=by
 refine qO aF Tryz.func178 rfl rfl Tryz.ntmps178 (rs:=[.tmp 4]) rfl sS ?_
 (repeat' (first|refine qS ?_|(refine w_e [] ?_;intro J hJ;simp only[];simp[];(try refine hJ _ _ (zZ ?_)))))
 refine qE (aNS l t d _ hl) (by simp[]) ?_;rintro r st' ⟨rfl,rfl⟩
 unfold small at hl
 by_cases hd:d∈l
 ·have hi:=List.idxOf_lt_length_of_mem hd
  have hnil:=List.ne_nil_of_mem hd
  rw[oU hd]
  have hnx:nx l d=l.getD ((l.idxOf d+1) % l.length) 0:=by unfold nx;rw[if_pos hd]
  generalize hk:l.idxOf d=k at *
  have hw:=qN k oO
  generalize hk1:k+1=k1 at *
  by_cases he:k1=l.length
  ·have hdr:=nJ l oO
   rw[he,Nat.mod_self]at hnx
   rw[he]at hw
   have hpos:0<l.length:=oO
   (repeat' (first|refine qS ?_|(refine qK (zZ ?_))|(refine qR (zZ ?_);simp[hw,hdr,he,hpos,hnx,hnil])|(refine qC ?_;simp[hw,hdr,he,hpos,hnx,hnil];(try with_reducible refine⟨?_,?_⟩)<;>(try with_reducible intro hc)<;>try (exfalso;omega))|((first|(refine w_e [] ?_;intro J hJ;simp only[])|(refine aE ?_));simp[hw,hdr,he,hpos,hnx,hnil];refine hJ _ _ (zZ ?_))))
  ·rw[Nat.mod_eq_of_lt oO]at hnx
   have hlt:k1<l.length:=oO
   have hdr:=qG l k1 hlt
   have hne:((k1:Int)==(l.length:Int))=false:=by simp;omega
   (repeat' (first|refine qS ?_|(refine qK (zZ ?_))|(refine qR (zZ ?_);simp[hw,hdr,hne,hlt,hnx,hnil])|(refine qC ?_;simp[hw,hdr,hne,hlt,hnx,hnil];(try with_reducible refine⟨?_,?_⟩)<;>(try with_reducible intro hc)<;>try (exfalso;omega))|((first|(refine w_e [] ?_;intro J hJ;simp only[])|(refine aE ?_));simp[hw,hdr,hne,hlt,hnx,hnil];refine hJ _ _ (zZ ?_))))
 ·rw[yI hd]
  have hnx:nx l d=0:=by unfold nx;rw[if_neg hd]
  (repeat' (first|refine qS ?_|(refine qR (zZ ?_);simp[hnx])|(refine qC ?_;simp[hnx])|((first|(refine w_e [] ?_;intro J hJ;simp only[])|(refine aE ?_));simp[hnx];refine hJ _ _ (zZ ?_))))
theorem aBQ{t:List Int}(hn:t.Nodup){j:Nat}(hj:j<t.length):nx t t[j]=t[(j+1) % t.length]'(Nat.mod_lt _ oO):=by
 unfold nx
 rw[if_pos (List.getElem_mem hj),hn.idxOf_getElem j hj,aI _ _ (Nat.mod_lt _ oO)]
theorem aON{t:List Int}{d:Int}(hd:d∈t):nx t d∈t:=by
 unfold nx
 have:0<t.length:=List.length_pos_of_mem hd
 rw[if_pos hd,aI _ _ (Nat.mod_lt _ this)]
 exact List.getElem_mem _
theorem aNN{t:List Int}(hn:t.Nodup){d e:Int}(hd:d∈t)(he:e∈t)(h:nx t d=nx t e):d=e:=by
 obtain⟨j,hj,rfl⟩:=List.getElem_of_mem hd
 obtain⟨k,hk,rfl⟩:=List.getElem_of_mem he
 rw[aBQ hn hj,aBQ hn hk]at h
 have h1:=congrArg t.idxOf h
 rw[hn.idxOf_getElem,hn.idxOf_getElem]at h1
 have h2:j=k:=by
  rcases Nat.lt_or_ge (j+1) t.length with a|a
  ·rw[Nat.mod_eq_of_lt a]at h1
   rcases Nat.lt_or_ge (k+1) t.length with b|b
   ·rw[Nat.mod_eq_of_lt b]at h1;omega
   ·rw[show k+1=t.length by omega,Nat.mod_self]at h1;omega
  ·rw[show j+1=t.length by omega,Nat.mod_self]at h1
   rcases Nat.lt_or_ge (k+1) t.length with b|b
   ·rw[Nat.mod_eq_of_lt b]at h1;omega
   ·omega
 subst h2;rfl
theorem aQf{t:List Int}(hn:t.Nodup){j:Nat}(hj:j<t.length)(k:Nat):Eu.it (nx t) k t[j]=t[(j+k) % t.length]'(Nat.mod_lt _ oO):=by
 induction k with
 |zero=>simp only[Eu.it,Nat.add_zero,Nat.mod_eq_of_lt hj]
 |succ k ih=>
  rw[Eu.dZ,ih,aBQ hn]
  congr 1
  rw[Nat.mod_add_mod];rfl
theorem aOt{t:List Int}(hn:t.Nodup){d e:Int}(hd:d∈t)(he:e∈t):Eu.Orb (nx t) d e:=by
 obtain⟨j,hj,rfl⟩:=List.getElem_of_mem hd
 obtain⟨k,hk,rfl⟩:=List.getElem_of_mem he
 refine⟨t.length-j+k,?_⟩
 rw[aQf hn hj]
 congr 1
 rw[show j+(t.length-j+k)=t.length+k by omega,Nat.add_mod_left,Nat.mod_eq_of_lt hk]
theorem aOc(l:List Int):(us l).length=l.length:=by simp[us]
theorem from_(l:List Int)(t k:Nat)(st:St)(hl:small l)(hk:k≤l.length):
 aB Tryz.prog 125 [.sl t l.length (us l),i k] st fun r st'=>r=.sl 0 l.length (us (rt l k))∧aA st st':=by
 unfold small at hl
 refine qO aF Tryz.func125 rfl rfl Tryz.ntmps125 (rs:=[.tmp 4]) rfl sS ?_
 (repeat' (first|refine qS ?_|(refine w_e [] ?_;intro J hJ;simp only[];simp[hk];refine hJ _ _ (zZ ?_))))
 (refine aGY aF [] 6 (by kernel_rfl) (by kernel_rfl) rfl rfl ?_;intro J hJ;simp[hk];skip;skip)
 refine qE (aOY [(0,l.drop k),(0,l.take k)] st.next _ sS (by simp[total];omega)) (by simp[List.take_of_length_le,Nat.min_eq_left hk]) ?_;rintro r st' ⟨rfl,hkp⟩
 have hf:flat [(0,l.drop k),(0,l.take k)]=rt l k:=by simp[flat,rt]
 rw[hf,sL]
 (repeat' (first|(refine qR (zZ ?_);simp[])|(refine aE ?_;simp[];refine hJ _ _ (zZ ?_))))
 exact(aA.new _ _).trans hkp
theorem aEq(l:List Int)(t:Nat)(st:St)(hl:small l):
 aB Tryz.prog 85 [.sl t l.length (us l)] st fun r st'=>r=.sl 0 l.length (us (nrm l))∧aA st st':=by
 refine tG ?_
 refine qO aF Tryz.func85 rfl rfl Tryz.ntmps85 (rs:=[.tmp 2]) rfl sS ?_
 cases l with
 |nil=>
  (repeat' (first|refine qS ?_|(refine qR (zZ ?_);simp[])|(refine qC ?_;simp[])|(refine w_e [] ?_;intro J hJ;simp only[];simp[];refine hJ _ _ (zZ ?_))))
  exact⟨by decide,aA.refl _⟩
 |cons a l'=>
  (repeat' (first|refine qS ?_|(refine qK (zZ ?_))|(refine qC ?_;simp[];(try with_reducible refine⟨?_,?_⟩)<;>(try with_reducible intro hc)<;>try (exfalso;omega))|(refine w_e [] ?_;intro J hJ;simp only[];simp[];(try refine hJ _ _ (zZ ?_)))))
  refine qE (Min (a::l') t _ hl sS) (by simp[]) ?_;rintro r st' ⟨rfl,rfl⟩
  (repeat' (refine aE ?_;simp[]))
  refine qE (Index (a::l') t (mn (a::l')) _ hl) (by simp[]) ?_;rintro r st' ⟨rfl,rfl⟩
  (repeat' (refine aE ?_;simp[]))
  have hg:gi (a::l') (mn (a::l'))=(((a::l').idxOf (mn (a::l')):Nat):Int):=by
   unfold gi;rw[if_pos (qY sS)]
  rw[hg]
  refine qE (from_ (a::l') t ((a::l').idxOf (mn (a::l'))) _ hl List.idxOf_le_length) (by simp[]) ?_;rintro r st' ⟨rfl,hkp⟩
  (repeat' (first|(refine qR (zZ ?_);simp[])|(refine aE ?_;simp[];refine hJ _ _ (zZ ?_))))
  exact⟨rfl,hkp⟩
def ins(l:List Int)(b:Int)(m:List Int):List Int:=(if b∈l then l.take (l.idxOf b+1)++m++l.drop (l.idxOf b+1)else l++m)
def lat(l:List Int)(k:Nat):Nat:=(l.take k).idxOf (mn (l.take k))
theorem aPa(l:List Int)(k:Nat)(hk:k<l.length):lat l k<l.length:=by
 unfold lat
 have:=List.idxOf_le_length (a:=mn (l.take k)) (l:=l.take k)
 simp at this;omega
theorem aMT(l:List Int)(k:Nat)(h0:0<k)(hk:k≤l.length):l.getD (lat l k) 0=mn (l.take k):=by
 have hne:l.take k≠[]:=by intro h;have:=congrArg List.length h;rw[List.length_take,List.length_nil]at this;omega
 have h1:=List.idxOf_lt_length_of_mem (qY hne)
 have h2:(l.take k)[(l.take k).idxOf (mn (l.take k))]=mn (l.take k):=List.getElem_idxOf h1
 rw[List.getElem_take]at h2
 unfold lat
 rw[List.length_take]at h1
 rw[List.getD_eq_getElem?_getD,List.getElem?_eq_getElem oO]
 exact h2
theorem aKf(l:List Int)(k:Nat)(hk:k<l.length):lat l (k+1)=if l.getD k 0<l.getD (lat l k) 0 then k else lat l k:=by
 have hg:l.getD k 0=l[k]:=by rw[List.getD_eq_getElem?_getD,List.getElem?_eq_getElem hk];rfl
 rcases Nat.eq_zero_or_pos k with rfl|h0
 ·have:lat l 0=0:=by simp[lat]
  rw[this,if_neg oO]
  unfold lat
  cases l with
  |nil=>simp at hk
  |cons a l=>simp[mn]
 ·rw[aMT l k h0 oO,hg]
  have hne:l.take k≠[]:=by intro h;have:=congrArg List.length h;rw[List.length_take,List.length_nil]at this;omega
  have hm:=aFV l k h0 hk
  unfold lat
  rw[hm]
  rw[List.take_succ_eq_append_getElem hk]
  by_cases hc:l[k] < mn (l.take k)
  ·rw[if_pos hc,if_pos hc]
   have hnot:¬l[k]∈l.take k:=fun h=>by have:=aFI h;omega
   rw[List.idxOf_append,if_neg hnot]
   simp;omega
  ·rw[if_neg hc,if_neg hc]
   rw[List.idxOf_append,if_pos (qY hne)]
theorem aLx(l:List Int):lat l l.length=l.idxOf (mn l):=by unfold lat;rw[List.take_length]
theorem aIy(l:List Int)(k:Nat)(hk:k<l.length):(nrm l).take (k+1)=(nrm l).take k++[l.getD ((l.idxOf (mn l)+k) % l.length) 0]:=by
 rw[List.take_succ_eq_append_getElem (by rw[bX];exact hk),aGb l k hk,List.getD_eq_getElem?_getD,List.getElem?_eq_getElem (Nat.mod_lt _ oO)]
 rfl
theorem aDS(l:List Int)(t:Nat)(st:St)(hl:small l):
 aB Tryz.prog 86 [.sl t l.length (us l)] st fun r st'=>∃ q,r=.ms q 0 l.length∧st.next≤q∧st'.H q=.box 34 1 (us (nrm l))∧aA st st':=by
 unfold small at hl
 refine qO aF Tryz.func86 rfl rfl Tryz.ntmps86 (rs:=[.tmp 2]) rfl sS ?_
 (repeat' (first|refine qS ?_|refine qB ?_|(refine w_e [] ?_;intro J hJ;simp only[];simp[];refine hJ _ _ (zZ ?_))))
 refine qL (fun n fr st'=>∃ k:Nat,k≤l.length∧n=l.length-k∧fr 0=.sl t l.length (us l)∧fr 8=.sl t l.length (us l)∧fr 9=i l.length∧fr 10=i k∧fr 3=i (lat l k)∧st'=st) l.length ?_ ?_
 ·exact⟨0,oO,oO,sS,sS,sS,sS,by simp[lat],rfl⟩
 rintro n fr st1 ⟨k,hk,rfl,h0,h8,h9,h10,h3,rfl⟩ JJ hJJ
 by_cases hlt:k<l.length
 ·have hd:=qG l k hlt
  have hw:=qN k oO
  have hla:=aPa l k hlt
  have hd2:=qG l (lat l k) hla
  have hst:=aKf l k hlt
  generalize hj:lat l k=j at *
  (repeat' (first|refine qS ?_|refine qB ?_|(refine qK (zZ ?_))|(refine qC ?_;simp[h0,h8,h9,h10,h3,hlt,hla,hd,hd2,hw];(try with_reducible refine⟨?_,?_⟩)<;>(try with_reducible intro hc))|(refine w_e [] ?_;intro J hJ;simp only[];simp[h0,h8,h9,h10,h3,hlt,hla,hd,hd2,hw];refine hJ _ _ (zZ ?_))))
  ·refine hJJ _ _ _ ?_ ⟨k+1,oO,rfl,by simp[h0],by simp[h8],by simp[h9],sS,?_,rfl⟩
   ·omega
   ·rw[hst,if_pos (by simpa[hlt,hla]using hc)];simp
  ·refine hJJ _ _ _ ?_ ⟨k+1,oO,rfl,by simp[h0],by simp[h8],by simp[h9],sS,?_,rfl⟩
   ·omega
   ·rw[hst,if_neg (by simpa[hlt,hla]using hc)];simp[h3]
 ·have hk':k=l.length:=oO
  rw[hk',aLx]at h3
  clear hJJ
  (repeat' (first|refine qS ?_|refine qB ?_|(refine qX (zZ ?_))|(refine qC ?_;simp[h0,h8,h9,h10,h3,hlt])|(refine w_e [] ?_;intro J hJ;simp only[];simp[h0,h8,h9,h10,h3,hlt];refine hJ _ _ (zZ ?_))))
  refine qH 6 34 1 sS ?_
  refine qL (fun n fr st2=>∃ k:Nat,k≤l.length∧n=l.length-k∧fr 0=.sl t l.length (us l)∧fr 3=i (l.idxOf (mn l))∧fr 24=i l.length∧fr 25=i k∧∃ q,fr 6=.ms q 0 k∧st2.H q=.box 34 1 (us ((nrm l).take k))∧st1.next≤q∧q<st2.next∧aA st1 st2) l.length ?_ ?_
  ·exact⟨0,oO,oO,by simp[h0],by simp[h3],sS,sS,st1.next,sS,sS,Nat.le_refl _,sS,aA.new _ _⟩
  clear h0 h8 h9 h10 h3 hlt hk hk' fr k
  rintro n fr st2 ⟨k,hk,rfl,h0,h3,h24,h25,q,h6,hH,hq,hqn,hkp⟩ JJ hJJ
  by_cases hlt:k<l.length
  ·have hg:=aIy l k hlt
   have hil:=List.idxOf_le_length (a:=mn l) (l:=l)
   generalize hx:l.idxOf (mn l)=x at *
   have hj:=Nat.mod_lt (x+k) (show 0<l.length by omega)
   have hw:=qN k oO
   have hw2:IntKind.i64.wrap ((x:Int)+(k:Int))=((x+k:Nat):Int):=by rw[wrap_i64 _ oO oO];omega
   generalize hy:x+k=y at *
   have ht:=aCo y l.length _ rfl
   generalize hz:y % l.length=z at *
   have hd:=qG l z hj
   have hnil:¬l=[]:=fun h=>by rw[h]at hlt;simp at hlt
   have hmin:min k (nrm l).length=k:=by rw[bX];omega
   have hqne:¬q=st2.next:=oO
   (repeat' (first|refine qS ?_|refine qB ?_|(refine qK (zZ ?_))|(refine qC ?_;simp[h0,h3,h24,h25,h6,hH,hlt,hj,hw,hw2,ht,hd,hnil,bX,hmin,hqne])|(refine w_e [] ?_;intro J hJ;simp only[];simp[h0,h3,h24,h25,h6,hH,hlt,hj,hw,hw2,ht,hd,hnil,bX,hmin,hqne];(repeat refine ca ?_);refine hJ _ _ (zZ ?_))))
   refine hJJ _ _ _ ?_ ⟨k+1,oO,rfl,by simp[h0],by simp[h3],by simp[h24],sS,st2.next+1,sS,?_,by have:=hkp.next;omega,sS,((hkp.trans (aA.new _ _)).set hq _).trans (aA.new _ _)⟩
   ·omega
   ·simp[hg,hj,List.take_take]
  ·have hk':k=l.length:=oO
   rw[hk',List.take_of_length_le (by rw[bX];exact Nat.le_refl _)]at hH
   rw[hk']at h6
   clear hJJ
   (repeat' (first|refine qS ?_|(refine qX (zZ ?_))|(refine qR (zZ ?_);simp[h0,h3,h24,h25,h6,hlt])|(refine qC ?_;simp[h0,h3,h24,h25,h6,hlt])|(refine w_e [] ?_;intro J hJ;simp only[];simp[h0,h3,h24,h25,h6,hlt];refine hJ _ _ (zZ ?_))))
   exact⟨hq,hH,hkp⟩
theorem wH(l:List Int)(t:Nat)(st:St)(hl:small l):
 aB Tryz.prog 86 [.sl t l.length (us l)] st fun r st'=>r=.sl 0 l.length (us (nrm l))∧aA st st':=by
 refine bQ ((aDS l t st hl).mono ?_)
 rintro r st' ⟨q,rfl,hlt,hH,hk⟩
 exact⟨q,_,_,1,_,rfl,hH,by simp[bX],by simp[List.take_of_length_le,bX],hk.set hlt _⟩
theorem aJs(c:List Int)(k:Nat)(x:Int)(hk:k<c.length):(c.set k x).take (k+1)=c.take k++[x]:=by
 rw[List.take_succ_eq_append_getElem (by simpa using hk),List.getElem_set_self]
 rw[List.take_set_of_le (Nat.le_refl _)]
theorem set_drop(c:List Int)(k j:Nat)(x:Int)(h:k≤j):(c.set k x).drop (j+1)=c.drop (j+1):=by
 rw[List.drop_set_of_lt oO]
theorem vI(c:List Int)(k:Nat)(x:Int)(hk:k<c.length):(us c).take k++u x::(us c).drop (k+1)=us (c.set k x):=by
 simp only[us]
 rw[← List.map_take,← List.map_drop,List.set_eq_take_append_cons_drop,if_pos hk]
 simp
theorem St.set_set(st:St)(q:Nat)(a b:cA):(st.set q a).set q b=st.set q b:=St.ext' rfl fun y=>by by_cases hy:y=q<;>simp[hy]
def swp(c:List Int)(a b:Nat):List Int:=(c.set a (c.getD b 0)).set b (c.getD a 0)
theorem aEd(c:List Int)(a b:Nat):(swp c a b).length=c.length:=by simp[swp]
theorem aLk(c:List Int)(a b j:Nat)(ha:a<c.length)(hb:b<c.length):(swp c a b).getD j 0=if j=b then c.getD a 0 else if j=a then c.getD b 0 else c.getD j 0:=by
 unfold swp
 simp only[List.getD_eq_getElem?_getD,List.getElem?_set]
 by_cases h1:b=j
 ·subst h1;simp[hb]
 ·by_cases h2:a=j
  ·subst h2;simp[h1,ha,Ne.symm h1]
  ·simp[h1,h2,Ne.symm h1,Ne.symm h2]
theorem aOG(c:List Int)(a b:Nat)(ha:a<c.length)(hb:b<c.length):us (swp c a b)=((us c).set a (u (c.getD b 0))).set b (u (c.getD a 0)):=by
 unfold swp;simp only[us,List.map_set]
theorem tcd(cs:List LV)(o:Nat)(v:LV)(h:o<cs.length):cs.take o++v::cs.drop (o+1)=cs.set o v:=by
 rw[List.set_eq_take_append_cons_drop,if_pos h]
theorem aNB(l c:List Int)(hl:c.length=l.length)(h:∀ j,j<l.length→c.getD j 0=l.getD (l.length-1-j) 0):c=l.reverse:=by
 apply List.ext_getElem (by simp[hl])
 intro j h1 h2
 have:=h j oO
 rw[List.getD_eq_getElem?_getD,List.getD_eq_getElem?_getD,List.getElem?_eq_getElem h1,List.getElem?_eq_getElem oO]at this
 rw[List.getElem_reverse]
 simpa using this
theorem uR(l:List Int)(q:Nat)(st:St)(hl:small l)(hH:st.H q=.box 34 1 (us l)):
 aB Tryz.prog 83 [.ms q 0 l.length] st fun r st'=>st'=st.set q (.box 34 1 (us l.reverse)):=by
 unfold small at hl
 have hw1:IntKind.i64.wrap ((l.length:Int)-1)=(l.length:Int)-1:=wrap_i64 _ oO oO
 refine qO aF Tryz.func83 rfl rfl Tryz.ntmps83 (rs:=[]) rfl sS ?_
 (repeat' (first|refine qS ?_|refine qB ?_|(refine w_e [] ?_;intro J hJ;simp only[];simp[hw1];refine hJ _ _ (zZ ?_))))
 refine qL (fun n fr st'=>∃(k:Nat) (c:List Int),n=l.length-k∧k≤l.length∧fr 0=.ms q 0 l.length∧fr 2=i k∧fr 3=i ((l.length:Int)-1-k)∧c.length=l.length∧st'=st.set q (.box 34 1 (us c))∧∀ j,j<l.length→c.getD j 0=if j<k∨l.length≤j+k then l.getD (l.length-1-j) 0 else l.getD j 0) l.length ?_ ?_
 ·refine⟨0,l,oO,oO,sS,sS,sS,rfl,St.ext' rfl fun x=>by by_cases hx:x=q<;>simp[hx,hH],fun j hj=>?_⟩
  rw[if_neg oO]
 rintro n fr st1 ⟨k,c,rfl,hk,h0,h2,h3,hc,rfl,hin⟩ JJ hJJ
 by_cases hlt:(k:Int)<(l.length:Int)-1-k
 ·obtain⟨m,hm⟩:∃ m:Nat,(l.length:Int)-1-k=m:=⟨l.length-1-k,oO⟩
  rw[hm]at h3 hlt
  have hw2:=qN k oO
  have hw3:IntKind.i64.wrap ((m:Int)-1)=(m:Int)-1:=wrap_i64 _ oO oO
  have hd:=qG c k oO
  have hd2:=qG c m oO
  have hkl:k<l.length:=oO
  have hml:m<l.length:=oO
  (repeat' (first|refine qS ?_|refine qB ?_|(refine qK (zZ ?_))|(refine qC ?_;simp[h0,h2,h3,hlt])|(refine w_e [] ?_;intro J hJ;simp only[];simp[h0,h2,h3,hlt];refine hJ _ _ (zZ ?_))))
  (refine w_s [] [q] [(0,true),(1,true),(2,true),(3,true),(4,true),(5,true),(6,true),(7,true),(8,true),(9,true),(10,true),(11,true),(12,true),(13,false),(14,true),(15,false)] ?_;intro J hJ;simp[h0,h2,h3,hkl,hml,hc,hd,hd2];(repeat refine ca ?_);refine hJ _ _ (zZ ?_))
  (repeat' (refine w_e [] ?_;intro J hJ;simp only[];simp[h2,h3,hw2,hw3];refine hJ _ _ (zZ ?_)))
  refine hJJ _ _ _ ?_ ⟨k+1,swp c k m,rfl,oO,by simp[h0],sS,?_,by rw[aEd];exact hc,St.ext' rfl fun y=>?_,fun j hj=>?_⟩
  ·omega
  ·simp only[oG];simp;omega
  ·by_cases hy:y=q
   ·subst hy
    have hlen:(us c).length=l.length:=by simp[hc]
    simp only[bH,reduceIte,aOG c k m oO oO]
    rw[tcd (us c) k _ oO,tcd _ m _ (by simp;omega)]
    simp[hc,hkl,hml]
   ·simp[hy]
  ·rw[aLk c k m j oO oO,hin k hkl,hin m hml,hin j hj]
   by_cases h1:j=m
   ·rw[if_pos h1,if_neg oO,if_pos oO];congr 1;omega
   ·rw[if_neg h1]
    by_cases h2:j=k
    ·rw[if_pos h2,if_neg oO,if_pos oO];congr 1;omega
    ·rw[if_neg h2]
     by_cases h3:j<k∨l.length≤j+k
     ·rw[if_pos h3,if_pos oO]
     ·rw[if_neg h3,if_neg oO]
 ·have hcr:c=l.reverse:=?_
  ·subst hcr
   clear hJJ
   (repeat' (first|refine qS ?_|(refine qX (zZ ?_))|(refine qC ?_;simp[h0,h2,h3,hlt])|(refine w_e [] ?_;intro J hJ;simp only[];simp[h0,h2,h3,hlt];refine hJ _ _ (zZ ?_))))
   simp
  refine aNB l c hc ?_
  intro j hj
  rw[hin j hj]
  by_cases h:j<k∨l.length≤j+k
  ·rw[if_pos h]
  ·rw[if_neg h]
   congr 1
   omega
theorem isNaN(x:Int)(st:St):aB Tryz.prog 97 [u x] st fun r st'=>r=bb false∧st'=st:=by
 refine qO aF Tryz.func97 rfl rfl Tryz.ntmps97 (rs:=[.tmp 2]) rfl sS ?_
 (repeat' (first|refine qS ?_|(refine qR (zZ ?_);simp[])|(refine w_e [] ?_;intro J hJ;simp only[];simp[];refine hJ _ _ (zZ ?_))))
theorem pF(x y:Int)(st:St):aB Tryz.prog 172 [u x,u y] st fun r st'=>r=bb (decide (x<y))∧st'=st:=by
 refine qO aF Tryz.func172 rfl rfl Tryz.ntmps172 (rs:=[.tmp 4]) rfl sS ?_
 (repeat' (first|refine qS ?_|(refine w_e [] ?_;intro J hJ;simp only[];simp[];(try refine hJ _ _ (zZ ?_)))))
 refine qF (isNaN x _) ?_;rintro r st' ⟨rfl,rfl⟩
 (repeat' (first|(refine qR (zZ ?_);simp[])|(refine aE ?_;simp[];refine hJ _ _ (zZ ?_))))
theorem aR(k:Nat)(h0:0<k)(h:k<9223372036854775807):IntKind.i64.wrap ((k:Int)-1)=((k-1:Nat):Int):=by
 rw[wrap_i64 _ oO oO];omega
abbrev bx(st:St)(q:Nat)(c:List Int):St:=st.set q (.box 34 1 (us c))
theorem gT{st:St}{q:Nat}{c:List Int}(h:st.H q=.box 34 1 (us c)):st=bx st q c:=
 St.ext' rfl fun x=>by by_cases hx:x=q<;>simp[hx,h]
theorem gF(st:St)(q:Nat)(c:List Int)(k m:Nat){x y:Int}(hk:k<c.length)(hm:m<c.length)(hx:c.getD k 0=x)(hy:c.getD m 0=y):
 ((bx st q c).set q (.box 34 1 (List.take k (us c)++.atom (.int .u32 y)::List.drop (k+1) (us c)))).set q
   (.box 34 1 (List.take m (List.take k (us c)++.atom (.int .u32 y)::List.drop (k+1) (us c))++.atom (.int .u32 x)::List.drop (m+1) (List.take k (us c)++.atom (.int .u32 y)::List.drop (k+1) (us c))))=bx st q (sw c k m):=by
 have e:List.take k (us c)++.atom (.int .u32 y)::List.drop (k+1) (us c)=us (c.set k y):=vI c k y hk
 rw[e,vI (c.set k y) m x (by simpa using hm)]
 unfold bx sw
 rw[hx,hy]
 exact St.ext' rfl fun z=>by by_cases hz:z=q<;>simp[hz]
theorem insertionSort(l:List Int)(q a b:Nat)(st:St)(hl:small l)(ha:a≤b)(hb:b≤l.length)(hH:st.H q=.box 34 1 (us l)):
 aB Tryz.prog 166 [.ms q 0 l.length,i a,i b] st fun r st'=>∃ c,st'=bx st q c∧Pm a b l c∧Srt a b c:=by
 unfold small at hl
 refine qO aF Tryz.func166 rfl rfl Tryz.ntmps166 (rs:=[]) rfl sS ?_
 have hw0:=qN a oO
 (repeat' (first|refine qS ?_|refine qB ?_|(refine w_e [] ?_;intro J hJ;simp only[];simp[hw0];refine hJ _ _ (zZ ?_))))
 refine qL (fun n fr st'=>∃(k:Nat) (c:List Int),a<k∧n=b-k∧fr 0=.ms q 0 l.length∧fr 1=i a∧fr 2=i b∧fr 6=i k∧st'=bx st q c∧Pm a b l c∧Srt a k c) (b-(a+1)) ?_ ?_
 ·exact⟨a+1,l,oO,rfl,sS,sS,sS,sS,gT hH,.refl,fun p q h1 h2 h3=>by omega⟩
 rintro n fr st1 ⟨k,c,hak,rfl,f0,f1,f2,f6,rfl,hpm,hs⟩ JJ hJJ
 have hcl:=hpm.len
 by_cases hlt:k<b
 rotate_left
 ·clear hJJ
  have hlt':¬(k:Int)<(b:Int):=oO
  (repeat' (first|refine qS ?_|(refine qX (zZ ?_))|(refine qC ?_;simp[f0,f1,f2,f6,hlt])|(refine w_e [] ?_;intro J hJ;simp only[];simp[f0,f1,f2,f6,hlt];refine hJ _ _ (zZ ?_))))
  exact⟨trivial,c,rfl,hpm,fun p q h1 h2 h3=>hs p q h1 h2 oO⟩
 have hw1:=qN k oO
 (repeat' (first|refine qS ?_|refine qB ?_|(refine qK (zZ ?_))|(refine qC ?_;simp[f0,f1,f2,f6,hlt])|(refine w_e [] ?_;intro J hJ;simp only[];simp[f0,f1,f2,f6,hlt];refine hJ _ _ (zZ ?_))))
 refine qL (fun n fr st'=>∃(j:Nat) (c:List Int),a≤j∧j≤k∧j=n∧fr 0=.ms q 0 l.length∧fr 1=i a∧fr 2=i b∧fr 6=i k∧fr 7=i j∧st'=bx st q c∧Pm a b l c∧Ins a j k c) k ?_ ?_
 ·exact⟨k,c,oO,oO,rfl,by simp[f0],by simp[f1],by simp[f2],by simp[f6],sS,rfl,hpm,hs.ins⟩
 clear f0 f1 f2 f6 hs hpm hcl c fr
 rintro n fr st1 ⟨j,c,haj,hjk,rfl,f0,f1,f2,f6,f7,rfl,hpm,hI⟩ JJ2 hJ2
 have hcl:=hpm.len
 by_cases hj:a<j
 rotate_left
 ·clear hJ2
  have hj':¬(a:Int)<(j:Int):=oO
  (repeat (refine qS ?_));(refine w_s [] [q] [(0,true),(1,true),(2,true),(3,true),(4,true),(5,true),(6,true),(7,true),(8,true),(9,true),(10,true),(11,true),(12,true),(13,false),(14,true)] ?_;intro J hJ;simp[f0,f1,f2,f6,f7,hj];refine hJ _ _ (zZ ?_))
  (repeat' (first|(refine qX (zZ ?_))|(refine qC ?_;simp[f6,hw1])|(refine w_e [] ?_;intro J hJ;simp only[];simp[f6,hw1];refine hJ _ _ (zZ ?_))))
  exact hJJ (b-(k+1)) _ _ oO ⟨k+1,c,oO,rfl,by simp[f0],by simp[f1],by simp[f2],sS,rfl,hpm,hI.done haj (.inl oO)⟩
 have hw2:=aR j oO oO
 have hjl:j<l.length:=oO
 have hjl1:j-1<l.length:=oO
 have hd:=qG c j oO
 have hd2:=qG c (j-1) oO
 have hI1:=hI.step hj hjk oO
 have hI2:=hI.done haj
 have hpm1:=hpm.step j (j-1) oO oO oO oO oO
 generalize hx:c.getD j 0=x at *
 generalize hy:c.getD (j-1) 0=y at *
 (repeat (refine qS ?_));(refine w_s [] [q] [(0,true),(1,true),(2,true),(3,true),(4,true),(5,true),(6,true),(7,true),(8,true),(9,true),(10,true),(11,true),(12,true),(13,false),(14,true)] ?_;intro J hJ;simp[f0,f1,f2,f6,f7,hj,hw2,hjl,hjl1,hcl,hd,hd2])
 refine aO (pF x y _) ?_;rintro r s2 ⟨rfl,rfl⟩
 refine⟨fun _=>by simp,?_⟩
 by_cases hcd:x<y
 rotate_left
 ·clear hJ2
  (refine bE ?_;simp[hcd];refine hJ _ _ (zZ ?_))
  (repeat' (first|(refine qX (zZ ?_))|(refine qC ?_;simp[f6,hw1])|(refine w_e [] ?_;intro J hJ;simp only[];simp[f6,hw1];refine hJ _ _ (zZ ?_))))
  exact hJJ (b-(k+1)) _ _ oO ⟨k+1,c,oO,rfl,by simp[f0],by simp[f1],by simp[f2],sS,rfl,hpm,hI2 (.inr hcd)⟩
 clear hJJ
 (refine bE ?_;simp[hcd];refine hJ _ _ (zZ ?_))
 (repeat' (first|refine qS ?_|refine qB ?_|(refine qK (zZ ?_))|(refine qC ?_;simp[])))
 (refine w_s [] [q] [(0,true),(1,true),(2,true),(3,true),(4,true),(5,true),(6,true),(7,true),(8,true),(9,true),(10,true),(11,true),(12,true),(13,true),(14,true),(15,false),(16,true),(17,false)] ?_;intro J hJ;simp[f0,f1,f2,f6,f7,hw2,hjl,hjl1,hcl,hd,hd2];(repeat refine ca ?_);refine hJ _ _ (zZ ?_))
 (repeat' (refine w_e [] ?_;intro J hJ;simp only[];simp[f7,hw2];refine hJ _ _ (zZ ?_)))
 exact hJ2 (j-1) _ _ oO ⟨j-1,sw c j (j-1),oO,oO,rfl,by simp[f0],by simp[f1],by simp[f2],by simp[f6],sS,gF st q c j (j-1) oO oO hx hy,hpm1,hI1 hcd⟩
theorem aBL(l:List Int)(q a b:Nat)(st:St)(hl:small l)(ha:a≤b)(hb:b≤l.length)(h0:0<b)(hH:st.H q=.box 34 1 (us l)):
 aB Tryz.prog 170 [.ms q 0 l.length,i a,i b] st fun r st'=>∃ c,st'=bx st q c∧Pm a b l c:=by
 unfold small at hl
 refine qO aF Tryz.func170 rfl rfl Tryz.ntmps170 (rs:=[]) rfl sS ?_
 have hw0:=aR b oO oO
 (repeat' (first|refine qS ?_|refine qB ?_|(refine w_e [] ?_;intro J hJ;simp only[];simp[hw0];refine hJ _ _ (zZ ?_))))
 refine qL (fun n fr st'=>∃(k m:Nat) (c:List Int),a≤k∧m<b∧m=n∧fr 0=.ms q 0 l.length∧fr 6=i k∧fr 7=i m∧st'=bx st q c∧Pm a b l c) (b-1) ?_ ?_
 ·exact⟨a,b-1,l,oO,oO,rfl,sS,sS,sS,gT hH,.refl⟩
 rintro n fr st1 ⟨k,m,c,hak,hmb,rfl,f0,f6,f7,rfl,hpm⟩ JJ hJJ
 have hcl:=hpm.len
 by_cases hlt:k<m
 rotate_left
 ·clear hJJ
  (repeat' (first|refine qS ?_|(refine qX (zZ ?_))|(refine qC ?_;simp[f0,f6,f7,hlt])|(refine w_e [] ?_;intro J hJ;simp only[];simp[f0,f6,f7,hlt];refine hJ _ _ (zZ ?_))))
  exact⟨trivial,c,rfl,hpm⟩
 have hw1:=qN k oO
 have hw2:=aR m oO oO
 have hkl:k<l.length:=oO
 have hml:m<l.length:=oO
 have hd:=qG c k oO
 have hd2:=qG c m oO
 have hpm1:=hpm.step k m oO oO oO oO oO
 generalize hx:c.getD k 0=x at *
 generalize hy:c.getD m 0=y at *
 (repeat' (first|refine qS ?_|refine qB ?_|(refine qK (zZ ?_))|(refine qC ?_;simp[f0,f6,f7,hlt])|(refine w_e [] ?_;intro J hJ;simp only[];simp[f0,f6,f7,hlt];refine hJ _ _ (zZ ?_))))
 (refine w_s [] [q] [(0,true),(1,true),(2,true),(3,true),(4,true),(5,true),(6,true),(7,true),(8,true),(9,true),(10,true),(11,true),(12,true),(13,false),(14,true),(15,false)] ?_;intro J hJ;simp[f0,f6,f7,hkl,hml,hcl,hd,hd2];(repeat refine ca ?_);refine hJ _ _ (zZ ?_))
 (repeat' (first|refine qS ?_|(refine w_e [] ?_;intro J hJ;simp only[];simp[f6,f7,hw1,hw2];refine hJ _ _ (zZ ?_))))
 exact hJJ (m-1) _ _ oO ⟨k+1,m-1,sw c k m,oO,oO,rfl,by simp[f0],sS,sS,gF st q c k m oO oO hx hy,hpm1⟩
end Go.Proofs.YtempldclppogmaaGreatDoor.Aw
