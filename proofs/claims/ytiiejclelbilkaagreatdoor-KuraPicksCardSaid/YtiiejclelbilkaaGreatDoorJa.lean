/- Plain lists of numbers: places, least ones, turns. No program. -/
import Derived.RangeFuncBox
import Derived.RangeFuncLeaves
import Derived.Shelf.Abstract
import Derived.WalkKit
import Derived.OwnWalkIn
import Derived.TacticsInMore
import Derived.LoopNIn
import Derived.LoopIn
import Derived.Maps.AppendAt
import Derived.Test.YtiiejclelbilkaaGreatDoorProg
import Derived.Test.YtiiejclelbilkaaGreatDoorAwSet
import Derived.IntWalk
namespace Go.Proofs.YtiiejclelbilkaaGreatDoor.Pl
def gi (l:List Int) (x:Int):Int:=if x∈l then (l.idxOf x:Int) else -1
theorem gi_some {l:List Int} {x:Int} {k:Nat} (hk:k < l.length) (h:l[k]=x) (hn:∀ j (hj:j < k),l[j]'(by omega)≠x):gi l x=k:=by
 have hm:x∈l:=by rw [← h];exact List.getElem_mem hk
 unfold gi
 rw [if_pos hm]
 congr 1
 have h1:l.idxOf x < l.length:=List.idxOf_lt_length_of_mem hm
 have h2:l[l.idxOf x]=x:=List.getElem_idxOf h1
 rcases Nat.lt_trichotomy (l.idxOf x) k with h3 | h3 | h3
 ·exact absurd h2 (hn _ h3)
 ·exact h3
 ·have:=List.not_of_lt_findIdx (p:=fun y=>y==x) (xs:=l) (i:=k) (by simpa [List.idxOf] using h3)
  simp [h] at this
theorem gi_none {l:List Int} {x:Int} (hn:∀ j (hj:j < l.length),l[j]≠x):gi l x = -1:=by
 unfold gi
 rw [if_neg]
 intro hm
 obtain ⟨j,hj,h⟩:=List.getElem_of_mem hm
 exact hn j hj h
theorem gi_neg (l:List Int) (x:Int):gi l x < 0↔x∉l:=by
 unfold gi
 split
 ·rename_i h;simp [h]
 ·rename_i h;simp [h]
def mn:List Int→Int
 | []=>0
 | x::l=>l.foldl (fun a b=>if b < a then b else a) x
theorem foldl_min_le (l:List Int):∀ a:Int,l.foldl (fun a b=>if b < a then b else a) a≤a∧(∀ x∈l,l.foldl (fun a b=>if b < a then b else a) a≤x)∧(l.foldl (fun a b=>if b < a then b else a) a=a∨l.foldl (fun a b=>if b < a then b else a) a∈l):=by
 induction l with
 | nil=>intro a;simp
 | cons b l ih=>
   intro a
   simp only [List.foldl_cons]
   obtain ⟨h1,h2,h3⟩:=ih (if b < a then b else a)
   have c1:(if b < a then b else a)≤a:=by split<;>omega
   have c2:(if b < a then b else a)≤b:=by split<;>omega
   refine ⟨Int.le_trans h1 c1,?_,?_⟩
   ·intro x hx
    rcases List.mem_cons.1 hx with rfl | hx
    ·exact Int.le_trans h1 c2
    ·exact h2 x hx
   ·rcases h3 with h3 | h3
    ·rw [h3]
     split
     ·right;simp
     ·left;rfl
    ·right;simp [h3]
theorem mn_le {l:List Int} {x:Int} (hx:x∈l):mn l≤x:=by
 cases l with
 | nil=>simp at hx
 | cons a l=>
   obtain ⟨h1,h2,_⟩:=foldl_min_le l a
   rcases List.mem_cons.1 hx with rfl | hx
   ·exact h1
   ·exact h2 x hx
theorem mn_mem {l:List Int} (h:l≠[]):mn l∈l:=by
 cases l with
 | nil=>exact absurd rfl h
 | cons a l=>
   obtain ⟨_,_,h3⟩:=foldl_min_le l a
   rcases h3 with h3 | h3
   ·simp only [mn];rw [h3];simp
   ·simp only [mn];exact List.mem_cons_of_mem _ h3
theorem mn_eq {l:List Int} {m:Int} (hm:m∈l) (h:∀ x∈l,m≤x):mn l=m:=by
 have h1:=mn_le hm
 have h2:=h _ (mn_mem (List.ne_nil_of_mem hm))
 omega
theorem mn_append (l:List Int) (x:Int) (h:l≠[]):mn (l++[x])=if x < mn l then x else mn l:=by
 cases l with
 | nil=>exact absurd rfl h
 | cons a l=>rw [List.cons_append,mn,List.foldl_append];rfl
theorem mn_take (l:List Int) (k:Nat) (h0:0 < k) (hk:k < l.length):mn (l.take (k+1))=if l[k] < mn (l.take k) then l[k] else mn (l.take k):=by
 rw [List.take_succ_eq_append_getElem hk,mn_append]
 intro h
 have:=congrArg List.length h
 rw [List.length_take,List.length_nil] at this
 omega
def rt (l:List Int) (k:Nat):List Int:=l.drop k++l.take k
def nrm (l:List Int):List Int:=rt l (l.idxOf (mn l))
theorem rt_length (l:List Int) (k:Nat):(rt l k).length=l.length:=by simp [rt];omega
theorem nrm_length (l:List Int):(nrm l).length=l.length:=rt_length _ _
end Go.Proofs.YtiiejclelbilkaaGreatDoor.Pl
namespace Go.Proofs.YtiiejclelbilkaaGreatDoor.Eu
open Go
set_option linter.unusedSimpArgs false
set_option linter.unusedVariables false
def it (f:Int→Int):Nat→Int→Int
 | 0,x=>x
 | n+1,x=>it f n (f x)
section
variable {f f':Int→Int} {a b:Int}
end
end Go.Proofs.YtiiejclelbilkaaGreatDoor.Eu
namespace Go.Proofs.YtiiejclelbilkaaGreatDoor.Pl
def sw (c:List Int) (a b:Nat):List Int:=(c.set a (c.getD b 0)).set b (c.getD a 0)
theorem sw_length (c:List Int) (a b:Nat):(sw c a b).length=c.length:=by simp [sw]
theorem sw_get (c:List Int) (a b j:Nat) (ha:a < c.length) (hb:b < c.length):(sw c a b).getD j 0=if j=b then c.getD a 0 else if j=a then c.getD b 0 else c.getD j 0:=by
 unfold sw
 simp only [List.getD_eq_getElem?_getD,List.getElem?_set]
 by_cases h1:b=j
 ·subst h1;simp [hb]
 ·by_cases h2:a=j
  ·subst h2;simp [h1,ha,Ne.symm h1]
  ·simp [h1,h2,Ne.symm h1,Ne.symm h2]
theorem sw_perm (c:List Int) (a b:Nat) (ha:a < c.length) (hb:b < c.length):(sw c a b).Perm c:=by
 unfold sw
 have h:=List.set_set_perm ha hb
 simp only [List.getD_eq_getElem?_getD,List.getElem?_eq_getElem ha,List.getElem?_eq_getElem hb,Option.getD_some]
 exact h
inductive Pm (a b:Nat) (l:List Int):List Int→Prop
 | refl:Pm a b l l
 | step {m:List Int} (h:Pm a b l m) (x y:Nat) (hx:a≤x) (hx':x < b) (hy:a≤y) (hy':y < b) (hb:b≤l.length):Pm a b l (sw m x y)
theorem Pm.len {a b:Nat} {l m:List Int} (h:Pm a b l m):m.length=l.length:=by
 induction h with
 | refl=>rfl
 | step h x y _ _ _ _ _ ih=>rw [sw_length];exact ih
theorem Pm.out {a b:Nat} {l m:List Int} (h:Pm a b l m) (j:Nat) (hj:j < a∨b≤j):m.getD j 0=l.getD j 0:=by
 induction h with
 | refl=>rfl
 | step h x y h1 h2 h3 h4 h5 ih=>
   have:=h.len
   rw [sw_get _ _ _ _ (by omega) (by omega),if_neg (by omega),if_neg (by omega)];exact ih
theorem Pm.trans {a b:Nat} {l m n:List Int} (h:Pm a b l m) (k:Pm a b m n):Pm a b l n:=by
 induction k with
 | refl=>exact h
 | step k x y h1 h2 h3 h4 h5 ih=>have:=h.len;exact ih.step x y h1 h2 h3 h4 (by omega)
theorem Pm.wide {a b a' b':Nat} {l m:List Int} (h:Pm a b l m) (ha:a'≤a) (hb:b≤b') (hl:b'≤l.length):Pm a' b' l m:=by
 induction h with
 | refl=>exact .refl
 | step k x y h1 h2 h3 h4 h5 ih=>exact ih.step x y (by omega) (by omega) (by omega) (by omega) hl
theorem Pm.perm {a b:Nat} {l m:List Int} (h:Pm a b l m):m.Perm l:=by
 induction h with
 | refl=>exact .refl _
 | step k x y h1 h2 h3 h4 h5 ih=>have:=k.len;exact (sw_perm _ _ _ (by omega) (by omega)).trans ih
theorem Pm.all {a b:Nat} {l m:List Int} (h:Pm a b l m) (P:Int→Prop) (hP:∀ j,a≤j→j < b→P (l.getD j 0)) (j:Nat) (h1:a≤j) (h2:j < b):P (m.getD j 0):=by
 induction h generalizing j with
 | refl=>exact hP j h1 h2
 | step k x y g1 g2 g3 g4 g5 ih=>
   have:=k.len
   rw [sw_get _ _ _ _ (by omega) (by omega)]
   by_cases e1:j=y
   ·rw [if_pos e1];exact ih x g1 g2
   ·rw [if_neg e1]
    by_cases e2:j=x
    ·rw [if_pos e2];exact ih y g3 g4
    ·rw [if_neg e2];exact ih j h1 h2
theorem Pm.one {a b:Nat} {l:List Int} (x y:Nat) (hx:a≤x) (hx':x < b) (hy:a≤y) (hy':y < b) (hb:b≤l.length):Pm a b l (sw l x y):=Pm.refl.step x y hx hx' hy hy' hb
def Srt (a b:Nat) (l:List Int):Prop:=∀ p q,a≤p→p < q→q < b→l.getD p 0≤l.getD q 0
def Ins (a j i:Nat) (d:List Int):Prop:=∀ p q,a≤p→p < q→q≤i→q≠j→d.getD p 0≤d.getD q 0
theorem Srt.ins {a i:Nat} {d:List Int} (h:Srt a i d):Ins a i i d:=fun p q h1 h2 h3 h4=>h p q h1 h2 (by omega)
theorem Ins.step {a j i:Nat} {d:List Int} (h:Ins a j i d) (hj:a < j) (hi:j≤i) (hil:i < d.length) (hlt:d.getD j 0 < d.getD (j - 1) 0):Ins a (j - 1) i (sw d j (j - 1)):=by
 intro p q h1 h2 h3 h4
 rw [sw_get _ _ _ _ (by omega) (by omega),sw_get _ _ _ _ (by omega) (by omega)]
 by_cases e1:q=j
 ·rw [if_neg h4,if_pos e1]
  by_cases e2:p=j - 1
  ·rw [if_pos e2];omega
  ·rw [if_neg e2,if_neg (by omega)];exact h p (j - 1) h1 (by omega) (by omega) (by omega)
 ·rw [if_neg h4,if_neg e1]
  by_cases e2:p=j - 1
  ·rw [if_pos e2];exact h j q (by omega) (by omega) h3 e1
  ·rw [if_neg e2]
   by_cases e3:p=j
   ·rw [if_pos e3];exact h (j - 1) q (by omega) (by omega) h3 e1
   ·rw [if_neg e3];exact h p q h1 h2 h3 e1
theorem Ins.done {a j i:Nat} {d:List Int} (h:Ins a j i d) (hj:a≤j) (hs:j=a∨¬ d.getD j 0 < d.getD (j - 1) 0):Srt a (i+1) d:=by
 intro p q h1 h2 h3
 by_cases e:q=j
 ·subst e
  have h5:¬ d.getD q 0 < d.getD (q - 1) 0:=by rcases hs with hs | hs;omega;exact hs
  by_cases e2:p=q - 1
  ·subst e2;omega
  ·have:=h p (q - 1) h1 (by omega) (by omega) (by omega);omega
 ·exact h p q h1 h2 (by omega) e
def Heap (lo hi f:Nat) (d:List Int):Prop:=∀ k c,lo≤k→(c=2 * k+1∨c=2 * k+2)→c < hi→d.getD (f+c) 0≤d.getD (f+k) 0
def HeapX (lo hi f r:Nat) (d:List Int):Prop:=(∀ k c,lo≤k→k≠r→(c=2 * k+1∨c=2 * k+2)→c < hi→d.getD (f+c) 0≤d.getD (f+k) 0)∧
 (∀ k c,lo≤k→(r=2 * k+1∨r=2 * k+2)→(c=2 * r+1∨c=2 * r+2)→c < hi→d.getD (f+c) 0≤d.getD (f+k) 0)
theorem Heap.x {lo hi f:Nat} {d:List Int} (h:Heap (lo+1) hi f d):HeapX lo hi f lo d:=
 ⟨fun k c h1 h2 h3 h4=>h k c (by omega) h3 h4,fun k c h1 h2 h3 h4=>by omega⟩
theorem HeapX.leaf {lo hi f r:Nat} {d:List Int} (h:HeapX lo hi f r d) (hr:hi≤2 * r+1):Heap lo hi f d:=by
 intro k c h1 h2 h3
 exact h.1 k c h1 (by omega) h2 h3
theorem HeapX.big {lo hi f r:Nat} {d:List Int} (h:HeapX lo hi f r d) (hr:∀ c,(c=2 * r+1∨c=2 * r+2)→c < hi→d.getD (f+c) 0≤d.getD (f+r) 0):Heap lo hi f d:=by
 intro k c h1 h2 h3
 by_cases e:k=r
 ·subst e;exact hr c h2 h3
 ·exact h.1 k c h1 e h2 h3
theorem HeapX.step {lo hi f r c:Nat} {d:List Int} (h:HeapX lo hi f r d) (hlo:lo≤r) (hc:c=2 * r+1∨c=2 * r+2) (hci:c < hi) (hl:f+hi≤d.length) (hm:∀ x,(x=2 * r+1∨x=2 * r+2)→x < hi→d.getD (f+x) 0≤d.getD (f+c) 0)
 (hlt:d.getD (f+r) 0 < d.getD (f+c) 0):HeapX lo hi f c (sw d (f+r) (f+c)):=by
 constructor
 ·intro k x h1 h2 h3 h4
  rw [sw_get _ _ _ _ (by omega) (by omega),sw_get _ _ _ _ (by omega) (by omega)]
  by_cases e1:k=r
  ·subst e1
   rw [if_neg (show ¬ f+k=f+c by omega),if_pos (rfl:f+k=f+k)]
   by_cases e2:x=c
   ·rw [if_pos (by omega)];omega
   ·rw [if_neg (by omega),if_neg (by omega)];exact hm x h3 h4
  ·rw [if_neg (show ¬ f+k=f+c by omega),if_neg (show ¬ f+k=f+r by omega)]
   by_cases e2:x=r
   ·subst e2
    rw [if_neg (by omega),if_pos (rfl:f+x=f+x)];exact h.2 k c h1 h3 hc hci
   ·rw [if_neg (by omega),if_neg (by omega)];exact h.1 k x h1 e1 h3 h4
 ·intro k x h1 h2 h3 h4
  have e1:k=r:=by omega
  subst e1
  rw [sw_get _ _ _ _ (by omega) (by omega),sw_get _ _ _ _ (by omega) (by omega)]
  rw [if_neg (by omega),if_neg (by omega),if_neg (show ¬ f+k=f+c by omega),if_pos (rfl:f+k=f+k)]
  exact h.1 c x (by omega) (by omega) h3 h4
theorem Heap.top {hi f:Nat} {d:List Int} (h:Heap 0 hi f d):∀ c,c < hi→d.getD (f+c) 0≤d.getD f 0:=by
 intro c
 induction c using Nat.strongRecOn with
 | ind c ih=>
   intro hc
   by_cases h0:c=0
   ·subst h0;simp
   ·have h1:=h ((c - 1) / 2) c (by omega) (by omega) hc
    have h2:=ih ((c - 1) / 2) (by omega) (by omega)
    omega
theorem Heap.pop {j f:Nat} {c:List Int} (h:Heap 0 (j+1) f c) (hl:f+j < c.length):Heap 1 j f (sw c f (f+j)):=by
 intro k x h1 h2 h3
 rw [sw_get _ _ _ _ (by omega) (by omega),sw_get _ _ _ _ (by omega) (by omega)]
 rw [if_neg (by omega),if_neg (by omega),if_neg (by omega),if_neg (by omega)]
 exact h k x (by omega) h2 (by omega)
theorem heap_next {hi f j:Nat} {c c2:List Int} (hH:Heap 0 (j+1) f c) (ho:∀ p q,p < q→j+1≤q→q < hi→c.getD (f+p) 0≤c.getD (f+q) 0) (hj:j < hi) (hl:f+hi≤c.length) (hp:Pm f (f+j) (sw c f (f+j)) c2):
 ∀ p q,p < q→j≤q→q < hi→c2.getD (f+p) 0≤c2.getD (f+q) 0:=by
 intro p q h1 h2 h3
 have g:=fun x=>sw_get c f (f+j) x (by omega) (by omega)
 rw [hp.out (f+q) (by omega),g (f+q)]
 by_cases e:q=j
 ·subst e
  rw [if_pos rfl]
  refine hp.all (fun x=>x≤c.getD f 0) (fun x h4 h5=>?_) (f+p) (by omega) (by omega)
  rw [g,if_neg (by omega)]
  by_cases e2:x=f
  ·rw [if_pos e2];exact hH.top q (by omega)
  ·rw [if_neg e2]
   have:=hH.top (x - f) (by omega)
   rwa [show f+(x - f)=x by omega] at this
 ·rw [if_neg (by omega),if_neg (by omega)]
  by_cases e2:p < j
  ·refine hp.all (fun x=>x≤c.getD (f+q) 0) (fun x h4 h5=>?_) (f+p) (by omega) (by omega)
   rw [g,if_neg (by omega)]
   by_cases e3:x=f
   ·rw [if_pos e3];exact ho j q (by omega) (by omega) h3
   ·rw [if_neg e3]
    have:=ho (x - f) q (by omega) (by omega) h3
    rwa [show f+(x - f)=x by omega] at this
  ·rw [hp.out (f+p) (by omega),g]
   by_cases e3:p=j
   ·rw [if_pos (by omega)]
    have:=ho 0 q (by omega) (by omega) h3
    rwa [Nat.add_zero] at this
   ·rw [if_neg (by omega),if_neg (by omega)];exact ho p q h1 (by omega) h3
theorem srt_glue {a m b:Nat} {d:List Int} (h1:Srt a m d) (h2:Srt (m+1) b d) (h3:∀ p,a≤p→p < m→d.getD p 0≤d.getD m 0) (h4:∀ q,m < q→q < b→d.getD m 0≤d.getD q 0):Srt a b d:=by
 intro p q k1 k2 k3
 rcases Nat.lt_trichotomy p m with e | e | e
 ·rcases Nat.lt_trichotomy q m with e' | e' | e'
  ·exact h1 p q k1 k2 e'
  ·subst e';exact h3 p k1 e
  ·have:=h3 p k1 e;have:=h4 q e' k3;omega
 ·subst e;exact h4 q k2 k3
 ·exact h2 p q (by omega) k2 k3
def Lo (P:Int→Bool) (c:List Int) (a m:Nat):Prop:=∀ p,a < p→p < m→P (c.getD p 0)=true
def Hi (P:Int→Bool) (c:List Int) (m b:Nat):Prop:=∀ p,m < p→p < b→P (c.getD p 0)=false
theorem Lo.more {P:Int→Bool} {c:List Int} {a m:Nat} (h:Lo P c a m) (hm:P (c.getD m 0)=true):Lo P c a (m+1):=by
 intro p h1 h2
 by_cases e:p=m
 ·rw [e];exact hm
 ·exact h p h1 (by omega)
theorem Hi.more {P:Int→Bool} {c:List Int} {m b:Nat} (h:Hi P c m b) (h0:0 < m) (hm:P (c.getD m 0)=false):Hi P c (m - 1) b:=by
 intro p h1 h2
 by_cases e:p=m
 ·rw [e];exact hm
 ·exact h p (by omega) h2
theorem Lo.swp {P:Int→Bool} {c:List Int} {a k m:Nat} (h:Lo P c a k) (hkm:k < m) (hm:m < c.length) (hp:P (c.getD m 0)=true):Lo P (sw c k m) a (k+1):=by
 intro p h1 h2
 rw [sw_get _ _ _ _ (by omega) (by omega),if_neg (by omega)]
 by_cases e:p=k
 ·rw [if_pos e];exact hp
 ·rw [if_neg e];exact h p h1 (by omega)
theorem Hi.swp {P:Int→Bool} {c:List Int} {k m b:Nat} (h:Hi P c m b) (hkm:k < m) (hm:m < c.length) (hp:P (c.getD k 0)=false):Hi P (sw c k m) (m - 1) b:=by
 intro p h1 h2
 rw [sw_get _ _ _ _ (by omega) (by omega)]
 by_cases e:p=m
 ·rw [if_pos e];exact hp
 ·rw [if_neg e,if_neg (by omega)];exact h p (by omega) h2
def Parted (P:Int→Bool) (c:List Int) (a m b:Nat):Prop:=(∀ p,a≤p→p < m→P (c.getD p 0)=true)∧(∀ p,m < p→p < b→P (c.getD p 0)=false)
def PartedEq (c:List Int) (a m b:Nat) (x:Int):Prop:=(∀ p,a≤p→p < m→c.getD p 0≤x)∧(∀ p,m≤p→p < b→x < c.getD p 0)
def PartedAt (c:List Int) (a m b:Nat):Prop:=Parted (fun v=>decide (v < c.getD m 0)) c a m b
theorem parted_last {P:Int→Bool} {c:List Int} {a m b:Nat} (h1:Lo P c a (m+1)) (h2:Hi P c m b) (ham:a≤m) (hmb:m < b) (hb:b≤c.length):Parted P (sw c m a) a m b∧(sw c m a).getD m 0=c.getD a 0:=by
 refine ⟨⟨fun p k1 k2=>?_,fun p k1 k2=>?_⟩,?_⟩
 ·rw [sw_get _ _ _ _ (by omega) (by omega)]
  by_cases e:p=a
  ·rw [if_pos e];exact h1 m (by omega) (by omega)
  ·rw [if_neg e,if_neg (by omega)];exact h1 p (by omega) (by omega)
 ·rw [sw_get _ _ _ _ (by omega) (by omega),if_neg (by omega),if_neg (by omega)];exact h2 p k1 k2
 ·rw [sw_get _ _ _ _ (by omega) (by omega)]
  by_cases e:m=a
  ·rw [if_pos e,e]
  ·rw [if_neg e,if_pos rfl]
theorem srt_pair {l:List Int} (h:Srt 0 l.length l):l.Pairwise (·≤·):=by
 refine List.pairwise_iff_getElem.2 fun p q hp hq hpq=>?_
 have:=h p q (by omega) hpq hq
 rwa [List.getD_eq_getElem?_getD,List.getD_eq_getElem?_getD,List.getElem?_eq_getElem hp,List.getElem?_eq_getElem hq] at this
theorem srt_unique {l m:List Int} (h:l.Pairwise (·≤·)) (k:m.Pairwise (·≤·)) (hp:l.Perm m):l=m:=
 hp.eq_of_pairwise (fun a b _ _ h1 h2=>by omega) h k
end Go.Proofs.YtiiejclelbilkaaGreatDoor.Pl
namespace Go.Proofs.YtiiejclelbilkaaGreatDoor.Rg
open Go Go.RowKit Go.Shelf
set_option linter.unusedSimpArgs false
set_option linter.unusedVariables false
attribute [local go_sem] Oper.semAt_some
def upto (zs:List Int) (k:Nat):List Int:=(List.range k).map fun j=>zs[j]?.getD 0
theorem upto_succ (zs:List Int) (k:Nat):upto zs (k+1)=upto zs k++[zs[k]?.getD 0]:=by simp [upto,List.range_succ]
theorem upto_length (zs:List Int) (k:Nat):(upto zs k).length=k:=by simp [upto]
theorem upto_all (zs:List Int):upto zs zs.length=zs:=by
 apply List.ext_getElem
 ·simp [upto]
 ·intro i h1 h2
  simp [upto,h2]
set_option maxRecDepth 100000 in
set_option maxHeartbeats 2000000 in
theorem values1_in (F:Fence) (n:Nat) (h7:F.fn 139) (hro:F.round=none) (hn:1≤n) (l Bs n₀ b off len cap:Nat) (zs:List Int) (hlen:len≤1048576) (hb:b < n₀) (J Jx:List Int→World→Prop)
 (hY:∀ pre x W,J pre W→pre.length < len→YieldAt F (n - 1) Tryz.prog l #[.int .u32 x] W fun e W'=>
   (e=.returned (.bool true)∧J (pre++[x]) W'∧Below n₀ W W')∨(e=.returned (.bool false)∧Jx (pre++[x]) W'))
 (W:World) (hBs:W.cell? ⟨Bs,0,none⟩=some (.slice (some ⟨b,off,none⟩) len cap)) (hc:∀ j,j < len→W.cell? ⟨b,off+j,none⟩=some (.int .u32 (zs[j]?.getD 0))) (h0:J [] W):
 CallsIn F n Tryz.prog 139 #[.func (.yield l) #[] #[],.pointer (some ⟨Bs,0,none⟩)] W fun e W'=>(∃ v,e=.returned v)∧
  ((∃ ys,ys=upto zs len∧J ys W')∨(∃ pre,(∃ k,k≤len∧pre=upto zs k)∧Jx pre W')):=by
 refine callsIn_of_wp Tryz.func139 rfl h7 ?_ hro
 simp only [Tryz.ntmps139,List.size_toArray,List.length_cons,List.length_nil,Nat.reduceAdd,Nat.reduceSub,Array.replicate_succ,Array.replicate_zero,List.push_toArray,List.append_toArray,List.nil_append,List.cons_append]
 gi_wp2
 gi_loopw [7] (fun i wr=>∃ k:Nat,k≤len∧i=.int .i64 k∧J (upto zs k) wr∧Below n₀ W wr)
  (fun i _=>len - (intOf i).toNat)
 case atStart=>exact ⟨0,Nat.zero_le _,rfl,h0,Below.refl _ _⟩
 case round=>
  obtain ⟨k,hk,rfl,hJs,hnx⟩:=hrel
  have hcx:k < len→wr.cell? ⟨b,off+k,none⟩=some (.int .u32 (zs[k]?.getD 0)):=fun h=>(hnx.cell (p:=⟨b,off+k,none⟩) hb).trans (hc k h)
  by_cases hlt:k < len
  ·obtain ⟨fn,tmps,assign,body,hy,hR⟩:=hY _ (zs[k]?.getD 0) wr hJs (by rw [upto_length];exact hlt)
   have hcx':=hcx hlt
   gi_wp2
   refine hR.mono ?_
   rintro e W3 (⟨rfl,hJ3,hk3⟩ | ⟨rfl,hJx3⟩)
   ·gi_wp2
    go_roundw
    case rel=>exact ⟨k+1,by omega,by simp,by rw [upto_succ];exact hJ3,hnx.trans hk3⟩
    case measure=>simp [intOf];omega
   ·gi_wp2
    refine bodyPost_ret (results_none rfl _ _ _) rfl ?_
    exact ⟨⟨_,rfl⟩,.inr ⟨_,⟨k+1,by omega,(upto_succ _ _).symm⟩,hJx3⟩⟩
  ·obtain rfl:k=len:=by omega
   gi_wp2
   go_end0
   exact ⟨⟨_,rfl⟩,.inl ⟨_,rfl,hJs⟩⟩
set_option maxRecDepth 100000 in
set_option maxHeartbeats 1000000 in
theorem values1_nil_in (F:Fence) (n:Nat) (h7:F.fn 139) (hro:F.round=none) (l Bs:Nat) (J:List Int→World→Prop) (W:World) (A:Option Addr) (cap:Nat) (hBs:W.cell? ⟨Bs,0,none⟩=some (.slice A 0 cap)) (h0:J [] W):
 CallsIn F n Tryz.prog 139 #[.func (.yield l) #[] #[],.pointer (some ⟨Bs,0,none⟩)] W fun e W'=>(∃ v,e=.returned v)∧J [] W':=by
 refine callsIn_of_wp Tryz.func139 rfl h7 ?_ hro
 simp only [Tryz.ntmps139,List.size_toArray,List.length_cons,List.length_nil,Nat.reduceAdd,Nat.reduceSub,Array.replicate_succ,Array.replicate_zero,List.push_toArray,List.append_toArray,List.nil_append,List.cons_append]
 gi_wp2
 gi_loopw [7] (fun i wr=>i=.int .i64 0∧J [] wr) (fun _ _=>0)
 case atStart=>exact ⟨rfl,h0⟩
 case round=>
  obtain ⟨rfl,hJs⟩:=hrel
  gi_wp2
  go_end0
  exact ⟨⟨_,rfl⟩,hJs⟩
def Ints (n₀:Nat) (W:World) (sv:Value) (zs:List Int):Prop:=
 (zs=[]∧∃ A cap,sv=.slice A 0 cap)∨∃ b off cap,sv=.slice (some ⟨b,off,none⟩) zs.length cap∧b < n₀∧∀ j,j < zs.length→W.cell? ⟨b,off+j,none⟩=some (.int .u32 (zs[j]?.getD 0))
theorem Ints.below {n₀:Nat} {A B:World} (h:Below n₀ A B) {sv:Value} {zs:List Int}:Ints n₀ A sv zs→Ints n₀ B sv zs
 | .inl e=>.inl e
 | .inr ⟨b,off,cap,e,hb,hc⟩=>.inr ⟨b,off,cap,e,hb,fun j hj=>(h.cell (p:=⟨b,off+j,none⟩) hb).trans (hc j hj)⟩
theorem values_stops (F:Fence) (n:Nat) (h7:F.fn 139) (hro:F.round=none) (hn:1≤n) (Bs n₀:Nat) (sv:Value) (zs:List Int) (hlen:zs.length≤1048576) (w:World) (hBs:Bs < w.heap.size) (hn₀:n₀≤w.heap.size)
 (hc:w.cell? ⟨Bs,0,none⟩=some sv) (hI:Ints n₀ w sv zs):
 SeqStopsK F n Tryz.prog 139 #[.pointer (some ⟨Bs,0,none⟩)] (fun x:Int=>#[Value.int .u32 x]) (Below n₀) (fun ys=>ys=zs) (fun _=>True) zs.length w:=fun l J Jx W hW _ _ hY h0=>by
 have hc':=(hW.cell (p:=⟨Bs,0,none⟩) hBs).trans hc
 rcases hI.below (hW.mono hn₀) with ⟨rfl,A,cap,rfl⟩ | ⟨b,off,cap,rfl,hb,hcs⟩
 ·exact (values1_nil_in F n h7 hro l Bs J W A cap hc' h0).mono fun e W' ⟨he,hj⟩=>⟨he,.inl ⟨_,rfl,hj⟩⟩
 ·refine (values1_in F n h7 hro hn l Bs n₀ b off zs.length cap zs hlen hb J Jx hY W hc' hcs h0).mono ?_
  rintro e W' ⟨he,⟨ys,rfl,hj⟩ | ⟨pre,⟨k,hk,rfl⟩,hj⟩⟩
  ·exact ⟨he,.inl ⟨_,upto_all zs,hj⟩⟩
  ·exact ⟨he,.inr ⟨_,trivial,hj⟩⟩
theorem infoU:(Tryz.prog.info? 26).map (fun i=>(i.zero,i.size,i.bytes))=some (some (.int .u32 0),1,4):=by kernel_rfl
set_option maxRecDepth 100000 in
set_option maxHeartbeats 2000000 in
theorem appendSeq_in (F:Fence) (n:Nat) (h3:F.fn 130) (h7:F.fn 139) (hro:F.round=none) (hn:3≤n) (Bs:Nat) (sv:Value) (zs:List Int) (hlen:zs.length≤1048576) (w:World) (hBs:Bs < w.heap.size)
 (hc:w.cell? ⟨Bs,0,none⟩=some sv) (hI:Ints w.heap.size w sv zs):
 CallsIn F n Tryz.prog 130 #[.slice none 0 0,.func (.func 139) #[] #[.pointer (some ⟨Bs,0,none⟩)]] w fun e W'=>∃ v,e=.returned v∧W'.ownsRow w.heap.size 26 1 v zs.length (zs.map (Value.int .u32))∧Below w.heap.size w W':=by
 have h1:1≤n:=by omega
 obtain ⟨i0,hi,hz0,hz1,hz2⟩:=info_parts infoU
 refine callsIn_of_wp_marks Tryz.func130 rfl h3 ?_ hro
 simp only [Tryz.ntmps130,List.size_toArray,List.length_cons,List.length_nil,Nat.reduceAdd,Nat.reduceSub,Array.replicate_succ,Array.replicate_zero,List.push_toArray,List.append_toArray,List.nil_append,List.cons_append]
 gi_wp2
 have bO:=Boxed.new w 25 (.slice none 0 0)
 have hB0:Below w.heap.size w (w.alloc (.cells #[.slice none 0 0] 25)):=(Below.refl _ w).alloc (Nat.le_refl _) _
 refine wpIn_rangeFunc_ownG hro h1 (gf:=139) (lb:=#[.pointer (some ⟨Bs,0,none⟩)]) rfl h7 (enters_of Tryz.func139 (by kernel_rfl) rfl)
  (values_stops F (n - 1) h7 hro (by omega) Bs w.heap.size sv zs hlen _ (by simp;omega) (by simp) ((hB0.cell (p:=⟨Bs,0,none⟩) hBs).trans hc) (hI.below hB0)) belowK_t (belowK_b (by simp)) (Below.refl _ _) (fun _=>rfl)
  (fun pre W=>(∃ v,Boxed W w.heap.size 25 v∧W.ownsRow w.heap.size 26 1 v pre.length (pre.map (Value.int .u32))∧True)∧Below w.heap.size w W)
  (fun _ _ _=>False)
  (OwnFrom.and (Own.from (holdsRow_own w.heap.size w.heap.size 25 26 1 (fun pre:List Int=>pre.length) (fun pre:List Int=>pre.map (Value.int .u32)) (fun _ _=>True)) _) (ownFrom_below (Nat.le_refl _) (by simp)))
  (fun _ _ _ _ _ hs _ _=>hs)
  ⟨⟨_,bO,World.ownsRow_nil _ _ _ _,trivial⟩,hB0⟩
  (fun x=>{ tmps:=#[.slice none 0 0,.func (.func 139) #[] #[.pointer (some ⟨Bs,0,none⟩)],.pointer (some ⟨w.heap.size,0,none⟩),undef,.slice none 0 0,.int .u32 x,.func (.func 139) #[] #[.pointer (some ⟨Bs,0,none⟩)],.int .u32 x,undef,undef,undef,undef,undef],defers:=[] }) ?assign ?body ?done ?stop
 case assign=>
  intro l x W K hK
  gi_wp2
  exact hK
 case body=>
  rintro l pre x W ⟨⟨v,hv,hrow,_⟩,hB⟩ hlt
  have hc:=hv.cell
  gi_wp2_with (gi_at_builtin;refine wpListIn_append_own _ rfl _ _ 25 rfl w.heap.size 26 i0 (.int .u32 0) 1 4 Tryz.underlying25 hi hz0 hz1 hz2 rfl (by decide) _ _ _ rfl (hrow.alloc _) ⟨W.heap.size,0,none⟩ 1 1 [.int .u32 x] rfl rfl (cell_one_new _ _ _) (by simp [Value.oneCell']) (by simp only [maxLen];omega) (by omega) (by have:=hB.size;simp;omega) ?_;intro v' w1 hown' hgrow _;obtain ⟨g',cap',rfl⟩:=ownsRow_succ hown';obtain ⟨hv1,hv2,hr2,hk2,hb2⟩:=hv.appended (by decide) hrow hB.size (Nat.le_refl _) hown' hgrow;have hc1:=hv1.cell;have hf1:=hv1.frozen)
  exact ⟨hk2.from _,hb2,⟨_,hv2,by simpa using hr2,trivial⟩,hB.trans hb2⟩
 case done=>
  rintro D ys W hD rfl ⟨⟨v,hv,hrow,_⟩,hB⟩ hK
  have hc:=hv.cell
  gi_wp2
  refine ⟨by simp,.inl ⟨_,_,rfl,run_takeDeferred hK,?_⟩⟩
  exact ⟨_,results_tmp rfl _ _ _,v,rfl,ownsRow_putObj hrow _ hK rfl,hB.trans (belowK_b (w:=w) (Nat.le_refl _) W D _ _ (by simp at hD;omega) hK rfl rfl)⟩
 case stop=>
  rintro D c pre W _ _ h _
  exact h.elim
set_option maxRecDepth 100000 in
set_option maxHeartbeats 1000000 in
theorem collect_in (F:Fence) (n:Nat) (h2:F.fn 93) (h3:F.fn 130) (h7:F.fn 139) (hro:F.round=none) (hn:4≤n) (Bs:Nat) (sv:Value) (zs:List Int) (hlen:zs.length≤1048576) (w:World) (hBs:Bs < w.heap.size)
 (hc:w.cell? ⟨Bs,0,none⟩=some sv) (hI:Ints w.heap.size w sv zs):
 CallsIn F n Tryz.prog 93 #[.func (.func 139) #[] #[.pointer (some ⟨Bs,0,none⟩)]] w fun e W'=>∃ v,e=.returned v∧W'.ownsRow w.heap.size 26 1 v zs.length (zs.map (Value.int .u32))∧Below w.heap.size w W':=by
 have h1:1≤n:=by omega
 refine callsIn_of_wp Tryz.func93 rfl h2 ?_ hro
 simp only [Tryz.ntmps93,List.size_toArray,List.length_cons,List.length_nil,Nat.reduceAdd,Nat.reduceSub,Array.replicate_succ,Array.replicate_zero,List.push_toArray,List.append_toArray,List.nil_append,List.cons_append]
 gi_wp2_with (gi_at_call 130;refine (appendSeq_in F (n - 1) h3 h7 hro (by omega) Bs sv zs hlen _ hBs hc hI).mono ?_;rintro e w' ⟨v,rfl,hrow,hbel⟩)
 go_ret
 exact ⟨v,rfl,hrow,hbel⟩
end Go.Proofs.YtiiejclelbilkaaGreatDoor.Rg
namespace Go.Proofs.YtiiejclelbilkaaGreatDoor.Aw
open Go Go.RowKit
set_option linter.unusedSimpArgs false
set_option linter.unusedVariables false
theorem wrap_u32 (n:Int):IntKind.u32.wrap n=n % 4294967296:=by simp [IntKind.wrap,IntKind.signed,IntKind.bits]
theorem wrap_i64 (n:Int) (h1 : -9223372036854775808≤n) (h2:n≤9223372036854775807):IntKind.i64.wrap n=n:=by
 simp only [IntKind.wrap,IntKind.signed,IntKind.bits]
 simp
 split<;>omega
theorem of_bits (a:Int) (e:Int) (h0:0≤a) (h1:a < 4294967296) (ha:a % 2=0) (he:e=0∨e=1):gor .u32 a e=a+e:=by
 unfold gor IntKind.bits
 obtain ⟨n,rfl⟩:=Int.eq_ofNat_of_zero_le h0
 rw [wrap_u32,BitVec.toNat_or]
 have e1:(BitVec.ofInt 32 (n:Int)).toNat=n:=by rw [BitVec.ofInt_natCast,BitVec.toNat_ofNat];exact Nat.mod_eq_of_lt (by omega)
 rw [e1]
 rcases he with rfl | rfl
 ·simp;omega
 ·have e2:(BitVec.ofInt 32 1).toNat=1:=by decide
  have:n ||| 1=n+1:=by
   apply Nat.eq_of_testBit_eq;intro j
   cases j with
   | zero=>simp;omega
   | succ j=>rw [Nat.testBit_or];simp [Nat.testBit_succ];congr 1;omega
  rw [e2,this];omega
theorem and_one (e:Int):gand .i64 e 1=e % 2:=by
 show IntKind.i64.wrap ((BitVec.ofInt 64 e &&& BitVec.ofInt 64 1).toNat:Int)=_
 have e2:(BitVec.ofInt 64 1).toNat=1:=by decide
 rw [BitVec.toNat_and,e2,Nat.and_one_is_mod,wrap_i64 _ (by omega) (by omega),BitVec.toNat_ofInt]
 omega
theorem shl_one (a:Int):gshl .u32 a 1=a * 2 % 4294967296:=by
 unfold gshl;rw [wrap_u32];rfl
theorem Of (id e:Int) (st:St):
 ACalls Tryz.prog 48 [u id,i e] st fun r st'=>r=u (id * 2 % 4294967296+e % 2)∧st'=st:=by
 refine qO tabOk Tryz.func48 rfl rfl Tryz.ntmps48 (rs:=[.tmp 4]) rfl (by simp) ?_
 (repeat' (first | refine qS ?_ | (refine qR ?_;simp only [ak,reduceIte];simp []) | (refine w_e [] ?_;intro J hJ;simp only [];simp [];(refine hJ _ _ ?_;clear hJ J;simp only [ak,reduceIte]))))
 rw [shl_one,and_one,wrap_u32,of_bits _ _ (by omega) (by omega) (by omega) (by omega)]
 omega
end Go.Proofs.YtiiejclelbilkaaGreatDoor.Aw
namespace Go.Proofs.YtiiejclelbilkaaGreatDoor.Aw
open Go Go.RowKit Go.Proofs.YtiiejclelbilkaaGreatDoor.Pl
set_option linter.unusedSimpArgs false
set_option linter.unusedVariables false
theorem qN (k:Nat) (h:k < 9223372036854775807):IntKind.i64.wrap ((k:Int)+1)=((k+1:Nat):Int):=by
 rw [wrap_i64 _ (by omega) (by omega)];omega
theorem us_drop_head (l:List Int) (k:Nat) (hk:k < l.length):(us l).drop k=u l[k]::us (l.drop (k+1)):=by
 rw [us,← List.map_drop,List.drop_eq_getElem_cons hk];rfl
theorem qG (l:List Int) (k:Nat) (hk:k < l.length):(us l).drop k=u (l.getD k 0)::us (l.drop (k+1)):=by
 rw [us_drop_head l k hk];simp [hk]
theorem gi_mem {l:List Int} {d:Int} (h:d∈l):gi l d=((l.idxOf d:Nat):Int):=by unfold gi;rw [if_pos h]
theorem gi_not {l:List Int} {d:Int} (h:¬ d∈l):gi l d = -1:=by unfold gi;rw [if_neg h]
theorem getD_lt (l:List Int) (j:Nat) (hj:j < l.length):l.getD j 0=l[j]:=by
 rw [List.getD_eq_getElem?_getD,List.getElem?_eq_getElem hj];rfl
theorem St.ext' {a b:St} (h:a.next=b.next) (k:∀ x,a.H x=b.H x):a=b:=by
 cases a;cases b;simp only at h k;subst h;congr;funext x;exact k x
def small (l:List Int):Prop:=l.length≤1048576
theorem Index (l:List Int) (t:Nat) (x:Int) (st:St) (hl:small l):
 ACalls Tryz.prog 37 [.sl t l.length (us l),u x] st fun r st'=>r=i (gi l x)∧st'=st:=by
 unfold small at hl
 refine qO tabOk Tryz.func37 rfl rfl Tryz.ntmps37 (rs:=[.tmp 4]) rfl (by simp) ?_
 (repeat' (first | refine qS ?_ | refine qB ?_ | (refine w_e [] ?_;intro J hJ;simp only [];simp [];(refine hJ _ _ ?_;clear hJ J;simp only [ak,reduceIte]))))
 refine qL (fun n fr st'=>∃ k:Nat,k≤l.length∧n=l.length - k∧fr 0=.sl t l.length (us l)∧fr 1=u x∧fr 7=i l.length∧fr 8=i k∧st'=st∧∀ j (hj:j < l.length),j < k→l[j]≠x) l.length ?_ ?_
 ·exact ⟨0,by omega,by omega,by simp,by simp,by simp,by simp,rfl,fun j _ h=>by omega⟩
 rintro n fr st' ⟨k,hk,rfl,h0,h1,h7,h8,rfl,hno⟩ JJ hJJ
 by_cases hlt:k < l.length
 ·have hd:=us_drop_head l k hlt
  have hw:=qN k (by omega)
  (repeat' (first | refine qS ?_ | refine qB ?_ | (refine qK ?_;simp only [ak,reduceIte]) | (refine qR ?_;simp only [ak,reduceIte];simp [h0,h1,h7,h8,hlt,hd,hw]) | (refine qC ?_;simp [h0,h1,h7,h8,hlt,hd,hw];(try with_reducible refine ⟨?_,?_⟩)<;>(try with_reducible intro hc)) | (refine w_e [] ?_;intro J hJ;simp only [];simp [h0,h1,h7,h8,hlt,hd,hw];(refine hJ _ _ ?_;clear hJ J;simp only [ak,reduceIte]))))
  ·exact (gi_some hlt hc.symm (fun j hj=>hno j (by omega) hj)).symm
  ·refine hJJ _ _ _ ?_ ⟨k+1,by omega,rfl,by simp [h0],by simp [h1],by simp [h7],by simp,rfl,fun j hj hjk=>?_⟩
   ·omega
   ·rcases Nat.lt_or_ge j k with h | h
    ·exact hno j hj h
    ·obtain rfl:j=k:=by omega
     exact fun h=>hc h.symm
 ·(repeat' (first | refine qS ?_ | (refine qX ?_;simp only [ak,reduceIte]) | (refine qR ?_;simp only [ak,reduceIte];simp [h0,h1,h7,h8,hlt]) | (refine qC ?_;simp [h0,h1,h7,h8,hlt]) | (refine w_e [] ?_;intro J hJ;simp only [];simp [h0,h1,h7,h8,hlt];(refine hJ _ _ ?_;clear hJ J;simp only [ak,reduceIte]))))
  exact (gi_none (fun j hj=>hno j hj (by omega))).symm
theorem Contains (l:List Int) (t:Nat) (x:Int) (st:St) (hl:small l):
 ACalls Tryz.prog 13 [.sl t l.length (us l),u x] st fun r st'=>r=bb (decide (x∈l))∧st'=st:=by
 refine qO tabOk Tryz.func13 rfl rfl Tryz.ntmps13 (rs:=[.tmp 4]) rfl (by simp) ?_
 (repeat' (first | refine qS ?_ | (refine w_e [] ?_;intro J hJ;simp only [];simp [];(try (refine hJ _ _ ?_;clear hJ J;simp only [ak,reduceIte])))))
 refine qF (Index l t x st hl) ?_;rintro r st' ⟨rfl,rfl⟩
 (repeat' (first | (refine qR ?_;simp only [ak,reduceIte];simp []) | (refine e_go ?_;simp [];(refine hJ _ _ ?_;clear hJ J;simp only [ak,reduceIte]))))
 have:=gi_neg l x
 by_cases hx:x∈l
 ·simp [hx];simp [hx] at this;omega
 ·simp [hx];simp [hx] at this;omega
theorem us_head (l:List Int) (h:0 < l.length):hdL (us l)=u l[0]:=by
 cases l with
 | nil=>simp at h
 | cons a l=>rfl
theorem Min (l:List Int) (t:Nat) (st:St) (hl:small l) (h0:l≠[]):
 ACalls Tryz.prog 96 [.sl t l.length (us l)] st fun r st'=>r=u (mn l)∧st'=st:=by
 unfold small at hl
 have hpos:0 < l.length:=List.length_pos_iff.2 h0
 have hd0:=us_head l hpos
 refine qO tabOk Tryz.func96 rfl rfl Tryz.ntmps96 (rs:=[.tmp 2]) rfl (by simp) ?_
 (repeat' (first | refine qS ?_ | refine qB ?_ | (refine qK ?_;simp only [ak,reduceIte]) | (refine qC ?_;simp [hpos,hd0];(try with_reducible refine ⟨?_,?_⟩)<;>(try with_reducible intro hc)<;>try (exfalso;omega)) | (refine w_e [] ?_;intro J hJ;simp only [];simp [hpos,hd0];(refine hJ _ _ ?_;clear hJ J;simp only [ak,reduceIte]))))
 refine qL (fun n fr st'=>∃ k:Nat,0 < k∧k≤l.length∧n=l.length - k∧fr 0=.sl t l.length (us l)∧fr 4=i k∧fr 3=u (mn (l.take k))∧st'=st) (l.length - 1) ?_ ?_
 ·refine ⟨1,by omega,by omega,by omega,by simp,by simp,?_,rfl⟩
  cases l with
  | nil=>simp at hpos
  | cons a l=>simp [mn]
 rintro n fr st' ⟨k,hk0,hk,rfl,h0',h4,h3,rfl⟩ JJ hJJ
 by_cases hlt:k < l.length
 ·have hd:=us_drop_head l k hlt
  have hw:=qN k (by omega)
  (repeat' (first | refine qS ?_ | refine qB ?_ | (refine qK ?_;simp only [ak,reduceIte]) | (refine qC ?_;simp [h0',h3,h4,hlt,hd,hw]) | (refine w_e [] ?_;intro J hJ;simp only [];simp [h0',h3,h4,hlt,hd,hw];(refine hJ _ _ ?_;clear hJ J;simp only [ak,reduceIte]))))
  refine hJJ _ _ _ ?_ ⟨k+1,by omega,by omega,rfl,by simp [h0'],by simp,by simp [mn_take l k hk0 hlt],rfl⟩
  omega
 ·(repeat' (first | refine qS ?_ | (refine qX ?_;simp only [ak,reduceIte]) | (refine qR ?_;simp only [ak,reduceIte];simp [h0',h3,h4,hlt]) | (refine qC ?_;simp [h0',h3,h4,hlt]) | (refine w_e [] ?_;intro J hJ;simp only [];simp [h0',h3,h4,hlt];(refine hJ _ _ ?_;clear hJ J;simp only [ak,reduceIte]))))
  rw [List.take_of_length_le (by omega)]
theorem wrap_small (n:Int) (h0:0≤n) (h1:n≤9223372036854775807):IntKind.i64.wrap n=n:=wrap_i64 n (by omega) h1
theorem Grow (n:Int) (st:St) (h0:0≤n) (h1:n≤4194304):
 ACalls Tryz.prog 200 [.nil,i n] st fun r st'=>∃ l cs,r=.ms l 0 0∧st.next≤l∧st'.H l=.box 26 1 cs∧Keeps st st':=by
 have hw:=wrap_small n h0 (by omega)
 have hw':IntKind.i64.wrap 0=0:=by decide
 refine acalls_nilM 26 1 ?_
 refine qO tabOk Tryz.func200 rfl rfl Tryz.ntmps200 (rs:=[.tmp 4]) rfl (by simp) ?_
 by_cases hp:0 < n
 ·(repeat' (first | refine qS ?_ | (refine qK ?_;simp only [ak,reduceIte]) | (refine qR ?_;simp only [ak,reduceIte];simp [hw,hw',hp]) | (refine qC ?_;simp [hw,hw',hp];(try with_reducible refine ⟨?_,?_⟩)<;>(try with_reducible intro hc)<;>try (exfalso;omega)) | (refine w_e [] ?_;intro J hJ;simp only [];simp [hw,hw',hp];(repeat refine ca ?_);(refine hJ _ _ ?_;clear hJ J;simp only [ak,reduceIte]))))
  exact Keeps.new _ _
 ·(repeat' (first | refine qS ?_ | (refine qK ?_;simp only [ak,reduceIte]) | (refine qR ?_;simp only [ak,reduceIte];simp [hw,hw',hp]) | (refine qC ?_;simp [hw,hw',hp];(try with_reducible refine ⟨?_,?_⟩)<;>(try with_reducible intro hc)<;>try (exfalso;omega)) | (refine w_e [] ?_;intro J hJ;simp only [];simp [hw,hw',hp];(refine hJ _ _ ?_;clear hJ J;simp only [ak,reduceIte]))))
  exact Keeps.new _ _
abbrev rows (ls:List (Nat×List Int)):List LV:=ls.map fun p=>.sl p.1 p.2.length (us p.2)
def total (ls:List (Nat×List Int)):Nat:=(ls.map fun p=>p.2.length).sum
def flat (ls:List (Nat×List Int)):List Int:=(ls.map fun p=>p.2).flatten
theorem flat_length (ls:List (Nat×List Int)):(flat ls).length=total ls:=by
 induction ls with
 | nil=>rfl
 | cons p ls ih=>simp [flat,total,Function.comp_def] at ih ⊢
theorem total_take (ls:List (Nat×List Int)) (k:Nat) (hk:k < ls.length):total (ls.take (k+1))=total (ls.take k)+ls[k].2.length:=by
 rw [List.take_succ_eq_append_getElem hk,total,List.map_append,List.sum_append];simp only [total,List.map_cons,List.map_nil,List.sum_cons,List.sum_nil,Nat.add_zero]
theorem flat_take (ls:List (Nat×List Int)) (k:Nat) (hk:k < ls.length):flat (ls.take (k+1))=flat (ls.take k)++ls[k].2:=by
 rw [List.take_succ_eq_append_getElem hk,flat,List.map_append,List.flatten_append];simp only [flat,List.map_cons,List.map_nil,List.flatten_cons,List.flatten_nil,List.append_nil]
theorem total_take_le (ls:List (Nat×List Int)) (k:Nat):total (ls.take k)≤total ls:=by
 have h:total ls=total (ls.take k)+total (ls.drop k):=by
  conv=>lhs;rw [← List.take_append_drop k ls]
  rw [total,List.map_append,List.sum_append];rfl
 omega
theorem rows_drop (ls:List (Nat×List Int)) (k:Nat) (hk:k < ls.length):(rows ls).drop k=.sl ls[k].1 ls[k].2.length (us ls[k].2)::rows (ls.drop (k+1)):=by
 rw [rows,← List.map_drop,List.drop_eq_getElem_cons hk];rfl
theorem us_one (a:List Int):(us a).all oneL=true:=by simp [us,oneL]
theorem ConcatM (ls:List (Nat×List Int)) (t:Nat) (st:St) (hn:ls.length≤1048576) (hl:total ls≤4194304):
 ACalls Tryz.prog 181 [.sl t ls.length (rows ls)] st fun r st'=>∃ l,r=.ms l 0 (flat ls).length∧st.next≤l∧st'.H l=.box 26 1 (us (flat ls))∧Keeps st st':=by
 refine qO tabOk Tryz.func181 rfl rfl Tryz.ntmps181 (rs:=[.tmp 2]) rfl (by simp) ?_
 (repeat' (first | refine qS ?_ | refine qB ?_ | (refine w_e [] ?_;intro J hJ;simp only [];simp [];(refine hJ _ _ ?_;clear hJ J;simp only [ak,reduceIte]))))
 refine qL (fun n fr st'=>∃ k:Nat,k≤ls.length∧n=ls.length - k∧fr 0=.sl t ls.length (rows ls)∧fr 9=.sl t ls.length (rows ls)∧fr 10=i ls.length∧fr 11=i k∧fr 3=i (total (ls.take k))∧st'=st) ls.length ?_ ?_
 ·exact ⟨0,by omega,by omega,by simp,by simp,by simp,by simp,by simp [total],rfl⟩
 rintro n fr st1 ⟨k,hk,rfl,h0,h9,h10,h11,h3,rfl⟩ JJ hJJ
 by_cases hlt:k < ls.length
 ·have hd:=rows_drop ls k hlt
  have hw:=qN k (by omega)
  have ht:=total_take ls k hlt
  have hle:=total_take_le ls (k+1)
  have hw2:IntKind.i64.wrap ((total (ls.take k):Int)+(ls[k].2.length:Int))=(total (ls.take (k+1)):Int):=by
   rw [wrap_small _ (by omega) (by omega)];omega
  clear ht
  (repeat' (first | refine qS ?_ | refine qB ?_ | (refine qK ?_;simp only [ak,reduceIte]) | (refine qC ?_;simp [h0,h9,h10,h11,h3,hlt,hd,hw,hw2];(try with_reducible refine ⟨?_,?_⟩)<;>(try with_reducible intro hc)<;>try (exfalso;omega)) | (refine w_e [] ?_;intro J hJ;simp only [];simp [h0,h9,h10,h11,h3,hlt,hd,hw,hw2];(refine hJ _ _ ?_;clear hJ J;simp only [ak,reduceIte]))))
  refine hJJ _ _ _ ?_ ⟨k+1,by omega,rfl,by simp [h0],by simp [h9],by simp [h10],by simp,by simp,rfl⟩
  omega
 ·have hk':k=ls.length:=by omega
  have htk:ls.take k=ls:=List.take_of_length_le (by omega)
  rw [htk] at h3
  clear hJJ
  (repeat' (first | refine qS ?_ | (refine qX ?_;simp only [ak,reduceIte]) | (refine qC ?_;simp [h0,h9,h10,h11,h3,hlt]) | (refine w_e [] ?_;intro J hJ;simp only [];simp [h0,h9,h10,h11,h3,hlt];(try (refine hJ _ _ ?_;clear hJ J;simp only [ak,reduceIte])))))
  refine qF (Grow (total ls) _ (by omega) (by omega)) ?_;rintro r st' ⟨l0,cs0,rfl,hl0,hH0,hkp⟩
  (repeat' (first | refine qS ?_ | refine qB ?_ | ((first | (refine w_e [] ?_;intro J hJ;simp only []) | (refine e_go ?_));simp [h0];(refine hJ _ _ ?_;clear hJ J;simp only [ak,reduceIte]))))
  refine awp_shrink 0 hH0 ?_
  refine qL (fun n fr st2=>∃ k:Nat,k≤ls.length∧n=ls.length - k∧fr 25=.sl t ls.length (rows ls)∧fr 26=i ls.length∧fr 27=i k∧∃ l,fr 6=.ms l 0 (flat (ls.take k)).length∧st2.H l=.box 26 1 (us (flat (ls.take k)))∧st1.next≤l∧Keeps st1 st2) ls.length ?_ ?_
  ·exact ⟨0,by omega,by omega,by simp [h0],by simp,by simp,l0,by simp [flat],by simp [flat],hl0,hkp.set hl0 _⟩
  clear h0 h9 h10 h11 h3 hlt hH0 hkp hl0 fr hk hk' htk
  rintro n fr st2 ⟨k,hk,rfl,h25,h26,h27,l,h6,hH,hlt0,hkp⟩ JJ hJJ
  by_cases hlt:k < ls.length
  ·have hd:=rows_drop ls k hlt
   have hw:=qN k (by omega)
   have ht:=total_take ls k hlt
   have hle:=total_take_le ls (k+1)
   have hf:=flat_take ls k hlt
   have hfl:=flat_length (ls.take (k+1))
   have hfl':=flat_length (ls.take k)
   have hone:=us_one (ls[k].2)
   (repeat' (first | refine qS ?_ | refine qB ?_ | (refine qK ?_;simp only [ak,reduceIte]) | (refine qC ?_;simp [h25,h26,h27,h6,hH,hlt,hd,hw,hone]) | (refine w_e [] ?_;intro J hJ;simp only [];simp [h25,h26,h27,h6,hH,hlt,hd,hw,hone];(repeat refine ca ?_);(refine hJ _ _ ?_;clear hJ J;simp only [ak,reduceIte]))))
   refine hJJ _ _ _ ?_ ⟨k+1,by omega,rfl,by simp [h25],by simp [h26],by simp,st2.next,?_,?_,hkp.next,(hkp.set hlt0 _).trans (Keeps.new _ _)⟩
   ·omega
   ·simp [hf]
   ·simp [hf]
  ·have hk':k=ls.length:=by omega
   have htk:ls.take k=ls:=List.take_of_length_le (by omega)
   rw [htk] at h6 hH
   clear hJJ
   (repeat' (first | refine qS ?_ | (refine qX ?_;simp only [ak,reduceIte]) | (refine qR ?_;simp only [ak,reduceIte];simp [h25,h26,h27,h6,hlt]) | (refine qC ?_;simp [h25,h26,h27,h6,hlt]) | (refine w_e [] ?_;intro J hJ;simp only [];simp [h25,h26,h27,h6,hlt];(refine hJ _ _ ?_;clear hJ J;simp only [ak,reduceIte]))))
   exact ⟨hlt0,hH,hkp⟩
theorem Concat (ls:List (Nat×List Int)) (t:Nat) (st:St) (hn:ls.length≤1048576) (hl:total ls≤4194304):
 ACalls Tryz.prog 181 [.sl t ls.length (rows ls)] st fun r st'=>r=.sl 0 (flat ls).length (us (flat ls))∧Keeps st st':=by
 refine acalls_freeze ((ConcatM ls t st hn hl).mono ?_)
 rintro r st' ⟨l,rfl,hlt,hH,hk⟩
 exact ⟨l,_,_,1,_,rfl,hH,by simp,by simp [List.take_of_length_le],hk.set hlt _⟩
theorem CloneM (a:List Int) (t:Nat) (st:St) (hl:small a):
 ACalls Tryz.prog 71 [.sl t a.length (us a)] st fun r st'=>∃ l,r=.ms l 0 a.length∧st.next≤l∧st'.H l=.box 26 1 (us a)∧Keeps st st':=by
 unfold small at hl
 refine acalls_nilM 26 1 ?_
 have hone:=us_one a
 refine qO tabOk Tryz.func71 rfl rfl Tryz.ntmps71 (rs:=[.tmp 2]) rfl (by simp) ?_
 (repeat' (first | refine qS ?_ | (refine qK ?_;simp only [ak,reduceIte]) | (refine qR ?_;simp only [ak,reduceIte];simp [hone]) | (refine qC ?_;simp [hone]) | (refine w_e [5] ?_;intro J hJ;simp only [];simp [hone];(repeat refine ca ?_);((try with_reducible refine ⟨?_,?_⟩)<;>(try with_reducible intro hnil)<;>refine hJ _ _ ?_<;>clear hJ J<;>simp only [ak,reduceIte]<;>try subst hnil))))
 ·exact ((Keeps.new _ _).set (Nat.le_refl _) _).trans (Keeps.new _ _)
 ·exact Keeps.new _ _
theorem Clone (a:List Int) (t:Nat) (st:St) (hl:small a):
 ACalls Tryz.prog 71 [.sl t a.length (us a)] st fun r st'=>r=.sl 0 a.length (us a)∧Keeps st st':=by
 refine acalls_freeze ((CloneM a t st hl).mono ?_)
 rintro r st' ⟨l,rfl,hlt,hH,hk⟩
 exact ⟨l,_,_,1,_,rfl,hH,by simp,by simp [List.take_of_length_le],hk.set hlt _⟩
def nx (l:List Int) (d:Int):Int:=if d∈l then l.getD ((l.idxOf d+1) % l.length) 0 else 0
theorem us_len (l:List Int):(us l).length=l.length:=by simp [us]
theorem from_ (l:List Int) (t k:Nat) (st:St) (hl:small l) (hk:k≤l.length):
 ACalls Tryz.prog 133 [.sl t l.length (us l),i k] st fun r st'=>r=.sl 0 l.length (us (rt l k))∧Keeps st st':=by
 unfold small at hl
 refine qO tabOk Tryz.func133 rfl rfl Tryz.ntmps133 (rs:=[.tmp 4]) rfl (by simp) ?_
 (repeat' (first | refine qS ?_ | (refine w_e [] ?_;intro J hJ;simp only [];simp [hk];(refine hJ _ _ ?_;clear hJ J;simp only [ak,reduceIte]))))
 (refine awp_drawE tabOk [] 6 (by kernel_rfl) (by kernel_rfl) rfl rfl ?_;intro J hJ;simp [hk];skip;skip)
 refine qE (Concat [(0,l.drop k),(0,l.take k)] st.next _ (by simp) (by simp [total];omega)) (by simp [List.take_of_length_le,Nat.min_eq_left hk]) ?_;rintro r st' ⟨rfl,hkp⟩
 have hf:flat [(0,l.drop k),(0,l.take k)]=rt l k:=by simp [flat,rt]
 rw [hf,rt_length]
 (repeat' (first | (refine qR ?_;simp only [ak,reduceIte];simp []) | (refine e_go ?_;simp [];(refine hJ _ _ ?_;clear hJ J;simp only [ak,reduceIte]))))
 exact (Keeps.new _ _).trans hkp
theorem Normal (l:List Int) (t:Nat) (st:St) (hl:small l):
 ACalls Tryz.prog 100 [.sl t l.length (us l)] st fun r st'=>r=.sl 0 l.length (us (nrm l))∧Keeps st st':=by
 refine acalls_norm ?_
 refine qO tabOk Tryz.func100 rfl rfl Tryz.ntmps100 (rs:=[.tmp 2]) rfl (by simp) ?_
 cases l with
 | nil=>
   (repeat' (first | refine qS ?_ | (refine qR ?_;simp only [ak,reduceIte];simp []) | (refine qC ?_;simp []) | (refine w_e [] ?_;intro J hJ;simp only [];simp [];(refine hJ _ _ ?_;clear hJ J;simp only [ak,reduceIte]))))
   exact ⟨by decide,Keeps.refl _⟩
 | cons a l'=>
   (repeat' (first | refine qS ?_ | (refine qK ?_;simp only [ak,reduceIte]) | (refine qC ?_;simp [];(try with_reducible refine ⟨?_,?_⟩)<;>(try with_reducible intro hc)<;>try (exfalso;omega)) | (refine w_e [] ?_;intro J hJ;simp only [];simp [];(try (refine hJ _ _ ?_;clear hJ J;simp only [ak,reduceIte])))))
   refine qE (Min (a::l') t _ hl (by simp)) (by simp []) ?_;rintro r st' ⟨rfl,rfl⟩
   (repeat' (refine e_go ?_;simp []))
   refine qE (Index (a::l') t (mn (a::l')) _ hl) (by simp []) ?_;rintro r st' ⟨rfl,rfl⟩
   (repeat' (refine e_go ?_;simp []))
   have hg:gi (a::l') (mn (a::l'))=(((a::l').idxOf (mn (a::l')):Nat):Int):=by
    unfold gi;rw [if_pos (mn_mem (by simp))]
   rw [hg]
   refine qE (from_ (a::l') t ((a::l').idxOf (mn (a::l'))) _ hl List.idxOf_le_length) (by simp []) ?_;rintro r st' ⟨rfl,hkp⟩
   (repeat' (first | (refine qR ?_;simp only [ak,reduceIte];simp []) | (refine e_go ?_;simp [];(refine hJ _ _ ?_;clear hJ J;simp only [ak,reduceIte]))))
   exact ⟨rfl,hkp⟩
def ins (l:List Int) (b:Int) (m:List Int):List Int:=(if b∈l then l.take (l.idxOf b+1)++m++l.drop (l.idxOf b+1) else l++m)
theorem set_take (c:List Int) (k:Nat) (x:Int) (hk:k < c.length):(c.set k x).take (k+1)=c.take k++[x]:=by
 rw [List.take_succ_eq_append_getElem (by simpa using hk),List.getElem_set_self]
 rw [List.take_set_of_le (Nat.le_refl _)]
theorem set_drop (c:List Int) (k j:Nat) (x:Int) (h:k≤j):(c.set k x).drop (j+1)=c.drop (j+1):=by
 rw [List.drop_set_of_lt (by omega)]
theorem us_set (c:List Int) (k:Nat) (x:Int) (hk:k < c.length):(us c).take k++u x::(us c).drop (k+1)=us (c.set k x):=by
 simp only [us]
 rw [← List.map_take,← List.map_drop,List.set_eq_take_append_cons_drop,if_pos hk]
 simp
theorem St.set_set (st:St) (q:Nat) (a b:LObj):(st.set q a).set q b=st.set q b:=St.ext' rfl fun y=>by by_cases hy:y=q<;>simp [hy]
def swp (c:List Int) (a b:Nat):List Int:=(c.set a (c.getD b 0)).set b (c.getD a 0)
theorem swp_length (c:List Int) (a b:Nat):(swp c a b).length=c.length:=by simp [swp]
theorem swp_get (c:List Int) (a b j:Nat) (ha:a < c.length) (hb:b < c.length):(swp c a b).getD j 0=if j=b then c.getD a 0 else if j=a then c.getD b 0 else c.getD j 0:=by
 unfold swp
 simp only [List.getD_eq_getElem?_getD,List.getElem?_set]
 by_cases h1:b=j
 ·subst h1;simp [hb]
 ·by_cases h2:a=j
  ·subst h2;simp [h1,ha,Ne.symm h1]
  ·simp [h1,h2,Ne.symm h1,Ne.symm h2]
theorem us_swp (c:List Int) (a b:Nat) (ha:a < c.length) (hb:b < c.length):us (swp c a b)=((us c).set a (u (c.getD b 0))).set b (u (c.getD a 0)):=by
 unfold swp;simp only [us,List.map_set]
theorem tcd (cs:List LV) (o:Nat) (v:LV) (h:o < cs.length):cs.take o++v::cs.drop (o+1)=cs.set o v:=by
 rw [List.set_eq_take_append_cons_drop,if_pos h]
theorem rev_of (l c:List Int) (hl:c.length=l.length) (h:∀ j,j < l.length→c.getD j 0=l.getD (l.length - 1 - j) 0):c=l.reverse:=by
 apply List.ext_getElem (by simp [hl])
 intro j h1 h2
 have:=h j (by omega)
 rw [List.getD_eq_getElem?_getD,List.getD_eq_getElem?_getD,List.getElem?_eq_getElem h1,List.getElem?_eq_getElem (by omega)] at this
 rw [List.getElem_reverse]
 simpa using this
theorem Reverse (l:List Int) (q:Nat) (st:St) (hl:small l) (hH:st.H q=.box 26 1 (us l)):
 ACalls Tryz.prog 98 [.ms q 0 l.length] st fun r st'=>st'=st.set q (.box 26 1 (us l.reverse)):=by
 unfold small at hl
 have hw1:IntKind.i64.wrap ((l.length:Int) - 1)=(l.length:Int) - 1:=wrap_i64 _ (by omega) (by omega)
 refine qO tabOk Tryz.func98 rfl rfl Tryz.ntmps98 (rs:=[]) rfl (by simp) ?_
 (repeat' (first | refine qS ?_ | refine qB ?_ | (refine w_e [] ?_;intro J hJ;simp only [];simp [hw1];(refine hJ _ _ ?_;clear hJ J;simp only [ak,reduceIte]))))
 refine qL (fun n fr st'=>∃ (k:Nat) (c:List Int),n=l.length - k∧k≤l.length∧fr 0=.ms q 0 l.length∧fr 2=i k∧fr 3=i ((l.length:Int) - 1 - k)∧c.length=l.length∧st'=st.set q (.box 26 1 (us c))∧∀ j,j < l.length→c.getD j 0=if j < k∨l.length≤j+k then l.getD (l.length - 1 - j) 0 else l.getD j 0) l.length ?_ ?_
 ·refine ⟨0,l,by omega,by omega,by simp,by simp,by simp,rfl,St.ext' rfl fun x=>by by_cases hx:x=q<;>simp [hx,hH],fun j hj=>?_⟩
  rw [if_neg (by omega)]
 rintro n fr st1 ⟨k,c,rfl,hk,h0,h2,h3,hc,rfl,hin⟩ JJ hJJ
 by_cases hlt:(k:Int) < (l.length:Int) - 1 - k
 ·obtain ⟨m,hm⟩:∃ m:Nat,(l.length:Int) - 1 - k=m:=⟨l.length - 1 - k,by omega⟩
  rw [hm] at h3 hlt
  have hw2:=qN k (by omega)
  have hw3:IntKind.i64.wrap ((m:Int) - 1)=(m:Int) - 1:=wrap_i64 _ (by omega) (by omega)
  have hd:=qG c k (by omega)
  have hd2:=qG c m (by omega)
  have hkl:k < l.length:=by omega
  have hml:m < l.length:=by omega
  (repeat' (first | refine qS ?_ | refine qB ?_ | (refine qK ?_;simp only [ak,reduceIte]) | (refine qC ?_;simp [h0,h2,h3,hlt]) | (refine w_e [] ?_;intro J hJ;simp only [];simp [h0,h2,h3,hlt];(refine hJ _ _ ?_;clear hJ J;simp only [ak,reduceIte]))))
  (refine w_s [] [q] [(0,true),(1,true),(2,true),(3,true),(4,true),(5,true),(6,true),(7,true),(8,true),(9,true),(10,true),(11,true),(12,true),(13,false),(14,true),(15,false)] ?_;intro J hJ;simp [h0,h2,h3,hkl,hml,hc,hd,hd2];(repeat refine ca ?_);(refine hJ _ _ ?_;clear hJ J;simp only [ak,reduceIte]))
  (repeat' (refine w_e [] ?_;intro J hJ;simp only [];simp [h2,h3,hw2,hw3];(refine hJ _ _ ?_;clear hJ J;simp only [ak,reduceIte])))
  refine hJJ _ _ _ ?_ ⟨k+1,swp c k m,rfl,by omega,by simp [h0],by simp,?_,by rw [swp_length];exact hc,St.ext' rfl fun y=>?_,fun j hj=>?_⟩
  ·omega
  ·simp only [upd_at];simp;omega
  ·by_cases hy:y=q
   ·subst hy
    have hlen:(us c).length=l.length:=by simp [hc]
    simp only [set_H,reduceIte,us_swp c k m (by omega) (by omega)]
    rw [tcd (us c) k _ (by omega),tcd _ m _ (by simp;omega)]
    simp [hc,hkl,hml]
   ·simp [hy]
  ·rw [swp_get c k m j (by omega) (by omega),hin k hkl,hin m hml,hin j hj]
   by_cases h1:j=m
   ·rw [if_pos h1,if_neg (by omega),if_pos (by omega)];congr 1;omega
   ·rw [if_neg h1]
    by_cases h2:j=k
    ·rw [if_pos h2,if_neg (by omega),if_pos (by omega)];congr 1;omega
    ·rw [if_neg h2]
     by_cases h3:j < k∨l.length≤j+k
     ·rw [if_pos h3,if_pos (by omega)]
     ·rw [if_neg h3,if_neg (by omega)]
 ·have hcr:c=l.reverse:=?_
  ·subst hcr
   clear hJJ
   (repeat' (first | refine qS ?_ | (refine qX ?_;simp only [ak,reduceIte]) | (refine qC ?_;simp [h0,h2,h3,hlt]) | (refine w_e [] ?_;intro J hJ;simp only [];simp [h0,h2,h3,hlt];(refine hJ _ _ ?_;clear hJ J;simp only [ak,reduceIte]))))
   simp
  refine rev_of l c hc ?_
  intro j hj
  rw [hin j hj]
  by_cases h:j < k∨l.length≤j+k
  ·rw [if_pos h]
  ·rw [if_neg h]
   congr 1
   omega
theorem isNaN (x:Int) (st:St):ACalls Tryz.prog 113 [u x] st fun r st'=>r=bb false∧st'=st:=by
 refine qO tabOk Tryz.func113 rfl rfl Tryz.ntmps113 (rs:=[.tmp 2]) rfl (by simp) ?_
 (repeat' (first | refine qS ?_ | (refine qR ?_;simp only [ak,reduceIte];simp []) | (refine w_e [] ?_;intro J hJ;simp only [];simp [];(refine hJ _ _ ?_;clear hJ J;simp only [ak,reduceIte]))))
theorem Less (x y:Int) (st:St):ACalls Tryz.prog 178 [u x,u y] st fun r st'=>r=bb (decide (x < y))∧st'=st:=by
 refine qO tabOk Tryz.func178 rfl rfl Tryz.ntmps178 (rs:=[.tmp 4]) rfl (by simp) ?_
 (repeat' (first | refine qS ?_ | (refine w_e [] ?_;intro J hJ;simp only [];simp [];(try (refine hJ _ _ ?_;clear hJ J;simp only [ak,reduceIte])))))
 refine qF (isNaN x _) ?_;rintro r st' ⟨rfl,rfl⟩
 (repeat' (first | (refine qR ?_;simp only [ak,reduceIte];simp []) | (refine e_go ?_;simp [];(refine hJ _ _ ?_;clear hJ J;simp only [ak,reduceIte]))))
theorem nat_sub_one (k:Nat) (h0:0 < k) (h:k < 9223372036854775807):IntKind.i64.wrap ((k:Int) - 1)=((k - 1:Nat):Int):=by
 rw [wrap_i64 _ (by omega) (by omega)];omega
abbrev bx (st:St) (q:Nat) (c:List Int):St:=st.set q (.box 26 1 (us c))
theorem bx_self {st:St} {q:Nat} {c:List Int} (h:st.H q=.box 26 1 (us c)):st=bx st q c:=
 St.ext' rfl fun x=>by by_cases hx:x=q<;>simp [hx,h]
theorem bx_sw (st:St) (q:Nat) (c:List Int) (k m:Nat) {x y:Int} (hk:k < c.length) (hm:m < c.length) (hx:c.getD k 0=x) (hy:c.getD m 0=y):
 ((bx st q c).set q (.box 26 1 (List.take k (us c)++.atom (.int .u32 y)::List.drop (k+1) (us c)))).set q
   (.box 26 1 (List.take m (List.take k (us c)++.atom (.int .u32 y)::List.drop (k+1) (us c))++.atom (.int .u32 x)::List.drop (m+1) (List.take k (us c)++.atom (.int .u32 y)::List.drop (k+1) (us c))))=bx st q (sw c k m):=by
 have e:List.take k (us c)++.atom (.int .u32 y)::List.drop (k+1) (us c)=us (c.set k y):=us_set c k y hk
 rw [e,us_set (c.set k y) m x (by simpa using hm)]
 unfold bx sw
 rw [hx,hy]
 exact St.ext' rfl fun z=>by by_cases hz:z=q<;>simp [hz]
theorem insertionSort (l:List Int) (q a b:Nat) (st:St) (hl:small l) (ha:a≤b) (hb:b≤l.length) (hH:st.H q=.box 26 1 (us l)):
 ACalls Tryz.prog 172 [.ms q 0 l.length,i a,i b] st fun r st'=>∃ c,st'=bx st q c∧Pm a b l c∧Srt a b c:=by
 unfold small at hl
 refine qO tabOk Tryz.func172 rfl rfl Tryz.ntmps172 (rs:=[]) rfl (by simp) ?_
 have hw0:=qN a (by omega)
 (repeat' (first | refine qS ?_ | refine qB ?_ | (refine w_e [] ?_;intro J hJ;simp only [];simp [hw0];(refine hJ _ _ ?_;clear hJ J;simp only [ak,reduceIte]))))
 refine qL (fun n fr st'=>∃ (k:Nat) (c:List Int),a < k∧n=b - k∧fr 0=.ms q 0 l.length∧fr 1=i a∧fr 2=i b∧fr 6=i k∧st'=bx st q c∧Pm a b l c∧Srt a k c) (b - (a+1)) ?_ ?_
 ·exact ⟨a+1,l,by omega,rfl,by simp,by simp,by simp,by simp,bx_self hH,.refl,fun p q h1 h2 h3=>by omega⟩
 rintro n fr st1 ⟨k,c,hak,rfl,f0,f1,f2,f6,rfl,hpm,hs⟩ JJ hJJ
 have hcl:=hpm.len
 by_cases hlt:k < b
 rotate_left
 ·clear hJJ
  have hlt':¬ (k:Int) < (b:Int):=by omega
  (repeat' (first | refine qS ?_ | (refine qX ?_;simp only [ak,reduceIte]) | (refine qC ?_;simp [f0,f1,f2,f6,hlt]) | (refine w_e [] ?_;intro J hJ;simp only [];simp [f0,f1,f2,f6,hlt];(refine hJ _ _ ?_;clear hJ J;simp only [ak,reduceIte]))))
  exact ⟨trivial,c,rfl,hpm,fun p q h1 h2 h3=>hs p q h1 h2 (by omega)⟩
 have hw1:=qN k (by omega)
 (repeat' (first | refine qS ?_ | refine qB ?_ | (refine qK ?_;simp only [ak,reduceIte]) | (refine qC ?_;simp [f0,f1,f2,f6,hlt]) | (refine w_e [] ?_;intro J hJ;simp only [];simp [f0,f1,f2,f6,hlt];(refine hJ _ _ ?_;clear hJ J;simp only [ak,reduceIte]))))
 refine qL (fun n fr st'=>∃ (j:Nat) (c:List Int),a≤j∧j≤k∧j=n∧fr 0=.ms q 0 l.length∧fr 1=i a∧fr 2=i b∧fr 6=i k∧fr 7=i j∧st'=bx st q c∧Pm a b l c∧Ins a j k c) k ?_ ?_
 ·exact ⟨k,c,by omega,by omega,rfl,by simp [f0],by simp [f1],by simp [f2],by simp [f6],by simp,rfl,hpm,hs.ins⟩
 clear f0 f1 f2 f6 hs hpm hcl c fr
 rintro n fr st1 ⟨j,c,haj,hjk,rfl,f0,f1,f2,f6,f7,rfl,hpm,hI⟩ JJ2 hJ2
 have hcl:=hpm.len
 by_cases hj:a < j
 rotate_left
 ·clear hJ2
  have hj':¬ (a:Int) < (j:Int):=by omega
  (repeat (refine qS ?_));(refine w_s [] [q] [(0,true),(1,true),(2,true),(3,true),(4,true),(5,true),(6,true),(7,true),(8,true),(9,true),(10,true),(11,true),(12,true),(13,false),(14,true)] ?_;intro J hJ;simp [f0,f1,f2,f6,f7,hj];(refine hJ _ _ ?_;clear hJ J;simp only [ak,reduceIte]))
  (repeat' (first | (refine qX ?_;simp only [ak,reduceIte]) | (refine qC ?_;simp [f6,hw1]) | (refine w_e [] ?_;intro J hJ;simp only [];simp [f6,hw1];(refine hJ _ _ ?_;clear hJ J;simp only [ak,reduceIte]))))
  exact hJJ (b - (k+1)) _ _ (by omega) ⟨k+1,c,by omega,rfl,by simp [f0],by simp [f1],by simp [f2],by simp,rfl,hpm,hI.done haj (.inl (by omega))⟩
 have hw2:=nat_sub_one j (by omega) (by omega)
 have hjl:j < l.length:=by omega
 have hjl1:j - 1 < l.length:=by omega
 have hd:=qG c j (by omega)
 have hd2:=qG c (j - 1) (by omega)
 have hI1:=hI.step hj hjk (by omega)
 have hI2:=hI.done haj
 have hpm1:=hpm.step j (j - 1) (by omega) (by omega) (by omega) (by omega) (by omega)
 generalize hx:c.getD j 0=x at *
 generalize hy:c.getD (j - 1) 0=y at *
 (repeat (refine qS ?_));(refine w_s [] [q] [(0,true),(1,true),(2,true),(3,true),(4,true),(5,true),(6,true),(7,true),(8,true),(9,true),(10,true),(11,true),(12,true),(13,false),(14,true)] ?_;intro J hJ;simp [f0,f1,f2,f6,f7,hj,hw2,hjl,hjl1,hcl,hd,hd2])
 refine dcallK_of (Less x y _) ?_;rintro r s2 ⟨rfl,rfl⟩
 refine ⟨fun _=>by simp,?_⟩
 by_cases hcd:x < y
 rotate_left
 ·clear hJ2
  (refine d_go ?_;simp [hcd];(refine hJ _ _ ?_;clear hJ J;simp only [ak,reduceIte]))
  (repeat' (first | (refine qX ?_;simp only [ak,reduceIte]) | (refine qC ?_;simp [f6,hw1]) | (refine w_e [] ?_;intro J hJ;simp only [];simp [f6,hw1];(refine hJ _ _ ?_;clear hJ J;simp only [ak,reduceIte]))))
  exact hJJ (b - (k+1)) _ _ (by omega) ⟨k+1,c,by omega,rfl,by simp [f0],by simp [f1],by simp [f2],by simp,rfl,hpm,hI2 (.inr hcd)⟩
 clear hJJ
 (refine d_go ?_;simp [hcd];(refine hJ _ _ ?_;clear hJ J;simp only [ak,reduceIte]))
 (repeat' (first | refine qS ?_ | refine qB ?_ | (refine qK ?_;simp only [ak,reduceIte]) | (refine qC ?_;simp [])))
 (refine w_s [] [q] [(0,true),(1,true),(2,true),(3,true),(4,true),(5,true),(6,true),(7,true),(8,true),(9,true),(10,true),(11,true),(12,true),(13,true),(14,true),(15,false),(16,true),(17,false)] ?_;intro J hJ;simp [f0,f1,f2,f6,f7,hw2,hjl,hjl1,hcl,hd,hd2];(repeat refine ca ?_);(refine hJ _ _ ?_;clear hJ J;simp only [ak,reduceIte]))
 (repeat' (refine w_e [] ?_;intro J hJ;simp only [];simp [f7,hw2];(refine hJ _ _ ?_;clear hJ J;simp only [ak,reduceIte])))
 exact hJ2 (j - 1) _ _ (by omega) ⟨j - 1,sw c j (j - 1),by omega,by omega,rfl,by simp [f0],by simp [f1],by simp [f2],by simp [f6],by simp,bx_sw st q c j (j - 1) (by omega) (by omega) hx hy,hpm1,hI1 hcd⟩
theorem reverseRange (l:List Int) (q a b:Nat) (st:St) (hl:small l) (ha:a≤b) (hb:b≤l.length) (h0:0 < b) (hH:st.H q=.box 26 1 (us l)):
 ACalls Tryz.prog 176 [.ms q 0 l.length,i a,i b] st fun r st'=>∃ c,st'=bx st q c∧Pm a b l c:=by
 unfold small at hl
 refine qO tabOk Tryz.func176 rfl rfl Tryz.ntmps176 (rs:=[]) rfl (by simp) ?_
 have hw0:=nat_sub_one b (by omega) (by omega)
 (repeat' (first | refine qS ?_ | refine qB ?_ | (refine w_e [] ?_;intro J hJ;simp only [];simp [hw0];(refine hJ _ _ ?_;clear hJ J;simp only [ak,reduceIte]))))
 refine qL (fun n fr st'=>∃ (k m:Nat) (c:List Int),a≤k∧m < b∧m=n∧fr 0=.ms q 0 l.length∧fr 6=i k∧fr 7=i m∧st'=bx st q c∧Pm a b l c) (b - 1) ?_ ?_
 ·exact ⟨a,b - 1,l,by omega,by omega,rfl,by simp,by simp,by simp,bx_self hH,.refl⟩
 rintro n fr st1 ⟨k,m,c,hak,hmb,rfl,f0,f6,f7,rfl,hpm⟩ JJ hJJ
 have hcl:=hpm.len
 by_cases hlt:k < m
 rotate_left
 ·clear hJJ
  (repeat' (first | refine qS ?_ | (refine qX ?_;simp only [ak,reduceIte]) | (refine qC ?_;simp [f0,f6,f7,hlt]) | (refine w_e [] ?_;intro J hJ;simp only [];simp [f0,f6,f7,hlt];(refine hJ _ _ ?_;clear hJ J;simp only [ak,reduceIte]))))
  exact ⟨trivial,c,rfl,hpm⟩
 have hw1:=qN k (by omega)
 have hw2:=nat_sub_one m (by omega) (by omega)
 have hkl:k < l.length:=by omega
 have hml:m < l.length:=by omega
 have hd:=qG c k (by omega)
 have hd2:=qG c m (by omega)
 have hpm1:=hpm.step k m (by omega) (by omega) (by omega) (by omega) (by omega)
 generalize hx:c.getD k 0=x at *
 generalize hy:c.getD m 0=y at *
 (repeat' (first | refine qS ?_ | refine qB ?_ | (refine qK ?_;simp only [ak,reduceIte]) | (refine qC ?_;simp [f0,f6,f7,hlt]) | (refine w_e [] ?_;intro J hJ;simp only [];simp [f0,f6,f7,hlt];(refine hJ _ _ ?_;clear hJ J;simp only [ak,reduceIte]))))
 (refine w_s [] [q] [(0,true),(1,true),(2,true),(3,true),(4,true),(5,true),(6,true),(7,true),(8,true),(9,true),(10,true),(11,true),(12,true),(13,false),(14,true),(15,false)] ?_;intro J hJ;simp [f0,f6,f7,hkl,hml,hcl,hd,hd2];(repeat refine ca ?_);(refine hJ _ _ ?_;clear hJ J;simp only [ak,reduceIte]))
 (repeat' (first | refine qS ?_ | (refine w_e [] ?_;intro J hJ;simp only [];simp [f6,f7,hw1,hw2];(refine hJ _ _ ?_;clear hJ J;simp only [ak,reduceIte]))))
 exact hJJ (m - 1) _ _ (by omega) ⟨k+1,m - 1,sw c k m,by omega,by omega,rfl,by simp [f0],by simp,by simp,bx_sw st q c k m (by omega) (by omega) hx hy,hpm1⟩
theorem awp_cut1 {P:Program} {N:Nat} {Q:AQ} {k:List AItem} {fr:Frm} {st:St} {x y:Code} (I:Frm→St→Prop) (h1:AWp P N x (AK P N (fun e f s=>e=.normal∧I f s) []) fr st) (h2:∀ fr st,I fr st→AWp P N y (AK P N Q k) fr st):
 AWp P N x (AK P N Q (.code y::k)) fr st:=by
 refine awp_mono h1 ?_
 rintro e fr' st' ⟨rfl,hI⟩
 rw [ak_code]
 exact h2 _ _ hI
theorem bx_sw' (st:St) (q:Nat) (c:List Int) (k m:Nat) {x y:Int} (hk:k < c.length) (hm:m < c.length) (hx:c.getD k 0=x) (hy:c.getD m 0=y):
 (st.set q (.box 26 1 (List.take k (us c)++.atom (.int .u32 y)::List.drop (k+1) (us c)))).set q
   (.box 26 1 (List.take m (List.take k (us c)++.atom (.int .u32 y)::List.drop (k+1) (us c))++.atom (.int .u32 x)::List.drop (m+1) (List.take k (us c)++.atom (.int .u32 y)::List.drop (k+1) (us c))))=bx st q (sw c k m):=by
 rw [← bx_sw st q c k m hk hm hx hy]
 exact St.ext' rfl fun z=>by by_cases hz:z=q<;>simp [hz]
theorem awp_cut2 {P:Program} {N:Nat} {Q:AQ} {k:List AItem} {fr:Frm} {st:St} {x y z:Code} (I:Frm→St→Prop) (h1:AWp P N x (AK P N (fun e f s=>e=.normal∧I f s) [.code y]) fr st) (h2:∀ fr st,I fr st→AWp P N z (AK P N Q k) fr st):
 AWp P N x (AK P N Q (.code y::.code z::k)) fr st:=by
 refine awp_mono h1 ?_
 rintro e fr' st' h
 cases e with
 | normal=>
   rw [ak_code] at h ⊢
   refine awp_mono h ?_
   rintro e fr2 st2 ⟨rfl,h⟩
   rw [ak_code]
   exact h2 _ _ h
 | _=>exact absurd h.1 (by simp)
def MaxC (c:List Int) (f r hi ch:Nat):Prop:=∀ x,(x=2 * r+1∨x=2 * r+2)→x < hi→c.getD (f+x) 0≤c.getD (f+ch) 0
theorem siftDown (l:List Int) (q lo hi f:Nat) (st:St) (hl:small l) (hb:f+hi≤l.length) (hlo:lo≤l.length) (hh:Heap (lo+1) hi f l) (hH:st.H q=.box 26 1 (us l)):
 ACalls Tryz.prog 197 [.ms q 0 l.length,i lo,i hi,i f] st fun r st'=>∃ c,st'=bx st q c∧Pm (f+lo) (f+hi) l c∧Heap lo hi f c:=by
 unfold small at hl
 refine qO tabOk Tryz.func197 rfl rfl Tryz.ntmps197 (rs:=[]) rfl (by simp) ?_
 (repeat' (first | refine qS ?_ | refine qB ?_ | (refine w_e [] ?_;intro J hJ;simp only [];simp [];(refine hJ _ _ ?_;clear hJ J;simp only [ak,reduceIte]))))
 refine qL (fun n fr st'=>∃ (r:Nat) (c:List Int),lo≤r∧r≤l.length∧n=hi - r∧fr 0=.ms q 0 l.length∧fr 2=i hi∧fr 3=i f∧fr 8=i r∧st'=bx st q c∧Pm (f+lo) (f+hi) l c∧HeapX lo hi f r c) (hi - lo) ?_ ?_
 ·exact ⟨lo,l,Nat.le_refl _,hlo,rfl,by simp,by simp,by simp,by simp,bx_self hH,.refl,hh.x⟩
 rintro n fr st1 ⟨r,c,hlr,hrl,rfl,f0,f2,f3,f8,rfl,hpm,hX⟩ JJ hJJ
 have hcl:=hpm.len
 obtain ⟨m,hm⟩:∃ m:Nat,m=2 * r+1:=⟨_,rfl⟩
 obtain ⟨m2,hm2⟩:∃ m:Nat,m=2 * r+2:=⟨_,rfl⟩
 have w1:IntKind.i64.wrap (2 * (r:Int))=2 * (r:Int):=wrap_i64 _ (by omega) (by omega)
 have w2:IntKind.i64.wrap (2 * (r:Int)+1)=(m:Int):=by rw [wrap_i64 _ (by omega) (by omega)];omega
 have w3:IntKind.i64.wrap ((m:Int)+1)=(m2:Int):=by rw [wrap_i64 _ (by omega) (by omega)];omega
 by_cases hmh:hi≤m
 ·clear hJJ
  (repeat' (first | refine qS ?_ | refine qB ?_ | (refine qX ?_;simp only [ak,reduceIte]) | (refine qC ?_;simp [f0,f2,f3,f8,w1,w2,hmh]) | (refine w_e [] ?_;intro J hJ;simp only [];simp [f0,f2,f3,f8,w1,w2,hmh];(refine hJ _ _ ?_;clear hJ J;simp only [ak,reduceIte]))))
  exact ⟨trivial,c,rfl,hpm,hX.leaf (by omega)⟩
 obtain ⟨x1,hx1⟩:∃ x:Nat,x=f+m:=⟨_,rfl⟩
 obtain ⟨x2,hx2⟩:∃ x:Nat,x=f+m2:=⟨_,rfl⟩
 obtain ⟨x0,hx0⟩:∃ x:Nat,x=f+r:=⟨_,rfl⟩
 have w4:IntKind.i64.wrap ((f:Int)+(m:Int))=(x1:Int):=by rw [wrap_i64 _ (by omega) (by omega)];omega
 have w5:IntKind.i64.wrap ((x1:Int)+1)=(x2:Int):=by rw [wrap_i64 _ (by omega) (by omega)];omega
 have w6:IntKind.i64.wrap ((f:Int)+(r:Int))=(x0:Int):=by rw [wrap_i64 _ (by omega) (by omega)];omega
 (repeat' (first | refine qS ?_ | refine qB ?_ | (refine w_e [] ?_;intro J hJ;simp only [];simp [f0,f2,f3,f8,w1,w2,hmh];(refine hJ _ _ ?_;clear hJ J;simp only [ak,reduceIte]))))
 (refine qC ?_;simp [])
 (repeat' (first | refine qS ?_ | (refine qK ?_;simp only [ak,reduceIte])))
 refine awp_cut2 (fun fr2 st2=>st2=bx st q c∧fr2 0=.ms q 0 l.length∧fr2 2=i hi∧fr2 3=i f∧fr2 8=i r∧∃ ch:Nat,fr2 9=i ch∧(ch=2 * r+1∨ch=2 * r+2)∧ch < hi∧MaxC c f r hi ch) ?_ ?_
 ·by_cases h2h:m2 < hi
  rotate_left
  ·(refine w_s [] [q] [(0,true),(1,true),(2,true),(3,true),(4,true),(5,true),(6,true),(7,true),(8,true),(9,true),(10,true),(11,true),(12,true),(13,true),(14,true),(15,true),(16,true),(17,true),(18,false),(19,true)] ?_;intro J hJ;simp [f0,f2,f3,f8,w3,h2h];(refine hJ _ _ ?_;clear hJ J;simp only [ak,reduceIte]))
   (repeat' (first | (refine qK ?_;simp only [ak,reduceIte]) | (refine qC ?_;simp [f0])))
   refine ⟨trivial,trivial,by simp [f0],by simp [f2],by simp [f3],by simp [f8],m,by simp,by omega,by omega,fun x h1 h2=>?_⟩
   rw [show x=m by omega];exact Int.le_refl _
  have hd1:=qG c x1 (by omega)
  have hd2:=qG c x2 (by omega)
  have hl1:x1 < l.length:=by omega
  have hl2:x2 < l.length:=by omega
  generalize hy1:c.getD x1 0=y1 at *
  generalize hy2:c.getD x2 0=y2 at *
  (refine w_s [] [q] [(0,true),(1,true),(2,true),(3,true),(4,true),(5,true),(6,true),(7,true),(8,true),(9,true),(10,true),(11,true),(12,true),(13,true),(14,true),(15,true),(16,true),(17,true),(18,false),(19,true)] ?_;intro J hJ;simp [f0,f2,f3,f8,w3,w4,w5,h2h,hl1,hl2,hcl,hd1,hd2])
  refine dcallK_of (Less y1 y2 _) ?_;rintro r1 s2 ⟨rfl,rfl⟩
  refine ⟨fun _=>by simp,?_⟩
  by_cases hyy:y1 < y2
  ·(refine d_go ?_;simp [hyy];(refine hJ _ _ ?_;clear hJ J;simp only [ak,reduceIte]))
   (repeat' (first | (refine qC ?_;simp [w3]) | (refine w_e [] ?_;intro J hJ;simp only [];simp [w3];(refine hJ _ _ ?_;clear hJ J;simp only [ak,reduceIte]))))
   refine ⟨trivial,trivial,by simp [f0],by simp [f2],by simp [f3],by simp [f8],m2,by simp,by omega,by omega,fun x h1 h2=>?_⟩
   rcases (show x=m∨x=m2 by omega) with rfl | rfl
   ·rw [← hx1,← hx2,hy1,hy2];omega
   ·exact Int.le_refl _
  ·(refine d_go ?_;simp [hyy];(refine hJ _ _ ?_;clear hJ J;simp only [ak,reduceIte]))
   (repeat' (first | (refine qK ?_;simp only [ak,reduceIte]) | (refine qC ?_;simp [])))
   refine ⟨trivial,trivial,by simp [f0],by simp [f2],by simp [f3],by simp [f8],m,by simp,by omega,by omega,fun x h1 h2=>?_⟩
   rcases (show x=m∨x=m2 by omega) with rfl | rfl
   ·exact Int.le_refl _
   ·rw [← hx1,← hx2,hy1,hy2];omega
 clear f0 f2 f3 f8 w1 w2 w3 w4 w5 hx1 hx2 x1 x2 fr
 rintro fr st2 ⟨rfl,f0,f2,f3,f8,ch,f9,hch,hchi,hmax⟩
 obtain ⟨x1,hx1⟩:∃ x:Nat,x=f+ch:=⟨_,rfl⟩
 have w4:IntKind.i64.wrap ((f:Int)+(ch:Int))=(x1:Int):=by rw [wrap_i64 _ (by omega) (by omega)];omega
 have hd1:=qG c x1 (by omega)
 have hd0:=qG c x0 (by omega)
 have hl1:x1 < l.length:=by omega
 have hl0:x0 < l.length:=by omega
 unfold MaxC at hmax
 have hstep:=hX.step (c:=ch) hlr hch hchi (by omega) hmax
 have hpm1:=hpm.step x0 x1 (by omega) (by omega) (by omega) (by omega) (by omega)
 have hbig:=hX.big
 rw [← hx0,← hx1] at hstep
 rw [← hx0] at hbig
 rw [← hx1] at hmax
 generalize hy0:c.getD x0 0=y0 at *
 generalize hy1:c.getD x1 0=y1 at *
 (repeat (refine qS ?_));(refine w_s [] [q] [(0,true),(1,true),(2,true),(3,true),(4,true),(5,true),(6,true),(7,true),(8,true),(9,true),(10,true),(11,true),(12,false),(13,true)] ?_;intro J hJ;simp [f0,f2,f3,f8,f9,w4,w6,hl1,hl0,hcl,hd1,hd0])
 refine dcallK_of (Less y0 y1 _) ?_;rintro r1 s2 ⟨rfl,rfl⟩
 refine ⟨fun _=>by simp,?_⟩
 by_cases hyy:y0 < y1
 rotate_left
 ·clear hJJ
  (refine d_go ?_;simp [hyy];(refine hJ _ _ ?_;clear hJ J;simp only [ak,reduceIte]))
  (repeat' (first | (refine qR ?_;simp only [ak,reduceIte];simp []) | (refine qC ?_;simp [])))
  exact ⟨c,rfl,hpm,hbig fun x h1 h2=>by have:=hmax x h1 h2;omega⟩
 (refine d_go ?_;simp [hyy];(refine hJ _ _ ?_;clear hJ J;simp only [ak,reduceIte]))
 (repeat' (first | refine qS ?_ | (refine qK ?_;simp only [ak,reduceIte]) | (refine qC ?_;simp [])))
 (refine w_s [] [q] [(0,true),(1,true),(2,true),(3,true),(4,true),(5,true),(6,true),(7,true),(8,true),(9,true),(10,true),(11,true),(12,true),(13,true),(14,true),(15,true),(16,true),(17,true),(18,true),(19,true),(20,true),(21,false),(22,true),(23,false)] ?_;intro J hJ;simp [f0,f2,f3,f8,f9,w4,w6,hl1,hl0,hcl,hd1,hd0];(repeat refine ca ?_);(refine hJ _ _ ?_;clear hJ J;simp only [ak,reduceIte]))
 (repeat' (refine w_e [] ?_;intro J hJ;simp only [];simp [f9];(refine hJ _ _ ?_;clear hJ J;simp only [ak,reduceIte])))
 exact hJJ (hi - ch) _ _ (by omega) ⟨ch,sw c x0 x1,by omega,by omega,rfl,by simp [f0],by simp [f2],by simp [f3],by simp,bx_sw st q c x0 x1 (by omega) (by omega) hy0 hy1,hpm1,hstep hyy⟩
def Last (c:List Int) (f j hi:Nat):Prop:=∀ p q,p < q→j≤q→q < hi→c.getD (f+p) 0≤c.getD (f+q) 0
theorem heapSort (l:List Int) (q a b:Nat) (st:St) (hl:small l) (ha:a < b) (hb:b≤l.length) (hH:st.H q=.box 26 1 (us l)):
 ACalls Tryz.prog 173 [.ms q 0 l.length,i a,i b] st fun r st'=>∃ c,st'=bx st q c∧Pm a b l c∧Srt a b c:=by
 have hsm:=hl
 unfold small at hl
 obtain ⟨n,hn⟩:∃ n:Nat,n=b - a:=⟨_,rfl⟩
 obtain ⟨n1,hn1⟩:∃ n:Nat,n=b - a - 1:=⟨_,rfl⟩
 obtain ⟨n2,hn2⟩:∃ n:Nat,n=n1 / 2:=⟨_,rfl⟩
 have w1:IntKind.i64.wrap ((b:Int) - (a:Int))=(n:Int):=by rw [wrap_i64 _ (by omega) (by omega)];omega
 have w2:IntKind.i64.wrap ((n:Int) - 1)=(n1:Int):=by rw [wrap_i64 _ (by omega) (by omega)];omega
 have w3:IntKind.i64.wrap ((n1:Int) / 2)=(n2:Int):=by
  rw [show (n1:Int) / 2=((n1 / 2:Nat):Int) from rfl,← hn2]
  exact wrap_i64 _ (by omega) (by omega)
 refine qO tabOk Tryz.func173 rfl rfl Tryz.ntmps173 (rs:=[]) rfl (by simp) ?_
 (repeat' (first | refine qS ?_ | refine qB ?_ | (refine w_e [] ?_;intro J hJ;simp only [];simp [w1,w2,w3];(refine hJ _ _ ?_;clear hJ J;simp only [ak,reduceIte]))))
 refine qL (fun m fr st'=>∃ (c:List Int),m≤n2+1∧fr 0=.ms q 0 l.length∧fr 6=i a∧fr 7=i 0∧fr 8=i n∧fr 9=i ((m:Int) - 1)∧st'=bx st q c∧Pm a b l c∧Heap m n a c) (n2+1) ?_ ?_
 ·exact ⟨l,by omega,by simp,by simp,by simp,by simp,by simp,bx_self hH,.refl,fun k x h1 h2 h3=>by omega⟩
 rintro m fr st1 ⟨c,hm,f0,f6,f7,f8,f9,rfl,hpm,hh⟩ JJ hJJ
 have hcl:=hpm.len
 cases m with
 | succ m=>
   have f9':fr 9=i (m:Int):=by rw [f9];congr 2;omega
   have w4:IntKind.i64.wrap ((m:Int) - 1)=(m:Int) - 1:=wrap_i64 _ (by omega) (by omega)
   have hge:(0:Int)≤(m:Int):=by omega
   (repeat' (first | refine qS ?_ | refine qB ?_ | (refine qK ?_;simp only [ak,reduceIte]) | (refine qC ?_;simp [f0,f6,f7,f8,f9',hge]) | (refine w_e [] ?_;intro J hJ;simp only [];simp [f0,f6,f7,f8,f9',hge];(try (refine hJ _ _ ?_;clear hJ J;simp only [ak,reduceIte])))))
   rw [← hcl]
   refine qF (siftDown c q m n a _ (by unfold small;omega) (by omega) (by omega) hh (by simp)) ?_
   rintro r s2 ⟨c2,rfl,hpm2,hh2⟩
   rw [hcl]
   (repeat' ((first | (refine w_e [] ?_;intro J hJ;simp only []) | (refine e_go ?_));simp [f9',w4];(refine hJ _ _ ?_;clear hJ J;simp only [ak,reduceIte])))
   exact hJJ m _ _ (by omega) ⟨c2,by omega,by simp [f0],by simp [f6],by simp [f7],by simp [f8],by simp,St.set_set _ _ _ _,hpm.trans (hpm2.wide (by omega) (by omega) (by omega)),hh2⟩
 | zero=>
   clear hJJ
   have f9':fr 9=i (-1):=by rw [f9];rfl
   (repeat' (first | refine qS ?_ | refine qB ?_ | (refine qX ?_;simp only [ak,reduceIte]) | (refine qC ?_;simp [f0,f6,f7,f8,f9',w2]) | (refine w_e [] ?_;intro J hJ;simp only [];simp [f0,f6,f7,f8,f9',w2];(refine hJ _ _ ?_;clear hJ J;simp only [ak,reduceIte]))))
   refine qL (fun m fr st'=>∃ (c:List Int),m≤n∧fr 0=.ms q 0 l.length∧fr 6=i a∧fr 7=i 0∧fr 10=i ((m:Int) - 1)∧st'=bx st q c∧Pm a b l c∧Heap 0 m a c∧Last c a m n) n ?_ ?_
   ·exact ⟨c,Nat.le_refl _,by simp [f0],by simp [f6],by simp [f7],by simp;omega,rfl,hpm,hh,fun p q h1 h2 h3=>by omega⟩
   clear f0 f6 f7 f8 f9 f9' hpm hh hcl c fr
   rintro m fr st1 ⟨c,hm,f0,f6,f7,f10,rfl,hpm,hh,hla⟩ JJ hJJ
   have hcl:=hpm.len
   cases m with
   | zero=>
     have f10':fr 10=i (-1):=by rw [f10];rfl
     (repeat' (first | refine qS ?_ | (refine qX ?_;simp only [ak,reduceIte]) | (refine qC ?_;simp [f10']) | (refine w_e [] ?_;intro J hJ;simp only [];simp [f10'];(refine hJ _ _ ?_;clear hJ J;simp only [ak,reduceIte]))))
     refine ⟨trivial,c,rfl,hpm,fun p q h1 h2 h3=>?_⟩
     have:=hla (p - a) (q - a) (by omega) (by omega) (by omega)
     rwa [show a+(p - a)=p by omega,show a+(q - a)=q by omega] at this
   | succ m=>
     have f10':fr 10=i (m:Int):=by rw [f10];congr 2;omega
     have w4:IntKind.i64.wrap ((m:Int) - 1)=(m:Int) - 1:=wrap_i64 _ (by omega) (by omega)
     have hge:(0:Int)≤(m:Int):=by omega
     obtain ⟨x1,hx1⟩:∃ x:Nat,x=a+m:=⟨_,rfl⟩
     have w5:IntKind.i64.wrap ((a:Int)+(m:Int))=(x1:Int):=by rw [wrap_i64 _ (by omega) (by omega)];omega
     have hd0:=qG c a (by omega)
     have hd1:=qG c x1 (by omega)
     have hl0:a < l.length:=by omega
     have hl1:x1 < l.length:=by omega
     have hpop:=hh.pop (by omega)
     have hnext:=fun c2=>heap_next (c2:=c2) hh hla (by omega) (by omega)
     have hpm1:=hpm.step a x1 (by omega) (by omega) (by omega) (by omega) (by omega)
     rw [← hx1] at hpop hnext
     have hsl:=sw_length c a x1
     have hsw:=fun x y=>bx_sw st q c a x1 (x:=x) (y:=y) (by omega) (by omega)
     generalize hy0:c.getD a 0=y0 at *
     generalize hy1:c.getD x1 0=y1 at *
     have hsw':=hsw y0 y1 rfl rfl
     (repeat' (first | refine qS ?_ | refine qB ?_ | (refine qK ?_;simp only [ak,reduceIte]) | (refine qC ?_;simp [f0,f6,f7,f10',hge]) | (refine w_e [] ?_;intro J hJ;simp only [];simp [f0,f6,f7,f10',hge];(refine hJ _ _ ?_;clear hJ J;simp only [ak,reduceIte]))))
     (refine w_s [] [q] [(0,true),(1,true),(2,true),(3,true),(4,true),(5,true),(6,true),(7,true),(8,true),(9,true),(10,true),(11,true),(12,true),(13,true),(14,true),(15,true),(16,true),(17,false),(18,true),(19,false)] ?_;intro J hJ;simp [f0,f6,f7,f10',w5,hl0,hl1,hcl,hd0,hd1];(repeat refine ca ?_);(refine hJ _ _ ?_;clear hJ J;simp only [ak,reduceIte]))
     rw [hsw']
     generalize hc1:sw c a x1=c1 at *
     (repeat' (refine w_e [] ?_;intro J hJ;simp only [];simp [f0,f6,f7,f10']))
     rw [← hcl,← hsl]
     refine qF (siftDown c1 q 0 m a _ (by unfold small;omega) (by omega) (by omega) hpop (by simp)) ?_
     rintro r s2 ⟨c2,rfl,hpm2,hh2⟩
     rw [hsl,hcl]
     (repeat' ((first | (refine w_e [] ?_;intro J hJ;simp only []) | (refine e_go ?_));simp [f10',w4];(refine hJ _ _ ?_;clear hJ J;simp only [ak,reduceIte])))
     exact hJJ m _ _ (by omega) ⟨c2,by omega,by simp [f0],by simp [f6],by simp [f7],by simp,St.set_set _ _ _ _,hpm1.trans (hpm2.wide (by omega) (by omega) (by omega)),hh2,hnext c2 (by rw [hx1];exact hpm2)⟩
def StU (P:Int→Bool) (c:List Int) (ii jj:Nat):Prop:=ii≤jj→P (c.getD ii 0)=false
def StD (P:Int→Bool) (c:List Int) (ii kk:Nat):Prop:=ii≤kk→P (c.getD kk 0)=true
theorem partition (l:List Int) (q a b pv:Nat) (st:St) (hl:small l) (hab:a < b) (hb:b≤l.length) (hp1:a≤pv) (hp2:pv < b) (hH:st.H q=.box 26 1 (us l)):
 ACalls Tryz.prog 180 [.ms q 0 l.length,i a,i b,i pv] st fun r st'=>∃ (c:List Int) (mid:Nat) (p:Bool),r=.tu [i mid,bb p]∧st'=bx st q c∧Pm a b l c∧a≤mid∧mid < b∧PartedAt c a mid b:=by
 unfold small at hl
 refine qO tabOk Tryz.func180 rfl rfl Tryz.ntmps180 (rs:=[.tmp 8,.tmp 9]) rfl (by simp) ?_
 (repeat (refine qS ?_));(refine w_e [] ?_;intro J hJ;simp only [];simp [];(refine hJ _ _ ?_;clear hJ J;simp only [ak,reduceIte]))
 have hla:a < l.length:=by omega
 have hlp:pv < l.length:=by omega
 have hsw:=fun x y=>bx_sw' st q l a pv (x:=x) (y:=y) (by omega) (by omega)
 have hd0:=qG l a (by omega)
 have hd1:=qG l pv (by omega)
 have hpm:Pm a b l (sw l a pv):=Pm.one a pv (by omega) (by omega) (by omega) (by omega) (by omega)
 have hx:(sw l a pv).getD a 0=l.getD pv 0:=by
  rw [sw_get _ _ _ _ (by omega) (by omega)]
  by_cases e:a=pv
  ·rw [if_pos e,e]
  ·rw [if_neg e,if_pos rfl]
 generalize hy0:l.getD a 0=y0 at *
 generalize hy1:l.getD pv 0=x at *
 have hsw':=hsw y0 x rfl rfl
 (repeat (refine qS ?_));(refine w_s [] [q] [(0,true),(1,true),(2,true),(3,true),(4,true),(5,true),(6,true),(7,true),(8,true),(9,true),(10,true),(11,true),(12,true),(13,false),(14,true),(15,false)] ?_;intro J hJ;simp [hH,hla,hlp,hd0,hd1];(repeat refine ca ?_);(refine hJ _ _ ?_;clear hJ J;simp only [ak,reduceIte]))
 rw [hsw']
 clear hsw hsw' hd0 hd1 hy0
 generalize hc:sw l a pv=c at *
 clear hc
 have hcl:=hpm.len
 have w1:=qN a (by omega)
 have w2:=nat_sub_one b (by omega) (by omega)
 obtain ⟨P,hPd⟩:∃ P:Int→Bool,∀ v,P v=decide (v < x):=⟨_,fun _=>rfl⟩
 refine qS ?_
 refine awp_cut1 (fun fr st2=>fr 0=.ms q 0 l.length∧fr 1=i a∧fr 10=i ((a+1:Nat):Int)∧fr 11=i ((b - 1:Nat):Int)∧st2=bx st q c) (by (refine w_e [] ?_;intro J hJ;simp only [];simp [w1,w2];(refine hJ _ _ ?_;clear hJ J;simp only [ak,reduceIte]));simp) ?_
 rintro fr st2 ⟨f0,f1,fI,fJ,rfl⟩
 have hai:a < a+1:=by omega
 have hij:a+1≤b - 1+1:=by omega
 have hjb:b - 1 < b:=by omega
 have hLo:Lo P c a (a+1):=fun p h1 h2=>by omega
 have hHi:Hi P c (b - 1) b:=fun p h1 h2=>by omega
 generalize a+1=ii at *
 generalize b - 1=jj at *
 clear w1 w2
 have hd0:=qG c a (by omega)
 rw [hx] at hd0
 refine qS ?_
 refine awp_cut1 (fun fr st2=>∃ ii:Nat,a < ii∧ii≤jj+1∧fr 0=.ms q 0 l.length∧fr 1=i a∧fr 10=i ii∧fr 11=i jj∧st2=bx st q c∧Lo P c a ii∧StU P c ii jj) ?_ ?_
 ·refine qB ?_
  refine qL (fun m fr st2=>∃ ii:Nat,a < ii∧ii≤jj+1∧m=jj+1 - ii∧fr 0=.ms q 0 l.length∧fr 1=i a∧fr 10=i ii∧fr 11=i jj∧st2=bx st q c∧Lo P c a ii) (jj+1 - ii) ?_ ?_
  ·exact ⟨ii,by omega,by omega,rfl,by simp [f0],by simp [f1],by simp [fI],by simp [fJ],rfl,hLo⟩
  clear f0 f1 fI fJ hLo hai hij fr ii
  rintro m fr st2 ⟨ii,hai,hij,rfl,f0,f1,fI,fJ,rfl,hLo⟩ JJ hJJ
  have hia:=qN ii (by omega)
  by_cases hle:ii≤jj
  rotate_left
  ·clear hJJ
   (repeat (refine qS ?_));(refine w_s [] [q] [(0,true),(1,true),(2,true),(3,true),(4,true),(5,true),(6,true),(7,true),(8,true),(9,true),(10,true),(11,true),(12,false),(13,true)] ?_;intro J hJ;simp [f0,f1,fI,fJ,hle];(refine hJ _ _ ?_;clear hJ J;simp only [ak,reduceIte]))
   (repeat' (first | (refine qX ?_;simp only [ak,reduceIte]) | (refine qC ?_;simp [])))
   exact ⟨trivial,ii,by omega,by omega,by simp [f0],by simp [f1],by simp [fI],by simp [fJ],by trivial,hLo,fun h=>absurd h hle⟩
  have hli:ii < l.length:=by omega
  have hd1:=qG c ii (by omega)
  have hmo:=hLo.more
  generalize hy:c.getD ii 0=y at *
  (repeat (refine qS ?_));(refine w_s [] [q] [(0,true),(1,true),(2,true),(3,true),(4,true),(5,true),(6,true),(7,true),(8,true),(9,true),(10,true),(11,true),(12,false),(13,true)] ?_;intro J hJ;simp [f0,f1,fI,fJ,hle,hli,hla,hcl,hd0,hd1])
  refine dcallK_of (Less y x _) ?_;rintro r s2 ⟨rfl,rfl⟩
  refine ⟨fun _=>by simp,?_⟩
  have hP:=hPd y
  by_cases hyx:y < x
  ·(refine d_go ?_;simp [hyx];(refine hJ _ _ ?_;clear hJ J;simp only [ak,reduceIte]))
   (repeat' (first | refine qB ?_ | (refine qK ?_;simp only [ak,reduceIte]) | (refine qC ?_;simp [fI,hia]) | (refine w_e [] ?_;intro J hJ;simp only [];simp [fI,hia];(refine hJ _ _ ?_;clear hJ J;simp only [ak,reduceIte]))))
   exact hJJ (jj+1 - (ii+1)) _ _ (by omega) ⟨ii+1,by omega,by omega,rfl,by simp [f0],by simp [f1],by simp,by simp [fJ],rfl,hmo (by rw [hP];simp [hyx])⟩
  ·clear hJJ
   (refine d_go ?_;simp [hyx];(refine hJ _ _ ?_;clear hJ J;simp only [ak,reduceIte]))
   (repeat' (first | (refine qX ?_;simp only [ak,reduceIte]) | (refine qC ?_;simp [])))
   exact ⟨trivial,ii,by omega,by omega,by simp [f0],by simp [f1],by simp [fI],by simp [fJ],by trivial,hLo,fun _=>by rw [hy,hP];simp [hyx]⟩
 clear f0 f1 fI fJ hLo hai hij fr ii
 rintro fr st2 ⟨ii,hai,hij,f0,f1,fI,fJ,rfl,hLo,hst⟩
 refine qS ?_
 refine awp_cut1 (fun fr st2=>∃ kk:Nat,a≤kk∧kk≤jj∧ii≤kk+1∧fr 0=.ms q 0 l.length∧fr 1=i a∧fr 10=i ii∧fr 11=i kk∧st2=bx st q c∧Hi P c kk b∧StD P c ii kk) ?_ ?_
 ·refine qB ?_
  refine qL (fun m fr st2=>∃ kk:Nat,a≤kk∧kk≤jj∧ii≤kk+1∧kk=m∧fr 0=.ms q 0 l.length∧fr 1=i a∧fr 10=i ii∧fr 11=i kk∧st2=bx st q c∧Hi P c kk b) jj ?_ ?_
  ·exact ⟨jj,by omega,by omega,by omega,rfl,by simp [f0],by simp [f1],by simp [fI],by simp [fJ],rfl,hHi⟩
  clear f0 f1 fI fJ hHi fr
  rintro m fr st2 ⟨kk,hak,hkj,hik,rfl,f0,f1,fI,fJ,rfl,hHi⟩ JJ hJJ
  by_cases hle:ii≤kk
  rotate_left
  ·clear hJJ
   (repeat (refine qS ?_));(refine w_s [] [q] [(0,true),(1,true),(2,true),(3,true),(4,true),(5,true),(6,true),(7,true),(8,true),(9,true),(10,true),(11,true),(12,false),(13,true),(14,true)] ?_;intro J hJ;simp [f0,f1,fI,fJ,hle];(refine hJ _ _ ?_;clear hJ J;simp only [ak,reduceIte]))
   (repeat' (first | (refine qX ?_;simp only [ak,reduceIte]) | (refine qC ?_;simp [])))
   exact ⟨trivial,kk,by omega,by omega,by omega,by simp [f0],by simp [f1],by simp [fI],by simp [fJ],by trivial,hHi,fun h=>absurd h hle⟩
  have hja:=nat_sub_one kk (by omega) (by omega)
  have hlj:kk < l.length:=by omega
  have hd1:=qG c kk (by omega)
  have hmo:=hHi.more
  generalize hy:c.getD kk 0=y at *
  (repeat (refine qS ?_));(refine w_s [] [q] [(0,true),(1,true),(2,true),(3,true),(4,true),(5,true),(6,true),(7,true),(8,true),(9,true),(10,true),(11,true),(12,false),(13,true),(14,true)] ?_;intro J hJ;simp [f0,f1,fI,fJ,hle,hlj,hla,hcl,hd0,hd1])
  refine dcallK_of (Less y x _) ?_;rintro r s2 ⟨rfl,rfl⟩
  refine ⟨fun _=>by simp,?_⟩
  have hP:=hPd y
  by_cases hyx:y < x
  ·clear hJJ
   (refine d_go ?_;simp [hyx];(refine hJ _ _ ?_;clear hJ J;simp only [ak,reduceIte]))
   (repeat' (first | (refine qX ?_;simp only [ak,reduceIte]) | (refine qC ?_;simp [])))
   exact ⟨trivial,kk,by omega,by omega,by omega,by simp [f0],by simp [f1],by simp [fI],by simp [fJ],by trivial,hHi,fun _=>by rw [hy,hP];simp [hyx]⟩
  ·(refine d_go ?_;simp [hyx];(refine hJ _ _ ?_;clear hJ J;simp only [ak,reduceIte]))
   (repeat' (first | refine qB ?_ | (refine qK ?_;simp only [ak,reduceIte]) | (refine qC ?_;simp [fJ,hja]) | (refine w_e [] ?_;intro J hJ;simp only [];simp [fJ,hja];(refine hJ _ _ ?_;clear hJ J;simp only [ak,reduceIte]))))
   exact hJJ (kk - 1) _ _ (by omega) ⟨kk - 1,by omega,by omega,by omega,rfl,by simp [f0],by simp [f1],by simp [fI],by simp,rfl,hmo (by omega) (by rw [hP];simp [hyx])⟩
 clear f0 f1 fI fJ hHi fr
 rintro fr st2 ⟨kk,hak,hkj,hik,f0,f1,fI,fJ,rfl,hHi,hst2⟩
 by_cases hle:ii≤kk
 rotate_left
 ·have hke:ii=kk+1:=by omega
  have hpl:=parted_last (hke ▸ hLo) hHi (by omega) (by omega) (by omega)
  have hpm2:=hpm.step kk a (by omega) (by omega) (by omega) (by omega) (by omega)
  have hlk:kk < l.length:=by omega
  have hd1:=qG c kk (by omega)
  have hsw:=fun x y=>bx_sw st q c kk a (x:=x) (y:=y) (by omega) (by omega)
  generalize hy1:c.getD kk 0=y1 at *
  have hsw':=hsw y1 x rfl hx
  (repeat' (first | refine qS ?_ | (refine qC ?_;simp [f0,f1,fI,fJ,hle];(try with_reducible intro hc)) | (refine w_e [] ?_;intro J hJ;simp only [];simp [f0,f1,fI,fJ,hle];(refine hJ _ _ ?_;clear hJ J;simp only [ak,reduceIte]))))
  (refine w_s [] [q] [(0,true),(1,true),(2,true),(3,true),(4,true),(5,true),(6,true),(7,true),(8,true),(9,true),(10,true),(11,true),(12,true),(13,false),(14,true),(15,false)] ?_;intro J hJ;simp [f0,f1,fI,fJ,hla,hlk,hcl,hd0,hd1];(repeat refine ca ?_);(refine hJ _ _ ?_;clear hJ J;simp only [ak,reduceIte]))
  (repeat' (first | refine qS ?_ | (refine qR ?_;simp only [ak,reduceIte];simp [f0,f1,fI,fJ]) | (refine w_e [] ?_;intro J hJ;simp only [];simp [f0,f1,fI,fJ];(refine hJ _ _ ?_;clear hJ J;simp only [ak,reduceIte]))))
  exact ⟨_,kk,rfl,hsw',hpm2,by omega,by omega,by unfold PartedAt;rw [hpl.2,hx];have h:=hpl.1;rwa [show P=_ from funext hPd] at h⟩
 have hik2:ii < kk:=by
  rcases Nat.lt_or_ge ii kk with h | h
  ·exact h
  ·exfalso
   have e:ii=kk:=by omega
   have h1:=hst (by omega)
   have h2:=hst2 hle
   rw [e,h2] at h1;cases h1
 have hLo2:=hLo.swp hik2 (by omega) (hst2 hle)
 have hHi2:=hHi.swp hik2 (by omega) (hst (by omega))
 have hpm2:=hpm.step ii kk (by omega) (by omega) (by omega) (by omega) (by omega)
 have hxx:(sw c ii kk).getD a 0=x:=by rw [sw_get _ _ _ _ (by omega) (by omega),if_neg (by omega),if_neg (by omega)];exact hx
 have hli:ii < l.length:=by omega
 have hlk:kk < l.length:=by omega
 have hd1:=qG c ii (by omega)
 have hd2:=qG c kk (by omega)
 have hsw:=fun x y=>bx_sw st q c ii kk (x:=x) (y:=y) (by omega) (by omega)
 have hia:=qN ii (by omega)
 have hka:=nat_sub_one kk (by omega) (by omega)
 clear hst hst2
 generalize hy1:c.getD ii 0=y1 at *
 generalize hy2:c.getD kk 0=y2 at *
 have hsw':=hsw y1 y2 rfl rfl
 (repeat' (first | refine qS ?_ | (refine qK ?_;simp only [ak,reduceIte]) | (refine qC ?_;simp [f0,f1,fI,fJ,hle];(try with_reducible refine ⟨?_,?_⟩)<;>(try with_reducible intro hc)<;>try (exfalso;omega)) | (refine w_e [] ?_;intro J hJ;simp only [];simp [f0,f1,fI,fJ,hle];(refine hJ _ _ ?_;clear hJ J;simp only [ak,reduceIte]))))
 (refine w_s [] [q] [(0,true),(1,true),(2,true),(3,true),(4,true),(5,true),(6,true),(7,true),(8,true),(9,true),(10,true),(11,true),(12,true),(13,false),(14,true),(15,false)] ?_;intro J hJ;simp [f0,f1,fI,fJ,hli,hlk,hcl,hd1,hd2];(repeat refine ca ?_);(refine hJ _ _ ?_;clear hJ J;simp only [ak,reduceIte]))
 (repeat' (first | refine qS ?_ | refine qB ?_ | (refine w_e [] ?_;intro J hJ;simp only [];simp [fI,fJ,hia,hka];(refine hJ _ _ ?_;clear hJ J;simp only [ak,reduceIte]))))
 rw [hsw']
 refine qL (fun m fr st2=>∃ (ii jj:Nat) (c:List Int),a < ii∧ii≤jj+1∧jj < b∧jj=m∧fr 0=.ms q 0 l.length∧fr 1=i a∧fr 10=i ii∧fr 11=i jj∧st2=bx st q c∧Pm a b l c∧c.getD a 0=x∧Lo P c a ii∧Hi P c jj b) (kk - 1) ?_ ?_
 ·exact ⟨ii+1,kk - 1,sw c ii kk,by omega,by omega,by omega,rfl,by simp [f0],by simp [f1],by simp,by simp,rfl,hpm2,hxx,hLo2,hHi2⟩
 clear f0 f1 fI fJ hLo hHi hLo2 hHi2 hpm hpm2 hx hxx hcl hd0 hd1 hd2 hsw hsw' hy1 hy2 y1 y2 hai hij hak hik hik2 hli hlk hia hka hle hkj hjb ii jj kk c fr
 rintro m fr st2 ⟨ii,jj,c,hai,hij,hjb,rfl,f0,f1,fI,fJ,rfl,hpm,hx,hLo,hHi⟩ JJ0 hJ0
 have hcl:=hpm.len
 have hd0:=qG c a (by omega)
 rw [hx] at hd0
 refine qB ?_
 refine qS ?_
 refine awp_cut1 (fun fr st2=>∃ ii:Nat,a < ii∧ii≤jj+1∧fr 0=.ms q 0 l.length∧fr 1=i a∧fr 10=i ii∧fr 11=i jj∧st2=bx st q c∧Lo P c a ii∧StU P c ii jj) ?_ ?_
 ·refine qB ?_
  refine qL (fun m fr st2=>∃ ii:Nat,a < ii∧ii≤jj+1∧m=jj+1 - ii∧fr 0=.ms q 0 l.length∧fr 1=i a∧fr 10=i ii∧fr 11=i jj∧st2=bx st q c∧Lo P c a ii) (jj+1 - ii) ?_ ?_
  ·exact ⟨ii,by omega,by omega,rfl,by simp [f0],by simp [f1],by simp [fI],by simp [fJ],rfl,hLo⟩
  clear f0 f1 fI fJ hLo hai hij fr ii
  rintro m fr st2 ⟨ii,hai,hij,rfl,f0,f1,fI,fJ,rfl,hLo⟩ JJ hJJ
  have hia:=qN ii (by omega)
  by_cases hle:ii≤jj
  rotate_left
  ·clear hJJ
   (repeat (refine qS ?_));(refine w_s [] [q] [(0,true),(1,true),(2,true),(3,true),(4,true),(5,true),(6,true),(7,true),(8,true),(9,true),(10,true),(11,true),(12,false),(13,true)] ?_;intro J hJ;simp [f0,f1,fI,fJ,hle];(refine hJ _ _ ?_;clear hJ J;simp only [ak,reduceIte]))
   (repeat' (first | (refine qX ?_;simp only [ak,reduceIte]) | (refine qC ?_;simp [])))
   exact ⟨trivial,ii,by omega,by omega,by simp [f0],by simp [f1],by simp [fI],by simp [fJ],by trivial,hLo,fun h=>absurd h hle⟩
  have hli:ii < l.length:=by omega
  have hd1:=qG c ii (by omega)
  have hmo:=hLo.more
  generalize hy:c.getD ii 0=y at *
  (repeat (refine qS ?_));(refine w_s [] [q] [(0,true),(1,true),(2,true),(3,true),(4,true),(5,true),(6,true),(7,true),(8,true),(9,true),(10,true),(11,true),(12,false),(13,true)] ?_;intro J hJ;simp [f0,f1,fI,fJ,hle,hli,hla,hcl,hd0,hd1])
  refine dcallK_of (Less y x _) ?_;rintro r s2 ⟨rfl,rfl⟩
  refine ⟨fun _=>by simp,?_⟩
  have hP:=hPd y
  by_cases hyx:y < x
  ·(refine d_go ?_;simp [hyx];(refine hJ _ _ ?_;clear hJ J;simp only [ak,reduceIte]))
   (repeat' (first | refine qB ?_ | (refine qK ?_;simp only [ak,reduceIte]) | (refine qC ?_;simp [fI,hia]) | (refine w_e [] ?_;intro J hJ;simp only [];simp [fI,hia];(refine hJ _ _ ?_;clear hJ J;simp only [ak,reduceIte]))))
   exact hJJ (jj+1 - (ii+1)) _ _ (by omega) ⟨ii+1,by omega,by omega,rfl,by simp [f0],by simp [f1],by simp,by simp [fJ],rfl,hmo (by rw [hP];simp [hyx])⟩
  ·clear hJJ
   (refine d_go ?_;simp [hyx];(refine hJ _ _ ?_;clear hJ J;simp only [ak,reduceIte]))
   (repeat' (first | (refine qX ?_;simp only [ak,reduceIte]) | (refine qC ?_;simp [])))
   exact ⟨trivial,ii,by omega,by omega,by simp [f0],by simp [f1],by simp [fI],by simp [fJ],by trivial,hLo,fun _=>by rw [hy,hP];simp [hyx]⟩
 clear f0 f1 fI fJ hLo hai hij fr ii
 rintro fr st2 ⟨ii,hai,hij,f0,f1,fI,fJ,rfl,hLo,hst⟩
 refine qS ?_
 refine awp_cut1 (fun fr st2=>∃ kk:Nat,a≤kk∧kk≤jj∧ii≤kk+1∧fr 0=.ms q 0 l.length∧fr 1=i a∧fr 10=i ii∧fr 11=i kk∧st2=bx st q c∧Hi P c kk b∧StD P c ii kk) ?_ ?_
 ·refine qB ?_
  refine qL (fun m fr st2=>∃ kk:Nat,a≤kk∧kk≤jj∧ii≤kk+1∧kk=m∧fr 0=.ms q 0 l.length∧fr 1=i a∧fr 10=i ii∧fr 11=i kk∧st2=bx st q c∧Hi P c kk b) jj ?_ ?_
  ·exact ⟨jj,by omega,by omega,by omega,rfl,by simp [f0],by simp [f1],by simp [fI],by simp [fJ],rfl,hHi⟩
  clear f0 f1 fI fJ hHi fr
  rintro m fr st2 ⟨kk,hak,hkj,hik,rfl,f0,f1,fI,fJ,rfl,hHi⟩ JJ hJJ
  by_cases hle:ii≤kk
  rotate_left
  ·clear hJJ
   (repeat (refine qS ?_));(refine w_s [] [q] [(0,true),(1,true),(2,true),(3,true),(4,true),(5,true),(6,true),(7,true),(8,true),(9,true),(10,true),(11,true),(12,false),(13,true),(14,true)] ?_;intro J hJ;simp [f0,f1,fI,fJ,hle];(refine hJ _ _ ?_;clear hJ J;simp only [ak,reduceIte]))
   (repeat' (first | (refine qX ?_;simp only [ak,reduceIte]) | (refine qC ?_;simp [])))
   exact ⟨trivial,kk,by omega,by omega,by omega,by simp [f0],by simp [f1],by simp [fI],by simp [fJ],by trivial,hHi,fun h=>absurd h hle⟩
  have hja:=nat_sub_one kk (by omega) (by omega)
  have hlj:kk < l.length:=by omega
  have hd1:=qG c kk (by omega)
  have hmo:=hHi.more
  generalize hy:c.getD kk 0=y at *
  (repeat (refine qS ?_));(refine w_s [] [q] [(0,true),(1,true),(2,true),(3,true),(4,true),(5,true),(6,true),(7,true),(8,true),(9,true),(10,true),(11,true),(12,false),(13,true),(14,true)] ?_;intro J hJ;simp [f0,f1,fI,fJ,hle,hlj,hla,hcl,hd0,hd1])
  refine dcallK_of (Less y x _) ?_;rintro r s2 ⟨rfl,rfl⟩
  refine ⟨fun _=>by simp,?_⟩
  have hP:=hPd y
  by_cases hyx:y < x
  ·clear hJJ
   (refine d_go ?_;simp [hyx];(refine hJ _ _ ?_;clear hJ J;simp only [ak,reduceIte]))
   (repeat' (first | (refine qX ?_;simp only [ak,reduceIte]) | (refine qC ?_;simp [])))
   exact ⟨trivial,kk,by omega,by omega,by omega,by simp [f0],by simp [f1],by simp [fI],by simp [fJ],by trivial,hHi,fun _=>by rw [hy,hP];simp [hyx]⟩
  ·(refine d_go ?_;simp [hyx];(refine hJ _ _ ?_;clear hJ J;simp only [ak,reduceIte]))
   (repeat' (first | refine qB ?_ | (refine qK ?_;simp only [ak,reduceIte]) | (refine qC ?_;simp [fJ,hja]) | (refine w_e [] ?_;intro J hJ;simp only [];simp [fJ,hja];(refine hJ _ _ ?_;clear hJ J;simp only [ak,reduceIte]))))
   exact hJJ (kk - 1) _ _ (by omega) ⟨kk - 1,by omega,by omega,by omega,rfl,by simp [f0],by simp [f1],by simp [fI],by simp,rfl,hmo (by omega) (by rw [hP];simp [hyx])⟩
 clear f0 f1 fI fJ hHi fr
 rintro fr st2 ⟨kk,hak,hkj,hik,f0,f1,fI,fJ,rfl,hHi,hst2⟩
 by_cases hle:ii≤kk
 rotate_left
 ·clear hJ0
  have hke:ii=kk+1:=by omega
  have hpl:=parted_last (hke ▸ hLo) hHi (by omega) (by omega) (by omega)
  have hpm2:=hpm.step kk a (by omega) (by omega) (by omega) (by omega) (by omega)
  have hlk:kk < l.length:=by omega
  have hd1:=qG c kk (by omega)
  have hsw:=fun x y=>bx_sw st q c kk a (x:=x) (y:=y) (by omega) (by omega)
  generalize hy1:c.getD kk 0=y1 at *
  have hsw':=hsw y1 x rfl hx
  (repeat' (first | refine qS ?_ | (refine qX ?_;simp only [ak,reduceIte]) | (refine qC ?_;simp [f0,f1,fI,fJ,hle];(try with_reducible intro hc)) | (refine w_e [] ?_;intro J hJ;simp only [];simp [f0,f1,fI,fJ,hle];(refine hJ _ _ ?_;clear hJ J;simp only [ak,reduceIte]))))
  (refine w_s [] [q] [(0,true),(1,true),(2,true),(3,true),(4,true),(5,true),(6,true),(7,true),(8,true),(9,true),(10,true),(11,true),(12,true),(13,false),(14,true),(15,false)] ?_;intro J hJ;simp [f0,f1,fI,fJ,hla,hlk,hcl,hd0,hd1];(repeat refine ca ?_);(refine hJ _ _ ?_;clear hJ J;simp only [ak,reduceIte]))
  (repeat' (first | refine qS ?_ | (refine qR ?_;simp only [ak,reduceIte];simp [f0,f1,fI,fJ]) | (refine w_e [] ?_;intro J hJ;simp only [];simp [f0,f1,fI,fJ];(refine hJ _ _ ?_;clear hJ J;simp only [ak,reduceIte]))))
  exact ⟨_,kk,rfl,hsw',hpm2,by omega,by omega,by unfold PartedAt;rw [hpl.2,hx];have h:=hpl.1;rwa [show P=_ from funext hPd] at h⟩
 have hik2:ii < kk:=by
  rcases Nat.lt_or_ge ii kk with h | h
  ·exact h
  ·exfalso
   have e:ii=kk:=by omega
   have h1:=hst (by omega)
   have h2:=hst2 hle
   rw [e,h2] at h1;cases h1
 have hLo2:=hLo.swp hik2 (by omega) (hst2 hle)
 have hHi2:=hHi.swp hik2 (by omega) (hst (by omega))
 have hpm2:=hpm.step ii kk (by omega) (by omega) (by omega) (by omega) (by omega)
 have hxx:(sw c ii kk).getD a 0=x:=by rw [sw_get _ _ _ _ (by omega) (by omega),if_neg (by omega),if_neg (by omega)];exact hx
 have hli:ii < l.length:=by omega
 have hlk:kk < l.length:=by omega
 have hd1:=qG c ii (by omega)
 have hd2:=qG c kk (by omega)
 have hsw:=fun x y=>bx_sw st q c ii kk (x:=x) (y:=y) (by omega) (by omega)
 have hia:=qN ii (by omega)
 have hka:=nat_sub_one kk (by omega) (by omega)
 clear hst hst2
 generalize hy1:c.getD ii 0=y1 at *
 generalize hy2:c.getD kk 0=y2 at *
 have hsw':=hsw y1 y2 rfl rfl
 (repeat' (first | refine qS ?_ | (refine qK ?_;simp only [ak,reduceIte]) | (refine qC ?_;simp [f0,f1,fI,fJ,hle];(try with_reducible refine ⟨?_,?_⟩)<;>(try with_reducible intro hc)<;>try (exfalso;omega)) | (refine w_e [] ?_;intro J hJ;simp only [];simp [f0,f1,fI,fJ,hle];(refine hJ _ _ ?_;clear hJ J;simp only [ak,reduceIte]))))
 (refine w_s [] [q] [(0,true),(1,true),(2,true),(3,true),(4,true),(5,true),(6,true),(7,true),(8,true),(9,true),(10,true),(11,true),(12,true),(13,false),(14,true),(15,false)] ?_;intro J hJ;simp [f0,f1,fI,fJ,hli,hlk,hcl,hd1,hd2];(repeat refine ca ?_);(refine hJ _ _ ?_;clear hJ J;simp only [ak,reduceIte]))
 (repeat' (first | refine qS ?_ | (refine w_e [] ?_;intro J hJ;simp only [];simp [fI,fJ,hia,hka];(refine hJ _ _ ?_;clear hJ J;simp only [ak,reduceIte]))))
 exact hJ0 (kk - 1) _ _ (by omega) ⟨ii+1,kk - 1,sw c ii kk,by omega,by omega,by omega,rfl,by simp [f0],by simp [f1],by simp,by simp,hsw',hpm2,hxx,hLo2,hHi2⟩
end Go.Proofs.YtiiejclelbilkaaGreatDoor.Aw
