/- Plain lists of numbers: places, least ones, turns. No program. -/
import Derived.RangeFuncBox
import Derived.RangeFuncLeaves
import Derived.Shelf.Abstract
import Derived.WalkKit
import Derived.OwnWalkIn
import Derived.TacticsInMore
import Derived.LoopNIn
import Derived.LoopIn
import Derived.Maps.AppendAt
import Derived.Test.YtkcokoefodgigaaGreatProg
import Derived.Test.YtkcokoefodgigaaGreatAwSet
import Derived.IntWalk
namespace Go.Proofs.YtkcokoefodgigaaGreat.Pl
def mn:List Int→Int
 | []=>0
 | x::l=>l.foldl (fun a b=>if b < a then b else a) x
def rt (l:List Int) (k:Nat):List Int:=l.drop k++l.take k
def nrm (l:List Int):List Int:=rt l (l.idxOf (mn l))
end Go.Proofs.YtkcokoefodgigaaGreat.Pl
namespace Go.Proofs.YtkcokoefodgigaaGreat.Eu
open Go
set_option linter.unusedSimpArgs false
set_option linter.unusedVariables false
def it (f:Int→Int):Nat→Int→Int
 | 0,x=>x
 | n+1,x=>it f n (f x)
section
variable {f f':Int→Int} {a b:Int}
end
end Go.Proofs.YtkcokoefodgigaaGreat.Eu
namespace Go.Proofs.YtkcokoefodgigaaGreat.Pl
def sw (c:List Int) (a b:Nat):List Int:=(c.set a (c.getD b 0)).set b (c.getD a 0)
theorem sw_length (c:List Int) (a b:Nat):(sw c a b).length=c.length:=by simp [sw]
theorem sw_get (c:List Int) (a b j:Nat) (ha:a < c.length) (hb:b < c.length):(sw c a b).getD j 0=if j=b then c.getD a 0 else if j=a then c.getD b 0 else c.getD j 0:=by
 unfold sw
 simp only [List.getD_eq_getElem?_getD,List.getElem?_set]
 by_cases h1:b=j
 ·subst h1;simp [hb]
 ·by_cases h2:a=j
  ·subst h2;simp [h1,ha,Ne.symm h1]
  ·simp [h1,h2,Ne.symm h1,Ne.symm h2]
theorem sw_perm (c:List Int) (a b:Nat) (ha:a < c.length) (hb:b < c.length):(sw c a b).Perm c:=by
 unfold sw
 have h:=List.set_set_perm ha hb
 simp only [List.getD_eq_getElem?_getD,List.getElem?_eq_getElem ha,List.getElem?_eq_getElem hb,Option.getD_some]
 exact h
inductive Pm (a b:Nat) (l:List Int):List Int→Prop
 | refl:Pm a b l l
 | step {m:List Int} (h:Pm a b l m) (x y:Nat) (hx:a≤x) (hx':x < b) (hy:a≤y) (hy':y < b) (hb:b≤l.length):Pm a b l (sw m x y)
theorem Pm.len {a b:Nat} {l m:List Int} (h:Pm a b l m):m.length=l.length:=by
 induction h with
 | refl=>rfl
 | step h x y _ _ _ _ _ ih=>rw [sw_length];exact ih
theorem Pm.out {a b:Nat} {l m:List Int} (h:Pm a b l m) (j:Nat) (hj:j < a∨b≤j):m.getD j 0=l.getD j 0:=by
 induction h with
 | refl=>rfl
 | step h x y h1 h2 h3 h4 h5 ih=>
   have:=h.len
   rw [sw_get _ _ _ _ (by omega) (by omega),if_neg (by omega),if_neg (by omega)];exact ih
theorem Pm.trans {a b:Nat} {l m n:List Int} (h:Pm a b l m) (k:Pm a b m n):Pm a b l n:=by
 induction k with
 | refl=>exact h
 | step k x y h1 h2 h3 h4 h5 ih=>have:=h.len;exact ih.step x y h1 h2 h3 h4 (by omega)
theorem Pm.wide {a b a' b':Nat} {l m:List Int} (h:Pm a b l m) (ha:a'≤a) (hb:b≤b') (hl:b'≤l.length):Pm a' b' l m:=by
 induction h with
 | refl=>exact .refl
 | step k x y h1 h2 h3 h4 h5 ih=>exact ih.step x y (by omega) (by omega) (by omega) (by omega) hl
theorem Pm.perm {a b:Nat} {l m:List Int} (h:Pm a b l m):m.Perm l:=by
 induction h with
 | refl=>exact .refl _
 | step k x y h1 h2 h3 h4 h5 ih=>have:=k.len;exact (sw_perm _ _ _ (by omega) (by omega)).trans ih
theorem Pm.all {a b:Nat} {l m:List Int} (h:Pm a b l m) (P:Int→Prop) (hP:∀ j,a≤j→j < b→P (l.getD j 0)) (j:Nat) (h1:a≤j) (h2:j < b):P (m.getD j 0):=by
 induction h generalizing j with
 | refl=>exact hP j h1 h2
 | step k x y g1 g2 g3 g4 g5 ih=>
   have:=k.len
   rw [sw_get _ _ _ _ (by omega) (by omega)]
   by_cases e1:j=y
   ·rw [if_pos e1];exact ih x g1 g2
   ·rw [if_neg e1]
    by_cases e2:j=x
    ·rw [if_pos e2];exact ih y g3 g4
    ·rw [if_neg e2];exact ih j h1 h2
theorem Pm.one {a b:Nat} {l:List Int} (x y:Nat) (hx:a≤x) (hx':x < b) (hy:a≤y) (hy':y < b) (hb:b≤l.length):Pm a b l (sw l x y):=Pm.refl.step x y hx hx' hy hy' hb
def Srt (a b:Nat) (l:List Int):Prop:=∀ p q,a≤p→p < q→q < b→l.getD p 0≤l.getD q 0
def Ins (a j i:Nat) (d:List Int):Prop:=∀ p q,a≤p→p < q→q≤i→q≠j→d.getD p 0≤d.getD q 0
theorem Srt.ins {a i:Nat} {d:List Int} (h:Srt a i d):Ins a i i d:=fun p q h1 h2 h3 h4=>h p q h1 h2 (by omega)
theorem Ins.step {a j i:Nat} {d:List Int} (h:Ins a j i d) (hj:a < j) (hi:j≤i) (hil:i < d.length) (hlt:d.getD j 0 < d.getD (j - 1) 0):Ins a (j - 1) i (sw d j (j - 1)):=by
 intro p q h1 h2 h3 h4
 rw [sw_get _ _ _ _ (by omega) (by omega),sw_get _ _ _ _ (by omega) (by omega)]
 by_cases e1:q=j
 ·rw [if_neg h4,if_pos e1]
  by_cases e2:p=j - 1
  ·rw [if_pos e2];omega
  ·rw [if_neg e2,if_neg (by omega)];exact h p (j - 1) h1 (by omega) (by omega) (by omega)
 ·rw [if_neg h4,if_neg e1]
  by_cases e2:p=j - 1
  ·rw [if_pos e2];exact h j q (by omega) (by omega) h3 e1
  ·rw [if_neg e2]
   by_cases e3:p=j
   ·rw [if_pos e3];exact h (j - 1) q (by omega) (by omega) h3 e1
   ·rw [if_neg e3];exact h p q h1 h2 h3 e1
theorem Ins.done {a j i:Nat} {d:List Int} (h:Ins a j i d) (hj:a≤j) (hs:j=a∨¬ d.getD j 0 < d.getD (j - 1) 0):Srt a (i+1) d:=by
 intro p q h1 h2 h3
 by_cases e:q=j
 ·subst e
  have h5:¬ d.getD q 0 < d.getD (q - 1) 0:=by rcases hs with hs | hs;omega;exact hs
  by_cases e2:p=q - 1
  ·subst e2;omega
  ·have:=h p (q - 1) h1 (by omega) (by omega) (by omega);omega
 ·exact h p q h1 h2 (by omega) e
def Heap (lo hi f:Nat) (d:List Int):Prop:=∀ k c,lo≤k→(c=2 * k+1∨c=2 * k+2)→c < hi→d.getD (f+c) 0≤d.getD (f+k) 0
def HeapX (lo hi f r:Nat) (d:List Int):Prop:=(∀ k c,lo≤k→k≠r→(c=2 * k+1∨c=2 * k+2)→c < hi→d.getD (f+c) 0≤d.getD (f+k) 0)∧
 (∀ k c,lo≤k→(r=2 * k+1∨r=2 * k+2)→(c=2 * r+1∨c=2 * r+2)→c < hi→d.getD (f+c) 0≤d.getD (f+k) 0)
theorem Heap.x {lo hi f:Nat} {d:List Int} (h:Heap (lo+1) hi f d):HeapX lo hi f lo d:=
 ⟨fun k c h1 h2 h3 h4=>h k c (by omega) h3 h4,fun k c h1 h2 h3 h4=>by omega⟩
theorem HeapX.leaf {lo hi f r:Nat} {d:List Int} (h:HeapX lo hi f r d) (hr:hi≤2 * r+1):Heap lo hi f d:=by
 intro k c h1 h2 h3
 exact h.1 k c h1 (by omega) h2 h3
theorem HeapX.big {lo hi f r:Nat} {d:List Int} (h:HeapX lo hi f r d) (hr:∀ c,(c=2 * r+1∨c=2 * r+2)→c < hi→d.getD (f+c) 0≤d.getD (f+r) 0):Heap lo hi f d:=by
 intro k c h1 h2 h3
 by_cases e:k=r
 ·subst e;exact hr c h2 h3
 ·exact h.1 k c h1 e h2 h3
theorem HeapX.step {lo hi f r c:Nat} {d:List Int} (h:HeapX lo hi f r d) (hlo:lo≤r) (hc:c=2 * r+1∨c=2 * r+2) (hci:c < hi) (hl:f+hi≤d.length) (hm:∀ x,(x=2 * r+1∨x=2 * r+2)→x < hi→d.getD (f+x) 0≤d.getD (f+c) 0)
 (hlt:d.getD (f+r) 0 < d.getD (f+c) 0):HeapX lo hi f c (sw d (f+r) (f+c)):=by
 constructor
 ·intro k x h1 h2 h3 h4
  rw [sw_get _ _ _ _ (by omega) (by omega),sw_get _ _ _ _ (by omega) (by omega)]
  by_cases e1:k=r
  ·subst e1
   rw [if_neg (show ¬ f+k=f+c by omega),if_pos (rfl:f+k=f+k)]
   by_cases e2:x=c
   ·rw [if_pos (by omega)];omega
   ·rw [if_neg (by omega),if_neg (by omega)];exact hm x h3 h4
  ·rw [if_neg (show ¬ f+k=f+c by omega),if_neg (show ¬ f+k=f+r by omega)]
   by_cases e2:x=r
   ·subst e2
    rw [if_neg (by omega),if_pos (rfl:f+x=f+x)];exact h.2 k c h1 h3 hc hci
   ·rw [if_neg (by omega),if_neg (by omega)];exact h.1 k x h1 e1 h3 h4
 ·intro k x h1 h2 h3 h4
  have e1:k=r:=by omega
  subst e1
  rw [sw_get _ _ _ _ (by omega) (by omega),sw_get _ _ _ _ (by omega) (by omega)]
  rw [if_neg (by omega),if_neg (by omega),if_neg (show ¬ f+k=f+c by omega),if_pos (rfl:f+k=f+k)]
  exact h.1 c x (by omega) (by omega) h3 h4
theorem Heap.top {hi f:Nat} {d:List Int} (h:Heap 0 hi f d):∀ c,c < hi→d.getD (f+c) 0≤d.getD f 0:=by
 intro c
 induction c using Nat.strongRecOn with
 | ind c ih=>
   intro hc
   by_cases h0:c=0
   ·subst h0;simp
   ·have h1:=h ((c - 1) / 2) c (by omega) (by omega) hc
    have h2:=ih ((c - 1) / 2) (by omega) (by omega)
    omega
theorem Heap.pop {j f:Nat} {c:List Int} (h:Heap 0 (j+1) f c) (hl:f+j < c.length):Heap 1 j f (sw c f (f+j)):=by
 intro k x h1 h2 h3
 rw [sw_get _ _ _ _ (by omega) (by omega),sw_get _ _ _ _ (by omega) (by omega)]
 rw [if_neg (by omega),if_neg (by omega),if_neg (by omega),if_neg (by omega)]
 exact h k x (by omega) h2 (by omega)
theorem heap_next {hi f j:Nat} {c c2:List Int} (hH:Heap 0 (j+1) f c) (ho:∀ p q,p < q→j+1≤q→q < hi→c.getD (f+p) 0≤c.getD (f+q) 0) (hj:j < hi) (hl:f+hi≤c.length) (hp:Pm f (f+j) (sw c f (f+j)) c2):
 ∀ p q,p < q→j≤q→q < hi→c2.getD (f+p) 0≤c2.getD (f+q) 0:=by
 intro p q h1 h2 h3
 have g:=fun x=>sw_get c f (f+j) x (by omega) (by omega)
 rw [hp.out (f+q) (by omega),g (f+q)]
 by_cases e:q=j
 ·subst e
  rw [if_pos rfl]
  refine hp.all (fun x=>x≤c.getD f 0) (fun x h4 h5=>?_) (f+p) (by omega) (by omega)
  rw [g,if_neg (by omega)]
  by_cases e2:x=f
  ·rw [if_pos e2];exact hH.top q (by omega)
  ·rw [if_neg e2]
   have:=hH.top (x - f) (by omega)
   rwa [show f+(x - f)=x by omega] at this
 ·rw [if_neg (by omega),if_neg (by omega)]
  by_cases e2:p < j
  ·refine hp.all (fun x=>x≤c.getD (f+q) 0) (fun x h4 h5=>?_) (f+p) (by omega) (by omega)
   rw [g,if_neg (by omega)]
   by_cases e3:x=f
   ·rw [if_pos e3];exact ho j q (by omega) (by omega) h3
   ·rw [if_neg e3]
    have:=ho (x - f) q (by omega) (by omega) h3
    rwa [show f+(x - f)=x by omega] at this
  ·rw [hp.out (f+p) (by omega),g]
   by_cases e3:p=j
   ·rw [if_pos (by omega)]
    have:=ho 0 q (by omega) (by omega) h3
    rwa [Nat.add_zero] at this
   ·rw [if_neg (by omega),if_neg (by omega)];exact ho p q h1 (by omega) h3
theorem srt_glue {a m b:Nat} {d:List Int} (h1:Srt a m d) (h2:Srt (m+1) b d) (h3:∀ p,a≤p→p < m→d.getD p 0≤d.getD m 0) (h4:∀ q,m < q→q < b→d.getD m 0≤d.getD q 0):Srt a b d:=by
 intro p q k1 k2 k3
 rcases Nat.lt_trichotomy p m with e | e | e
 ·rcases Nat.lt_trichotomy q m with e' | e' | e'
  ·exact h1 p q k1 k2 e'
  ·subst e';exact h3 p k1 e
  ·have:=h3 p k1 e;have:=h4 q e' k3;omega
 ·subst e;exact h4 q k2 k3
 ·exact h2 p q (by omega) k2 k3
def Lo (P:Int→Bool) (c:List Int) (a m:Nat):Prop:=∀ p,a < p→p < m→P (c.getD p 0)=true
def Hi (P:Int→Bool) (c:List Int) (m b:Nat):Prop:=∀ p,m < p→p < b→P (c.getD p 0)=false
theorem Lo.more {P:Int→Bool} {c:List Int} {a m:Nat} (h:Lo P c a m) (hm:P (c.getD m 0)=true):Lo P c a (m+1):=by
 intro p h1 h2
 by_cases e:p=m
 ·rw [e];exact hm
 ·exact h p h1 (by omega)
theorem Hi.more {P:Int→Bool} {c:List Int} {m b:Nat} (h:Hi P c m b) (h0:0 < m) (hm:P (c.getD m 0)=false):Hi P c (m - 1) b:=by
 intro p h1 h2
 by_cases e:p=m
 ·rw [e];exact hm
 ·exact h p (by omega) h2
theorem Lo.swp {P:Int→Bool} {c:List Int} {a k m:Nat} (h:Lo P c a k) (hkm:k < m) (hm:m < c.length) (hp:P (c.getD m 0)=true):Lo P (sw c k m) a (k+1):=by
 intro p h1 h2
 rw [sw_get _ _ _ _ (by omega) (by omega),if_neg (by omega)]
 by_cases e:p=k
 ·rw [if_pos e];exact hp
 ·rw [if_neg e];exact h p h1 (by omega)
theorem Hi.swp {P:Int→Bool} {c:List Int} {k m b:Nat} (h:Hi P c m b) (hkm:k < m) (hm:m < c.length) (hp:P (c.getD k 0)=false):Hi P (sw c k m) (m - 1) b:=by
 intro p h1 h2
 rw [sw_get _ _ _ _ (by omega) (by omega)]
 by_cases e:p=m
 ·rw [if_pos e];exact hp
 ·rw [if_neg e,if_neg (by omega)];exact h p (by omega) h2
def Parted (P:Int→Bool) (c:List Int) (a m b:Nat):Prop:=(∀ p,a≤p→p < m→P (c.getD p 0)=true)∧(∀ p,m < p→p < b→P (c.getD p 0)=false)
def PartedEq (c:List Int) (a m b:Nat) (x:Int):Prop:=(∀ p,a≤p→p < m→c.getD p 0≤x)∧(∀ p,m≤p→p < b→x < c.getD p 0)
def PartedAt (c:List Int) (a m b:Nat):Prop:=Parted (fun v=>decide (v < c.getD m 0)) c a m b
theorem parted_last {P:Int→Bool} {c:List Int} {a m b:Nat} (h1:Lo P c a (m+1)) (h2:Hi P c m b) (ham:a≤m) (hmb:m < b) (hb:b≤c.length):Parted P (sw c m a) a m b∧(sw c m a).getD m 0=c.getD a 0:=by
 refine ⟨⟨fun p k1 k2=>?_,fun p k1 k2=>?_⟩,?_⟩
 ·rw [sw_get _ _ _ _ (by omega) (by omega)]
  by_cases e:p=a
  ·rw [if_pos e];exact h1 m (by omega) (by omega)
  ·rw [if_neg e,if_neg (by omega)];exact h1 p (by omega) (by omega)
 ·rw [sw_get _ _ _ _ (by omega) (by omega),if_neg (by omega),if_neg (by omega)];exact h2 p k1 k2
 ·rw [sw_get _ _ _ _ (by omega) (by omega)]
  by_cases e:m=a
  ·rw [if_pos e,e]
  ·rw [if_neg e,if_pos rfl]
theorem srt_pair {l:List Int} (h:Srt 0 l.length l):l.Pairwise (·≤·):=by
 refine List.pairwise_iff_getElem.2 fun p q hp hq hpq=>?_
 have:=h p q (by omega) hpq hq
 rwa [List.getD_eq_getElem?_getD,List.getD_eq_getElem?_getD,List.getElem?_eq_getElem hp,List.getElem?_eq_getElem hq] at this
theorem srt_unique {l m:List Int} (h:l.Pairwise (·≤·)) (k:m.Pairwise (·≤·)) (hp:l.Perm m):l=m:=
 hp.eq_of_pairwise (fun a b _ _ h1 h2=>by omega) h k
end Go.Proofs.YtkcokoefodgigaaGreat.Pl
namespace Go.Proofs.YtkcokoefodgigaaGreat.Rg
open Go Go.RowKit Go.Shelf
set_option linter.unusedSimpArgs false
set_option linter.unusedVariables false
attribute [local go_sem] Oper.semAt_some
end Go.Proofs.YtkcokoefodgigaaGreat.Rg
namespace Go.Proofs.YtkcokoefodgigaaGreat.Aw
open Go Go.RowKit
set_option linter.unusedSimpArgs false
set_option linter.unusedVariables false
theorem wrap_i64 (n:Int) (h1 : -9223372036854775808≤n) (h2:n≤9223372036854775807):IntKind.i64.wrap n=n:=by
 simp only [IntKind.wrap,IntKind.signed,IntKind.bits]
 simp
 split<;>omega
end Go.Proofs.YtkcokoefodgigaaGreat.Aw
namespace Go.Proofs.YtkcokoefodgigaaGreat.Aw
open Go Go.RowKit Go.Proofs.YtkcokoefodgigaaGreat.Pl
set_option linter.unusedSimpArgs false
set_option linter.unusedVariables false
theorem qN (k:Nat) (h:k < 9223372036854775807):IntKind.i64.wrap ((k:Int)+1)=((k+1:Nat):Int):=by
 rw [wrap_i64 _ (by omega) (by omega)];omega
theorem us_drop_head (l:List Int) (k:Nat) (hk:k < l.length):(us l).drop k=u l[k]::us (l.drop (k+1)):=by
 rw [us,← List.map_drop,List.drop_eq_getElem_cons hk];rfl
theorem qG (l:List Int) (k:Nat) (hk:k < l.length):(us l).drop k=u (l.getD k 0)::us (l.drop (k+1)):=by
 rw [us_drop_head l k hk];simp [hk]
theorem getD_lt (l:List Int) (j:Nat) (hj:j < l.length):l.getD j 0=l[j]:=by
 rw [List.getD_eq_getElem?_getD,List.getElem?_eq_getElem hj];rfl
theorem St.ext' {a b:St} (h:a.next=b.next) (k:∀ x,a.H x=b.H x):a=b:=by
 cases a;cases b;simp only at h k;subst h;congr;funext x;exact k x
def small (l:List Int):Prop:=l.length≤1048576
theorem us_one (a:List Int):(us a).all oneL=true:=by simp [us,oneL]
def nx (l:List Int) (d:Int):Int:=if d∈l then l.getD ((l.idxOf d+1) % l.length) 0 else 0
theorem us_len (l:List Int):(us l).length=l.length:=by simp [us]
def ins (l:List Int) (b:Int) (m:List Int):List Int:=(if b∈l then l.take (l.idxOf b+1)++m++l.drop (l.idxOf b+1) else l++m)
theorem us_set (c:List Int) (k:Nat) (x:Int) (hk:k < c.length):(us c).take k++u x::(us c).drop (k+1)=us (c.set k x):=by
 simp only [us]
 rw [← List.map_take,← List.map_drop,List.set_eq_take_append_cons_drop,if_pos hk]
 simp
theorem St.set_set (st:St) (q:Nat) (a b:LObj):(st.set q a).set q b=st.set q b:=St.ext' rfl fun y=>by by_cases hy:y=q<;>simp [hy]
theorem isNaN (x:Int) (st:St):ACalls Tryz.prog 30 [u x] st fun r st'=>r=bb false∧st'=st:=by
 refine qO tabOk Tryz.func30 rfl rfl Tryz.ntmps30 (rs:=[.tmp 2]) rfl (by simp) ?_
 (repeat' (first | refine qS ?_ | (refine qR ?_;simp only [ak,reduceIte];simp []) | (refine w_e [] ?_;intro J hJ;simp only [];simp [];(refine hJ _ _ ?_;clear hJ J;simp only [ak,reduceIte]))))
theorem Less (x y:Int) (st:St):ACalls Tryz.prog 66 [u x,u y] st fun r st'=>r=bb (decide (x < y))∧st'=st:=by
 refine qO tabOk Tryz.func66 rfl rfl Tryz.ntmps66 (rs:=[.tmp 4]) rfl (by simp) ?_
 (repeat' (first | refine qS ?_ | (refine w_e [] ?_;intro J hJ;simp only [];simp [];(try (refine hJ _ _ ?_;clear hJ J;simp only [ak,reduceIte])))))
 refine qF (isNaN x _) ?_;rintro r st' ⟨rfl,rfl⟩
 (repeat' (first | (refine qR ?_;simp only [ak,reduceIte];simp []) | (refine e_go ?_;simp [];(refine hJ _ _ ?_;clear hJ J;simp only [ak,reduceIte]))))
theorem nat_sub_one (k:Nat) (h0:0 < k) (h:k < 9223372036854775807):IntKind.i64.wrap ((k:Int) - 1)=((k - 1:Nat):Int):=by
 rw [wrap_i64 _ (by omega) (by omega)];omega
abbrev bx (st:St) (q:Nat) (c:List Int):St:=st.set q (.box 32 1 (us c))
theorem bx_self {st:St} {q:Nat} {c:List Int} (h:st.H q=.box 32 1 (us c)):st=bx st q c:=
 St.ext' rfl fun x=>by by_cases hx:x=q<;>simp [hx,h]
theorem bx_sw (st:St) (q:Nat) (c:List Int) (k m:Nat) {x y:Int} (hk:k < c.length) (hm:m < c.length) (hx:c.getD k 0=x) (hy:c.getD m 0=y):
 ((bx st q c).set q (.box 32 1 (List.take k (us c)++.atom (.int .u32 y)::List.drop (k+1) (us c)))).set q
   (.box 32 1 (List.take m (List.take k (us c)++.atom (.int .u32 y)::List.drop (k+1) (us c))++.atom (.int .u32 x)::List.drop (m+1) (List.take k (us c)++.atom (.int .u32 y)::List.drop (k+1) (us c))))=bx st q (sw c k m):=by
 have e:List.take k (us c)++.atom (.int .u32 y)::List.drop (k+1) (us c)=us (c.set k y):=us_set c k y hk
 rw [e,us_set (c.set k y) m x (by simpa using hm)]
 unfold bx sw
 rw [hx,hy]
 exact St.ext' rfl fun z=>by by_cases hz:z=q<;>simp [hz]
theorem insertionSort (l:List Int) (q a b:Nat) (st:St) (hl:small l) (ha:a≤b) (hb:b≤l.length) (hH:st.H q=.box 32 1 (us l)):
 ACalls Tryz.prog 60 [.ms q 0 l.length,i a,i b] st fun r st'=>∃ c,st'=bx st q c∧Pm a b l c∧Srt a b c:=by
 unfold small at hl
 refine qO tabOk Tryz.func60 rfl rfl Tryz.ntmps60 (rs:=[]) rfl (by simp) ?_
 have hw0:=qN a (by omega)
 (repeat' (first | refine qS ?_ | refine qB ?_ | (refine w_e [] ?_;intro J hJ;simp only [];simp [hw0];(refine hJ _ _ ?_;clear hJ J;simp only [ak,reduceIte]))))
 refine qL (fun n fr st'=>∃ (k:Nat) (c:List Int),a < k∧n=b - k∧fr 0=.ms q 0 l.length∧fr 1=i a∧fr 2=i b∧fr 6=i k∧st'=bx st q c∧Pm a b l c∧Srt a k c) (b - (a+1)) ?_ ?_
 ·exact ⟨a+1,l,by omega,rfl,by simp,by simp,by simp,by simp,bx_self hH,.refl,fun p q h1 h2 h3=>by omega⟩
 rintro n fr st1 ⟨k,c,hak,rfl,f0,f1,f2,f6,rfl,hpm,hs⟩ JJ hJJ
 have hcl:=hpm.len
 by_cases hlt:k < b
 rotate_left
 ·clear hJJ
  have hlt':¬ (k:Int) < (b:Int):=by omega
  (repeat' (first | refine qS ?_ | (refine qX ?_;simp only [ak,reduceIte]) | (refine qC ?_;simp [f0,f1,f2,f6,hlt]) | (refine w_e [] ?_;intro J hJ;simp only [];simp [f0,f1,f2,f6,hlt];(refine hJ _ _ ?_;clear hJ J;simp only [ak,reduceIte]))))
  exact ⟨trivial,c,rfl,hpm,fun p q h1 h2 h3=>hs p q h1 h2 (by omega)⟩
 have hw1:=qN k (by omega)
 (repeat' (first | refine qS ?_ | refine qB ?_ | (refine qK ?_;simp only [ak,reduceIte]) | (refine qC ?_;simp [f0,f1,f2,f6,hlt]) | (refine w_e [] ?_;intro J hJ;simp only [];simp [f0,f1,f2,f6,hlt];(refine hJ _ _ ?_;clear hJ J;simp only [ak,reduceIte]))))
 refine qL (fun n fr st'=>∃ (j:Nat) (c:List Int),a≤j∧j≤k∧j=n∧fr 0=.ms q 0 l.length∧fr 1=i a∧fr 2=i b∧fr 6=i k∧fr 7=i j∧st'=bx st q c∧Pm a b l c∧Ins a j k c) k ?_ ?_
 ·exact ⟨k,c,by omega,by omega,rfl,by simp [f0],by simp [f1],by simp [f2],by simp [f6],by simp,rfl,hpm,hs.ins⟩
 clear f0 f1 f2 f6 hs hpm hcl c fr
 rintro n fr st1 ⟨j,c,haj,hjk,rfl,f0,f1,f2,f6,f7,rfl,hpm,hI⟩ JJ2 hJ2
 have hcl:=hpm.len
 by_cases hj:a < j
 rotate_left
 ·clear hJ2
  have hj':¬ (a:Int) < (j:Int):=by omega
  (repeat (refine qS ?_));(refine w_s [] [q] [(0,true),(1,true),(2,true),(3,true),(4,true),(5,true),(6,true),(7,true),(8,true),(9,true),(10,true),(11,true),(12,true),(13,false),(14,true)] ?_;intro J hJ;simp [f0,f1,f2,f6,f7,hj];(refine hJ _ _ ?_;clear hJ J;simp only [ak,reduceIte]))
  (repeat' (first | (refine qX ?_;simp only [ak,reduceIte]) | (refine qC ?_;simp [f6,hw1]) | (refine w_e [] ?_;intro J hJ;simp only [];simp [f6,hw1];(refine hJ _ _ ?_;clear hJ J;simp only [ak,reduceIte]))))
  exact hJJ (b - (k+1)) _ _ (by omega) ⟨k+1,c,by omega,rfl,by simp [f0],by simp [f1],by simp [f2],by simp,rfl,hpm,hI.done haj (.inl (by omega))⟩
 have hw2:=nat_sub_one j (by omega) (by omega)
 have hjl:j < l.length:=by omega
 have hjl1:j - 1 < l.length:=by omega
 have hd:=qG c j (by omega)
 have hd2:=qG c (j - 1) (by omega)
 have hI1:=hI.step hj hjk (by omega)
 have hI2:=hI.done haj
 have hpm1:=hpm.step j (j - 1) (by omega) (by omega) (by omega) (by omega) (by omega)
 generalize hx:c.getD j 0=x at *
 generalize hy:c.getD (j - 1) 0=y at *
 (repeat (refine qS ?_));(refine w_s [] [q] [(0,true),(1,true),(2,true),(3,true),(4,true),(5,true),(6,true),(7,true),(8,true),(9,true),(10,true),(11,true),(12,true),(13,false),(14,true)] ?_;intro J hJ;simp [f0,f1,f2,f6,f7,hj,hw2,hjl,hjl1,hcl,hd,hd2])
 refine dcallK_of (Less x y _) ?_;rintro r s2 ⟨rfl,rfl⟩
 refine ⟨fun _=>by simp,?_⟩
 by_cases hcd:x < y
 rotate_left
 ·clear hJ2
  (refine d_go ?_;simp [hcd];(refine hJ _ _ ?_;clear hJ J;simp only [ak,reduceIte]))
  (repeat' (first | (refine qX ?_;simp only [ak,reduceIte]) | (refine qC ?_;simp [f6,hw1]) | (refine w_e [] ?_;intro J hJ;simp only [];simp [f6,hw1];(refine hJ _ _ ?_;clear hJ J;simp only [ak,reduceIte]))))
  exact hJJ (b - (k+1)) _ _ (by omega) ⟨k+1,c,by omega,rfl,by simp [f0],by simp [f1],by simp [f2],by simp,rfl,hpm,hI2 (.inr hcd)⟩
 clear hJJ
 (refine d_go ?_;simp [hcd];(refine hJ _ _ ?_;clear hJ J;simp only [ak,reduceIte]))
 (repeat' (first | refine qS ?_ | refine qB ?_ | (refine qK ?_;simp only [ak,reduceIte]) | (refine qC ?_;simp [])))
 (refine w_s [] [q] [(0,true),(1,true),(2,true),(3,true),(4,true),(5,true),(6,true),(7,true),(8,true),(9,true),(10,true),(11,true),(12,true),(13,true),(14,true),(15,false),(16,true),(17,false)] ?_;intro J hJ;simp [f0,f1,f2,f6,f7,hw2,hjl,hjl1,hcl,hd,hd2];(repeat refine ca ?_);(refine hJ _ _ ?_;clear hJ J;simp only [ak,reduceIte]))
 (repeat' (refine w_e [] ?_;intro J hJ;simp only [];simp [f7,hw2];(refine hJ _ _ ?_;clear hJ J;simp only [ak,reduceIte])))
 exact hJ2 (j - 1) _ _ (by omega) ⟨j - 1,sw c j (j - 1),by omega,by omega,rfl,by simp [f0],by simp [f1],by simp [f2],by simp [f6],by simp,bx_sw st q c j (j - 1) (by omega) (by omega) hx hy,hpm1,hI1 hcd⟩
theorem reverseRange (l:List Int) (q a b:Nat) (st:St) (hl:small l) (ha:a≤b) (hb:b≤l.length) (h0:0 < b) (hH:st.H q=.box 32 1 (us l)):
 ACalls Tryz.prog 64 [.ms q 0 l.length,i a,i b] st fun r st'=>∃ c,st'=bx st q c∧Pm a b l c:=by
 unfold small at hl
 refine qO tabOk Tryz.func64 rfl rfl Tryz.ntmps64 (rs:=[]) rfl (by simp) ?_
 have hw0:=nat_sub_one b (by omega) (by omega)
 (repeat' (first | refine qS ?_ | refine qB ?_ | (refine w_e [] ?_;intro J hJ;simp only [];simp [hw0];(refine hJ _ _ ?_;clear hJ J;simp only [ak,reduceIte]))))
 refine qL (fun n fr st'=>∃ (k m:Nat) (c:List Int),a≤k∧m < b∧m=n∧fr 0=.ms q 0 l.length∧fr 6=i k∧fr 7=i m∧st'=bx st q c∧Pm a b l c) (b - 1) ?_ ?_
 ·exact ⟨a,b - 1,l,by omega,by omega,rfl,by simp,by simp,by simp,bx_self hH,.refl⟩
 rintro n fr st1 ⟨k,m,c,hak,hmb,rfl,f0,f6,f7,rfl,hpm⟩ JJ hJJ
 have hcl:=hpm.len
 by_cases hlt:k < m
 rotate_left
 ·clear hJJ
  (repeat' (first | refine qS ?_ | (refine qX ?_;simp only [ak,reduceIte]) | (refine qC ?_;simp [f0,f6,f7,hlt]) | (refine w_e [] ?_;intro J hJ;simp only [];simp [f0,f6,f7,hlt];(refine hJ _ _ ?_;clear hJ J;simp only [ak,reduceIte]))))
  exact ⟨trivial,c,rfl,hpm⟩
 have hw1:=qN k (by omega)
 have hw2:=nat_sub_one m (by omega) (by omega)
 have hkl:k < l.length:=by omega
 have hml:m < l.length:=by omega
 have hd:=qG c k (by omega)
 have hd2:=qG c m (by omega)
 have hpm1:=hpm.step k m (by omega) (by omega) (by omega) (by omega) (by omega)
 generalize hx:c.getD k 0=x at *
 generalize hy:c.getD m 0=y at *
 (repeat' (first | refine qS ?_ | refine qB ?_ | (refine qK ?_;simp only [ak,reduceIte]) | (refine qC ?_;simp [f0,f6,f7,hlt]) | (refine w_e [] ?_;intro J hJ;simp only [];simp [f0,f6,f7,hlt];(refine hJ _ _ ?_;clear hJ J;simp only [ak,reduceIte]))))
 (refine w_s [] [q] [(0,true),(1,true),(2,true),(3,true),(4,true),(5,true),(6,true),(7,true),(8,true),(9,true),(10,true),(11,true),(12,true),(13,false),(14,true),(15,false)] ?_;intro J hJ;simp [f0,f6,f7,hkl,hml,hcl,hd,hd2];(repeat refine ca ?_);(refine hJ _ _ ?_;clear hJ J;simp only [ak,reduceIte]))
 (repeat' (first | refine qS ?_ | (refine w_e [] ?_;intro J hJ;simp only [];simp [f6,f7,hw1,hw2];(refine hJ _ _ ?_;clear hJ J;simp only [ak,reduceIte]))))
 exact hJJ (m - 1) _ _ (by omega) ⟨k+1,m - 1,sw c k m,by omega,by omega,rfl,by simp [f0],by simp,by simp,bx_sw st q c k m (by omega) (by omega) hx hy,hpm1⟩
theorem awp_cut1 {P:Program} {N:Nat} {Q:AQ} {k:List AItem} {fr:Frm} {st:St} {x y:Code} (I:Frm→St→Prop) (h1:AWp P N x (AK P N (fun e f s=>e=.normal∧I f s) []) fr st) (h2:∀ fr st,I fr st→AWp P N y (AK P N Q k) fr st):
 AWp P N x (AK P N Q (.code y::k)) fr st:=by
 refine awp_mono h1 ?_
 rintro e fr' st' ⟨rfl,hI⟩
 rw [ak_code]
 exact h2 _ _ hI
theorem bx_sw' (st:St) (q:Nat) (c:List Int) (k m:Nat) {x y:Int} (hk:k < c.length) (hm:m < c.length) (hx:c.getD k 0=x) (hy:c.getD m 0=y):
 (st.set q (.box 32 1 (List.take k (us c)++.atom (.int .u32 y)::List.drop (k+1) (us c)))).set q
   (.box 32 1 (List.take m (List.take k (us c)++.atom (.int .u32 y)::List.drop (k+1) (us c))++.atom (.int .u32 x)::List.drop (m+1) (List.take k (us c)++.atom (.int .u32 y)::List.drop (k+1) (us c))))=bx st q (sw c k m):=by
 rw [← bx_sw st q c k m hk hm hx hy]
 exact St.ext' rfl fun z=>by by_cases hz:z=q<;>simp [hz]
theorem awp_cut2 {P:Program} {N:Nat} {Q:AQ} {k:List AItem} {fr:Frm} {st:St} {x y z:Code} (I:Frm→St→Prop) (h1:AWp P N x (AK P N (fun e f s=>e=.normal∧I f s) [.code y]) fr st) (h2:∀ fr st,I fr st→AWp P N z (AK P N Q k) fr st):
 AWp P N x (AK P N Q (.code y::.code z::k)) fr st:=by
 refine awp_mono h1 ?_
 rintro e fr' st' h
 cases e with
 | normal=>
   rw [ak_code] at h ⊢
   refine awp_mono h ?_
   rintro e fr2 st2 ⟨rfl,h⟩
   rw [ak_code]
   exact h2 _ _ h
 | _=>exact absurd h.1 (by simp)
def MaxC (c:List Int) (f r hi ch:Nat):Prop:=∀ x,(x=2 * r+1∨x=2 * r+2)→x < hi→c.getD (f+x) 0≤c.getD (f+ch) 0
theorem siftDown (l:List Int) (q lo hi f:Nat) (st:St) (hl:small l) (hb:f+hi≤l.length) (hlo:lo≤l.length) (hh:Heap (lo+1) hi f l) (hH:st.H q=.box 32 1 (us l)):
 ACalls Tryz.prog 84 [.ms q 0 l.length,i lo,i hi,i f] st fun r st'=>∃ c,st'=bx st q c∧Pm (f+lo) (f+hi) l c∧Heap lo hi f c:=by
 unfold small at hl
 refine qO tabOk Tryz.func84 rfl rfl Tryz.ntmps84 (rs:=[]) rfl (by simp) ?_
 (repeat' (first | refine qS ?_ | refine qB ?_ | (refine w_e [] ?_;intro J hJ;simp only [];simp [];(refine hJ _ _ ?_;clear hJ J;simp only [ak,reduceIte]))))
 refine qL (fun n fr st'=>∃ (r:Nat) (c:List Int),lo≤r∧r≤l.length∧n=hi - r∧fr 0=.ms q 0 l.length∧fr 2=i hi∧fr 3=i f∧fr 8=i r∧st'=bx st q c∧Pm (f+lo) (f+hi) l c∧HeapX lo hi f r c) (hi - lo) ?_ ?_
 ·exact ⟨lo,l,Nat.le_refl _,hlo,rfl,by simp,by simp,by simp,by simp,bx_self hH,.refl,hh.x⟩
 rintro n fr st1 ⟨r,c,hlr,hrl,rfl,f0,f2,f3,f8,rfl,hpm,hX⟩ JJ hJJ
 have hcl:=hpm.len
 obtain ⟨m,hm⟩:∃ m:Nat,m=2 * r+1:=⟨_,rfl⟩
 obtain ⟨m2,hm2⟩:∃ m:Nat,m=2 * r+2:=⟨_,rfl⟩
 have w1:IntKind.i64.wrap (2 * (r:Int))=2 * (r:Int):=wrap_i64 _ (by omega) (by omega)
 have w2:IntKind.i64.wrap (2 * (r:Int)+1)=(m:Int):=by rw [wrap_i64 _ (by omega) (by omega)];omega
 have w3:IntKind.i64.wrap ((m:Int)+1)=(m2:Int):=by rw [wrap_i64 _ (by omega) (by omega)];omega
 by_cases hmh:hi≤m
 ·clear hJJ
  (repeat' (first | refine qS ?_ | refine qB ?_ | (refine qX ?_;simp only [ak,reduceIte]) | (refine qC ?_;simp [f0,f2,f3,f8,w1,w2,hmh]) | (refine w_e [] ?_;intro J hJ;simp only [];simp [f0,f2,f3,f8,w1,w2,hmh];(refine hJ _ _ ?_;clear hJ J;simp only [ak,reduceIte]))))
  exact ⟨trivial,c,rfl,hpm,hX.leaf (by omega)⟩
 obtain ⟨x1,hx1⟩:∃ x:Nat,x=f+m:=⟨_,rfl⟩
 obtain ⟨x2,hx2⟩:∃ x:Nat,x=f+m2:=⟨_,rfl⟩
 obtain ⟨x0,hx0⟩:∃ x:Nat,x=f+r:=⟨_,rfl⟩
 have w4:IntKind.i64.wrap ((f:Int)+(m:Int))=(x1:Int):=by rw [wrap_i64 _ (by omega) (by omega)];omega
 have w5:IntKind.i64.wrap ((x1:Int)+1)=(x2:Int):=by rw [wrap_i64 _ (by omega) (by omega)];omega
 have w6:IntKind.i64.wrap ((f:Int)+(r:Int))=(x0:Int):=by rw [wrap_i64 _ (by omega) (by omega)];omega
 (repeat' (first | refine qS ?_ | refine qB ?_ | (refine w_e [] ?_;intro J hJ;simp only [];simp [f0,f2,f3,f8,w1,w2,hmh];(refine hJ _ _ ?_;clear hJ J;simp only [ak,reduceIte]))))
 (refine qC ?_;simp [])
 (repeat' (first | refine qS ?_ | (refine qK ?_;simp only [ak,reduceIte])))
 refine awp_cut2 (fun fr2 st2=>st2=bx st q c∧fr2 0=.ms q 0 l.length∧fr2 2=i hi∧fr2 3=i f∧fr2 8=i r∧∃ ch:Nat,fr2 9=i ch∧(ch=2 * r+1∨ch=2 * r+2)∧ch < hi∧MaxC c f r hi ch) ?_ ?_
 ·by_cases h2h:m2 < hi
  rotate_left
  ·(refine w_s [] [q] [(0,true),(1,true),(2,true),(3,true),(4,true),(5,true),(6,true),(7,true),(8,true),(9,true),(10,true),(11,true),(12,true),(13,true),(14,true),(15,true),(16,true),(17,true),(18,false),(19,true)] ?_;intro J hJ;simp [f0,f2,f3,f8,w3,h2h];(refine hJ _ _ ?_;clear hJ J;simp only [ak,reduceIte]))
   (repeat' (first | (refine qK ?_;simp only [ak,reduceIte]) | (refine qC ?_;simp [f0])))
   refine ⟨trivial,trivial,by simp [f0],by simp [f2],by simp [f3],by simp [f8],m,by simp,by omega,by omega,fun x h1 h2=>?_⟩
   rw [show x=m by omega];exact Int.le_refl _
  have hd1:=qG c x1 (by omega)
  have hd2:=qG c x2 (by omega)
  have hl1:x1 < l.length:=by omega
  have hl2:x2 < l.length:=by omega
  generalize hy1:c.getD x1 0=y1 at *
  generalize hy2:c.getD x2 0=y2 at *
  (refine w_s [] [q] [(0,true),(1,true),(2,true),(3,true),(4,true),(5,true),(6,true),(7,true),(8,true),(9,true),(10,true),(11,true),(12,true),(13,true),(14,true),(15,true),(16,true),(17,true),(18,false),(19,true)] ?_;intro J hJ;simp [f0,f2,f3,f8,w3,w4,w5,h2h,hl1,hl2,hcl,hd1,hd2])
  refine dcallK_of (Less y1 y2 _) ?_;rintro r1 s2 ⟨rfl,rfl⟩
  refine ⟨fun _=>by simp,?_⟩
  by_cases hyy:y1 < y2
  ·(refine d_go ?_;simp [hyy];(refine hJ _ _ ?_;clear hJ J;simp only [ak,reduceIte]))
   (repeat' (first | (refine qC ?_;simp [w3]) | (refine w_e [] ?_;intro J hJ;simp only [];simp [w3];(refine hJ _ _ ?_;clear hJ J;simp only [ak,reduceIte]))))
   refine ⟨trivial,trivial,by simp [f0],by simp [f2],by simp [f3],by simp [f8],m2,by simp,by omega,by omega,fun x h1 h2=>?_⟩
   rcases (show x=m∨x=m2 by omega) with rfl | rfl
   ·rw [← hx1,← hx2,hy1,hy2];omega
   ·exact Int.le_refl _
  ·(refine d_go ?_;simp [hyy];(refine hJ _ _ ?_;clear hJ J;simp only [ak,reduceIte]))
   (repeat' (first | (refine qK ?_;simp only [ak,reduceIte]) | (refine qC ?_;simp [])))
   refine ⟨trivial,trivial,by simp [f0],by simp [f2],by simp [f3],by simp [f8],m,by simp,by omega,by omega,fun x h1 h2=>?_⟩
   rcases (show x=m∨x=m2 by omega) with rfl | rfl
   ·exact Int.le_refl _
   ·rw [← hx1,← hx2,hy1,hy2];omega
 clear f0 f2 f3 f8 w1 w2 w3 w4 w5 hx1 hx2 x1 x2 fr
 rintro fr st2 ⟨rfl,f0,f2,f3,f8,ch,f9,hch,hchi,hmax⟩
 obtain ⟨x1,hx1⟩:∃ x:Nat,x=f+ch:=⟨_,rfl⟩
 have w4:IntKind.i64.wrap ((f:Int)+(ch:Int))=(x1:Int):=by rw [wrap_i64 _ (by omega) (by omega)];omega
 have hd1:=qG c x1 (by omega)
 have hd0:=qG c x0 (by omega)
 have hl1:x1 < l.length:=by omega
 have hl0:x0 < l.length:=by omega
 unfold MaxC at hmax
 have hstep:=hX.step (c:=ch) hlr hch hchi (by omega) hmax
 have hpm1:=hpm.step x0 x1 (by omega) (by omega) (by omega) (by omega) (by omega)
 have hbig:=hX.big
 rw [← hx0,← hx1] at hstep
 rw [← hx0] at hbig
 rw [← hx1] at hmax
 generalize hy0:c.getD x0 0=y0 at *
 generalize hy1:c.getD x1 0=y1 at *
 (repeat (refine qS ?_));(refine w_s [] [q] [(0,true),(1,true),(2,true),(3,true),(4,true),(5,true),(6,true),(7,true),(8,true),(9,true),(10,true),(11,true),(12,false),(13,true)] ?_;intro J hJ;simp [f0,f2,f3,f8,f9,w4,w6,hl1,hl0,hcl,hd1,hd0])
 refine dcallK_of (Less y0 y1 _) ?_;rintro r1 s2 ⟨rfl,rfl⟩
 refine ⟨fun _=>by simp,?_⟩
 by_cases hyy:y0 < y1
 rotate_left
 ·clear hJJ
  (refine d_go ?_;simp [hyy];(refine hJ _ _ ?_;clear hJ J;simp only [ak,reduceIte]))
  (repeat' (first | (refine qR ?_;simp only [ak,reduceIte];simp []) | (refine qC ?_;simp [])))
  exact ⟨c,rfl,hpm,hbig fun x h1 h2=>by have:=hmax x h1 h2;omega⟩
 (refine d_go ?_;simp [hyy];(refine hJ _ _ ?_;clear hJ J;simp only [ak,reduceIte]))
 (repeat' (first | refine qS ?_ | (refine qK ?_;simp only [ak,reduceIte]) | (refine qC ?_;simp [])))
 (refine w_s [] [q] [(0,true),(1,true),(2,true),(3,true),(4,true),(5,true),(6,true),(7,true),(8,true),(9,true),(10,true),(11,true),(12,true),(13,true),(14,true),(15,true),(16,true),(17,true),(18,true),(19,true),(20,true),(21,false),(22,true),(23,false)] ?_;intro J hJ;simp [f0,f2,f3,f8,f9,w4,w6,hl1,hl0,hcl,hd1,hd0];(repeat refine ca ?_);(refine hJ _ _ ?_;clear hJ J;simp only [ak,reduceIte]))
 (repeat' (refine w_e [] ?_;intro J hJ;simp only [];simp [f9];(refine hJ _ _ ?_;clear hJ J;simp only [ak,reduceIte])))
 exact hJJ (hi - ch) _ _ (by omega) ⟨ch,sw c x0 x1,by omega,by omega,rfl,by simp [f0],by simp [f2],by simp [f3],by simp,bx_sw st q c x0 x1 (by omega) (by omega) hy0 hy1,hpm1,hstep hyy⟩
def Last (c:List Int) (f j hi:Nat):Prop:=∀ p q,p < q→j≤q→q < hi→c.getD (f+p) 0≤c.getD (f+q) 0
theorem heapSort (l:List Int) (q a b:Nat) (st:St) (hl:small l) (ha:a < b) (hb:b≤l.length) (hH:st.H q=.box 32 1 (us l)):
 ACalls Tryz.prog 61 [.ms q 0 l.length,i a,i b] st fun r st'=>∃ c,st'=bx st q c∧Pm a b l c∧Srt a b c:=by
 have hsm:=hl
 unfold small at hl
 obtain ⟨n,hn⟩:∃ n:Nat,n=b - a:=⟨_,rfl⟩
 obtain ⟨n1,hn1⟩:∃ n:Nat,n=b - a - 1:=⟨_,rfl⟩
 obtain ⟨n2,hn2⟩:∃ n:Nat,n=n1 / 2:=⟨_,rfl⟩
 have w1:IntKind.i64.wrap ((b:Int) - (a:Int))=(n:Int):=by rw [wrap_i64 _ (by omega) (by omega)];omega
 have w2:IntKind.i64.wrap ((n:Int) - 1)=(n1:Int):=by rw [wrap_i64 _ (by omega) (by omega)];omega
 have w3:IntKind.i64.wrap ((n1:Int) / 2)=(n2:Int):=by
  rw [show (n1:Int) / 2=((n1 / 2:Nat):Int) from rfl,← hn2]
  exact wrap_i64 _ (by omega) (by omega)
 refine qO tabOk Tryz.func61 rfl rfl Tryz.ntmps61 (rs:=[]) rfl (by simp) ?_
 (repeat' (first | refine qS ?_ | refine qB ?_ | (refine w_e [] ?_;intro J hJ;simp only [];simp [w1,w2,w3];(refine hJ _ _ ?_;clear hJ J;simp only [ak,reduceIte]))))
 refine qL (fun m fr st'=>∃ (c:List Int),m≤n2+1∧fr 0=.ms q 0 l.length∧fr 6=i a∧fr 7=i 0∧fr 8=i n∧fr 9=i ((m:Int) - 1)∧st'=bx st q c∧Pm a b l c∧Heap m n a c) (n2+1) ?_ ?_
 ·exact ⟨l,by omega,by simp,by simp,by simp,by simp,by simp,bx_self hH,.refl,fun k x h1 h2 h3=>by omega⟩
 rintro m fr st1 ⟨c,hm,f0,f6,f7,f8,f9,rfl,hpm,hh⟩ JJ hJJ
 have hcl:=hpm.len
 cases m with
 | succ m=>
   have f9':fr 9=i (m:Int):=by rw [f9];congr 2;omega
   have w4:IntKind.i64.wrap ((m:Int) - 1)=(m:Int) - 1:=wrap_i64 _ (by omega) (by omega)
   have hge:(0:Int)≤(m:Int):=by omega
   (repeat' (first | refine qS ?_ | refine qB ?_ | (refine qK ?_;simp only [ak,reduceIte]) | (refine qC ?_;simp [f0,f6,f7,f8,f9',hge]) | (refine w_e [] ?_;intro J hJ;simp only [];simp [f0,f6,f7,f8,f9',hge];(try (refine hJ _ _ ?_;clear hJ J;simp only [ak,reduceIte])))))
   rw [← hcl]
   refine qF (siftDown c q m n a _ (by unfold small;omega) (by omega) (by omega) hh (by simp)) ?_
   rintro r s2 ⟨c2,rfl,hpm2,hh2⟩
   rw [hcl]
   (repeat' ((first | (refine w_e [] ?_;intro J hJ;simp only []) | (refine e_go ?_));simp [f9',w4];(refine hJ _ _ ?_;clear hJ J;simp only [ak,reduceIte])))
   exact hJJ m _ _ (by omega) ⟨c2,by omega,by simp [f0],by simp [f6],by simp [f7],by simp [f8],by simp,St.set_set _ _ _ _,hpm.trans (hpm2.wide (by omega) (by omega) (by omega)),hh2⟩
 | zero=>
   clear hJJ
   have f9':fr 9=i (-1):=by rw [f9];rfl
   (repeat' (first | refine qS ?_ | refine qB ?_ | (refine qX ?_;simp only [ak,reduceIte]) | (refine qC ?_;simp [f0,f6,f7,f8,f9',w2]) | (refine w_e [] ?_;intro J hJ;simp only [];simp [f0,f6,f7,f8,f9',w2];(refine hJ _ _ ?_;clear hJ J;simp only [ak,reduceIte]))))
   refine qL (fun m fr st'=>∃ (c:List Int),m≤n∧fr 0=.ms q 0 l.length∧fr 6=i a∧fr 7=i 0∧fr 10=i ((m:Int) - 1)∧st'=bx st q c∧Pm a b l c∧Heap 0 m a c∧Last c a m n) n ?_ ?_
   ·exact ⟨c,Nat.le_refl _,by simp [f0],by simp [f6],by simp [f7],by simp;omega,rfl,hpm,hh,fun p q h1 h2 h3=>by omega⟩
   clear f0 f6 f7 f8 f9 f9' hpm hh hcl c fr
   rintro m fr st1 ⟨c,hm,f0,f6,f7,f10,rfl,hpm,hh,hla⟩ JJ hJJ
   have hcl:=hpm.len
   cases m with
   | zero=>
     have f10':fr 10=i (-1):=by rw [f10];rfl
     (repeat' (first | refine qS ?_ | (refine qX ?_;simp only [ak,reduceIte]) | (refine qC ?_;simp [f10']) | (refine w_e [] ?_;intro J hJ;simp only [];simp [f10'];(refine hJ _ _ ?_;clear hJ J;simp only [ak,reduceIte]))))
     refine ⟨trivial,c,rfl,hpm,fun p q h1 h2 h3=>?_⟩
     have:=hla (p - a) (q - a) (by omega) (by omega) (by omega)
     rwa [show a+(p - a)=p by omega,show a+(q - a)=q by omega] at this
   | succ m=>
     have f10':fr 10=i (m:Int):=by rw [f10];congr 2;omega
     have w4:IntKind.i64.wrap ((m:Int) - 1)=(m:Int) - 1:=wrap_i64 _ (by omega) (by omega)
     have hge:(0:Int)≤(m:Int):=by omega
     obtain ⟨x1,hx1⟩:∃ x:Nat,x=a+m:=⟨_,rfl⟩
     have w5:IntKind.i64.wrap ((a:Int)+(m:Int))=(x1:Int):=by rw [wrap_i64 _ (by omega) (by omega)];omega
     have hd0:=qG c a (by omega)
     have hd1:=qG c x1 (by omega)
     have hl0:a < l.length:=by omega
     have hl1:x1 < l.length:=by omega
     have hpop:=hh.pop (by omega)
     have hnext:=fun c2=>heap_next (c2:=c2) hh hla (by omega) (by omega)
     have hpm1:=hpm.step a x1 (by omega) (by omega) (by omega) (by omega) (by omega)
     rw [← hx1] at hpop hnext
     have hsl:=sw_length c a x1
     have hsw:=fun x y=>bx_sw st q c a x1 (x:=x) (y:=y) (by omega) (by omega)
     generalize hy0:c.getD a 0=y0 at *
     generalize hy1:c.getD x1 0=y1 at *
     have hsw':=hsw y0 y1 rfl rfl
     (repeat' (first | refine qS ?_ | refine qB ?_ | (refine qK ?_;simp only [ak,reduceIte]) | (refine qC ?_;simp [f0,f6,f7,f10',hge]) | (refine w_e [] ?_;intro J hJ;simp only [];simp [f0,f6,f7,f10',hge];(refine hJ _ _ ?_;clear hJ J;simp only [ak,reduceIte]))))
     (refine w_s [] [q] [(0,true),(1,true),(2,true),(3,true),(4,true),(5,true),(6,true),(7,true),(8,true),(9,true),(10,true),(11,true),(12,true),(13,true),(14,true),(15,true),(16,true),(17,false),(18,true),(19,false)] ?_;intro J hJ;simp [f0,f6,f7,f10',w5,hl0,hl1,hcl,hd0,hd1];(repeat refine ca ?_);(refine hJ _ _ ?_;clear hJ J;simp only [ak,reduceIte]))
     rw [hsw']
     generalize hc1:sw c a x1=c1 at *
     (repeat' (refine w_e [] ?_;intro J hJ;simp only [];simp [f0,f6,f7,f10']))
     rw [← hcl,← hsl]
     refine qF (siftDown c1 q 0 m a _ (by unfold small;omega) (by omega) (by omega) hpop (by simp)) ?_
     rintro r s2 ⟨c2,rfl,hpm2,hh2⟩
     rw [hsl,hcl]
     (repeat' ((first | (refine w_e [] ?_;intro J hJ;simp only []) | (refine e_go ?_));simp [f10',w4];(refine hJ _ _ ?_;clear hJ J;simp only [ak,reduceIte])))
     exact hJJ m _ _ (by omega) ⟨c2,by omega,by simp [f0],by simp [f6],by simp [f7],by simp,St.set_set _ _ _ _,hpm1.trans (hpm2.wide (by omega) (by omega) (by omega)),hh2,hnext c2 (by rw [hx1];exact hpm2)⟩
def StU (P:Int→Bool) (c:List Int) (ii jj:Nat):Prop:=ii≤jj→P (c.getD ii 0)=false
def StD (P:Int→Bool) (c:List Int) (ii kk:Nat):Prop:=ii≤kk→P (c.getD kk 0)=true
theorem partition (l:List Int) (q a b pv:Nat) (st:St) (hl:small l) (hab:a < b) (hb:b≤l.length) (hp1:a≤pv) (hp2:pv < b) (hH:st.H q=.box 32 1 (us l)):
 ACalls Tryz.prog 68 [.ms q 0 l.length,i a,i b,i pv] st fun r st'=>∃ (c:List Int) (mid:Nat) (p:Bool),r=.tu [i mid,bb p]∧st'=bx st q c∧Pm a b l c∧a≤mid∧mid < b∧PartedAt c a mid b:=by
 unfold small at hl
 refine qO tabOk Tryz.func68 rfl rfl Tryz.ntmps68 (rs:=[.tmp 8,.tmp 9]) rfl (by simp) ?_
 (repeat (refine qS ?_));(refine w_e [] ?_;intro J hJ;simp only [];simp [];(refine hJ _ _ ?_;clear hJ J;simp only [ak,reduceIte]))
 have hla:a < l.length:=by omega
 have hlp:pv < l.length:=by omega
 have hsw:=fun x y=>bx_sw' st q l a pv (x:=x) (y:=y) (by omega) (by omega)
 have hd0:=qG l a (by omega)
 have hd1:=qG l pv (by omega)
 have hpm:Pm a b l (sw l a pv):=Pm.one a pv (by omega) (by omega) (by omega) (by omega) (by omega)
 have hx:(sw l a pv).getD a 0=l.getD pv 0:=by
  rw [sw_get _ _ _ _ (by omega) (by omega)]
  by_cases e:a=pv
  ·rw [if_pos e,e]
  ·rw [if_neg e,if_pos rfl]
 generalize hy0:l.getD a 0=y0 at *
 generalize hy1:l.getD pv 0=x at *
 have hsw':=hsw y0 x rfl rfl
 (repeat (refine qS ?_));(refine w_s [] [q] [(0,true),(1,true),(2,true),(3,true),(4,true),(5,true),(6,true),(7,true),(8,true),(9,true),(10,true),(11,true),(12,true),(13,false),(14,true),(15,false)] ?_;intro J hJ;simp [hH,hla,hlp,hd0,hd1];(repeat refine ca ?_);(refine hJ _ _ ?_;clear hJ J;simp only [ak,reduceIte]))
 rw [hsw']
 clear hsw hsw' hd0 hd1 hy0
 generalize hc:sw l a pv=c at *
 clear hc
 have hcl:=hpm.len
 have w1:=qN a (by omega)
 have w2:=nat_sub_one b (by omega) (by omega)
 obtain ⟨P,hPd⟩:∃ P:Int→Bool,∀ v,P v=decide (v < x):=⟨_,fun _=>rfl⟩
 refine qS ?_
 refine awp_cut1 (fun fr st2=>fr 0=.ms q 0 l.length∧fr 1=i a∧fr 10=i ((a+1:Nat):Int)∧fr 11=i ((b - 1:Nat):Int)∧st2=bx st q c) (by (refine w_e [] ?_;intro J hJ;simp only [];simp [w1,w2];(refine hJ _ _ ?_;clear hJ J;simp only [ak,reduceIte]));simp) ?_
 rintro fr st2 ⟨f0,f1,fI,fJ,rfl⟩
 have hai:a < a+1:=by omega
 have hij:a+1≤b - 1+1:=by omega
 have hjb:b - 1 < b:=by omega
 have hLo:Lo P c a (a+1):=fun p h1 h2=>by omega
 have hHi:Hi P c (b - 1) b:=fun p h1 h2=>by omega
 generalize a+1=ii at *
 generalize b - 1=jj at *
 clear w1 w2
 have hd0:=qG c a (by omega)
 rw [hx] at hd0
 refine qS ?_
 refine awp_cut1 (fun fr st2=>∃ ii:Nat,a < ii∧ii≤jj+1∧fr 0=.ms q 0 l.length∧fr 1=i a∧fr 10=i ii∧fr 11=i jj∧st2=bx st q c∧Lo P c a ii∧StU P c ii jj) ?_ ?_
 ·refine qB ?_
  refine qL (fun m fr st2=>∃ ii:Nat,a < ii∧ii≤jj+1∧m=jj+1 - ii∧fr 0=.ms q 0 l.length∧fr 1=i a∧fr 10=i ii∧fr 11=i jj∧st2=bx st q c∧Lo P c a ii) (jj+1 - ii) ?_ ?_
  ·exact ⟨ii,by omega,by omega,rfl,by simp [f0],by simp [f1],by simp [fI],by simp [fJ],rfl,hLo⟩
  clear f0 f1 fI fJ hLo hai hij fr ii
  rintro m fr st2 ⟨ii,hai,hij,rfl,f0,f1,fI,fJ,rfl,hLo⟩ JJ hJJ
  have hia:=qN ii (by omega)
  by_cases hle:ii≤jj
  rotate_left
  ·clear hJJ
   (repeat (refine qS ?_));(refine w_s [] [q] [(0,true),(1,true),(2,true),(3,true),(4,true),(5,true),(6,true),(7,true),(8,true),(9,true),(10,true),(11,true),(12,false),(13,true)] ?_;intro J hJ;simp [f0,f1,fI,fJ,hle];(refine hJ _ _ ?_;clear hJ J;simp only [ak,reduceIte]))
   (repeat' (first | (refine qX ?_;simp only [ak,reduceIte]) | (refine qC ?_;simp [])))
   exact ⟨trivial,ii,by omega,by omega,by simp [f0],by simp [f1],by simp [fI],by simp [fJ],by trivial,hLo,fun h=>absurd h hle⟩
  have hli:ii < l.length:=by omega
  have hd1:=qG c ii (by omega)
  have hmo:=hLo.more
  generalize hy:c.getD ii 0=y at *
  (repeat (refine qS ?_));(refine w_s [] [q] [(0,true),(1,true),(2,true),(3,true),(4,true),(5,true),(6,true),(7,true),(8,true),(9,true),(10,true),(11,true),(12,false),(13,true)] ?_;intro J hJ;simp [f0,f1,fI,fJ,hle,hli,hla,hcl,hd0,hd1])
  refine dcallK_of (Less y x _) ?_;rintro r s2 ⟨rfl,rfl⟩
  refine ⟨fun _=>by simp,?_⟩
  have hP:=hPd y
  by_cases hyx:y < x
  ·(refine d_go ?_;simp [hyx];(refine hJ _ _ ?_;clear hJ J;simp only [ak,reduceIte]))
   (repeat' (first | refine qB ?_ | (refine qK ?_;simp only [ak,reduceIte]) | (refine qC ?_;simp [fI,hia]) | (refine w_e [] ?_;intro J hJ;simp only [];simp [fI,hia];(refine hJ _ _ ?_;clear hJ J;simp only [ak,reduceIte]))))
   exact hJJ (jj+1 - (ii+1)) _ _ (by omega) ⟨ii+1,by omega,by omega,rfl,by simp [f0],by simp [f1],by simp,by simp [fJ],rfl,hmo (by rw [hP];simp [hyx])⟩
  ·clear hJJ
   (refine d_go ?_;simp [hyx];(refine hJ _ _ ?_;clear hJ J;simp only [ak,reduceIte]))
   (repeat' (first | (refine qX ?_;simp only [ak,reduceIte]) | (refine qC ?_;simp [])))
   exact ⟨trivial,ii,by omega,by omega,by simp [f0],by simp [f1],by simp [fI],by simp [fJ],by trivial,hLo,fun _=>by rw [hy,hP];simp [hyx]⟩
 clear f0 f1 fI fJ hLo hai hij fr ii
 rintro fr st2 ⟨ii,hai,hij,f0,f1,fI,fJ,rfl,hLo,hst⟩
 refine qS ?_
 refine awp_cut1 (fun fr st2=>∃ kk:Nat,a≤kk∧kk≤jj∧ii≤kk+1∧fr 0=.ms q 0 l.length∧fr 1=i a∧fr 10=i ii∧fr 11=i kk∧st2=bx st q c∧Hi P c kk b∧StD P c ii kk) ?_ ?_
 ·refine qB ?_
  refine qL (fun m fr st2=>∃ kk:Nat,a≤kk∧kk≤jj∧ii≤kk+1∧kk=m∧fr 0=.ms q 0 l.length∧fr 1=i a∧fr 10=i ii∧fr 11=i kk∧st2=bx st q c∧Hi P c kk b) jj ?_ ?_
  ·exact ⟨jj,by omega,by omega,by omega,rfl,by simp [f0],by simp [f1],by simp [fI],by simp [fJ],rfl,hHi⟩
  clear f0 f1 fI fJ hHi fr
  rintro m fr st2 ⟨kk,hak,hkj,hik,rfl,f0,f1,fI,fJ,rfl,hHi⟩ JJ hJJ
  by_cases hle:ii≤kk
  rotate_left
  ·clear hJJ
   (repeat (refine qS ?_));(refine w_s [] [q] [(0,true),(1,true),(2,true),(3,true),(4,true),(5,true),(6,true),(7,true),(8,true),(9,true),(10,true),(11,true),(12,false),(13,true),(14,true)] ?_;intro J hJ;simp [f0,f1,fI,fJ,hle];(refine hJ _ _ ?_;clear hJ J;simp only [ak,reduceIte]))
   (repeat' (first | (refine qX ?_;simp only [ak,reduceIte]) | (refine qC ?_;simp [])))
   exact ⟨trivial,kk,by omega,by omega,by omega,by simp [f0],by simp [f1],by simp [fI],by simp [fJ],by trivial,hHi,fun h=>absurd h hle⟩
  have hja:=nat_sub_one kk (by omega) (by omega)
  have hlj:kk < l.length:=by omega
  have hd1:=qG c kk (by omega)
  have hmo:=hHi.more
  generalize hy:c.getD kk 0=y at *
  (repeat (refine qS ?_));(refine w_s [] [q] [(0,true),(1,true),(2,true),(3,true),(4,true),(5,true),(6,true),(7,true),(8,true),(9,true),(10,true),(11,true),(12,false),(13,true),(14,true)] ?_;intro J hJ;simp [f0,f1,fI,fJ,hle,hlj,hla,hcl,hd0,hd1])
  refine dcallK_of (Less y x _) ?_;rintro r s2 ⟨rfl,rfl⟩
  refine ⟨fun _=>by simp,?_⟩
  have hP:=hPd y
  by_cases hyx:y < x
  ·clear hJJ
   (refine d_go ?_;simp [hyx];(refine hJ _ _ ?_;clear hJ J;simp only [ak,reduceIte]))
   (repeat' (first | (refine qX ?_;simp only [ak,reduceIte]) | (refine qC ?_;simp [])))
   exact ⟨trivial,kk,by omega,by omega,by omega,by simp [f0],by simp [f1],by simp [fI],by simp [fJ],by trivial,hHi,fun _=>by rw [hy,hP];simp [hyx]⟩
  ·(refine d_go ?_;simp [hyx];(refine hJ _ _ ?_;clear hJ J;simp only [ak,reduceIte]))
   (repeat' (first | refine qB ?_ | (refine qK ?_;simp only [ak,reduceIte]) | (refine qC ?_;simp [fJ,hja]) | (refine w_e [] ?_;intro J hJ;simp only [];simp [fJ,hja];(refine hJ _ _ ?_;clear hJ J;simp only [ak,reduceIte]))))
   exact hJJ (kk - 1) _ _ (by omega) ⟨kk - 1,by omega,by omega,by omega,rfl,by simp [f0],by simp [f1],by simp [fI],by simp,rfl,hmo (by omega) (by rw [hP];simp [hyx])⟩
 clear f0 f1 fI fJ hHi fr
 rintro fr st2 ⟨kk,hak,hkj,hik,f0,f1,fI,fJ,rfl,hHi,hst2⟩
 by_cases hle:ii≤kk
 rotate_left
 ·have hke:ii=kk+1:=by omega
  have hpl:=parted_last (hke ▸ hLo) hHi (by omega) (by omega) (by omega)
  have hpm2:=hpm.step kk a (by omega) (by omega) (by omega) (by omega) (by omega)
  have hlk:kk < l.length:=by omega
  have hd1:=qG c kk (by omega)
  have hsw:=fun x y=>bx_sw st q c kk a (x:=x) (y:=y) (by omega) (by omega)
  generalize hy1:c.getD kk 0=y1 at *
  have hsw':=hsw y1 x rfl hx
  (repeat' (first | refine qS ?_ | (refine qC ?_;simp [f0,f1,fI,fJ,hle];(try with_reducible intro hc)) | (refine w_e [] ?_;intro J hJ;simp only [];simp [f0,f1,fI,fJ,hle];(refine hJ _ _ ?_;clear hJ J;simp only [ak,reduceIte]))))
  (refine w_s [] [q] [(0,true),(1,true),(2,true),(3,true),(4,true),(5,true),(6,true),(7,true),(8,true),(9,true),(10,true),(11,true),(12,true),(13,false),(14,true),(15,false)] ?_;intro J hJ;simp [f0,f1,fI,fJ,hla,hlk,hcl,hd0,hd1];(repeat refine ca ?_);(refine hJ _ _ ?_;clear hJ J;simp only [ak,reduceIte]))
  (repeat' (first | refine qS ?_ | (refine qR ?_;simp only [ak,reduceIte];simp [f0,f1,fI,fJ]) | (refine w_e [] ?_;intro J hJ;simp only [];simp [f0,f1,fI,fJ];(refine hJ _ _ ?_;clear hJ J;simp only [ak,reduceIte]))))
  exact ⟨_,kk,rfl,hsw',hpm2,by omega,by omega,by unfold PartedAt;rw [hpl.2,hx];have h:=hpl.1;rwa [show P=_ from funext hPd] at h⟩
 have hik2:ii < kk:=by
  rcases Nat.lt_or_ge ii kk with h | h
  ·exact h
  ·exfalso
   have e:ii=kk:=by omega
   have h1:=hst (by omega)
   have h2:=hst2 hle
   rw [e,h2] at h1;cases h1
 have hLo2:=hLo.swp hik2 (by omega) (hst2 hle)
 have hHi2:=hHi.swp hik2 (by omega) (hst (by omega))
 have hpm2:=hpm.step ii kk (by omega) (by omega) (by omega) (by omega) (by omega)
 have hxx:(sw c ii kk).getD a 0=x:=by rw [sw_get _ _ _ _ (by omega) (by omega),if_neg (by omega),if_neg (by omega)];exact hx
 have hli:ii < l.length:=by omega
 have hlk:kk < l.length:=by omega
 have hd1:=qG c ii (by omega)
 have hd2:=qG c kk (by omega)
 have hsw:=fun x y=>bx_sw st q c ii kk (x:=x) (y:=y) (by omega) (by omega)
 have hia:=qN ii (by omega)
 have hka:=nat_sub_one kk (by omega) (by omega)
 clear hst hst2
 generalize hy1:c.getD ii 0=y1 at *
 generalize hy2:c.getD kk 0=y2 at *
 have hsw':=hsw y1 y2 rfl rfl
 (repeat' (first | refine qS ?_ | (refine qK ?_;simp only [ak,reduceIte]) | (refine qC ?_;simp [f0,f1,fI,fJ,hle];(try with_reducible refine ⟨?_,?_⟩)<;>(try with_reducible intro hc)<;>try (exfalso;omega)) | (refine w_e [] ?_;intro J hJ;simp only [];simp [f0,f1,fI,fJ,hle];(refine hJ _ _ ?_;clear hJ J;simp only [ak,reduceIte]))))
 (refine w_s [] [q] [(0,true),(1,true),(2,true),(3,true),(4,true),(5,true),(6,true),(7,true),(8,true),(9,true),(10,true),(11,true),(12,true),(13,false),(14,true),(15,false)] ?_;intro J hJ;simp [f0,f1,fI,fJ,hli,hlk,hcl,hd1,hd2];(repeat refine ca ?_);(refine hJ _ _ ?_;clear hJ J;simp only [ak,reduceIte]))
 (repeat' (first | refine qS ?_ | refine qB ?_ | (refine w_e [] ?_;intro J hJ;simp only [];simp [fI,fJ,hia,hka];(refine hJ _ _ ?_;clear hJ J;simp only [ak,reduceIte]))))
 rw [hsw']
 refine qL (fun m fr st2=>∃ (ii jj:Nat) (c:List Int),a < ii∧ii≤jj+1∧jj < b∧jj=m∧fr 0=.ms q 0 l.length∧fr 1=i a∧fr 10=i ii∧fr 11=i jj∧st2=bx st q c∧Pm a b l c∧c.getD a 0=x∧Lo P c a ii∧Hi P c jj b) (kk - 1) ?_ ?_
 ·exact ⟨ii+1,kk - 1,sw c ii kk,by omega,by omega,by omega,rfl,by simp [f0],by simp [f1],by simp,by simp,rfl,hpm2,hxx,hLo2,hHi2⟩
 clear f0 f1 fI fJ hLo hHi hLo2 hHi2 hpm hpm2 hx hxx hcl hd0 hd1 hd2 hsw hsw' hy1 hy2 y1 y2 hai hij hak hik hik2 hli hlk hia hka hle hkj hjb ii jj kk c fr
 rintro m fr st2 ⟨ii,jj,c,hai,hij,hjb,rfl,f0,f1,fI,fJ,rfl,hpm,hx,hLo,hHi⟩ JJ0 hJ0
 have hcl:=hpm.len
 have hd0:=qG c a (by omega)
 rw [hx] at hd0
 refine qB ?_
 refine qS ?_
 refine awp_cut1 (fun fr st2=>∃ ii:Nat,a < ii∧ii≤jj+1∧fr 0=.ms q 0 l.length∧fr 1=i a∧fr 10=i ii∧fr 11=i jj∧st2=bx st q c∧Lo P c a ii∧StU P c ii jj) ?_ ?_
 ·refine qB ?_
  refine qL (fun m fr st2=>∃ ii:Nat,a < ii∧ii≤jj+1∧m=jj+1 - ii∧fr 0=.ms q 0 l.length∧fr 1=i a∧fr 10=i ii∧fr 11=i jj∧st2=bx st q c∧Lo P c a ii) (jj+1 - ii) ?_ ?_
  ·exact ⟨ii,by omega,by omega,rfl,by simp [f0],by simp [f1],by simp [fI],by simp [fJ],rfl,hLo⟩
  clear f0 f1 fI fJ hLo hai hij fr ii
  rintro m fr st2 ⟨ii,hai,hij,rfl,f0,f1,fI,fJ,rfl,hLo⟩ JJ hJJ
  have hia:=qN ii (by omega)
  by_cases hle:ii≤jj
  rotate_left
  ·clear hJJ
   (repeat (refine qS ?_));(refine w_s [] [q] [(0,true),(1,true),(2,true),(3,true),(4,true),(5,true),(6,true),(7,true),(8,true),(9,true),(10,true),(11,true),(12,false),(13,true)] ?_;intro J hJ;simp [f0,f1,fI,fJ,hle];(refine hJ _ _ ?_;clear hJ J;simp only [ak,reduceIte]))
   (repeat' (first | (refine qX ?_;simp only [ak,reduceIte]) | (refine qC ?_;simp [])))
   exact ⟨trivial,ii,by omega,by omega,by simp [f0],by simp [f1],by simp [fI],by simp [fJ],by trivial,hLo,fun h=>absurd h hle⟩
  have hli:ii < l.length:=by omega
  have hd1:=qG c ii (by omega)
  have hmo:=hLo.more
  generalize hy:c.getD ii 0=y at *
  (repeat (refine qS ?_));(refine w_s [] [q] [(0,true),(1,true),(2,true),(3,true),(4,true),(5,true),(6,true),(7,true),(8,true),(9,true),(10,true),(11,true),(12,false),(13,true)] ?_;intro J hJ;simp [f0,f1,fI,fJ,hle,hli,hla,hcl,hd0,hd1])
  refine dcallK_of (Less y x _) ?_;rintro r s2 ⟨rfl,rfl⟩
  refine ⟨fun _=>by simp,?_⟩
  have hP:=hPd y
  by_cases hyx:y < x
  ·(refine d_go ?_;simp [hyx];(refine hJ _ _ ?_;clear hJ J;simp only [ak,reduceIte]))
   (repeat' (first | refine qB ?_ | (refine qK ?_;simp only [ak,reduceIte]) | (refine qC ?_;simp [fI,hia]) | (refine w_e [] ?_;intro J hJ;simp only [];simp [fI,hia];(refine hJ _ _ ?_;clear hJ J;simp only [ak,reduceIte]))))
   exact hJJ (jj+1 - (ii+1)) _ _ (by omega) ⟨ii+1,by omega,by omega,rfl,by simp [f0],by simp [f1],by simp,by simp [fJ],rfl,hmo (by rw [hP];simp [hyx])⟩
  ·clear hJJ
   (refine d_go ?_;simp [hyx];(refine hJ _ _ ?_;clear hJ J;simp only [ak,reduceIte]))
   (repeat' (first | (refine qX ?_;simp only [ak,reduceIte]) | (refine qC ?_;simp [])))
   exact ⟨trivial,ii,by omega,by omega,by simp [f0],by simp [f1],by simp [fI],by simp [fJ],by trivial,hLo,fun _=>by rw [hy,hP];simp [hyx]⟩
 clear f0 f1 fI fJ hLo hai hij fr ii
 rintro fr st2 ⟨ii,hai,hij,f0,f1,fI,fJ,rfl,hLo,hst⟩
 refine qS ?_
 refine awp_cut1 (fun fr st2=>∃ kk:Nat,a≤kk∧kk≤jj∧ii≤kk+1∧fr 0=.ms q 0 l.length∧fr 1=i a∧fr 10=i ii∧fr 11=i kk∧st2=bx st q c∧Hi P c kk b∧StD P c ii kk) ?_ ?_
 ·refine qB ?_
  refine qL (fun m fr st2=>∃ kk:Nat,a≤kk∧kk≤jj∧ii≤kk+1∧kk=m∧fr 0=.ms q 0 l.length∧fr 1=i a∧fr 10=i ii∧fr 11=i kk∧st2=bx st q c∧Hi P c kk b) jj ?_ ?_
  ·exact ⟨jj,by omega,by omega,by omega,rfl,by simp [f0],by simp [f1],by simp [fI],by simp [fJ],rfl,hHi⟩
  clear f0 f1 fI fJ hHi fr
  rintro m fr st2 ⟨kk,hak,hkj,hik,rfl,f0,f1,fI,fJ,rfl,hHi⟩ JJ hJJ
  by_cases hle:ii≤kk
  rotate_left
  ·clear hJJ
   (repeat (refine qS ?_));(refine w_s [] [q] [(0,true),(1,true),(2,true),(3,true),(4,true),(5,true),(6,true),(7,true),(8,true),(9,true),(10,true),(11,true),(12,false),(13,true),(14,true)] ?_;intro J hJ;simp [f0,f1,fI,fJ,hle];(refine hJ _ _ ?_;clear hJ J;simp only [ak,reduceIte]))
   (repeat' (first | (refine qX ?_;simp only [ak,reduceIte]) | (refine qC ?_;simp [])))
   exact ⟨trivial,kk,by omega,by omega,by omega,by simp [f0],by simp [f1],by simp [fI],by simp [fJ],by trivial,hHi,fun h=>absurd h hle⟩
  have hja:=nat_sub_one kk (by omega) (by omega)
  have hlj:kk < l.length:=by omega
  have hd1:=qG c kk (by omega)
  have hmo:=hHi.more
  generalize hy:c.getD kk 0=y at *
  (repeat (refine qS ?_));(refine w_s [] [q] [(0,true),(1,true),(2,true),(3,true),(4,true),(5,true),(6,true),(7,true),(8,true),(9,true),(10,true),(11,true),(12,false),(13,true),(14,true)] ?_;intro J hJ;simp [f0,f1,fI,fJ,hle,hlj,hla,hcl,hd0,hd1])
  refine dcallK_of (Less y x _) ?_;rintro r s2 ⟨rfl,rfl⟩
  refine ⟨fun _=>by simp,?_⟩
  have hP:=hPd y
  by_cases hyx:y < x
  ·clear hJJ
   (refine d_go ?_;simp [hyx];(refine hJ _ _ ?_;clear hJ J;simp only [ak,reduceIte]))
   (repeat' (first | (refine qX ?_;simp only [ak,reduceIte]) | (refine qC ?_;simp [])))
   exact ⟨trivial,kk,by omega,by omega,by omega,by simp [f0],by simp [f1],by simp [fI],by simp [fJ],by trivial,hHi,fun _=>by rw [hy,hP];simp [hyx]⟩
  ·(refine d_go ?_;simp [hyx];(refine hJ _ _ ?_;clear hJ J;simp only [ak,reduceIte]))
   (repeat' (first | refine qB ?_ | (refine qK ?_;simp only [ak,reduceIte]) | (refine qC ?_;simp [fJ,hja]) | (refine w_e [] ?_;intro J hJ;simp only [];simp [fJ,hja];(refine hJ _ _ ?_;clear hJ J;simp only [ak,reduceIte]))))
   exact hJJ (kk - 1) _ _ (by omega) ⟨kk - 1,by omega,by omega,by omega,rfl,by simp [f0],by simp [f1],by simp [fI],by simp,rfl,hmo (by omega) (by rw [hP];simp [hyx])⟩
 clear f0 f1 fI fJ hHi fr
 rintro fr st2 ⟨kk,hak,hkj,hik,f0,f1,fI,fJ,rfl,hHi,hst2⟩
 by_cases hle:ii≤kk
 rotate_left
 ·clear hJ0
  have hke:ii=kk+1:=by omega
  have hpl:=parted_last (hke ▸ hLo) hHi (by omega) (by omega) (by omega)
  have hpm2:=hpm.step kk a (by omega) (by omega) (by omega) (by omega) (by omega)
  have hlk:kk < l.length:=by omega
  have hd1:=qG c kk (by omega)
  have hsw:=fun x y=>bx_sw st q c kk a (x:=x) (y:=y) (by omega) (by omega)
  generalize hy1:c.getD kk 0=y1 at *
  have hsw':=hsw y1 x rfl hx
  (repeat' (first | refine qS ?_ | (refine qX ?_;simp only [ak,reduceIte]) | (refine qC ?_;simp [f0,f1,fI,fJ,hle];(try with_reducible intro hc)) | (refine w_e [] ?_;intro J hJ;simp only [];simp [f0,f1,fI,fJ,hle];(refine hJ _ _ ?_;clear hJ J;simp only [ak,reduceIte]))))
  (refine w_s [] [q] [(0,true),(1,true),(2,true),(3,true),(4,true),(5,true),(6,true),(7,true),(8,true),(9,true),(10,true),(11,true),(12,true),(13,false),(14,true),(15,false)] ?_;intro J hJ;simp [f0,f1,fI,fJ,hla,hlk,hcl,hd0,hd1];(repeat refine ca ?_);(refine hJ _ _ ?_;clear hJ J;simp only [ak,reduceIte]))
  (repeat' (first | refine qS ?_ | (refine qR ?_;simp only [ak,reduceIte];simp [f0,f1,fI,fJ]) | (refine w_e [] ?_;intro J hJ;simp only [];simp [f0,f1,fI,fJ];(refine hJ _ _ ?_;clear hJ J;simp only [ak,reduceIte]))))
  exact ⟨_,kk,rfl,hsw',hpm2,by omega,by omega,by unfold PartedAt;rw [hpl.2,hx];have h:=hpl.1;rwa [show P=_ from funext hPd] at h⟩
 have hik2:ii < kk:=by
  rcases Nat.lt_or_ge ii kk with h | h
  ·exact h
  ·exfalso
   have e:ii=kk:=by omega
   have h1:=hst (by omega)
   have h2:=hst2 hle
   rw [e,h2] at h1;cases h1
 have hLo2:=hLo.swp hik2 (by omega) (hst2 hle)
 have hHi2:=hHi.swp hik2 (by omega) (hst (by omega))
 have hpm2:=hpm.step ii kk (by omega) (by omega) (by omega) (by omega) (by omega)
 have hxx:(sw c ii kk).getD a 0=x:=by rw [sw_get _ _ _ _ (by omega) (by omega),if_neg (by omega),if_neg (by omega)];exact hx
 have hli:ii < l.length:=by omega
 have hlk:kk < l.length:=by omega
 have hd1:=qG c ii (by omega)
 have hd2:=qG c kk (by omega)
 have hsw:=fun x y=>bx_sw st q c ii kk (x:=x) (y:=y) (by omega) (by omega)
 have hia:=qN ii (by omega)
 have hka:=nat_sub_one kk (by omega) (by omega)
 clear hst hst2
 generalize hy1:c.getD ii 0=y1 at *
 generalize hy2:c.getD kk 0=y2 at *
 have hsw':=hsw y1 y2 rfl rfl
 (repeat' (first | refine qS ?_ | (refine qK ?_;simp only [ak,reduceIte]) | (refine qC ?_;simp [f0,f1,fI,fJ,hle];(try with_reducible refine ⟨?_,?_⟩)<;>(try with_reducible intro hc)<;>try (exfalso;omega)) | (refine w_e [] ?_;intro J hJ;simp only [];simp [f0,f1,fI,fJ,hle];(refine hJ _ _ ?_;clear hJ J;simp only [ak,reduceIte]))))
 (refine w_s [] [q] [(0,true),(1,true),(2,true),(3,true),(4,true),(5,true),(6,true),(7,true),(8,true),(9,true),(10,true),(11,true),(12,true),(13,false),(14,true),(15,false)] ?_;intro J hJ;simp [f0,f1,fI,fJ,hli,hlk,hcl,hd1,hd2];(repeat refine ca ?_);(refine hJ _ _ ?_;clear hJ J;simp only [ak,reduceIte]))
 (repeat' (first | refine qS ?_ | (refine w_e [] ?_;intro J hJ;simp only [];simp [fI,fJ,hia,hka];(refine hJ _ _ ?_;clear hJ J;simp only [ak,reduceIte]))))
 exact hJ0 (kk - 1) _ _ (by omega) ⟨ii+1,kk - 1,sw c ii kk,by omega,by omega,by omega,rfl,by simp [f0],by simp [f1],by simp,by simp,hsw',hpm2,hxx,hLo2,hHi2⟩
theorem partitionEqual (l:List Int) (q a b pv:Nat) (st:St) (hl:small l) (hab:a < b) (hb:b≤l.length) (hp1:a≤pv) (hp2:pv < b) (hH:st.H q=.box 32 1 (us l)):
 ACalls Tryz.prog 67 [.ms q 0 l.length,i a,i b,i pv] st fun r st'=>∃ (c:List Int) (mid:Nat),r=i mid∧st'=bx st q c∧Pm a b l c∧a < mid∧mid≤b∧PartedEq c a mid b (l.getD pv 0):=by
 unfold small at hl
 refine qO tabOk Tryz.func67 rfl rfl Tryz.ntmps67 (rs:=[.tmp 8]) rfl (by simp) ?_
 (repeat (refine qS ?_));(refine w_e [] ?_;intro J hJ;simp only [];simp [];(refine hJ _ _ ?_;clear hJ J;simp only [ak,reduceIte]))
 have hla:a < l.length:=by omega
 have hlp:pv < l.length:=by omega
 have hsw:=fun x y=>bx_sw' st q l a pv (x:=x) (y:=y) (by omega) (by omega)
 have hd0:=qG l a (by omega)
 have hd1:=qG l pv (by omega)
 have hpm:Pm a b l (sw l a pv):=Pm.one a pv (by omega) (by omega) (by omega) (by omega) (by omega)
 have hx:(sw l a pv).getD a 0=l.getD pv 0:=by
  rw [sw_get _ _ _ _ (by omega) (by omega)]
  by_cases e:a=pv
  ·rw [if_pos e,e]
  ·rw [if_neg e,if_pos rfl]
 generalize hy0:l.getD a 0=y0 at *
 generalize hy1:l.getD pv 0=x at *
 have hsw':=hsw y0 x rfl rfl
 (repeat (refine qS ?_));(refine w_s [] [q] [(0,true),(1,true),(2,true),(3,true),(4,true),(5,true),(6,true),(7,true),(8,true),(9,true),(10,true),(11,true),(12,true),(13,false),(14,true),(15,false)] ?_;intro J hJ;simp [hH,hla,hlp,hd0,hd1];(repeat refine ca ?_);(refine hJ _ _ ?_;clear hJ J;simp only [ak,reduceIte]))
 rw [hsw']
 clear hsw hsw' hd0 hd1 hy0
 generalize hc:sw l a pv=c at *
 clear hc
 have hcl:=hpm.len
 have w1:=qN a (by omega)
 have w2:=nat_sub_one b (by omega) (by omega)
 obtain ⟨P,hPd⟩:∃ P:Int→Bool,∀ v,P v=!decide (x < v):=⟨_,fun _=>rfl⟩
 refine qS ?_
 refine awp_cut1 (fun fr st2=>fr 0=.ms q 0 l.length∧fr 1=i a∧fr 9=i ((a+1:Nat):Int)∧fr 10=i ((b - 1:Nat):Int)∧st2=bx st q c) (by (refine w_e [] ?_;intro J hJ;simp only [];simp [w1,w2];(refine hJ _ _ ?_;clear hJ J;simp only [ak,reduceIte]));simp) ?_
 rintro fr st2 ⟨f0,f1,fI,fJ,rfl⟩
 have hai:a < a+1:=by omega
 have hij:a+1≤b - 1+1:=by omega
 have hjb:b - 1 < b:=by omega
 have hLo:Lo P c a (a+1):=fun p h1 h2=>by omega
 have hHi:Hi P c (b - 1) b:=fun p h1 h2=>by omega
 generalize a+1=ii at *
 generalize b - 1=jj at *
 clear w1 w2
 have hd0:=qG c a (by omega)
 rw [hx] at hd0
 refine qS ?_
 refine qB ?_
 refine qL (fun m fr st2=>∃ (ii jj:Nat) (c:List Int),a < ii∧ii≤jj+1∧jj < b∧jj=m∧fr 0=.ms q 0 l.length∧fr 1=i a∧fr 9=i ii∧fr 10=i jj∧st2=bx st q c∧Pm a b l c∧c.getD a 0=x∧Lo P c a ii∧Hi P c jj b) jj ?_ ?_
 ·exact ⟨ii,jj,c,by omega,by omega,by omega,rfl,f0,f1,fI,fJ,rfl,hpm,hx,hLo,hHi⟩
 clear f0 f1 fI fJ hLo hHi hpm hx hcl hd0 hai hij hjb ii jj c fr
 rintro m fr st2 ⟨ii,jj,c,hai,hij,hjb,rfl,f0,f1,fI,fJ,rfl,hpm,hx,hLo,hHi⟩ JJ0 hJ0
 have hcl:=hpm.len
 have hd0:=qG c a (by omega)
 rw [hx] at hd0
 refine qB ?_
 refine qS ?_
 refine awp_cut1 (fun fr st2=>∃ ii:Nat,a < ii∧ii≤jj+1∧fr 0=.ms q 0 l.length∧fr 1=i a∧fr 9=i ii∧fr 10=i jj∧st2=bx st q c∧Lo P c a ii∧StU P c ii jj) ?_ ?_
 ·refine qB ?_
  refine qL (fun m fr st2=>∃ ii:Nat,a < ii∧ii≤jj+1∧m=jj+1 - ii∧fr 0=.ms q 0 l.length∧fr 1=i a∧fr 9=i ii∧fr 10=i jj∧st2=bx st q c∧Lo P c a ii) (jj+1 - ii) ?_ ?_
  ·exact ⟨ii,by omega,by omega,rfl,by simp [f0],by simp [f1],by simp [fI],by simp [fJ],rfl,hLo⟩
  clear f0 f1 fI fJ hLo hai hij fr ii
  rintro m fr st2 ⟨ii,hai,hij,rfl,f0,f1,fI,fJ,rfl,hLo⟩ JJ hJJ
  have hia:=qN ii (by omega)
  by_cases hle:ii≤jj
  rotate_left
  ·clear hJJ
   (repeat (refine qS ?_));(refine w_s [] [q] [(0,true),(1,true),(2,true),(3,true),(4,true),(5,true),(6,true),(7,true),(8,true),(9,true),(10,true),(11,true),(12,false),(13,true),(14,true)] ?_;intro J hJ;simp [f0,f1,fI,fJ,hle];(refine hJ _ _ ?_;clear hJ J;simp only [ak,reduceIte]))
   (repeat' (first | (refine qX ?_;simp only [ak,reduceIte]) | (refine qC ?_;simp [])))
   exact ⟨trivial,ii,by omega,by omega,by simp [f0],by simp [f1],by simp [fI],by simp [fJ],by trivial,hLo,fun h=>absurd h hle⟩
  have hli:ii < l.length:=by omega
  have hd1:=qG c ii (by omega)
  have hmo:=hLo.more
  generalize hy:c.getD ii 0=y at *
  (repeat (refine qS ?_));(refine w_s [] [q] [(0,true),(1,true),(2,true),(3,true),(4,true),(5,true),(6,true),(7,true),(8,true),(9,true),(10,true),(11,true),(12,false),(13,true),(14,true)] ?_;intro J hJ;simp [f0,f1,fI,fJ,hle,hli,hla,hcl,hd0,hd1])
  refine dcallK_of (Less x y _) ?_;rintro r s2 ⟨rfl,rfl⟩
  refine ⟨fun _=>by simp,?_⟩
  have hP:=hPd y
  by_cases hyx:x < y
  ·clear hJJ
   (refine d_go ?_;simp [hyx];(refine hJ _ _ ?_;clear hJ J;simp only [ak,reduceIte]))
   (repeat' (first | (refine qX ?_;simp only [ak,reduceIte]) | (refine qC ?_;simp [])))
   exact ⟨trivial,ii,by omega,by omega,by simp [f0],by simp [f1],by simp [fI],by simp [fJ],by trivial,hLo,fun _=>by rw [hy,hP];simp [hyx]⟩
  ·(refine d_go ?_;simp [hyx];(refine hJ _ _ ?_;clear hJ J;simp only [ak,reduceIte]))
   (repeat' (first | refine qB ?_ | (refine qK ?_;simp only [ak,reduceIte]) | (refine qC ?_;simp [fI,hia]) | (refine w_e [] ?_;intro J hJ;simp only [];simp [fI,hia];(refine hJ _ _ ?_;clear hJ J;simp only [ak,reduceIte]))))
   exact hJJ (jj+1 - (ii+1)) _ _ (by omega) ⟨ii+1,by omega,by omega,rfl,by simp [f0],by simp [f1],by simp,by simp [fJ],rfl,hmo (by rw [hP];simp [hyx])⟩
 clear f0 f1 fI fJ hLo hai hij fr ii
 rintro fr st2 ⟨ii,hai,hij,f0,f1,fI,fJ,rfl,hLo,hst⟩
 refine qS ?_
 refine awp_cut1 (fun fr st2=>∃ kk:Nat,a≤kk∧kk≤jj∧ii≤kk+1∧fr 0=.ms q 0 l.length∧fr 1=i a∧fr 9=i ii∧fr 10=i kk∧st2=bx st q c∧Hi P c kk b∧StD P c ii kk) ?_ ?_
 ·refine qB ?_
  refine qL (fun m fr st2=>∃ kk:Nat,a≤kk∧kk≤jj∧ii≤kk+1∧kk=m∧fr 0=.ms q 0 l.length∧fr 1=i a∧fr 9=i ii∧fr 10=i kk∧st2=bx st q c∧Hi P c kk b) jj ?_ ?_
  ·exact ⟨jj,by omega,by omega,by omega,rfl,by simp [f0],by simp [f1],by simp [fI],by simp [fJ],rfl,hHi⟩
  clear f0 f1 fI fJ hHi fr
  rintro m fr st2 ⟨kk,hak,hkj,hik,rfl,f0,f1,fI,fJ,rfl,hHi⟩ JJ hJJ
  by_cases hle:ii≤kk
  rotate_left
  ·clear hJJ
   (repeat (refine qS ?_));(refine w_s [] [q] [(0,true),(1,true),(2,true),(3,true),(4,true),(5,true),(6,true),(7,true),(8,true),(9,true),(10,true),(11,true),(12,false),(13,true)] ?_;intro J hJ;simp [f0,f1,fI,fJ,hle];(refine hJ _ _ ?_;clear hJ J;simp only [ak,reduceIte]))
   (repeat' (first | (refine qX ?_;simp only [ak,reduceIte]) | (refine qC ?_;simp [])))
   exact ⟨trivial,kk,by omega,by omega,by omega,by simp [f0],by simp [f1],by simp [fI],by simp [fJ],by trivial,hHi,fun h=>absurd h hle⟩
  have hja:=nat_sub_one kk (by omega) (by omega)
  have hlj:kk < l.length:=by omega
  have hd1:=qG c kk (by omega)
  have hmo:=hHi.more
  generalize hy:c.getD kk 0=y at *
  (repeat (refine qS ?_));(refine w_s [] [q] [(0,true),(1,true),(2,true),(3,true),(4,true),(5,true),(6,true),(7,true),(8,true),(9,true),(10,true),(11,true),(12,false),(13,true)] ?_;intro J hJ;simp [f0,f1,fI,fJ,hle,hlj,hla,hcl,hd0,hd1])
  refine dcallK_of (Less x y _) ?_;rintro r s2 ⟨rfl,rfl⟩
  refine ⟨fun _=>by simp,?_⟩
  have hP:=hPd y
  by_cases hyx:x < y
  ·(refine d_go ?_;simp [hyx];(refine hJ _ _ ?_;clear hJ J;simp only [ak,reduceIte]))
   (repeat' (first | refine qB ?_ | (refine qK ?_;simp only [ak,reduceIte]) | (refine qC ?_;simp [fJ,hja]) | (refine w_e [] ?_;intro J hJ;simp only [];simp [fJ,hja];(refine hJ _ _ ?_;clear hJ J;simp only [ak,reduceIte]))))
   exact hJJ (kk - 1) _ _ (by omega) ⟨kk - 1,by omega,by omega,by omega,rfl,by simp [f0],by simp [f1],by simp [fI],by simp,rfl,hmo (by omega) (by rw [hP];simp [hyx])⟩
  ·clear hJJ
   (refine d_go ?_;simp [hyx];(refine hJ _ _ ?_;clear hJ J;simp only [ak,reduceIte]))
   (repeat' (first | (refine qX ?_;simp only [ak,reduceIte]) | (refine qC ?_;simp [])))
   exact ⟨trivial,kk,by omega,by omega,by omega,by simp [f0],by simp [f1],by simp [fI],by simp [fJ],by trivial,hHi,fun _=>by rw [hy,hP];simp [hyx]⟩
 clear f0 f1 fI fJ hHi fr
 rintro fr st2 ⟨kk,hak,hkj,hik,f0,f1,fI,fJ,rfl,hHi,hst2⟩
 by_cases hle:ii≤kk
 rotate_left
 ·clear hJ0
  (repeat' (first | refine qS ?_ | (refine qX ?_;simp only [ak,reduceIte]) | (refine qR ?_;simp only [ak,reduceIte];simp [f0,f1,fI,fJ,hle]) | (refine qC ?_;simp [f0,f1,fI,fJ,hle];(try with_reducible intro hc)) | (refine w_e [] ?_;intro J hJ;simp only [];simp [f0,f1,fI,fJ,hle];(refine hJ _ _ ?_;clear hJ J;simp only [ak,reduceIte]))))
  refine ⟨c,ii,rfl,rfl,hpm,by omega,by omega,fun p h1 h2=>?_,fun p h1 h2=>?_⟩
  ·by_cases e:p=a
   ·rw [e,hx];exact Int.le_refl _
   ·have:=hLo p (by omega) h2;rw [hPd] at this;simpa using this
  ·have:=hHi p (by omega) h2;rw [hPd] at this;simpa using this
 have hik2:ii < kk:=by
  rcases Nat.lt_or_ge ii kk with h | h
  ·exact h
  ·exfalso
   have e:ii=kk:=by omega
   have h1:=hst (by omega)
   have h2:=hst2 hle
   rw [e,h2] at h1;cases h1
 have hLo2:=hLo.swp hik2 (by omega) (hst2 hle)
 have hHi2:=hHi.swp hik2 (by omega) (hst (by omega))
 have hpm2:=hpm.step ii kk (by omega) (by omega) (by omega) (by omega) (by omega)
 have hxx:(sw c ii kk).getD a 0=x:=by rw [sw_get _ _ _ _ (by omega) (by omega),if_neg (by omega),if_neg (by omega)];exact hx
 have hli:ii < l.length:=by omega
 have hlk:kk < l.length:=by omega
 have hd1:=qG c ii (by omega)
 have hd2:=qG c kk (by omega)
 have hsw:=fun x y=>bx_sw st q c ii kk (x:=x) (y:=y) (by omega) (by omega)
 have hia:=qN ii (by omega)
 have hka:=nat_sub_one kk (by omega) (by omega)
 clear hst hst2
 generalize hy1:c.getD ii 0=y1 at *
 generalize hy2:c.getD kk 0=y2 at *
 have hsw':=hsw y1 y2 rfl rfl
 (repeat' (first | refine qS ?_ | (refine qK ?_;simp only [ak,reduceIte]) | (refine qC ?_;simp [f0,f1,fI,fJ,hle];(try with_reducible refine ⟨?_,?_⟩)<;>(try with_reducible intro hc)<;>try (exfalso;omega)) | (refine w_e [] ?_;intro J hJ;simp only [];simp [f0,f1,fI,fJ,hle];(refine hJ _ _ ?_;clear hJ J;simp only [ak,reduceIte]))))
 (refine w_s [] [q] [(0,true),(1,true),(2,true),(3,true),(4,true),(5,true),(6,true),(7,true),(8,true),(9,true),(10,true),(11,true),(12,true),(13,false),(14,true),(15,false)] ?_;intro J hJ;simp [f0,f1,fI,fJ,hli,hlk,hcl,hd1,hd2];(repeat refine ca ?_);(refine hJ _ _ ?_;clear hJ J;simp only [ak,reduceIte]))
 (repeat' (first | refine qS ?_ | (refine w_e [] ?_;intro J hJ;simp only [];simp [fI,fJ,hia,hka];(refine hJ _ _ ?_;clear hJ J;simp only [ak,reduceIte]))))
 exact hJ0 (kk - 1) _ _ (by omega) ⟨ii+1,kk - 1,sw c ii kk,by omega,by omega,by omega,rfl,by simp [f0],by simp [f1],by simp,by simp,hsw',hpm2,hxx,hLo2,hHi2⟩
def Ahead (l:List Int) (a b:Nat):Prop:=0 < a→∀ j,a≤j→j < b→l.getD (a - 1) 0≤l.getD j 0
theorem Ahead.pm {l c:List Int} {a b:Nat} (h:Ahead l a b) (k:Pm a b l c):Ahead c a b:=by
 intro h0 j h1 h2
 rw [k.out (a - 1) (by omega)]
 exact k.all (fun x=>l.getD (a - 1) 0≤x) (fun j h1 h2=>h h0 j h1 h2) j h1 h2
def Falls (c:List Int) (k b:Nat):Prop:=k < b→c.getD k 0 < c.getD (k - 1) 0
def SrtIf (p:Bool) (a b:Nat) (c:List Int):Prop:=p=true→Srt a b c
def PinI (q a b k j:Nat) (l:List Int) (st:St) (fr:Frm) (st2:St):Prop:=∃ c:List Int,fr 0=.ms q 0 l.length∧fr 1=i a∧fr 2=i b∧fr 7=i k∧fr 8=i j∧st2=bx st q c∧Pm a b l c∧Srt a k c
theorem partialInsertionSort (l:List Int) (q a b:Nat) (st:St) (hl:small l) (ha:a < b) (hb:b≤l.length) (hah:Ahead l a b) (hH:st.H q=.box 32 1 (us l)):
 ACalls Tryz.prog 65 [.ms q 0 l.length,i a,i b] st fun r st'=>∃ c p,r=bb p∧st'=bx st q c∧Pm a b l c∧SrtIf p a b c:=by
 unfold small at hl
 refine qO tabOk Tryz.func65 rfl rfl Tryz.ntmps65 (rs:=[.tmp 6]) rfl (by simp) ?_
 have hw0:=qN a (by omega)
 (repeat' (first | refine qS ?_ | refine qB ?_ | (refine w_e [] ?_;intro J hJ;simp only [];simp [hw0];(refine hJ _ _ ?_;clear hJ J;simp only [ak,reduceIte]))))
 refine qL (fun n fr st2=>∃ (j k:Nat) (c:List Int),j≤5∧n=5 - j∧a < k∧k≤b∧fr 0=.ms q 0 l.length∧fr 1=i a∧fr 2=i b∧fr 7=i k∧fr 8=i j∧st2=bx st q c∧Pm a b l c∧Srt a k c) 5 ?_ ?_
 ·exact ⟨0,a+1,l,by omega,rfl,by omega,by omega,by simp,by simp,by simp,by simp,by simp,bx_self hH,.refl,fun p q h1 h2 h3=>by omega⟩
 rintro n fr st2 ⟨j,k,c,hj,rfl,hak,hkb,f0,f1,f2,f7,f8,rfl,hpm,hs⟩ J0 hJ0
 by_cases hj5:(j:Int) < 5
 rotate_left
 ·clear hJ0
  (repeat' (first | refine qS ?_ | (refine qX ?_;simp only [ak,reduceIte]) | (refine qR ?_;simp only [ak,reduceIte];simp [f8,hj5]) | (refine qC ?_;simp [f8,hj5]) | (refine w_e [] ?_;intro J hJ;simp only [];simp [f8,hj5];(refine hJ _ _ ?_;clear hJ J;simp only [ak,reduceIte]))))
  exact ⟨c,rfl,hpm,fun h=>by cases h⟩
 have hcl:=hpm.len
 (repeat (refine qS ?_));(refine w_e [] ?_;intro J hJ;simp only [];simp [f8,hj5];(refine hJ _ _ ?_;clear hJ J;simp only [ak,reduceIte]))
 (refine qC ?_;simp [])
 refine qK ?_;simp only [ak,reduceIte]
 refine qS ?_
 refine qB ?_
 refine qS ?_
 refine awp_cut1 (fun fr st2=>∃ k:Nat,a < k∧k≤b∧fr 0=.ms q 0 l.length∧fr 1=i a∧fr 2=i b∧fr 7=i k∧fr 8=i j∧st2=bx st q c∧Srt a k c∧Falls c k b) ?_ ?_
 ·refine qB ?_
  refine qL (fun n fr st2=>∃ k:Nat,n=b - k∧a < k∧k≤b∧fr 0=.ms q 0 l.length∧fr 1=i a∧fr 2=i b∧fr 7=i k∧fr 8=i j∧st2=bx st q c∧Srt a k c) (b - k) ?_ ?_
  ·exact ⟨k,rfl,hak,hkb,by simp [f0],by simp [f1],by simp [f2],by simp [f7],by simp [f8],rfl,hs⟩
  clear f0 f1 f2 f7 f8 hs hak hkb fr k
  rintro n fr st2 ⟨k,rfl,hak,hkb,f0,f1,f2,f7,f8,rfl,hs⟩ JJ hJJ
  by_cases hlt:k < b
  rotate_left
  ·clear hJJ
   (repeat (refine qS ?_));(refine w_s [] [q] [(0,true),(1,true),(2,true),(3,true),(4,true),(5,true),(6,true),(7,true),(8,true),(9,true),(10,true),(11,true),(12,true),(13,false),(14,true),(15,true)] ?_;intro J hJ;simp [f0,f2,f7,hlt];(refine hJ _ _ ?_;clear hJ J;simp only [ak,reduceIte]))
   (repeat' (first | (refine qX ?_;simp only [ak,reduceIte]) | (refine qC ?_;simp [])))
   exact ⟨trivial,k,by omega,by omega,by simp [f0],by simp [f1],by simp [f2],by simp [f7],by simp [f8],by trivial,hs,fun h=>absurd h hlt⟩
  have w1:=qN k (by omega)
  have w2:=nat_sub_one k (by omega) (by omega)
  have hd1:=qG c k (by omega)
  have hd2:=qG c (k - 1) (by omega)
  have hl1:k < l.length:=by omega
  have hl2:k - 1 < l.length:=by omega
  have hin:=hs.ins.done (by omega)
  generalize hx:c.getD k 0=x at *
  generalize hy:c.getD (k - 1) 0=y at *
  (repeat (refine qS ?_));(refine w_s [] [q] [(0,true),(1,true),(2,true),(3,true),(4,true),(5,true),(6,true),(7,true),(8,true),(9,true),(10,true),(11,true),(12,true),(13,false),(14,true),(15,true)] ?_;intro J hJ;simp [f0,f2,f7,hlt,w2,hl1,hl2,hcl,hd1,hd2])
  refine dcallK_of (Less x y _) ?_;rintro r s2 ⟨rfl,rfl⟩
  refine ⟨fun _=>by simp,?_⟩
  by_cases hxy:x < y
  ·clear hJJ
   (refine d_go ?_;simp [hxy];(refine hJ _ _ ?_;clear hJ J;simp only [ak,reduceIte]))
   (repeat' (first | (refine qX ?_;simp only [ak,reduceIte]) | (refine qC ?_;simp [])))
   exact ⟨trivial,k,by omega,by omega,by simp [f0],by simp [f1],by simp [f2],by simp [f7],by simp [f8],by trivial,hs,fun h=>by rw [hx,hy];exact hxy⟩
  ·(refine d_go ?_;simp [hxy];(refine hJ _ _ ?_;clear hJ J;simp only [ak,reduceIte]))
   (repeat' (first | refine qB ?_ | (refine qK ?_;simp only [ak,reduceIte]) | (refine qC ?_;simp [f7,w1]) | (refine w_e [] ?_;intro J hJ;simp only [];simp [f7,w1];(refine hJ _ _ ?_;clear hJ J;simp only [ak,reduceIte]))))
   exact hJJ (b - (k+1)) _ _ (by omega) ⟨k+1,rfl,by omega,by omega,by simp [f0],by simp [f1],by simp [f2],by simp,by simp [f8],rfl,hin (.inr hxy)⟩
 clear f0 f1 f2 f7 f8 hs hak hkb fr k
 rintro fr st2 ⟨k,hak,hkb,f0,f1,f2,f7,f8,rfl,hs,hfall⟩
 by_cases hkb2:k=b
 ·clear hJ0
  have hkb3:(k:Int)=(b:Int):=by omega
  (repeat' (first | refine qS ?_ | (refine qR ?_;simp only [ak,reduceIte];simp [f2,f7,hkb3]) | (refine qC ?_;simp [f2,f7,hkb3]) | (refine w_e [] ?_;intro J hJ;simp only [];simp [f2,f7,hkb3];(refine hJ _ _ ?_;clear hJ J;simp only [ak,reduceIte]))))
  exact ⟨c,rfl,hpm,fun _=>by rw [← hkb2];exact hs⟩
 have hkb3:¬ (k:Int)=(b:Int):=by omega
 have w1:IntKind.i64.wrap ((b:Int) - (a:Int))=(b:Int) - (a:Int):=wrap_i64 _ (by omega) (by omega)
 by_cases h50:(b:Int) - (a:Int) < 50
 ·clear hJ0
  (repeat' (first | refine qS ?_ | (refine qK ?_;simp only [ak,reduceIte]) | (refine qR ?_;simp only [ak,reduceIte];simp [f1,f2,f7,hkb3,w1,h50]) | (refine qC ?_;simp [f1,f2,f7,hkb3,w1,h50]) | (refine w_e [] ?_;intro J hJ;simp only [];simp [f1,f2,f7,hkb3,w1,h50];(refine hJ _ _ ?_;clear hJ J;simp only [ak,reduceIte]))))
  exact ⟨c,rfl,hpm,fun h=>by cases h⟩
 have w2:=nat_sub_one k (by omega) (by omega)
 have hd1:=qG c k (by omega)
 have hd2:=qG c (k - 1) (by omega)
 have hl1:k < l.length:=by omega
 have hl2:k - 1 < l.length:=by omega
 have hsw:=fun x y=>bx_sw st q c k (k - 1) (x:=x) (y:=y) (by omega) (by omega)
 have hs1:Srt a (k - 1) (sw c k (k - 1)):=by
  intro p q h1 h2 h3
  rw [sw_get _ _ _ _ (by omega) (by omega),sw_get _ _ _ _ (by omega) (by omega),if_neg (by omega),if_neg (by omega),if_neg (by omega),if_neg (by omega)]
  exact hs p q h1 h2 (by omega)
 have hpm1:=hpm.step k (k - 1) (by omega) (by omega) (by omega) (by omega) (by omega)
 generalize hx:c.getD k 0=x at *
 generalize hy:c.getD (k - 1) 0=y at *
 have hsw':=hsw x y rfl rfl
 (repeat' (first | refine qS ?_ | (refine qK ?_;simp only [ak,reduceIte]) | (refine qC ?_;simp [f1,f2,f7,hkb3,w1,h50]) | (refine w_e [] ?_;intro J hJ;simp only [];simp [f1,f2,f7,hkb3,w1,h50];(refine hJ _ _ ?_;clear hJ J;simp only [ak,reduceIte]))))
 (refine w_s [] [q] [(0,true),(1,true),(2,true),(3,true),(4,true),(5,true),(6,true),(7,true),(8,true),(9,true),(10,true),(11,true),(12,true),(13,true),(14,true),(15,false),(16,true),(17,false)] ?_;intro J hJ;simp [f0,f7,w2,hl1,hl2,hcl,hd1,hd2];(repeat refine ca ?_);(refine hJ _ _ ?_;clear hJ J;simp only [ak,reduceIte]))
 rw [hsw']
 clear hsw hsw' hd1 hd2 hx hy hs hfall
 generalize hc1:sw c k (k - 1)=c1 at *
 have hcl1:=hpm1.len
 clear hc1 hpm hcl c
 have w3:IntKind.i64.wrap ((k:Int) - (a:Int))=(k:Int) - (a:Int):=wrap_i64 _ (by omega) (by omega)
 refine qS ?_
 refine awp_cut1 (PinI q a b k j l st) ?_ ?_
 ·by_cases hk2:(2:Int)≤(k:Int) - (a:Int)
  rotate_left
  ·(repeat' (first | refine qS ?_ | (refine qK ?_;simp only [ak,reduceIte]) | (refine qC ?_;simp [f1,f7,w3,hk2]) | (refine w_e [] ?_;intro J hJ;simp only [];simp [f1,f7,w3,hk2];(refine hJ _ _ ?_;clear hJ J;simp only [ak,reduceIte]))))
   refine ⟨by trivial,?_⟩;unfold PinI;exact ⟨c1,by simp [f0],by simp [f1],by simp [f2],by simp [f7],by simp [f8],by trivial,hpm1,fun p q h1 h2 h3=>by omega⟩
  (repeat' (first | refine qS ?_ | refine qB ?_ | (refine qC ?_;simp [f1,f7,w3,hk2,w2]) | (refine w_e [] ?_;intro J hJ;simp only [];simp [f1,f7,w3,hk2,w2];(refine hJ _ _ ?_;clear hJ J;simp only [ak,reduceIte]))))
  refine qL (fun n fr st2=>∃ (m:Nat) (c:List Int),a≤m∧m≤k - 1∧m=n∧fr 0=.ms q 0 l.length∧fr 1=i a∧fr 2=i b∧fr 7=i k∧fr 8=i j∧fr 9=i m∧st2=bx st q c∧Pm a b l c∧Ins a m (k - 1) c) (k - 1) ?_ ?_
  ·exact ⟨k - 1,c1,by omega,by omega,rfl,by simp [f0],by simp [f1],by simp [f2],by simp [f7],by simp [f8],by simp,rfl,hpm1,hs1.ins⟩
  clear f0 f1 f2 f7 f8 hpm1 hs1 hcl1 c1 fr
  rintro n fr st2 ⟨m,c,ham,hmk,rfl,f0,f1,f2,f7,f8,f9,rfl,hpm,hI⟩ JJ hJJ
  have hcl:=hpm.len
  have hk1:k - 1+1=k:=by omega
  by_cases hm1:(1:Int)≤(m:Int)
  rotate_left
  ·clear hJJ
   (repeat' (first | refine qS ?_ | (refine qX ?_;simp only [ak,reduceIte]) | (refine qC ?_;simp [f9,hm1]) | (refine w_e [] ?_;intro J hJ;simp only [];simp [f9,hm1];(refine hJ _ _ ?_;clear hJ J;simp only [ak,reduceIte]))))
   refine ⟨by trivial,?_⟩;unfold PinI;refine ⟨c,by simp [f0],by simp [f1],by simp [f2],by simp [f7],by simp [f8],by trivial,hpm,?_⟩
   have:=hI.done ham (.inl (by omega));rwa [hk1] at this
  have w4:=nat_sub_one m (by omega) (by omega)
  have hd1:=qG c m (by omega)
  have hd2:=qG c (m - 1) (by omega)
  have hl3:m < l.length:=by omega
  have hl4:m - 1 < l.length:=by omega
  have hsw:=fun x y=>bx_sw st q c m (m - 1) (x:=x) (y:=y) (by omega) (by omega)
  have hahm:m=a→¬ c.getD m 0 < c.getD (m - 1) 0:=by
   rintro rfl
   have:=hah.pm hpm (by omega) m (by omega) (by omega)
   omega
  have hdone:=hI.done ham
  rw [hk1] at hdone
  have hstep:=fun h=>hI.step h hmk (by omega)
  generalize hx:c.getD m 0=x at *
  generalize hy:c.getD (m - 1) 0=y at *
  have hsw':=hsw x y rfl rfl
  (repeat' (first | refine qS ?_ | refine qB ?_ | (refine qK ?_;simp only [ak,reduceIte]) | (refine qC ?_;simp [f9,hm1]) | (refine w_e [] ?_;intro J hJ;simp only [];simp [f9,hm1];(refine hJ _ _ ?_;clear hJ J;simp only [ak,reduceIte]))))
  (refine w_s [] [q] [(0,true),(1,true),(2,true),(3,true),(4,true),(5,true),(6,true),(7,true),(8,true),(9,false),(10,true)] ?_;intro J hJ;simp [f0,f9,w4,hl3,hl4,hcl,hd1,hd2])
  refine dcallK_of (Less x y _) ?_;rintro r s2 ⟨rfl,rfl⟩
  refine ⟨fun _=>by simp,?_⟩
  by_cases hxy:x < y
  rotate_left
  ·clear hJJ
   (refine d_go ?_;simp [hxy];(refine hJ _ _ ?_;clear hJ J;simp only [ak,reduceIte]))
   (repeat' (first | (refine qX ?_;simp only [ak,reduceIte]) | (refine qC ?_;simp [])))
   refine ⟨by trivial,?_⟩;unfold PinI;exact ⟨c,by simp [f0],by simp [f1],by simp [f2],by simp [f7],by simp [f8],by trivial,hpm,hdone (.inr hxy)⟩
  have hma:a < m:=by
   rcases Nat.lt_or_ge a m with h | h
   ·exact h
   ·exact absurd hxy (hahm (by omega))
  have hpm2:=hpm.step m (m - 1) (by omega) (by omega) (by omega) (by omega) (by omega)
  (refine d_go ?_;simp [hxy];(refine hJ _ _ ?_;clear hJ J;simp only [ak,reduceIte]))
  (repeat' (first | (refine qK ?_;simp only [ak,reduceIte]) | (refine qC ?_;simp [])))
  (refine w_s [] [q] [(0,true),(1,true),(2,true),(3,true),(4,true),(5,true),(6,true),(7,true),(8,true),(9,true),(10,true),(11,true),(12,true),(13,true),(14,true),(15,false),(16,true),(17,false)] ?_;intro J hJ;simp [f0,f9,w4,hl3,hl4,hcl,hd1,hd2];(repeat refine ca ?_);(refine hJ _ _ ?_;clear hJ J;simp only [ak,reduceIte]))
  (repeat' (refine w_e [] ?_;intro J hJ;simp only [];simp [f9,w4];(refine hJ _ _ ?_;clear hJ J;simp only [ak,reduceIte])))
  exact hJJ (m - 1) _ _ (by omega) ⟨m - 1,sw c m (m - 1),by omega,by omega,rfl,by simp [f0],by simp [f1],by simp [f2],by simp [f7],by simp [f8],by simp,hsw',hpm2,hstep hma hxy⟩
 clear f0 f1 f2 f7 f8 hpm1 hs1 hcl1 c1 fr
 rintro fr st2 ⟨c,f0,f1,f2,f7,f8,rfl,hpm,hs⟩
 have hcl:=hpm.len
 have w5:IntKind.i64.wrap ((b:Int) - (k:Int))=(b:Int) - (k:Int):=wrap_i64 _ (by omega) (by omega)
 have w6:=qN j (by omega)
 have w7:=qN k (by omega)
 by_cases hk2:(2:Int)≤(b:Int) - (k:Int)
 rotate_left
 ·(repeat' (first | refine qS ?_ | (refine qK ?_;simp only [ak,reduceIte]) | (refine qC ?_;simp [f2,f7,w5,hk2,f8,w6]) | (refine w_e [] ?_;intro J hJ;simp only [];simp [f2,f7,w5,hk2,f8,w6];(refine hJ _ _ ?_;clear hJ J;simp only [ak,reduceIte]))))
  exact hJ0 (5 - (j+1)) _ _ (by omega) ⟨j+1,k,c,by omega,rfl,hak,hkb,by simp [f0],by simp [f1],by simp [f2],by simp [f7],by simp,rfl,hpm,hs⟩
 (repeat' (first | refine qS ?_ | refine qB ?_ | (refine qC ?_;simp [f2,f7,w5,hk2,w7]) | (refine w_e [] ?_;intro J hJ;simp only [];simp [f2,f7,w5,hk2,w7];(refine hJ _ _ ?_;clear hJ J;simp only [ak,reduceIte]))))
 refine qL (fun n fr st2=>∃ (m:Nat) (c:List Int),k < m∧m≤b∧n=b - m∧fr 0=.ms q 0 l.length∧fr 1=i a∧fr 2=i b∧fr 7=i k∧fr 8=i j∧fr 10=i m∧st2=bx st q c∧Pm a b l c∧Srt a k c) (b - (k+1)) ?_ ?_
 ·exact ⟨k+1,c,by omega,by omega,rfl,by simp [f0],by simp [f1],by simp [f2],by simp [f7],by simp [f8],by simp,rfl,hpm,hs⟩
 clear f0 f1 f2 f7 f8 hpm hs hcl c fr
 rintro n fr st2 ⟨m,c,hkm,hmb,rfl,f0,f1,f2,f7,f8,f10,rfl,hpm,hs⟩ JJ hJJ
 have hcl:=hpm.len
 by_cases hlt:m < b
 rotate_left
 ·clear hJJ
  (repeat' (first | refine qS ?_ | (refine qX ?_;simp only [ak,reduceIte]) | (refine qC ?_;simp [f2,f10,hlt,f8,w6]) | (refine w_e [] ?_;intro J hJ;simp only [];simp [f2,f10,hlt,f8,w6];(refine hJ _ _ ?_;clear hJ J;simp only [ak,reduceIte]))))
  exact hJ0 (5 - (j+1)) _ _ (by omega) ⟨j+1,k,c,by omega,rfl,hak,hkb,by simp [f0],by simp [f1],by simp [f2],by simp [f7],by simp,rfl,hpm,hs⟩
 have w4:=nat_sub_one m (by omega) (by omega)
 have w8:=qN m (by omega)
 have hd1:=qG c m (by omega)
 have hd2:=qG c (m - 1) (by omega)
 have hl3:m < l.length:=by omega
 have hl4:m - 1 < l.length:=by omega
 have hsw:=fun x y=>bx_sw st q c m (m - 1) (x:=x) (y:=y) (by omega) (by omega)
 have hpm2:=hpm.step m (m - 1) (by omega) (by omega) (by omega) (by omega) (by omega)
 have hs2:Srt a k (sw c m (m - 1)):=by
  intro p q h1 h2 h3
  rw [sw_get _ _ _ _ (by omega) (by omega),sw_get _ _ _ _ (by omega) (by omega),if_neg (by omega),if_neg (by omega),if_neg (by omega),if_neg (by omega)]
  exact hs p q h1 h2 (by omega)
 generalize hx:c.getD m 0=x at *
 generalize hy:c.getD (m - 1) 0=y at *
 have hsw':=hsw x y rfl rfl
 (repeat' (first | refine qS ?_ | refine qB ?_ | (refine qK ?_;simp only [ak,reduceIte]) | (refine qC ?_;simp [f2,f10,hlt]) | (refine w_e [] ?_;intro J hJ;simp only [];simp [f2,f10,hlt];(refine hJ _ _ ?_;clear hJ J;simp only [ak,reduceIte]))))
 (refine w_s [] [q] [(0,true),(1,true),(2,true),(3,true),(4,true),(5,true),(6,true),(7,true),(8,true),(9,false),(10,true)] ?_;intro J hJ;simp [f0,f10,w4,hl3,hl4,hcl,hd1,hd2])
 refine dcallK_of (Less x y _) ?_;rintro r s2 ⟨rfl,rfl⟩
 refine ⟨fun _=>by simp,?_⟩
 by_cases hxy:x < y
 rotate_left
 ·clear hJJ
  (refine d_go ?_;simp [hxy];(refine hJ _ _ ?_;clear hJ J;simp only [ak,reduceIte]))
  (repeat' (first | (refine qX ?_;simp only [ak,reduceIte]) | (refine qC ?_;simp [f8,w6]) | (refine w_e [] ?_;intro J hJ;simp only [];simp [f8,w6];(refine hJ _ _ ?_;clear hJ J;simp only [ak,reduceIte]))))
  exact hJ0 (5 - (j+1)) _ _ (by omega) ⟨j+1,k,c,by omega,rfl,hak,hkb,by simp [f0],by simp [f1],by simp [f2],by simp [f7],by simp,rfl,hpm,hs⟩
 (refine d_go ?_;simp [hxy];(refine hJ _ _ ?_;clear hJ J;simp only [ak,reduceIte]))
 (repeat' (first | (refine qK ?_;simp only [ak,reduceIte]) | (refine qC ?_;simp [])))
 (refine w_s [] [q] [(0,true),(1,true),(2,true),(3,true),(4,true),(5,true),(6,true),(7,true),(8,true),(9,true),(10,true),(11,true),(12,true),(13,true),(14,true),(15,false),(16,true),(17,false)] ?_;intro J hJ;simp [f0,f10,w4,hl3,hl4,hcl,hd1,hd2];(repeat refine ca ?_);(refine hJ _ _ ?_;clear hJ J;simp only [ak,reduceIte]))
 (repeat' (refine w_e [] ?_;intro J hJ;simp only [];simp [f10,w8];(refine hJ _ _ ?_;clear hJ J;simp only [ak,reduceIte])))
 exact hJJ (b - (m+1)) _ _ (by omega) ⟨m+1,sw c m (m - 1),by omega,by omega,rfl,by simp [f0],by simp [f1],by simp [f2],by simp [f7],by simp [f8],by simp,hsw',hpm2,hs2⟩
abbrev ix (st:St) (p:Nat) (s:Int):St:=st.set p (.box 3 1 [i s])
theorem ix_self {st:St} {p:Nat} {s:Int} (h:st.H p=.box 3 1 [i s]):st=ix st p s:=
 St.ext' rfl fun x=>by by_cases hx:x=p<;>simp [hx,h]
theorem ix_ix (st:St) (p:Nat) (s s':Int):ix (ix st p s) p s'=ix st p s':=St.set_set _ _ _ _
theorem order2 (l:List Int) (q p a b:Nat) (s:Int) (st:St) (hl:small l) (ha:a < l.length) (hb:b < l.length) (hpq:q≠p) (hH:st.H q=.box 32 1 (us l)) (hp:st.H p=.box 3 1 [i s]):
 ACalls Tryz.prog 102 [.ms q 0 l.length,i a,i b,.pt p 0] st fun r st'=>∃ (x y:Nat) (s':Int),r=.tu [i x,i y]∧st'=ix st p s'∧((x=a∧y=b)∨(x=b∧y=a)):=by
 unfold small at hl
 have hd1:=qG l a ha
 have hd2:=qG l b hb
 generalize l.getD a 0=x at *
 generalize l.getD b 0=y at *
 refine qO tabOk Tryz.func102 rfl rfl Tryz.ntmps102 (rs:=[.tmp 8,.tmp 9]) rfl (by simp) ?_
 (repeat (refine qS ?_));(refine w_e [] ?_;intro J hJ;simp only [];simp [];(refine hJ _ _ ?_;clear hJ J;simp only [ak,reduceIte]))
 (repeat (refine qS ?_));(refine w_s [] [q] [(0,true),(1,true),(2,true),(3,true),(4,true),(5,true),(6,true),(7,true),(8,false)] ?_;intro J hJ;simp [hH,ha,hb,hd1,hd2])
 refine dcallK_of (Less y x _) ?_;rintro r s2 ⟨rfl,rfl⟩
 refine ⟨fun _=>by simp [hH],?_⟩
 by_cases hyx:y < x
 ·(refine d_go ?_;simp [hyx];(refine hJ _ _ ?_;clear hJ J;simp only [ak,reduceIte]))
  (repeat' (first | refine qS ?_ | (refine qR ?_;simp only [ak,reduceIte];simp [hp]) | (refine qC ?_;simp [hp]) | (refine w_e [] ?_;intro J hJ;simp only [];simp [hp];(refine hJ _ _ ?_;clear hJ J;simp only [ak,reduceIte]))))
  exact ⟨b,a,⟨rfl,rfl⟩,⟨_,rfl⟩,.inr ⟨rfl,rfl⟩⟩
 ·(refine d_go ?_;simp [hyx];(refine hJ _ _ ?_;clear hJ J;simp only [ak,reduceIte]))
  (repeat' (first | refine qS ?_ | (refine qK ?_;simp only [ak,reduceIte]) | (refine qR ?_;simp only [ak,reduceIte];simp []) | (refine qC ?_;simp []) | (refine w_e [] ?_;intro J hJ;simp only [];simp [];(refine hJ _ _ ?_;clear hJ J;simp only [ak,reduceIte]))))
  exact ⟨a,b,⟨rfl,rfl⟩,⟨s,ix_self hp⟩,.inl ⟨rfl,rfl⟩⟩
theorem median (l:List Int) (q p a b c:Nat) (s:Int) (st:St) (hl:small l) (ha:a < l.length) (hb:b < l.length) (hc:c < l.length) (hpq:q≠p) (hH:st.H q=.box 32 1 (us l)) (hp:st.H p=.box 3 1 [i s]):
 ACalls Tryz.prog 86 [.ms q 0 l.length,i a,i b,i c,.pt p 0] st fun r st'=>∃ (x:Nat) (s':Int),r=i x∧st'=ix st p s'∧(x=a∨x=b∨x=c):=by
 refine qO tabOk Tryz.func86 rfl rfl Tryz.ntmps86 (rs:=[.tmp 10]) rfl (by simp) ?_
 (repeat' (first | refine qS ?_ | (refine w_e [] ?_;intro J hJ;simp only [];simp [];(try (refine hJ _ _ ?_;clear hJ J;simp only [ak,reduceIte])))))
 refine qF (order2 l q p a b s _ hl ha hb hpq hH hp) ?_;rintro r st' ⟨x,y,s1,rfl,rfl,h1⟩
 (repeat' (first | refine qS ?_ | ((first | (refine w_e [] ?_;intro J hJ;simp only []) | (refine e_go ?_));simp [];(try (refine hJ _ _ ?_;clear hJ J;simp only [ak,reduceIte])))))
 refine qF (order2 l q p y c s1 _ hl (by omega) hc hpq (by simp [hpq,hH]) (by simp)) ?_;rintro r st' ⟨x2,y2,s2,rfl,rfl,h2⟩
 (repeat' (first | refine qS ?_ | ((first | (refine w_e [] ?_;intro J hJ;simp only []) | (refine e_go ?_));simp [];(try (refine hJ _ _ ?_;clear hJ J;simp only [ak,reduceIte])))))
 refine qF (order2 l q p x x2 s2 _ hl (by omega) (by omega) hpq (by simp [hpq,hH]) (by simp)) ?_;rintro r st' ⟨x3,y3,s3,rfl,rfl,h3⟩
 (repeat' (first | refine qS ?_ | (refine qR ?_;simp only [ak,reduceIte];simp []) | ((first | (refine w_e [] ?_;intro J hJ;simp only []) | (refine e_go ?_));simp [];(refine hJ _ _ ?_;clear hJ J;simp only [ak,reduceIte]))))
 refine ⟨y3,rfl,⟨s3,?_⟩,by omega⟩
 rw [ix_ix,ix_ix]
theorem medianAdjacent (l:List Int) (q p a:Nat) (s:Int) (st:St) (hl:small l) (h0:0 < a) (ha:a+1 < l.length) (hpq:q≠p) (hH:st.H q=.box 32 1 (us l)) (hp:st.H p=.box 3 1 [i s]):
 ACalls Tryz.prog 85 [.ms q 0 l.length,i a,.pt p 0] st fun r st'=>∃ (x:Nat) (s':Int),r=i x∧st'=ix st p s'∧a - 1≤x∧x≤a+1:=by
 have hl':=hl
 unfold small at hl'
 have w1:=qN a (by omega)
 have w2:=nat_sub_one a (by omega) (by omega)
 refine qO tabOk Tryz.func85 rfl rfl Tryz.ntmps85 (rs:=[.tmp 6]) rfl (by simp) ?_
 (repeat' (first | refine qS ?_ | (refine w_e [] ?_;intro J hJ;simp only [];simp [w1,w2];(try (refine hJ _ _ ?_;clear hJ J;simp only [ak,reduceIte])))))
 refine qF (median l q p (a - 1) a (a+1) s _ hl (by omega) (by omega) (by omega) hpq hH hp) ?_;rintro r st' ⟨x,s1,rfl,rfl,h1⟩
 (repeat' (first | (refine qR ?_;simp only [ak,reduceIte];simp []) | (refine e_go ?_;simp [];(refine hJ _ _ ?_;clear hJ J;simp only [ak,reduceIte]))))
 exact ⟨x,rfl,⟨s1,rfl⟩,by omega⟩
def PivI (q n a b:Nat) (st:St) (fr:Frm) (st2:St):Prop:=∃ (j1 j2 j3:Nat) (s:Int),fr 0=.ms q 0 n∧fr 9=.pt st.next 0∧fr 10=i j1∧fr 11=i j2∧fr 12=i j3∧a≤j1∧j1 < b∧a≤j2∧j2 < b∧a≤j3∧j3 < b∧st2=ix (st.new (.box 3 1 [i 0])) st.next s
set_option maxHeartbeats 1000000 in
theorem choosePivot (l:List Int) (q a b:Nat) (st:St) (hl:small l) (hab:a+8≤b) (hb:b≤l.length) (hqn:q < st.next) (hH:st.H q=.box 32 1 (us l)):
 ACalls Tryz.prog 63 [.ms q 0 l.length,i a,i b] st fun r st'=>∃ (x:Nat) (h:Int),r=.tu [i x,i h]∧a≤x∧x < b∧Keeps st st':=by
 have hl':=hl
 unfold small at hl'
 obtain ⟨n,hn⟩:∃ n:Nat,n=b - a:=⟨_,rfl⟩
 obtain ⟨n4,hn4⟩:∃ m:Nat,m=n / 4:=⟨_,rfl⟩
 obtain ⟨k1,hk1⟩:∃ m:Nat,m=a+n4:=⟨_,rfl⟩
 obtain ⟨k2,hk2⟩:∃ m:Nat,m=a+n4 * 2:=⟨_,rfl⟩
 obtain ⟨k3,hk3⟩:∃ m:Nat,m=a+n4 * 3:=⟨_,rfl⟩
 have w1:IntKind.i64.wrap ((b:Int) - (a:Int))=(n:Int):=by rw [wrap_i64 _ (by omega) (by omega)];omega
 have w2:IntKind.i64.wrap ((n:Int) / 4)=(n4:Int):=by
  rw [show (n:Int) / 4=((n / 4:Nat):Int) from rfl,← hn4]
  exact wrap_i64 _ (by omega) (by omega)
 have w3:IntKind.i64.wrap (n4:Int)=(n4:Int):=wrap_i64 _ (by omega) (by omega)
 have w4:IntKind.i64.wrap ((n4:Int) * 2)=((n4 * 2:Nat):Int):=by rw [wrap_i64 _ (by omega) (by omega)];omega
 have w5:IntKind.i64.wrap ((n4:Int) * 3)=((n4 * 3:Nat):Int):=by rw [wrap_i64 _ (by omega) (by omega)];omega
 have w6:IntKind.i64.wrap ((a:Int)+(n4:Int))=(k1:Int):=by rw [wrap_i64 _ (by omega) (by omega)];omega
 have w7:IntKind.i64.wrap ((a:Int)+((n4 * 2:Nat):Int))=(k2:Int):=by rw [wrap_i64 _ (by omega) (by omega)];omega
 have w8:IntKind.i64.wrap ((a:Int)+((n4 * 3:Nat):Int))=(k3:Int):=by rw [wrap_i64 _ (by omega) (by omega)];omega
 have h8:(8:Int)≤(n:Int):=by omega
 have hqn':q≠st.next:=by omega
 generalize ((n4 * 2:Nat):Int)=e2 at *
 generalize ((n4 * 3:Nat):Int)=e3 at *
 refine qO tabOk Tryz.func63 rfl rfl Tryz.ntmps63 (rs:=[.tmp 6,.tmp 7]) rfl (by simp) ?_
 (repeat' (first | refine qS ?_ | (refine w_e [] ?_;intro J hJ;simp only [];simp [w1,w2,w3,w4,w5,w6,w7,w8,h8];(refine hJ _ _ ?_;clear hJ J;simp only [ak,reduceIte]))))
 refine qC ?_;simp [h8]
 refine qS ?_
 refine awp_cut1 (PivI q l.length a b st) ?_ ?_
 ·by_cases h50:(50:Int)≤(n:Int)
  ·(repeat' (first | refine qS ?_ | (refine qC ?_;simp [h50]) | (refine w_e [] ?_;intro J hJ;simp only [];simp [h50];(try (refine hJ _ _ ?_;clear hJ J;simp only [ak,reduceIte])))))
   refine qF (medianAdjacent l q st.next k1 0 _ hl (by omega) (by omega) hqn' (by simp [hqn',hH]) (by simp)) ?_;rintro r st' ⟨x1,s1,rfl,rfl,h1⟩
   (repeat' (first | refine qS ?_ | ((first | (refine w_e [] ?_;intro J hJ;simp only []) | (refine e_go ?_));simp [];(try (refine hJ _ _ ?_;clear hJ J;simp only [ak,reduceIte])))))
   refine qF (medianAdjacent l q st.next k2 s1 _ hl (by omega) (by omega) hqn' (by simp [hqn',hH]) (by simp)) ?_;rintro r st' ⟨x2,s2,rfl,rfl,h2⟩
   (repeat' ((first | (refine w_e [] ?_;intro J hJ;simp only []) | (refine e_go ?_));simp [];(try (refine hJ _ _ ?_;clear hJ J;simp only [ak,reduceIte]))))
   refine qF (medianAdjacent l q st.next k3 s2 _ hl (by omega) (by omega) hqn' (by simp [hqn',hH]) (by simp)) ?_;rintro r st' ⟨x3,s3,rfl,rfl,h3⟩
   (repeat' (refine e_go ?_;simp [];(refine hJ _ _ ?_;clear hJ J;simp only [ak,reduceIte])))
   refine ⟨by trivial,?_⟩;unfold PivI;exact ⟨x1,x2,x3,s3,by simp,by simp,by simp,by simp,by simp,by omega,by omega,by omega,by omega,by omega,by omega,by rw [ix_ix,ix_ix]⟩
  ·(repeat' (first | refine qS ?_ | (refine qK ?_;simp only [ak,reduceIte]) | (refine qC ?_;simp [h50]) | (refine w_e [] ?_;intro J hJ;simp only [];simp [h50];(refine hJ _ _ ?_;clear hJ J;simp only [ak,reduceIte]))))
   refine ⟨by trivial,?_⟩;unfold PivI;exact ⟨k1,k2,k3,0,by simp,by simp,by simp,by simp,by simp,by omega,by omega,by omega,by omega,by omega,by omega,ix_self (by simp)⟩
 rintro fr st2 ⟨j1,j2,j3,s,f0,f9,f10,f11,f12,h1,h2,h3,h4,h5,h6,rfl⟩
 (repeat' (refine w_e [] ?_;intro J hJ;simp only [];simp [f0,f9,f10,f11,f12]))
 refine qF (median l q st.next j1 j2 j3 s _ hl (by omega) (by omega) (by omega) hqn' (by simp [hqn',hH]) (by simp)) ?_;rintro r st' ⟨x,s1,rfl,rfl,hx⟩
 have hkp:Keeps st (ix (ix (st.new (.box 3 1 [i 0])) st.next s) st.next s1):=((Keeps.new _ _).set (Nat.le_refl _) _).set (Nat.le_refl _) _
 have hax:a≤x∧x < b:=by omega
 (repeat' (first | refine qS ?_ | refine qB ?_ | (refine qR ?_;simp only [ak,reduceIte];simp [f9]) | (refine qC ?_;simp [f9];(try with_reducible refine ⟨?_,?_⟩)<;>(try with_reducible intro hc)) | ((first | (refine w_e [] ?_;intro J hJ;simp only []) | (refine e_go ?_));simp [f9];(refine hJ _ _ ?_;clear hJ J;simp only [ak,reduceIte]))))
 all_goals exact ⟨x,rfl,hax.1,hax.2,hkp⟩
end Go.Proofs.YtkcokoefodgigaaGreat.Aw
