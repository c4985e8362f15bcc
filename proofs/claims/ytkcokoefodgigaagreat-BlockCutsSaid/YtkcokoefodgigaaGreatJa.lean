/- Plain lists of numbers: places, least ones, turns. No program. -/
import Derived.RangeFuncBox
import Derived.RangeFuncLeaves
import Derived.Shelf.Abstract
import Derived.WalkKit
import Derived.OwnWalkIn
import Derived.TacticsInMore
import Derived.LoopNIn
import Derived.LoopIn
import Derived.Maps.AppendAt
import Derived.Test.YtkcokoefodgigaaGreatProg
import Derived.Test.YtkcokoefodgigaaGreatAwSet
import Derived.IntWalk
import Derived.Test.YtkcokoefodgigaaGreatAwTd
namespace Go.Proofs.YtkcokoefodgigaaGreat.Pl
def mn:List Int→Int
 | []=>0
 | x::l=>l.foldl (fun a b=>if b < a then b else a) x
def rt (l:List Int) (k:Nat):List Int:=l.drop k++l.take k
def nrm (l:List Int):List Int:=rt l (l.idxOf (mn l))
end Go.Proofs.YtkcokoefodgigaaGreat.Pl
namespace Go.Proofs.YtkcokoefodgigaaGreat.Eu
open Go
set_option linter.unusedSimpArgs false
set_option linter.unusedVariables false
section
variable {f f':Int→Int} {a b:Int}
end
end Go.Proofs.YtkcokoefodgigaaGreat.Eu
namespace Go.Proofs.YtkcokoefodgigaaGreat.Pl
def sw (c:List Int) (a b:Nat):List Int:=(c.set a (c.getD b 0)).set b (c.getD a 0)
theorem sw_length (c:List Int) (a b:Nat):(sw c a b).length=c.length:=by simp [sw]
theorem sw_get (c:List Int) (a b j:Nat) (ha:a < c.length) (hb:b < c.length):(sw c a b).getD j 0=if j=b then c.getD a 0 else if j=a then c.getD b 0 else c.getD j 0:=by
 unfold sw
 simp only [List.getD_eq_getElem?_getD,List.getElem?_set]
 by_cases h1:b=j
 ·subst h1;simp [hb]
 ·by_cases h2:a=j
  ·subst h2;simp [h1,ha,Ne.symm h1]
  ·simp [h1,h2,Ne.symm h1,Ne.symm h2]
theorem sw_perm (c:List Int) (a b:Nat) (ha:a < c.length) (hb:b < c.length):(sw c a b).Perm c:=by
 unfold sw
 have h:=List.set_set_perm ha hb
 simp only [List.getD_eq_getElem?_getD,List.getElem?_eq_getElem ha,List.getElem?_eq_getElem hb,Option.getD_some]
 exact h
inductive Pm (a b:Nat) (l:List Int):List Int→Prop
 | refl:Pm a b l l
 | step {m:List Int} (h:Pm a b l m) (x y:Nat) (hx:a≤x) (hx':x < b) (hy:a≤y) (hy':y < b) (hb:b≤l.length):Pm a b l (sw m x y)
theorem Pm.len {a b:Nat} {l m:List Int} (h:Pm a b l m):m.length=l.length:=by
 induction h with
 | refl=>rfl
 | step h x y _ _ _ _ _ ih=>rw [sw_length];exact ih
theorem Pm.out {a b:Nat} {l m:List Int} (h:Pm a b l m) (j:Nat) (hj:j < a∨b≤j):m.getD j 0=l.getD j 0:=by
 induction h with
 | refl=>rfl
 | step h x y h1 h2 h3 h4 h5 ih=>
   have:=h.len
   rw [sw_get _ _ _ _ (by omega) (by omega),if_neg (by omega),if_neg (by omega)];exact ih
theorem Pm.trans {a b:Nat} {l m n:List Int} (h:Pm a b l m) (k:Pm a b m n):Pm a b l n:=by
 induction k with
 | refl=>exact h
 | step k x y h1 h2 h3 h4 h5 ih=>have:=h.len;exact ih.step x y h1 h2 h3 h4 (by omega)
theorem Pm.wide {a b a' b':Nat} {l m:List Int} (h:Pm a b l m) (ha:a'≤a) (hb:b≤b') (hl:b'≤l.length):Pm a' b' l m:=by
 induction h with
 | refl=>exact .refl
 | step k x y h1 h2 h3 h4 h5 ih=>exact ih.step x y (by omega) (by omega) (by omega) (by omega) hl
theorem Pm.perm {a b:Nat} {l m:List Int} (h:Pm a b l m):m.Perm l:=by
 induction h with
 | refl=>exact .refl _
 | step k x y h1 h2 h3 h4 h5 ih=>have:=k.len;exact (sw_perm _ _ _ (by omega) (by omega)).trans ih
theorem Pm.all {a b:Nat} {l m:List Int} (h:Pm a b l m) (P:Int→Prop) (hP:∀ j,a≤j→j < b→P (l.getD j 0)) (j:Nat) (h1:a≤j) (h2:j < b):P (m.getD j 0):=by
 induction h generalizing j with
 | refl=>exact hP j h1 h2
 | step k x y g1 g2 g3 g4 g5 ih=>
   have:=k.len
   rw [sw_get _ _ _ _ (by omega) (by omega)]
   by_cases e1:j=y
   ·rw [if_pos e1];exact ih x g1 g2
   ·rw [if_neg e1]
    by_cases e2:j=x
    ·rw [if_pos e2];exact ih y g3 g4
    ·rw [if_neg e2];exact ih j h1 h2
theorem Pm.one {a b:Nat} {l:List Int} (x y:Nat) (hx:a≤x) (hx':x < b) (hy:a≤y) (hy':y < b) (hb:b≤l.length):Pm a b l (sw l x y):=Pm.refl.step x y hx hx' hy hy' hb
def Srt (a b:Nat) (l:List Int):Prop:=∀ p q,a≤p→p < q→q < b→l.getD p 0≤l.getD q 0
def Ins (a j i:Nat) (d:List Int):Prop:=∀ p q,a≤p→p < q→q≤i→q≠j→d.getD p 0≤d.getD q 0
theorem Srt.ins {a i:Nat} {d:List Int} (h:Srt a i d):Ins a i i d:=fun p q h1 h2 h3 h4=>h p q h1 h2 (by omega)
theorem Ins.step {a j i:Nat} {d:List Int} (h:Ins a j i d) (hj:a < j) (hi:j≤i) (hil:i < d.length) (hlt:d.getD j 0 < d.getD (j - 1) 0):Ins a (j - 1) i (sw d j (j - 1)):=by
 intro p q h1 h2 h3 h4
 rw [sw_get _ _ _ _ (by omega) (by omega),sw_get _ _ _ _ (by omega) (by omega)]
 by_cases e1:q=j
 ·rw [if_neg h4,if_pos e1]
  by_cases e2:p=j - 1
  ·rw [if_pos e2];omega
  ·rw [if_neg e2,if_neg (by omega)];exact h p (j - 1) h1 (by omega) (by omega) (by omega)
 ·rw [if_neg h4,if_neg e1]
  by_cases e2:p=j - 1
  ·rw [if_pos e2];exact h j q (by omega) (by omega) h3 e1
  ·rw [if_neg e2]
   by_cases e3:p=j
   ·rw [if_pos e3];exact h (j - 1) q (by omega) (by omega) h3 e1
   ·rw [if_neg e3];exact h p q h1 h2 h3 e1
theorem Ins.done {a j i:Nat} {d:List Int} (h:Ins a j i d) (hj:a≤j) (hs:j=a∨¬ d.getD j 0 < d.getD (j - 1) 0):Srt a (i+1) d:=by
 intro p q h1 h2 h3
 by_cases e:q=j
 ·subst e
  have h5:¬ d.getD q 0 < d.getD (q - 1) 0:=by rcases hs with hs | hs;omega;exact hs
  by_cases e2:p=q - 1
  ·subst e2;omega
  ·have:=h p (q - 1) h1 (by omega) (by omega) (by omega);omega
 ·exact h p q h1 h2 (by omega) e
def Heap (lo hi f:Nat) (d:List Int):Prop:=∀ k c,lo≤k→(c=2 * k+1∨c=2 * k+2)→c < hi→d.getD (f+c) 0≤d.getD (f+k) 0
def HeapX (lo hi f r:Nat) (d:List Int):Prop:=(∀ k c,lo≤k→k≠r→(c=2 * k+1∨c=2 * k+2)→c < hi→d.getD (f+c) 0≤d.getD (f+k) 0)∧
 (∀ k c,lo≤k→(r=2 * k+1∨r=2 * k+2)→(c=2 * r+1∨c=2 * r+2)→c < hi→d.getD (f+c) 0≤d.getD (f+k) 0)
theorem Heap.x {lo hi f:Nat} {d:List Int} (h:Heap (lo+1) hi f d):HeapX lo hi f lo d:=
 ⟨fun k c h1 h2 h3 h4=>h k c (by omega) h3 h4,fun k c h1 h2 h3 h4=>by omega⟩
theorem HeapX.leaf {lo hi f r:Nat} {d:List Int} (h:HeapX lo hi f r d) (hr:hi≤2 * r+1):Heap lo hi f d:=by
 intro k c h1 h2 h3
 exact h.1 k c h1 (by omega) h2 h3
theorem HeapX.big {lo hi f r:Nat} {d:List Int} (h:HeapX lo hi f r d) (hr:∀ c,(c=2 * r+1∨c=2 * r+2)→c < hi→d.getD (f+c) 0≤d.getD (f+r) 0):Heap lo hi f d:=by
 intro k c h1 h2 h3
 by_cases e:k=r
 ·subst e;exact hr c h2 h3
 ·exact h.1 k c h1 e h2 h3
theorem HeapX.step {lo hi f r c:Nat} {d:List Int} (h:HeapX lo hi f r d) (hlo:lo≤r) (hc:c=2 * r+1∨c=2 * r+2) (hci:c < hi) (hl:f+hi≤d.length) (hm:∀ x,(x=2 * r+1∨x=2 * r+2)→x < hi→d.getD (f+x) 0≤d.getD (f+c) 0)
 (hlt:d.getD (f+r) 0 < d.getD (f+c) 0):HeapX lo hi f c (sw d (f+r) (f+c)):=by
 constructor
 ·intro k x h1 h2 h3 h4
  rw [sw_get _ _ _ _ (by omega) (by omega),sw_get _ _ _ _ (by omega) (by omega)]
  by_cases e1:k=r
  ·subst e1
   rw [if_neg (show ¬ f+k=f+c by omega),if_pos (rfl:f+k=f+k)]
   by_cases e2:x=c
   ·rw [if_pos (by omega)];omega
   ·rw [if_neg (by omega),if_neg (by omega)];exact hm x h3 h4
  ·rw [if_neg (show ¬ f+k=f+c by omega),if_neg (show ¬ f+k=f+r by omega)]
   by_cases e2:x=r
   ·subst e2
    rw [if_neg (by omega),if_pos (rfl:f+x=f+x)];exact h.2 k c h1 h3 hc hci
   ·rw [if_neg (by omega),if_neg (by omega)];exact h.1 k x h1 e1 h3 h4
 ·intro k x h1 h2 h3 h4
  have e1:k=r:=by omega
  subst e1
  rw [sw_get _ _ _ _ (by omega) (by omega),sw_get _ _ _ _ (by omega) (by omega)]
  rw [if_neg (by omega),if_neg (by omega),if_neg (show ¬ f+k=f+c by omega),if_pos (rfl:f+k=f+k)]
  exact h.1 c x (by omega) (by omega) h3 h4
theorem Heap.top {hi f:Nat} {d:List Int} (h:Heap 0 hi f d):∀ c,c < hi→d.getD (f+c) 0≤d.getD f 0:=by
 intro c
 induction c using Nat.strongRecOn with
 | ind c ih=>
   intro hc
   by_cases h0:c=0
   ·subst h0;simp
   ·have h1:=h ((c - 1) / 2) c (by omega) (by omega) hc
    have h2:=ih ((c - 1) / 2) (by omega) (by omega)
    omega
theorem Heap.pop {j f:Nat} {c:List Int} (h:Heap 0 (j+1) f c) (hl:f+j < c.length):Heap 1 j f (sw c f (f+j)):=by
 intro k x h1 h2 h3
 rw [sw_get _ _ _ _ (by omega) (by omega),sw_get _ _ _ _ (by omega) (by omega)]
 rw [if_neg (by omega),if_neg (by omega),if_neg (by omega),if_neg (by omega)]
 exact h k x (by omega) h2 (by omega)
theorem heap_next {hi f j:Nat} {c c2:List Int} (hH:Heap 0 (j+1) f c) (ho:∀ p q,p < q→j+1≤q→q < hi→c.getD (f+p) 0≤c.getD (f+q) 0) (hj:j < hi) (hl:f+hi≤c.length) (hp:Pm f (f+j) (sw c f (f+j)) c2):
 ∀ p q,p < q→j≤q→q < hi→c2.getD (f+p) 0≤c2.getD (f+q) 0:=by
 intro p q h1 h2 h3
 have g:=fun x=>sw_get c f (f+j) x (by omega) (by omega)
 rw [hp.out (f+q) (by omega),g (f+q)]
 by_cases e:q=j
 ·subst e
  rw [if_pos rfl]
  refine hp.all (fun x=>x≤c.getD f 0) (fun x h4 h5=>?_) (f+p) (by omega) (by omega)
  rw [g,if_neg (by omega)]
  by_cases e2:x=f
  ·rw [if_pos e2];exact hH.top q (by omega)
  ·rw [if_neg e2]
   have:=hH.top (x - f) (by omega)
   rwa [show f+(x - f)=x by omega] at this
 ·rw [if_neg (by omega),if_neg (by omega)]
  by_cases e2:p < j
  ·refine hp.all (fun x=>x≤c.getD (f+q) 0) (fun x h4 h5=>?_) (f+p) (by omega) (by omega)
   rw [g,if_neg (by omega)]
   by_cases e3:x=f
   ·rw [if_pos e3];exact ho j q (by omega) (by omega) h3
   ·rw [if_neg e3]
    have:=ho (x - f) q (by omega) (by omega) h3
    rwa [show f+(x - f)=x by omega] at this
  ·rw [hp.out (f+p) (by omega),g]
   by_cases e3:p=j
   ·rw [if_pos (by omega)]
    have:=ho 0 q (by omega) (by omega) h3
    rwa [Nat.add_zero] at this
   ·rw [if_neg (by omega),if_neg (by omega)];exact ho p q h1 (by omega) h3
theorem srt_glue {a m b:Nat} {d:List Int} (h1:Srt a m d) (h2:Srt (m+1) b d) (h3:∀ p,a≤p→p < m→d.getD p 0≤d.getD m 0) (h4:∀ q,m < q→q < b→d.getD m 0≤d.getD q 0):Srt a b d:=by
 intro p q k1 k2 k3
 rcases Nat.lt_trichotomy p m with e | e | e
 ·rcases Nat.lt_trichotomy q m with e' | e' | e'
  ·exact h1 p q k1 k2 e'
  ·subst e';exact h3 p k1 e
  ·have:=h3 p k1 e;have:=h4 q e' k3;omega
 ·subst e;exact h4 q k2 k3
 ·exact h2 p q (by omega) k2 k3
def Lo (P:Int→Bool) (c:List Int) (a m:Nat):Prop:=∀ p,a < p→p < m→P (c.getD p 0)=true
def Hi (P:Int→Bool) (c:List Int) (m b:Nat):Prop:=∀ p,m < p→p < b→P (c.getD p 0)=false
theorem Lo.more {P:Int→Bool} {c:List Int} {a m:Nat} (h:Lo P c a m) (hm:P (c.getD m 0)=true):Lo P c a (m+1):=by
 intro p h1 h2
 by_cases e:p=m
 ·rw [e];exact hm
 ·exact h p h1 (by omega)
theorem Hi.more {P:Int→Bool} {c:List Int} {m b:Nat} (h:Hi P c m b) (h0:0 < m) (hm:P (c.getD m 0)=false):Hi P c (m - 1) b:=by
 intro p h1 h2
 by_cases e:p=m
 ·rw [e];exact hm
 ·exact h p (by omega) h2
theorem Lo.swp {P:Int→Bool} {c:List Int} {a k m:Nat} (h:Lo P c a k) (hkm:k < m) (hm:m < c.length) (hp:P (c.getD m 0)=true):Lo P (sw c k m) a (k+1):=by
 intro p h1 h2
 rw [sw_get _ _ _ _ (by omega) (by omega),if_neg (by omega)]
 by_cases e:p=k
 ·rw [if_pos e];exact hp
 ·rw [if_neg e];exact h p h1 (by omega)
theorem Hi.swp {P:Int→Bool} {c:List Int} {k m b:Nat} (h:Hi P c m b) (hkm:k < m) (hm:m < c.length) (hp:P (c.getD k 0)=false):Hi P (sw c k m) (m - 1) b:=by
 intro p h1 h2
 rw [sw_get _ _ _ _ (by omega) (by omega)]
 by_cases e:p=m
 ·rw [if_pos e];exact hp
 ·rw [if_neg e,if_neg (by omega)];exact h p (by omega) h2
def Parted (P:Int→Bool) (c:List Int) (a m b:Nat):Prop:=(∀ p,a≤p→p < m→P (c.getD p 0)=true)∧(∀ p,m < p→p < b→P (c.getD p 0)=false)
def PartedEq (c:List Int) (a m b:Nat) (x:Int):Prop:=(∀ p,a≤p→p < m→c.getD p 0≤x)∧(∀ p,m≤p→p < b→x < c.getD p 0)
def PartedAt (c:List Int) (a m b:Nat):Prop:=Parted (fun v=>decide (v < c.getD m 0)) c a m b
theorem parted_last {P:Int→Bool} {c:List Int} {a m b:Nat} (h1:Lo P c a (m+1)) (h2:Hi P c m b) (ham:a≤m) (hmb:m < b) (hb:b≤c.length):Parted P (sw c m a) a m b∧(sw c m a).getD m 0=c.getD a 0:=by
 refine ⟨⟨fun p k1 k2=>?_,fun p k1 k2=>?_⟩,?_⟩
 ·rw [sw_get _ _ _ _ (by omega) (by omega)]
  by_cases e:p=a
  ·rw [if_pos e];exact h1 m (by omega) (by omega)
  ·rw [if_neg e,if_neg (by omega)];exact h1 p (by omega) (by omega)
 ·rw [sw_get _ _ _ _ (by omega) (by omega),if_neg (by omega),if_neg (by omega)];exact h2 p k1 k2
 ·rw [sw_get _ _ _ _ (by omega) (by omega)]
  by_cases e:m=a
  ·rw [if_pos e,e]
  ·rw [if_neg e,if_pos rfl]
theorem srt_pair {l:List Int} (h:Srt 0 l.length l):l.Pairwise (·≤·):=by
 refine List.pairwise_iff_getElem.2 fun p q hp hq hpq=>?_
 have:=h p q (by omega) hpq hq
 rwa [List.getD_eq_getElem?_getD,List.getD_eq_getElem?_getD,List.getElem?_eq_getElem hp,List.getElem?_eq_getElem hq] at this
theorem srt_unique {l m:List Int} (h:l.Pairwise (·≤·)) (k:m.Pairwise (·≤·)) (hp:l.Perm m):l=m:=
 hp.eq_of_pairwise (fun a b _ _ h1 h2=>by omega) h k
end Go.Proofs.YtkcokoefodgigaaGreat.Pl
namespace Go.Proofs.YtkcokoefodgigaaGreat.Rg
open Go Go.RowKit Go.Shelf
set_option linter.unusedSimpArgs false
set_option linter.unusedVariables false
attribute [local go_sem] Oper.semAt_some
end Go.Proofs.YtkcokoefodgigaaGreat.Rg
namespace Go.Proofs.YtkcokoefodgigaaGreat.Aw
open Go Go.RowKit
set_option linter.unusedSimpArgs false
set_option linter.unusedVariables false
theorem wrap_u32 (n:Int):IntKind.u32.wrap n=n % 4294967296:=by simp [IntKind.wrap,IntKind.signed,IntKind.bits]
theorem wrap_i64 (n:Int) (h1 : -9223372036854775808≤n) (h2:n≤9223372036854775807):IntKind.i64.wrap n=n:=by
 simp only [IntKind.wrap,IntKind.signed,IntKind.bits]
 simp
 split<;>omega
end Go.Proofs.YtkcokoefodgigaaGreat.Aw
namespace Go.Proofs.YtkcokoefodgigaaGreat.Aw
open Go Go.RowKit Go.Proofs.YtkcokoefodgigaaGreat.Pl
set_option linter.unusedSimpArgs false
set_option linter.unusedVariables false
theorem qN (k:Nat) (h:k < 9223372036854775807):IntKind.i64.wrap ((k:Int)+1)=((k+1:Nat):Int):=by
 rw [wrap_i64 _ (by omega) (by omega)];omega
theorem us_drop_head (l:List Int) (k:Nat) (hk:k < l.length):(us l).drop k=u l[k]::us (l.drop (k+1)):=by
 rw [us,← List.map_drop,List.drop_eq_getElem_cons hk];rfl
theorem qG (l:List Int) (k:Nat) (hk:k < l.length):(us l).drop k=u (l.getD k 0)::us (l.drop (k+1)):=by
 rw [us_drop_head l k hk];simp [hk]
theorem getD_lt (l:List Int) (j:Nat) (hj:j < l.length):l.getD j 0=l[j]:=by
 rw [List.getD_eq_getElem?_getD,List.getElem?_eq_getElem hj];rfl
theorem St.ext' {a b:St} (h:a.next=b.next) (k:∀ x,a.H x=b.H x):a=b:=by
 cases a;cases b;simp only at h k;subst h;congr;funext x;exact k x
def small (l:List Int):Prop:=l.length≤1048576
def nx (l:List Int) (d:Int):Int:=if d∈l then l.getD ((l.idxOf d+1) % l.length) 0 else 0
theorem St.set_set (st:St) (q:Nat) (a b:LObj):(st.set q a).set q b=st.set q b:=St.ext' rfl fun y=>by by_cases hy:y=q<;>simp [hy]
theorem isNaN (x:Int) (st:St):ACalls Tryz.prog 30 [u x] st fun r st'=>r=bb false∧st'=st:=by
 refine qO tabOk Tryz.func30 rfl rfl Tryz.ntmps30 (rs:=[.tmp 2]) rfl (by simp) ?_
 (repeat' (first | refine qS ?_ | refine qB ?_ | ((first | refine qK ?_ | refine qX ?_);simp only [ak,reduceIte]) | (refine qR ?_;simp only [ak,reduceIte];simp []) | (refine qC ?_;simp [];(try with_reducible refine ⟨?_,?_⟩)<;>(try with_reducible intro hc)<;>try (exfalso;omega)) | ((first | (refine w_e [] ?_;intro J hJ;simp only []) | (refine w_q ?_;intro J hJ) | refine e_go ?_);simp [];(repeat refine ca ?_);(try ((try with_reducible refine ⟨?_,?_⟩)<;>(try with_reducible intro hnil)<;>refine hJ _ _ ?_<;>clear hJ J<;>simp only [ak,reduceIte]<;>try subst hnil)))))
theorem nat_sub_one (k:Nat) (h0:0 < k) (h:k < 9223372036854775807):IntKind.i64.wrap ((k:Int) - 1)=((k - 1:Nat):Int):=by
 rw [wrap_i64 _ (by omega) (by omega)];omega
def Ahead (l:List Int) (a b:Nat):Prop:=0 < a→∀ j,a≤j→j < b→l.getD (a - 1) 0≤l.getD j 0
abbrev uw (n:Int):LV:=.atom (.int .u64 n)
def lenTab (m:Nat):Nat:=if m=0 then 0 else Nat.log2 m+1
def blen (n:Nat):Nat:=if 256≤n then 8+lenTab (n / 256) else lenTab n
theorem wrap_u64 (n:Int) (h1:0≤n) (h2:n < 18446744073709551616):IntKind.u64.wrap n=n:=by
 simp [IntKind.wrap,IntKind.signed,IntKind.bits];omega
theorem wrap_u8 (n:Int) (h1:0≤n) (h2:n < 256):IntKind.u8.wrap n=n:=by
 simp [IntKind.wrap,IntKind.signed,IntKind.bits];omega
abbrev lenStr:ByteArray:={ data:=((List.append [0,1,2,2,3,3,3,3,4,4,4,4,4,4,4,4,5,5,5,5,5,5,5,5,5,5,5,5,5,5,5,5,6,6,6,6,6,6,6,6,6,6,6,6,6,6,6,6,6,6,6,6,6,6,6,6,6,6,6,6,6,6,6,6] [7,7,7,7,7,7,7,7,7,7,7,7,7,7,7,7,7,7,7,7,7,7,7,7,7,7,7,7,7,7,7,7,7,7,7,7,7,7,7,7,7,7,7,7,7,7,7,7,7,7,7,7,7,7,7,7,7,7,7,7,7,7,7,7]).append (List.append [8,8,8,8,8,8,8,8,8,8,8,8,8,8,8,8,8,8,8,8,8,8,8,8,8,8,8,8,8,8,8,8,8,8,8,8,8,8,8,8,8,8,8,8,8,8,8,8,8,8,8,8,8,8,8,8,8,8,8,8,8,8,8,8] [8,8,8,8,8,8,8,8,8,8,8,8,8,8,8,8,8,8,8,8,8,8,8,8,8,8,8,8,8,8,8,8,8,8,8,8,8,8,8,8,8,8,8,8,8,8,8,8,8,8,8,8,8,8,8,8,8,8,8,8,8,8,8,8])).toArray }
theorem lenStr_at:∀ m:Fin 256,((lenStr[m.val]?).isSome=true∧((lenStr[m.val]?).getD 0).toNat=lenTab m.val):=by decide +kernel
theorem lenTab_at:∀ m:Fin 256,lenTab m.val≤8∧(0 < m.val→m.val < 2 ^ lenTab m.val∧2 ^ lenTab m.val≤2 * m.val):=by decide +kernel
theorem blen_at (n:Nat) (hn:n < 65536):blen n≤16∧(0 < n→n < 2 ^ blen n∧2 ^ blen n≤2 * n):=by
 unfold blen
 by_cases h:256≤n
 ·rw [if_pos h]
  have h1:=lenTab_at ⟨n / 256,by omega⟩
  simp only at h1
  obtain ⟨h2,h3⟩:=h1.2 (by omega)
  refine ⟨by omega,fun _=>?_⟩
  rw [Nat.pow_add]
  generalize 2 ^ lenTab (n / 256)=e at *
  omega
 ·rw [if_neg h]
  have h1:=lenTab_at ⟨n,by omega⟩
  simp only at h1
  exact ⟨by omega,h1.2⟩
theorem Len64 (n:Nat) (st:St) (hn:n < 65536):ACalls Tryz.prog 57 [uw n] st fun r st'=>r=i (blen n)∧st'=st:=by
 refine qO tabOk Tryz.func57 rfl rfl Tryz.ntmps57 (rs:=[.tmp 2]) rfl (by simp) ?_
 have h1:¬ (4294967296:Int)≤(n:Int):=by omega
 have h2:¬ (65536:Int)≤(n:Int):=by omega
 have hs:∀ m,m < 256→(lenStr[m]?).isSome=true∧((lenStr[m]?).getD 0).toNat=lenTab m:=fun m h=>lenStr_at ⟨m,h⟩
 generalize hq:({ data:=((List.append [0,1,2,2,3,3,3,3,4,4,4,4,4,4,4,4,5,5,5,5,5,5,5,5,5,5,5,5,5,5,5,5,6,6,6,6,6,6,6,6,6,6,6,6,6,6,6,6,6,6,6,6,6,6,6,6,6,6,6,6,6,6,6,6] [7,7,7,7,7,7,7,7,7,7,7,7,7,7,7,7,7,7,7,7,7,7,7,7,7,7,7,7,7,7,7,7,7,7,7,7,7,7,7,7,7,7,7,7,7,7,7,7,7,7,7,7,7,7,7,7,7,7,7,7,7,7,7,7]).append (List.append [8,8,8,8,8,8,8,8,8,8,8,8,8,8,8,8,8,8,8,8,8,8,8,8,8,8,8,8,8,8,8,8,8,8,8,8,8,8,8,8,8,8,8,8,8,8,8,8,8,8,8,8,8,8,8,8,8,8,8,8,8,8,8,8] [8,8,8,8,8,8,8,8,8,8,8,8,8,8,8,8,8,8,8,8,8,8,8,8,8,8,8,8,8,8,8,8,8,8,8,8,8,8,8,8,8,8,8,8,8,8,8,8,8,8,8,8,8,8,8,8,8,8,8,8,8,8,8,8])).toArray }:ByteArray)=s
 rw [show lenStr=s from hq] at hs
 clear hq
 by_cases h3:(256:Int)≤(n:Int)
 ·obtain ⟨m,hm⟩:∃ m,m=n / 256:=⟨_,rfl⟩
  have w1:(n:Int).fdiv (2 ^ min 8 IntKind.u64.bits)=(m:Int):=by
   show (n:Int).fdiv 256=(m:Int)
   rw [Int.fdiv_eq_ediv_of_nonneg _ (by omega)];omega
  have w2:=wrap_u8 m (by omega) (by omega)
  have hb:blen n=8+lenTab m:=by unfold blen;rw [if_pos (by omega),hm]
  have h4:lenTab m≤8:=(lenTab_at ⟨m,by omega⟩).1
  have hm2:=hs m (by omega)
  have hz:m < s.size:=by simpa using hm2.1
  have hv:=hm2.2
  rw [hb]
  generalize lenTab m=e at *
  have w3:IntKind.i64.wrap (8+(e:Int))=((8+e:Nat):Int):=by rw [wrap_i64 _ (by omega) (by omega)];omega
  have w4:IntKind.i64.wrap (e:Int)=(e:Int):=by rw [wrap_i64 _ (by omega) (by omega)]
  have w5:IntKind.i64.wrap (8:Int)=8:=rfl
  simp [hz] at hv
  (repeat' (first | refine qS ?_ | refine qB ?_ | ((first | refine qK ?_ | refine qX ?_);simp only [ak,reduceIte]) | (refine qR ?_;simp only [ak,reduceIte];simp [h1,h2,h3,gshr,w1,w2,hz,hv,w3,w4,w5]) | (refine qC ?_;simp [h1,h2,h3,gshr,w1,w2,hz,hv,w3,w4,w5];(try with_reducible refine ⟨?_,?_⟩)<;>(try with_reducible intro hc)<;>try (exfalso;omega)) | ((first | (refine w_e [] ?_;intro J hJ;simp only []) | (refine w_q ?_;intro J hJ) | refine e_go ?_);simp [h1,h2,h3,gshr,w1,w2,hz,hv,w3,w4,w5];(repeat refine ca ?_);(try ((try with_reducible refine ⟨?_,?_⟩)<;>(try with_reducible intro hnil)<;>refine hJ _ _ ?_<;>clear hJ J<;>simp only [ak,reduceIte]<;>try subst hnil)))))
 ·have w2:=wrap_u8 n (by omega) (by omega)
  have hb:blen n=lenTab n:=by unfold blen;rw [if_neg (by omega)]
  have h4:lenTab n≤8:=(lenTab_at ⟨n,by omega⟩).1
  have hm2:=hs n (by omega)
  have hz:n < s.size:=by simpa using hm2.1
  have hv:=hm2.2
  rw [hb]
  generalize lenTab n=e at *
  have w4:IntKind.i64.wrap (e:Int)=(e:Int):=by rw [wrap_i64 _ (by omega) (by omega)]
  simp [hz] at hv
  (repeat' (first | refine qS ?_ | refine qB ?_ | ((first | refine qK ?_ | refine qX ?_);simp only [ak,reduceIte]) | (refine qR ?_;simp only [ak,reduceIte];simp [h1,h2,h3,w2,hz,hv,w4]) | (refine qC ?_;simp [h1,h2,h3,w2,hz,hv,w4];(try with_reducible refine ⟨?_,?_⟩)<;>(try with_reducible intro hc)<;>try (exfalso;omega)) | ((first | (refine w_e [] ?_;intro J hJ;simp only []) | (refine w_q ?_;intro J hJ) | refine e_go ?_);simp [h1,h2,h3,w2,hz,hv,w4];(repeat refine ca ?_);(try ((try with_reducible refine ⟨?_,?_⟩)<;>(try with_reducible intro hnil)<;>refine hJ _ _ ?_<;>clear hJ J<;>simp only [ak,reduceIte]<;>try subst hnil)))))
theorem Len (n:Nat) (st:St) (hn:n < 65536):ACalls Tryz.prog 29 [uw n] st fun r st'=>r=i (blen n)∧st'=st:=by
 refine qO tabOk Tryz.func29 rfl rfl Tryz.ntmps29 (rs:=[.tmp 2]) rfl (by simp) ?_
 (repeat' (first | refine qS ?_ | refine qB ?_ | ((first | refine qK ?_ | refine qX ?_);simp only [ak,reduceIte]) | (refine qR ?_;simp only [ak,reduceIte];simp []) | (refine qC ?_;simp [];(try with_reducible refine ⟨?_,?_⟩)<;>(try with_reducible intro hc)<;>try (exfalso;omega)) | ((first | (refine w_e [] ?_;intro J hJ;simp only []) | (refine w_q ?_;intro J hJ) | refine e_go ?_);simp [];(repeat refine ca ?_);(try ((try with_reducible refine ⟨?_,?_⟩)<;>(try with_reducible intro hnil)<;>refine hJ _ _ ?_<;>clear hJ J<;>simp only [ak,reduceIte]<;>try subst hnil)))))
 refine qF (Len64 n _ hn) ?_;rintro r st' ⟨rfl,rfl⟩
 (repeat' (first | refine qS ?_ | refine qB ?_ | ((first | refine qK ?_ | refine qX ?_);simp only [ak,reduceIte]) | (refine qR ?_;simp only [ak,reduceIte];simp []) | (refine qC ?_;simp [];(try with_reducible refine ⟨?_,?_⟩)<;>(try with_reducible intro hc)<;>try (exfalso;omega)) | ((first | (refine w_e [] ?_;intro J hJ;simp only []) | (refine w_q ?_;intro J hJ) | refine e_go ?_);simp [];(repeat refine ca ?_);(try ((try with_reducible refine ⟨?_,?_⟩)<;>(try with_reducible intro hnil)<;>refine hJ _ _ ?_<;>clear hJ J<;>simp only [ak,reduceIte]<;>try subst hnil)))))
theorem nextPowerOfTwo (n:Nat) (st:St) (hn:n < 65536):ACalls Tryz.prog 76 [i n] st fun r st'=>r=uw ((2 ^ blen n:Nat):Int)∧st'=st:=by
 have h1:=(blen_at n hn).1
 have w1:IntKind.u64.wrap (n:Int)=(n:Int):=wrap_u64 _ (by omega) (by omega)
 have w2:gshl .u64 1 (blen n)=((2 ^ blen n:Nat):Int):=by
  unfold gshl
  have h2:(2:Nat) ^ blen n≤2 ^ 16:=Nat.pow_le_pow_right (by omega) h1
  have h3:min ((blen n:Int).toNat) IntKind.u64.bits=blen n:=by simp [IntKind.bits];omega
  rw [h3,Int.one_mul]
  rw [show ((2:Int) ^ blen n)=((2 ^ blen n:Nat):Int) by simp]
  generalize (2:Nat) ^ blen n=z at *
  exact wrap_u64 _ (by omega) (by omega)
 refine qO tabOk Tryz.func76 rfl rfl Tryz.ntmps76 (rs:=[.tmp 2]) rfl (by simp) ?_
 (repeat' (first | refine qS ?_ | refine qB ?_ | ((first | refine qK ?_ | refine qX ?_);simp only [ak,reduceIte]) | (refine qR ?_;simp only [ak,reduceIte];simp [w1]) | (refine qC ?_;simp [w1];(try with_reducible refine ⟨?_,?_⟩)<;>(try with_reducible intro hc)<;>try (exfalso;omega)) | ((first | (refine w_e [] ?_;intro J hJ;simp only []) | (refine w_q ?_;intro J hJ) | refine e_go ?_);simp [w1];(repeat refine ca ?_);(try ((try with_reducible refine ⟨?_,?_⟩)<;>(try with_reducible intro hnil)<;>refine hJ _ _ ?_<;>clear hJ J<;>simp only [ak,reduceIte]<;>try subst hnil)))))
 refine qF (Len n _ hn) ?_;rintro r st' ⟨rfl,rfl⟩
 generalize ((2 ^ blen n:Nat):Int)=e2 at *
 (repeat' (first | refine qS ?_ | refine qB ?_ | ((first | refine qK ?_ | refine qX ?_);simp only [ak,reduceIte]) | (refine qR ?_;simp only [ak,reduceIte];simp [w2]) | (refine qC ?_;simp [w2];(try with_reducible refine ⟨?_,?_⟩)<;>(try with_reducible intro hc)<;>try (exfalso;omega)) | ((first | (refine w_e [] ?_;intro J hJ;simp only []) | (refine w_q ?_;intro J hJ) | refine e_go ?_);simp [w2];(repeat refine ca ?_);(try ((try with_reducible refine ⟨?_,?_⟩)<;>(try with_reducible intro hnil)<;>refine hJ _ _ ?_<;>clear hJ J<;>simp only [ak,reduceIte]<;>try subst hnil)))))
abbrev xx (st:St) (p:Nat) (s:Int):St:=st.set p (.box 100 1 [uw s])
theorem xNext (p:Nat) (s:Int) (st:St) (hp:st.H p=.box 100 1 [uw s]):ACalls Tryz.prog 77 [.pt p 0] st fun r st'=>∃ s',r=uw s'∧st'=xx st p s':=by
 refine qO tabOk Tryz.func77 rfl rfl Tryz.ntmps77 (rs:=[.tmp 2]) rfl (by simp) ?_
 (repeat (refine qS ?_));(refine w_e [] ?_;intro J hJ;simp only [];simp [];(repeat refine ca ?_);(try ((try with_reducible refine ⟨?_,?_⟩)<;>(try with_reducible intro hnil)<;>refine hJ _ _ ?_<;>clear hJ J<;>simp only [ak,reduceIte]<;>try subst hnil)))
 (repeat (refine qS ?_));(refine w_s [] [p] [(0,true),(1,true),(2,true),(3,true),(4,true),(5,true),(6,true),(7,true),(8,true),(9,false)] ?_;intro J hJ;simp [hp];(repeat refine ca ?_);(try ((try with_reducible refine ⟨?_,?_⟩)<;>(try with_reducible intro hnil)<;>refine hJ _ _ ?_<;>clear hJ J<;>simp only [ak,reduceIte]<;>try subst hnil)))
 generalize gxor _ _ _=s1
 (repeat (refine qS ?_));(refine w_s [] [p] [(0,true),(1,true),(2,true),(3,true),(4,true),(5,true),(6,true),(7,true),(8,true),(9,false)] ?_;intro J hJ;simp [hp];(repeat refine ca ?_);(try ((try with_reducible refine ⟨?_,?_⟩)<;>(try with_reducible intro hnil)<;>refine hJ _ _ ?_<;>clear hJ J<;>simp only [ak,reduceIte]<;>try subst hnil)))
 generalize gxor _ _ _=s2
 (repeat (refine qS ?_));(refine w_s [] [p] [(0,true),(1,true),(2,true),(3,true),(4,true),(5,true),(6,true),(7,true),(8,true),(9,false)] ?_;intro J hJ;simp [hp];(repeat refine ca ?_);(try ((try with_reducible refine ⟨?_,?_⟩)<;>(try with_reducible intro hnil)<;>refine hJ _ _ ?_<;>clear hJ J<;>simp only [ak,reduceIte]<;>try subst hnil)))
 generalize gxor _ _ _=s3
 (repeat' (first | refine qS ?_ | refine qB ?_ | ((first | refine qK ?_ | refine qX ?_);simp only [ak,reduceIte]) | (refine qR ?_;simp only [ak,reduceIte];simp []) | (refine qC ?_;simp [];(try with_reducible refine ⟨?_,?_⟩)<;>(try with_reducible intro hc)<;>try (exfalso;omega)) | ((first | (refine w_e [] ?_;intro J hJ;simp only []) | (refine w_q ?_;intro J hJ) | refine e_go ?_);simp [];(repeat refine ca ?_);(try ((try with_reducible refine ⟨?_,?_⟩)<;>(try with_reducible intro hnil)<;>refine hJ _ _ ?_<;>clear hJ J<;>simp only [ak,reduceIte]<;>try subst hnil)))))
 rw [St.set_set,St.set_set]
theorem gand_lt (s:Int) (m:Nat) (h0:0 < m) (hm:m≤131072):∃ o:Nat,o < m∧gand .u64 s (((m - 1:Nat)):Int)=(o:Int):=by
 unfold gand
 generalize hx:BitVec.ofInt IntKind.u64.bits s=x
 have h1:(BitVec.ofInt IntKind.u64.bits ((m - 1:Nat):Int)).toNat=m - 1:=by
  rw [BitVec.ofInt_natCast,BitVec.toNat_ofNat]
  show (m - 1) % 2 ^ 64=m - 1
  exact Nat.mod_eq_of_lt (by omega)
 refine ⟨(x &&& BitVec.ofInt IntKind.u64.bits ((m - 1:Nat):Int)).toNat,?_,?_⟩
 ·have h2:(x &&& BitVec.ofInt IntKind.u64.bits ((m - 1:Nat):Int)).toNat≤(BitVec.ofInt IntKind.u64.bits ((m - 1:Nat):Int)).toNat:=by
   rw [BitVec.toNat_and];exact Nat.and_le_right
  omega
 ·have h2:(x &&& BitVec.ofInt IntKind.u64.bits ((m - 1:Nat):Int)).toNat≤(BitVec.ofInt IntKind.u64.bits ((m - 1:Nat):Int)).toNat:=by
   rw [BitVec.toNat_and];exact Nat.and_le_right
  exact wrap_u64 _ (by omega) (by omega)
def OffS (q:Nat) (st st':St):Prop:=st.next≤st'.next∧∀ l,l≠q→l < st.next→st'.H l=st.H l
theorem OffS.refl (q:Nat) (st:St):OffS q st st:=⟨Nat.le_refl _,fun _ _ _=>rfl⟩
theorem OffS.trans {q:Nat} {a b c:St} (h:OffS q a b) (k:OffS q b c):OffS q a c:=⟨Nat.le_trans h.1 k.1,fun l hl hn=>(k.2 l hl (Nat.lt_of_lt_of_le hn h.1)).trans (h.2 l hl hn)⟩
theorem OffS.keeps {q:Nat} {a b c:St} (h:OffS q a b) (k:Keeps b c):OffS q a c:=⟨Nat.le_trans h.1 k.next,fun l hl hn=>(k.H l (Nat.lt_of_lt_of_le hn h.1)).trans (h.2 l hl hn)⟩
theorem OffS.set {q:Nat} {a b:St} (h:OffS q a b) (o:LObj):OffS q a (b.set q o):=⟨h.1,fun l hl hn=>by rw [set_H,if_neg hl];exact h.2 l hl hn⟩
theorem OffS.set' {q p:Nat} {a b:St} (h:OffS q a b) (hp:a.next≤p) (o:LObj):OffS q a (b.set p o):=⟨h.1,fun l hl hn=>by rw [set_H,if_neg (by omega)];exact h.2 l hl hn⟩
theorem _root_.Go.Proofs.YtkcokoefodgigaaGreat.Pl.PartedAt.pmL {c d:List Int} {a m b:Nat} (h:PartedAt c a m b) (k:Pm a m c d):PartedAt d a m b:=by
 unfold PartedAt at h ⊢
 have e:d.getD m 0=c.getD m 0:=k.out m (by omega)
 rw [e]
 refine ⟨fun p h1 h2=>k.all (fun v=>decide (v < c.getD m 0)=true) h.1 p h1 h2,fun p h1 h2=>?_⟩
 rw [k.out p (by omega)];exact h.2 p h1 h2
theorem _root_.Go.Proofs.YtkcokoefodgigaaGreat.Pl.PartedAt.pmR {c d:List Int} {a m b:Nat} (h:PartedAt c a m b) (k:Pm (m+1) b c d):PartedAt d a m b:=by
 unfold PartedAt at h ⊢
 have e:d.getD m 0=c.getD m 0:=k.out m (by omega)
 rw [e]
 refine ⟨fun p h1 h2=>?_,fun p h1 h2=>k.all (fun v=>decide (v < c.getD m 0)=false) (fun j g1 g2=>h.2 j (by omega) g2) p (by omega) h2⟩
 rw [k.out p (by omega)];exact h.1 p h1 h2
theorem _root_.Go.Proofs.YtkcokoefodgigaaGreat.Pl.PartedAt.glue {d:List Int} {a m b:Nat} (h:PartedAt d a m b) (h1:Srt a m d) (h2:Srt (m+1) b d):Srt a b d:=by
 refine srt_glue h1 h2 (fun p g1 g2=>?_) fun q g1 g2=>?_
 ·have:=h.1 p g1 g2;simp only [decide_eq_true_eq] at this;omega
 ·have:=h.2 q g1 g2;simp only [decide_eq_false_iff_not] at this;omega
theorem _root_.Go.Proofs.YtkcokoefodgigaaGreat.Pl.PartedAt.aheadR {d:List Int} {a m b:Nat} (h:PartedAt d a m b):Ahead d (m+1) b:=by
 intro _ j g1 g2
 have:=h.2 j (by omega) g2;simp only [decide_eq_false_iff_not] at this
 rw [Nat.add_sub_cancel];omega
theorem awp_cutR {P:Program} {N:Nat} {Q:AQ} {k:List AItem} {fr:Frm} {st:St} {x y:Code} (I:Frm→St→Prop) (h1:AWp P N x (AK P N (fun e f s=>(e=.normal∧I f s)∨(e=.ret∧AK P N Q k .ret f s)) []) fr st) (h2:∀ fr st,I fr st→AWp P N y (AK P N Q k) fr st):
 AWp P N x (AK P N Q (.code y::k)) fr st:=by
 refine awp_mono h1 ?_
 rintro e fr' st' (⟨rfl,hI⟩ | ⟨rfl,hI⟩)
 ·rw [ak_code]
  exact h2 _ _ hI
 ·rw [ak_code_ret]
  exact hI
theorem awp_cutX {P:Program} {N:Nat} {Q:AQ} {k:List AItem} {fr:Frm} {st:St} {x y:Code} (I:Frm→St→Prop) (h1:AWp P N x (AK P N (fun e f s=>(e=.normal∧I f s)∨(e≠.normal∧AK P N Q k e f s)) []) fr st) (h2:∀ fr st,I fr st→AWp P N y (AK P N Q k) fr st):
 AWp P N x (AK P N Q (.code y::k)) fr st:=by
 refine awp_mono h1 ?_
 rintro e fr' st' (⟨rfl,hI⟩ | ⟨hne,hI⟩)
 ·rw [ak_code]
  exact h2 _ _ hI
 ·cases e<;>first | exact absurd rfl hne | exact hI
end Go.Proofs.YtkcokoefodgigaaGreat.Aw
namespace Go.Proofs.YtkcokoefodgigaaGreat.Aw.CB
open Go Go.RowKit Go.Proofs.YtkcokoefodgigaaGreat.Pl
set_option linter.unusedSimpArgs false
set_option linter.unusedVariables false
structure CmpW (fid:FuncId) (caps:List LV) (en:Int→Nat) (ec:Int→List LV) (Dm:Int→Prop):Prop where
 call:∀ x y st,Dm x→Dm y→ACalls Tryz.prog fid ([.sl 0 (en x) (ec x),.sl 0 (en y) (ec y)]++caps) st fun r st'=>(∃ n,r=i n∧(n < 0↔x < y))∧st'=st
abbrev ws (en:Int→Nat) (ec:Int→List LV) (c:List Int):List LV:=c.map fun x=>.sl 0 (en x) (ec x)
theorem ws_drop (en:Int→Nat) (ec:Int→List LV) (l:List Int) (j:Nat) (hj:j < l.length):(ws en ec l).drop j=.sl 0 (en (l.getD j 0)) (ec (l.getD j 0))::ws en ec (l.drop (j+1)):=by
 rw [getD_lt _ _ hj,ws,ws,← List.map_drop,List.drop_eq_getElem_cons hj];rfl
theorem ws_set (en:Int→Nat) (ec:Int→List LV) (c:List Int) (k:Nat) (x:Int) (hk:k < c.length):(ws en ec c).take k++.sl 0 (en x) (ec x)::(ws en ec c).drop (k+1)=ws en ec (c.set k x):=by
 simp only [ws]
 rw [← List.map_take,← List.map_drop,List.set_eq_take_append_cons_drop,if_pos hk]
 simp
theorem dm_get {Dm:Int→Prop} {l:List Int} (h:∀ x∈l,Dm x) {k:Nat} (hk:k < l.length):Dm (l.getD k 0):=h _ (by rw [getD_lt _ _ hk];exact List.getElem_mem _)
theorem dm_pm {Dm:Int→Prop} {a b:Nat} {l c:List Int} (h:∀ x∈l,Dm x) (k:Pm a b l c):∀ x∈c,Dm x:=fun x hx=>h x (k.perm.mem_iff.1 hx)
abbrev bx (en:Int→Nat) (ec:Int→List LV) (st:St) (q:Nat) (c:List Int):St:=st.set q (.box 23 1 (ws en ec c))
theorem bx_self {en:Int→Nat} {ec:Int→List LV} {st:St} {q:Nat} {c:List Int} (h:st.H q=.box 23 1 (ws en ec c)):st=bx en ec st q c:=
 St.ext' rfl fun x=>by by_cases hx:x=q<;>simp [hx,h]
theorem bx_sw (en:Int→Nat) (ec:Int→List LV) (st:St) (q:Nat) (c:List Int) (k m:Nat) {x y:Int} (hk:k < c.length) (hm:m < c.length) (hx:c.getD k 0=x) (hy:c.getD m 0=y):
 ((bx en ec st q c).set q (.box 23 1 (List.take k (ws en ec c)++.sl 0 (en y) (ec y)::List.drop (k+1) (ws en ec c)))).set q
   (.box 23 1 (List.take m (List.take k (ws en ec c)++.sl 0 (en y) (ec y)::List.drop (k+1) (ws en ec c))++.sl 0 (en x) (ec x)::List.drop (m+1) (List.take k (ws en ec c)++.sl 0 (en y) (ec y)::List.drop (k+1) (ws en ec c))))=bx en ec st q (sw c k m):=by
 have e:List.take k (ws en ec c)++.sl 0 (en y) (ec y)::List.drop (k+1) (ws en ec c)=ws en ec (c.set k y):=ws_set en ec c k y hk
 rw [e,ws_set en ec (c.set k y) m x (by simpa using hm)]
 unfold bx sw
 rw [hx,hy]
 exact St.ext' rfl fun z=>by by_cases hz:z=q<;>simp [hz]
theorem insertionSort {fid:FuncId} {caps:List LV} {en:Int→Nat} {ec:Int→List LV} {Dm:Int→Prop} (hC:CmpW fid caps en ec Dm) (l:List Int) (q a b:Nat) (st:St) (hD:∀ x∈l,Dm x) (hl:small l) (ha:a≤b) (hb:b≤l.length) (hH:st.H q=.box 23 1 (ws en ec l)):
 ACalls Tryz.prog 48 [.ms q 0 l.length,i a,i b,.fn (.func fid) caps] st fun r st'=>∃ c,st'=bx en ec st q c∧Pm a b l c∧Srt a b c:=by
 unfold small at hl
 refine qO tabOk Tryz.func48 rfl rfl Tryz.ntmps48 (rs:=[]) rfl (by simp) ?_
 have hw0:=qN a (by omega)
 (repeat' (first | refine qS ?_ | refine qB ?_ | ((first | refine qK ?_ | refine qX ?_);simp only [ak,reduceIte]) | (refine qR ?_;simp only [ak,reduceIte];simp [hw0]) | (refine qC ?_;simp [hw0];(try with_reducible refine ⟨?_,?_⟩)<;>(try with_reducible intro hc)<;>try (exfalso;omega)) | ((first | (refine w_e [] ?_;intro J hJ;simp only []) | (refine w_q ?_;intro J hJ) | refine e_go ?_);simp [hw0];(repeat refine ca ?_);(try ((try with_reducible refine ⟨?_,?_⟩)<;>(try with_reducible intro hnil)<;>refine hJ _ _ ?_<;>clear hJ J<;>simp only [ak,reduceIte]<;>try subst hnil)))))
 refine qL (fun n fr st'=>∃ (k:Nat) (c:List Int),a < k∧n=b - k∧(fr 0=.ms q 0 l.length∧fr 3=.fn (.func fid) caps)∧fr 1=i a∧fr 2=i b∧fr 8=i k∧st'=bx en ec st q c∧Pm a b l c∧Srt a k c) (b - (a+1)) ?_ ?_
 ·exact ⟨a+1,l,by omega,rfl,by simp,by simp,by simp,by simp,bx_self hH,.refl,fun p q h1 h2 h3=>by omega⟩
 rintro n fr st1 ⟨k,c,hak,rfl,⟨f0,fC⟩,f1,f2,f6,rfl,hpm,hs⟩ JJ hJJ
 have hcl:=hpm.len
 have hDc:=dm_pm hD hpm
 by_cases hlt:k < b
 rotate_left
 ·clear hJJ
  have hlt':¬ (k:Int) < (b:Int):=by omega
  (repeat' (first | refine qS ?_ | refine qB ?_ | ((first | refine qK ?_ | refine qX ?_);simp only [ak,reduceIte]) | (refine qR ?_;simp only [ak,reduceIte];simp [f0,fC,f1,f2,f6,hlt]) | (refine qC ?_;simp [f0,fC,f1,f2,f6,hlt];(try with_reducible refine ⟨?_,?_⟩)<;>(try with_reducible intro hc)<;>try (exfalso;omega)) | ((first | (refine w_e [] ?_;intro J hJ;simp only []) | (refine w_q ?_;intro J hJ) | refine e_go ?_);simp [f0,fC,f1,f2,f6,hlt];(repeat refine ca ?_);(try ((try with_reducible refine ⟨?_,?_⟩)<;>(try with_reducible intro hnil)<;>refine hJ _ _ ?_<;>clear hJ J<;>simp only [ak,reduceIte]<;>try subst hnil)))))
  exact ⟨trivial,c,rfl,hpm,fun p q h1 h2 h3=>hs p q h1 h2 (by omega)⟩
 have hw1:=qN k (by omega)
 (repeat' (first | refine qS ?_ | refine qB ?_ | ((first | refine qK ?_ | refine qX ?_);simp only [ak,reduceIte]) | (refine qR ?_;simp only [ak,reduceIte];simp [f0,fC,f1,f2,f6,hlt]) | (refine qC ?_;simp [f0,fC,f1,f2,f6,hlt];(try with_reducible refine ⟨?_,?_⟩)<;>(try with_reducible intro hc)<;>try (exfalso;omega)) | ((first | (refine w_e [] ?_;intro J hJ;simp only []) | (refine w_q ?_;intro J hJ) | refine e_go ?_);simp [f0,fC,f1,f2,f6,hlt];(repeat refine ca ?_);(try ((try with_reducible refine ⟨?_,?_⟩)<;>(try with_reducible intro hnil)<;>refine hJ _ _ ?_<;>clear hJ J<;>simp only [ak,reduceIte]<;>try subst hnil)))))
 refine qL (fun n fr st'=>∃ (j:Nat) (c:List Int),a≤j∧j≤k∧j=n∧(fr 0=.ms q 0 l.length∧fr 3=.fn (.func fid) caps)∧fr 1=i a∧fr 2=i b∧fr 8=i k∧fr 9=i j∧st'=bx en ec st q c∧Pm a b l c∧Ins a j k c) k ?_ ?_
 ·exact ⟨k,c,by omega,by omega,rfl,by simp [f0,fC],by simp [f1],by simp [f2],by simp [f6],by simp,rfl,hpm,hs.ins⟩
 clear f0 fC f1 f2 f6 hs hpm hcl hDc c fr
 rintro n fr st1 ⟨j,c,haj,hjk,rfl,⟨f0,fC⟩,f1,f2,f6,f7,rfl,hpm,hI⟩ JJ2 hJ2
 have hcl:=hpm.len
 have hDc:=dm_pm hD hpm
 by_cases hj:a < j
 rotate_left
 ·clear hJ2
  have hj':¬ (a:Int) < (j:Int):=by omega
  (repeat (refine qS ?_));(refine w_s [] [q] [(0,true),(1,true),(2,true),(3,true),(4,true),(5,true),(6,true),(7,true),(8,true),(9,true),(10,true),(11,true),(12,true),(13,true),(14,false),(15,true),(16,true)] ?_;intro J hJ;simp [f0,fC,f1,f2,f6,f7,hj];(repeat refine ca ?_);(try ((try with_reducible refine ⟨?_,?_⟩)<;>(try with_reducible intro hnil)<;>refine hJ _ _ ?_<;>clear hJ J<;>simp only [ak,reduceIte]<;>try subst hnil)))
  (repeat' (first | refine qS ?_ | refine qB ?_ | ((first | refine qK ?_ | refine qX ?_);simp only [ak,reduceIte]) | (refine qR ?_;simp only [ak,reduceIte];simp [f6,hw1]) | (refine qC ?_;simp [f6,hw1];(try with_reducible refine ⟨?_,?_⟩)<;>(try with_reducible intro hc)<;>try (exfalso;omega)) | ((first | (refine w_e [] ?_;intro J hJ;simp only []) | (refine w_q ?_;intro J hJ) | refine e_go ?_);simp [f6,hw1];(repeat refine ca ?_);(try ((try with_reducible refine ⟨?_,?_⟩)<;>(try with_reducible intro hnil)<;>refine hJ _ _ ?_<;>clear hJ J<;>simp only [ak,reduceIte]<;>try subst hnil)))))
  exact hJJ (b - (k+1)) _ _ (by omega) ⟨k+1,c,by omega,rfl,by simp [f0,fC],by simp [f1],by simp [f2],by simp,rfl,hpm,hI.done haj (.inl (by omega))⟩
 have hw2:=nat_sub_one j (by omega) (by omega)
 have hjl:j < l.length:=by omega
 have hjl1:j - 1 < l.length:=by omega
 have hd:=ws_drop en ec c j (by omega)
 have hd2:=ws_drop en ec c (j - 1) (by omega)
 have hI1:=hI.step hj hjk (by omega)
 have hI2:=hI.done haj
 have hpm1:=hpm.step j (j - 1) (by omega) (by omega) (by omega) (by omega) (by omega)
 generalize hx:c.getD j 0=x at *
 generalize hy:c.getD (j - 1) 0=y at *
 (repeat (refine qS ?_));(refine w_s [] [q] [(0,true),(1,true),(2,true),(3,true),(4,true),(5,true),(6,true),(7,true),(8,true),(9,true),(10,true),(11,true),(12,true),(13,true),(14,false),(15,true),(16,true)] ?_;intro J hJ;simp [f0,fC,f1,f2,f6,f7,hj,hw2,hjl,hjl1,hcl,hd,hd2];(repeat refine ca ?_);(try ((try with_reducible refine ⟨?_,?_⟩)<;>(try with_reducible intro hnil)<;>refine hJ _ _ ?_<;>clear hJ J<;>simp only [ak,reduceIte]<;>try subst hnil)))
 refine dcallK_of (hC.call x y _ (by first | assumption | (subst_vars;exact dm_get (by assumption) (by omega))) (by first | assumption | (subst_vars;exact dm_get (by assumption) (by omega)))) ?_;rintro r s2 ⟨⟨nv,rfl,hnv⟩,rfl⟩
 refine ⟨fun _=>by simp,?_⟩
 by_cases hcd:x < y
 rotate_left
 ·clear hJ2
  (refine d_go ?_;simp [hnv,hcd];(repeat refine ca ?_);(try ((try with_reducible refine ⟨?_,?_⟩)<;>(try with_reducible intro hnil)<;>refine hJ _ _ ?_<;>clear hJ J<;>simp only [ak,reduceIte]<;>try subst hnil)))
  (repeat' (first | refine qS ?_ | refine qB ?_ | ((first | refine qK ?_ | refine qX ?_);simp only [ak,reduceIte]) | (refine qR ?_;simp only [ak,reduceIte];simp [f6,hw1]) | (refine qC ?_;simp [f6,hw1];(try with_reducible refine ⟨?_,?_⟩)<;>(try with_reducible intro hc)<;>try (exfalso;omega)) | ((first | (refine w_e [] ?_;intro J hJ;simp only []) | (refine w_q ?_;intro J hJ) | refine e_go ?_);simp [f6,hw1];(repeat refine ca ?_);(try ((try with_reducible refine ⟨?_,?_⟩)<;>(try with_reducible intro hnil)<;>refine hJ _ _ ?_<;>clear hJ J<;>simp only [ak,reduceIte]<;>try subst hnil)))))
  exact hJJ (b - (k+1)) _ _ (by omega) ⟨k+1,c,by omega,rfl,by simp [f0,fC],by simp [f1],by simp [f2],by simp,rfl,hpm,hI2 (.inr hcd)⟩
 clear hJJ
 (refine d_go ?_;simp [hnv,hcd];(repeat refine ca ?_);(try ((try with_reducible refine ⟨?_,?_⟩)<;>(try with_reducible intro hnil)<;>refine hJ _ _ ?_<;>clear hJ J<;>simp only [ak,reduceIte]<;>try subst hnil)))
 (repeat' (first | refine qS ?_ | refine qB ?_ | ((first | refine qK ?_ | refine qX ?_);simp only [ak,reduceIte]) | (refine qR ?_;simp only [ak,reduceIte];simp []) | (refine qC ?_;simp [];(try with_reducible refine ⟨?_,?_⟩)<;>(try with_reducible intro hc)<;>try (exfalso;omega)) | ((first | (refine w_e [] ?_;intro J hJ;simp only []) | (refine w_q ?_;intro J hJ) | refine e_go ?_);simp [];(repeat refine ca ?_);(try ((try with_reducible refine ⟨?_,?_⟩)<;>(try with_reducible intro hnil)<;>refine hJ _ _ ?_<;>clear hJ J<;>simp only [ak,reduceIte]<;>try subst hnil)))))
 (refine w_s [] [q] [(0,true),(1,true),(2,true),(3,true),(4,true),(5,true),(6,true),(7,true),(8,true),(9,true),(10,true),(11,true),(12,true),(13,true),(14,true),(15,false),(16,true),(17,false)] ?_;intro J hJ;simp [f0,fC,f1,f2,f6,f7,hw2,hjl,hjl1,hcl,hd,hd2];(repeat refine ca ?_);(try ((try with_reducible refine ⟨?_,?_⟩)<;>(try with_reducible intro hnil)<;>refine hJ _ _ ?_<;>clear hJ J<;>simp only [ak,reduceIte]<;>try subst hnil)))
 (repeat' (first | refine qS ?_ | refine qB ?_ | ((first | refine qK ?_ | refine qX ?_);simp only [ak,reduceIte]) | (refine qR ?_;simp only [ak,reduceIte];simp [f7,hw2]) | (refine qC ?_;simp [f7,hw2];(try with_reducible refine ⟨?_,?_⟩)<;>(try with_reducible intro hc)<;>try (exfalso;omega)) | ((first | (refine w_e [] ?_;intro J hJ;simp only []) | (refine w_q ?_;intro J hJ) | refine e_go ?_);simp [f7,hw2];(repeat refine ca ?_);(try ((try with_reducible refine ⟨?_,?_⟩)<;>(try with_reducible intro hnil)<;>refine hJ _ _ ?_<;>clear hJ J<;>simp only [ak,reduceIte]<;>try subst hnil)))))
 exact hJ2 (j - 1) _ _ (by omega) ⟨j - 1,sw c j (j - 1),by omega,by omega,rfl,by simp [f0,fC],by simp [f1],by simp [f2],by simp [f6],by simp,bx_sw en ec st q c j (j - 1) (by omega) (by omega) hx hy,hpm1,hI1 hcd⟩
theorem reverseRange {fid:FuncId} {caps:List LV} {en:Int→Nat} {ec:Int→List LV} {Dm:Int→Prop} (hC:CmpW fid caps en ec Dm) (l:List Int) (q a b:Nat) (st:St) (hD:∀ x∈l,Dm x) (hl:small l) (ha:a≤b) (hb:b≤l.length) (h0:0 < b) (hH:st.H q=.box 23 1 (ws en ec l)):
 ACalls Tryz.prog 52 [.ms q 0 l.length,i a,i b,.fn (.func fid) caps] st fun r st'=>∃ c,st'=bx en ec st q c∧Pm a b l c:=by
 unfold small at hl
 refine qO tabOk Tryz.func52 rfl rfl Tryz.ntmps52 (rs:=[]) rfl (by simp) ?_
 have hw0:=nat_sub_one b (by omega) (by omega)
 (repeat' (first | refine qS ?_ | refine qB ?_ | ((first | refine qK ?_ | refine qX ?_);simp only [ak,reduceIte]) | (refine qR ?_;simp only [ak,reduceIte];simp [hw0]) | (refine qC ?_;simp [hw0];(try with_reducible refine ⟨?_,?_⟩)<;>(try with_reducible intro hc)<;>try (exfalso;omega)) | ((first | (refine w_e [] ?_;intro J hJ;simp only []) | (refine w_q ?_;intro J hJ) | refine e_go ?_);simp [hw0];(repeat refine ca ?_);(try ((try with_reducible refine ⟨?_,?_⟩)<;>(try with_reducible intro hnil)<;>refine hJ _ _ ?_<;>clear hJ J<;>simp only [ak,reduceIte]<;>try subst hnil)))))
 refine qL (fun n fr st'=>∃ (k m:Nat) (c:List Int),a≤k∧m < b∧m=n∧(fr 0=.ms q 0 l.length∧fr 3=.fn (.func fid) caps)∧fr 8=i k∧fr 9=i m∧st'=bx en ec st q c∧Pm a b l c) (b - 1) ?_ ?_
 ·exact ⟨a,b - 1,l,by omega,by omega,rfl,by simp,by simp,by simp,bx_self hH,.refl⟩
 rintro n fr st1 ⟨k,m,c,hak,hmb,rfl,⟨f0,fC⟩,f6,f7,rfl,hpm⟩ JJ hJJ
 have hcl:=hpm.len
 have hDc:=dm_pm hD hpm
 by_cases hlt:k < m
 rotate_left
 ·clear hJJ
  (repeat' (first | refine qS ?_ | refine qB ?_ | ((first | refine qK ?_ | refine qX ?_);simp only [ak,reduceIte]) | (refine qR ?_;simp only [ak,reduceIte];simp [f0,fC,f6,f7,hlt]) | (refine qC ?_;simp [f0,fC,f6,f7,hlt];(try with_reducible refine ⟨?_,?_⟩)<;>(try with_reducible intro hc)<;>try (exfalso;omega)) | ((first | (refine w_e [] ?_;intro J hJ;simp only []) | (refine w_q ?_;intro J hJ) | refine e_go ?_);simp [f0,fC,f6,f7,hlt];(repeat refine ca ?_);(try ((try with_reducible refine ⟨?_,?_⟩)<;>(try with_reducible intro hnil)<;>refine hJ _ _ ?_<;>clear hJ J<;>simp only [ak,reduceIte]<;>try subst hnil)))))
  exact ⟨trivial,c,rfl,hpm⟩
 have hw1:=qN k (by omega)
 have hw2:=nat_sub_one m (by omega) (by omega)
 have hkl:k < l.length:=by omega
 have hml:m < l.length:=by omega
 have hd:=ws_drop en ec c k (by omega)
 have hd2:=ws_drop en ec c m (by omega)
 have hpm1:=hpm.step k m (by omega) (by omega) (by omega) (by omega) (by omega)
 generalize hx:c.getD k 0=x at *
 generalize hy:c.getD m 0=y at *
 (repeat' (first | refine qS ?_ | refine qB ?_ | ((first | refine qK ?_ | refine qX ?_);simp only [ak,reduceIte]) | (refine qR ?_;simp only [ak,reduceIte];simp [f0,fC,f6,f7,hlt]) | (refine qC ?_;simp [f0,fC,f6,f7,hlt];(try with_reducible refine ⟨?_,?_⟩)<;>(try with_reducible intro hc)<;>try (exfalso;omega)) | ((first | (refine w_e [] ?_;intro J hJ;simp only []) | (refine w_q ?_;intro J hJ) | refine e_go ?_);simp [f0,fC,f6,f7,hlt];(repeat refine ca ?_);(try ((try with_reducible refine ⟨?_,?_⟩)<;>(try with_reducible intro hnil)<;>refine hJ _ _ ?_<;>clear hJ J<;>simp only [ak,reduceIte]<;>try subst hnil)))))
 (refine w_s [] [q] [(0,true),(1,true),(2,true),(3,true),(4,true),(5,true),(6,true),(7,true),(8,true),(9,true),(10,true),(11,true),(12,true),(13,false),(14,true),(15,false)] ?_;intro J hJ;simp [f0,fC,f6,f7,hkl,hml,hcl,hd,hd2];(repeat refine ca ?_);(try ((try with_reducible refine ⟨?_,?_⟩)<;>(try with_reducible intro hnil)<;>refine hJ _ _ ?_<;>clear hJ J<;>simp only [ak,reduceIte]<;>try subst hnil)))
 (repeat' (first | refine qS ?_ | refine qB ?_ | ((first | refine qK ?_ | refine qX ?_);simp only [ak,reduceIte]) | (refine qR ?_;simp only [ak,reduceIte];simp [f6,f7,hw1,hw2]) | (refine qC ?_;simp [f6,f7,hw1,hw2];(try with_reducible refine ⟨?_,?_⟩)<;>(try with_reducible intro hc)<;>try (exfalso;omega)) | ((first | (refine w_e [] ?_;intro J hJ;simp only []) | (refine w_q ?_;intro J hJ) | refine e_go ?_);simp [f6,f7,hw1,hw2];(repeat refine ca ?_);(try ((try with_reducible refine ⟨?_,?_⟩)<;>(try with_reducible intro hnil)<;>refine hJ _ _ ?_<;>clear hJ J<;>simp only [ak,reduceIte]<;>try subst hnil)))))
 exact hJJ (m - 1) _ _ (by omega) ⟨k+1,m - 1,sw c k m,by omega,by omega,rfl,by simp [f0,fC],by simp,by simp,bx_sw en ec st q c k m (by omega) (by omega) hx hy,hpm1⟩
theorem awp_cut1 {P:Program} {N:Nat} {Q:AQ} {k:List AItem} {fr:Frm} {st:St} {x y:Code} (I:Frm→St→Prop) (h1:AWp P N x (AK P N (fun e f s=>e=.normal∧I f s) []) fr st) (h2:∀ fr st,I fr st→AWp P N y (AK P N Q k) fr st):
 AWp P N x (AK P N Q (.code y::k)) fr st:=by
 refine awp_mono h1 ?_
 rintro e fr' st' ⟨rfl,hI⟩
 rw [ak_code]
 exact h2 _ _ hI
theorem bx_sw' (en:Int→Nat) (ec:Int→List LV) (st:St) (q:Nat) (c:List Int) (k m:Nat) {x y:Int} (hk:k < c.length) (hm:m < c.length) (hx:c.getD k 0=x) (hy:c.getD m 0=y):
 (st.set q (.box 23 1 (List.take k (ws en ec c)++.sl 0 (en y) (ec y)::List.drop (k+1) (ws en ec c)))).set q
   (.box 23 1 (List.take m (List.take k (ws en ec c)++.sl 0 (en y) (ec y)::List.drop (k+1) (ws en ec c))++.sl 0 (en x) (ec x)::List.drop (m+1) (List.take k (ws en ec c)++.sl 0 (en y) (ec y)::List.drop (k+1) (ws en ec c))))=bx en ec st q (sw c k m):=by
 rw [← bx_sw en ec st q c k m hk hm hx hy]
 exact St.ext' rfl fun z=>by by_cases hz:z=q<;>simp [hz]
theorem awp_cut2 {P:Program} {N:Nat} {Q:AQ} {k:List AItem} {fr:Frm} {st:St} {x y z:Code} (I:Frm→St→Prop) (h1:AWp P N x (AK P N (fun e f s=>e=.normal∧I f s) [.code y]) fr st) (h2:∀ fr st,I fr st→AWp P N z (AK P N Q k) fr st):
 AWp P N x (AK P N Q (.code y::.code z::k)) fr st:=by
 refine awp_mono h1 ?_
 rintro e fr' st' h
 cases e with
 | normal=>
   rw [ak_code] at h ⊢
   refine awp_mono h ?_
   rintro e fr2 st2 ⟨rfl,h⟩
   rw [ak_code]
   exact h2 _ _ h
 | _=>exact absurd h.1 (by simp)
def MaxC (c:List Int) (f r hi ch:Nat):Prop:=∀ x,(x=2 * r+1∨x=2 * r+2)→x < hi→c.getD (f+x) 0≤c.getD (f+ch) 0
theorem siftDown {fid:FuncId} {caps:List LV} {en:Int→Nat} {ec:Int→List LV} {Dm:Int→Prop} (hC:CmpW fid caps en ec Dm) (l:List Int) (q lo hi f:Nat) (st:St) (hD:∀ x∈l,Dm x) (hl:small l) (hb:f+hi≤l.length) (hlo:lo≤l.length) (hh:Heap (lo+1) hi f l) (hH:st.H q=.box 23 1 (ws en ec l)):
 ACalls Tryz.prog 75 [.ms q 0 l.length,i lo,i hi,i f,.fn (.func fid) caps] st fun r st'=>∃ c,st'=bx en ec st q c∧Pm (f+lo) (f+hi) l c∧Heap lo hi f c:=by
 unfold small at hl
 refine qO tabOk Tryz.func75 rfl rfl Tryz.ntmps75 (rs:=[]) rfl (by simp) ?_
 (repeat' (first | refine qS ?_ | refine qB ?_ | ((first | refine qK ?_ | refine qX ?_);simp only [ak,reduceIte]) | (refine qR ?_;simp only [ak,reduceIte];simp []) | (refine qC ?_;simp [];(try with_reducible refine ⟨?_,?_⟩)<;>(try with_reducible intro hc)<;>try (exfalso;omega)) | ((first | (refine w_e [] ?_;intro J hJ;simp only []) | (refine w_q ?_;intro J hJ) | refine e_go ?_);simp [];(repeat refine ca ?_);(try ((try with_reducible refine ⟨?_,?_⟩)<;>(try with_reducible intro hnil)<;>refine hJ _ _ ?_<;>clear hJ J<;>simp only [ak,reduceIte]<;>try subst hnil)))))
 refine qL (fun n fr st'=>∃ (r:Nat) (c:List Int),lo≤r∧r≤l.length∧n=hi - r∧(fr 0=.ms q 0 l.length∧fr 4=.fn (.func fid) caps)∧fr 2=i hi∧fr 3=i f∧fr 10=i r∧st'=bx en ec st q c∧Pm (f+lo) (f+hi) l c∧HeapX lo hi f r c) (hi - lo) ?_ ?_
 ·exact ⟨lo,l,Nat.le_refl _,hlo,rfl,by simp,by simp,by simp,by simp,bx_self hH,.refl,hh.x⟩
 rintro n fr st1 ⟨r,c,hlr,hrl,rfl,⟨f0,fC⟩,f2,f3,f8,rfl,hpm,hX⟩ JJ hJJ
 have hcl:=hpm.len
 have hDc:=dm_pm hD hpm
 obtain ⟨m,hm⟩:∃ m:Nat,m=2 * r+1:=⟨_,rfl⟩
 obtain ⟨m2,hm2⟩:∃ m:Nat,m=2 * r+2:=⟨_,rfl⟩
 have w1:IntKind.i64.wrap (2 * (r:Int))=2 * (r:Int):=wrap_i64 _ (by omega) (by omega)
 have w2:IntKind.i64.wrap (2 * (r:Int)+1)=(m:Int):=by rw [wrap_i64 _ (by omega) (by omega)];omega
 have w3:IntKind.i64.wrap ((m:Int)+1)=(m2:Int):=by rw [wrap_i64 _ (by omega) (by omega)];omega
 by_cases hmh:hi≤m
 ·clear hJJ
  (repeat' (first | refine qS ?_ | refine qB ?_ | ((first | refine qK ?_ | refine qX ?_);simp only [ak,reduceIte]) | (refine qR ?_;simp only [ak,reduceIte];simp [f0,fC,f2,f3,f8,w1,w2,hmh]) | (refine qC ?_;simp [f0,fC,f2,f3,f8,w1,w2,hmh];(try with_reducible refine ⟨?_,?_⟩)<;>(try with_reducible intro hc)<;>try (exfalso;omega)) | ((first | (refine w_e [] ?_;intro J hJ;simp only []) | (refine w_q ?_;intro J hJ) | refine e_go ?_);simp [f0,fC,f2,f3,f8,w1,w2,hmh];(repeat refine ca ?_);(try ((try with_reducible refine ⟨?_,?_⟩)<;>(try with_reducible intro hnil)<;>refine hJ _ _ ?_<;>clear hJ J<;>simp only [ak,reduceIte]<;>try subst hnil)))))
  exact ⟨trivial,c,rfl,hpm,hX.leaf (by omega)⟩
 obtain ⟨x1,hx1⟩:∃ x:Nat,x=f+m:=⟨_,rfl⟩
 obtain ⟨x2,hx2⟩:∃ x:Nat,x=f+m2:=⟨_,rfl⟩
 obtain ⟨x0,hx0⟩:∃ x:Nat,x=f+r:=⟨_,rfl⟩
 have w4:IntKind.i64.wrap ((f:Int)+(m:Int))=(x1:Int):=by rw [wrap_i64 _ (by omega) (by omega)];omega
 have w5:IntKind.i64.wrap ((x1:Int)+1)=(x2:Int):=by rw [wrap_i64 _ (by omega) (by omega)];omega
 have w6:IntKind.i64.wrap ((f:Int)+(r:Int))=(x0:Int):=by rw [wrap_i64 _ (by omega) (by omega)];omega
 (repeat' (first | refine qS ?_ | refine qB ?_ | ((first | refine qK ?_ | refine qX ?_);simp only [ak,reduceIte]) | (refine qR ?_;simp only [ak,reduceIte];simp [f0,fC,f2,f3,f8,w1,w2,hmh]) | ((first | (refine w_e [] ?_;intro J hJ;simp only []) | (refine w_q ?_;intro J hJ) | refine e_go ?_);simp [f0,fC,f2,f3,f8,w1,w2,hmh];(repeat refine ca ?_);(try ((try with_reducible refine ⟨?_,?_⟩)<;>(try with_reducible intro hnil)<;>refine hJ _ _ ?_<;>clear hJ J<;>simp only [ak,reduceIte]<;>try subst hnil)))))
 (refine qC ?_;simp [];(try with_reducible refine ⟨?_,?_⟩)<;>(try with_reducible intro hc)<;>try (exfalso;omega))
 (repeat' (first | refine qS ?_ | refine qB ?_ | ((first | refine qK ?_ | refine qX ?_);simp only [ak,reduceIte]) | (refine qR ?_;simp only [ak,reduceIte];simp []) | ((first | (refine w_e [] ?_;intro J hJ;simp only []) | (refine w_q ?_;intro J hJ) | refine e_go ?_);simp [];(repeat refine ca ?_);(try ((try with_reducible refine ⟨?_,?_⟩)<;>(try with_reducible intro hnil)<;>refine hJ _ _ ?_<;>clear hJ J<;>simp only [ak,reduceIte]<;>try subst hnil)))))
 refine awp_cut2 (fun fr2 st2=>st2=bx en ec st q c∧(fr2 0=.ms q 0 l.length∧fr2 4=.fn (.func fid) caps)∧fr2 2=i hi∧fr2 3=i f∧fr2 10=i r∧∃ ch:Nat,fr2 11=i ch∧(ch=2 * r+1∨ch=2 * r+2)∧ch < hi∧MaxC c f r hi ch) ?_ ?_
 ·by_cases h2h:m2 < hi
  rotate_left
  ·(refine w_s [] [q] [(0,true),(1,true),(2,true),(3,true),(4,true),(5,true),(6,true),(7,true),(8,true),(9,true),(10,true),(11,true),(12,true),(13,true),(14,true),(15,true),(16,true),(17,true),(18,true),(19,false),(20,true),(21,true)] ?_;intro J hJ;simp [f0,fC,f2,f3,f8,w3,h2h];(repeat refine ca ?_);(try ((try with_reducible refine ⟨?_,?_⟩)<;>(try with_reducible intro hnil)<;>refine hJ _ _ ?_<;>clear hJ J<;>simp only [ak,reduceIte]<;>try subst hnil)))
   (repeat' (first | refine qS ?_ | refine qB ?_ | ((first | refine qK ?_ | refine qX ?_);simp only [ak,reduceIte]) | (refine qR ?_;simp only [ak,reduceIte];simp [f0,fC]) | (refine qC ?_;simp [f0,fC];(try with_reducible refine ⟨?_,?_⟩)<;>(try with_reducible intro hc)<;>try (exfalso;omega)) | ((first | (refine w_e [] ?_;intro J hJ;simp only []) | (refine w_q ?_;intro J hJ) | refine e_go ?_);simp [f0,fC];(repeat refine ca ?_);(try ((try with_reducible refine ⟨?_,?_⟩)<;>(try with_reducible intro hnil)<;>refine hJ _ _ ?_<;>clear hJ J<;>simp only [ak,reduceIte]<;>try subst hnil)))))
   refine ⟨trivial,trivial,by simp [f0,fC],by simp [f2],by simp [f3],by simp [f8],m,by simp,by omega,by omega,fun x h1 h2=>?_⟩
   rw [show x=m by omega];exact Int.le_refl _
  have hd1:=ws_drop en ec c x1 (by omega)
  have hd2:=ws_drop en ec c x2 (by omega)
  have hl1:x1 < l.length:=by omega
  have hl2:x2 < l.length:=by omega
  generalize hy1:c.getD x1 0=y1 at *
  generalize hy2:c.getD x2 0=y2 at *
  (refine w_s [] [q] [(0,true),(1,true),(2,true),(3,true),(4,true),(5,true),(6,true),(7,true),(8,true),(9,true),(10,true),(11,true),(12,true),(13,true),(14,true),(15,true),(16,true),(17,true),(18,true),(19,false),(20,true),(21,true)] ?_;intro J hJ;simp [f0,fC,f2,f3,f8,w3,w4,w5,h2h,hl1,hl2,hcl,hd1,hd2];(repeat refine ca ?_);(try ((try with_reducible refine ⟨?_,?_⟩)<;>(try with_reducible intro hnil)<;>refine hJ _ _ ?_<;>clear hJ J<;>simp only [ak,reduceIte]<;>try subst hnil)))
  refine dcallK_of (hC.call y1 y2 _ (by first | assumption | (subst_vars;exact dm_get (by assumption) (by omega))) (by first | assumption | (subst_vars;exact dm_get (by assumption) (by omega)))) ?_;rintro r1 s2 ⟨⟨nv,rfl,hnv⟩,rfl⟩
  refine ⟨fun _=>by simp,?_⟩
  by_cases hyy:y1 < y2
  ·(refine d_go ?_;simp [hnv,hyy];(repeat refine ca ?_);(try ((try with_reducible refine ⟨?_,?_⟩)<;>(try with_reducible intro hnil)<;>refine hJ _ _ ?_<;>clear hJ J<;>simp only [ak,reduceIte]<;>try subst hnil)))
   (repeat' (first | refine qS ?_ | refine qB ?_ | ((first | refine qK ?_ | refine qX ?_);simp only [ak,reduceIte]) | (refine qR ?_;simp only [ak,reduceIte];simp [w3]) | (refine qC ?_;simp [w3];(try with_reducible refine ⟨?_,?_⟩)<;>(try with_reducible intro hc)<;>try (exfalso;omega)) | ((first | (refine w_e [] ?_;intro J hJ;simp only []) | (refine w_q ?_;intro J hJ) | refine e_go ?_);simp [w3];(repeat refine ca ?_);(try ((try with_reducible refine ⟨?_,?_⟩)<;>(try with_reducible intro hnil)<;>refine hJ _ _ ?_<;>clear hJ J<;>simp only [ak,reduceIte]<;>try subst hnil)))))
   refine ⟨trivial,trivial,by simp [f0,fC],by simp [f2],by simp [f3],by simp [f8],m2,by simp,by omega,by omega,fun x h1 h2=>?_⟩
   rcases (show x=m∨x=m2 by omega) with rfl | rfl
   ·rw [← hx1,← hx2,hy1,hy2];omega
   ·exact Int.le_refl _
  ·(refine d_go ?_;simp [hnv,hyy];(repeat refine ca ?_);(try ((try with_reducible refine ⟨?_,?_⟩)<;>(try with_reducible intro hnil)<;>refine hJ _ _ ?_<;>clear hJ J<;>simp only [ak,reduceIte]<;>try subst hnil)))
   (repeat' (first | refine qS ?_ | refine qB ?_ | ((first | refine qK ?_ | refine qX ?_);simp only [ak,reduceIte]) | (refine qR ?_;simp only [ak,reduceIte];simp []) | (refine qC ?_;simp [];(try with_reducible refine ⟨?_,?_⟩)<;>(try with_reducible intro hc)<;>try (exfalso;omega)) | ((first | (refine w_e [] ?_;intro J hJ;simp only []) | (refine w_q ?_;intro J hJ) | refine e_go ?_);simp [];(repeat refine ca ?_);(try ((try with_reducible refine ⟨?_,?_⟩)<;>(try with_reducible intro hnil)<;>refine hJ _ _ ?_<;>clear hJ J<;>simp only [ak,reduceIte]<;>try subst hnil)))))
   refine ⟨trivial,trivial,by simp [f0,fC],by simp [f2],by simp [f3],by simp [f8],m,by simp,by omega,by omega,fun x h1 h2=>?_⟩
   rcases (show x=m∨x=m2 by omega) with rfl | rfl
   ·exact Int.le_refl _
   ·rw [← hx1,← hx2,hy1,hy2];omega
 clear f0 fC f2 f3 f8 w1 w2 w3 w4 w5 hx1 hx2 x1 x2 fr
 rintro fr st2 ⟨rfl,⟨f0,fC⟩,f2,f3,f8,ch,f9,hch,hchi,hmax⟩
 obtain ⟨x1,hx1⟩:∃ x:Nat,x=f+ch:=⟨_,rfl⟩
 have w4:IntKind.i64.wrap ((f:Int)+(ch:Int))=(x1:Int):=by rw [wrap_i64 _ (by omega) (by omega)];omega
 have hd1:=ws_drop en ec c x1 (by omega)
 have hd0:=ws_drop en ec c x0 (by omega)
 have hl1:x1 < l.length:=by omega
 have hl0:x0 < l.length:=by omega
 unfold MaxC at hmax
 have hstep:=hX.step (c:=ch) hlr hch hchi (by omega) hmax
 have hpm1:=hpm.step x0 x1 (by omega) (by omega) (by omega) (by omega) (by omega)
 have hbig:=hX.big
 rw [← hx0,← hx1] at hstep
 rw [← hx0] at hbig
 rw [← hx1] at hmax
 generalize hy0:c.getD x0 0=y0 at *
 generalize hy1:c.getD x1 0=y1 at *
 (repeat (refine qS ?_));(refine w_s [] [q] [(0,true),(1,true),(2,true),(3,true),(4,true),(5,true),(6,true),(7,true),(8,true),(9,true),(10,true),(11,true),(12,true),(13,false),(14,true),(15,true)] ?_;intro J hJ;simp [f0,fC,f2,f3,f8,f9,w4,w6,hl1,hl0,hcl,hd1,hd0];(repeat refine ca ?_);(try ((try with_reducible refine ⟨?_,?_⟩)<;>(try with_reducible intro hnil)<;>refine hJ _ _ ?_<;>clear hJ J<;>simp only [ak,reduceIte]<;>try subst hnil)))
 refine dcallK_of (hC.call y0 y1 _ (by first | assumption | (subst_vars;exact dm_get (by assumption) (by omega))) (by first | assumption | (subst_vars;exact dm_get (by assumption) (by omega)))) ?_;rintro r1 s2 ⟨⟨nv,rfl,hnv⟩,rfl⟩
 refine ⟨fun _=>by simp,?_⟩
 by_cases hyy:y0 < y1
 rotate_left
 ·clear hJJ
  (refine d_go ?_;simp [hnv,hyy];(repeat refine ca ?_);(try ((try with_reducible refine ⟨?_,?_⟩)<;>(try with_reducible intro hnil)<;>refine hJ _ _ ?_<;>clear hJ J<;>simp only [ak,reduceIte]<;>try subst hnil)))
  (repeat' (first | refine qS ?_ | refine qB ?_ | ((first | refine qK ?_ | refine qX ?_);simp only [ak,reduceIte]) | (refine qR ?_;simp only [ak,reduceIte];simp []) | (refine qC ?_;simp [];(try with_reducible refine ⟨?_,?_⟩)<;>(try with_reducible intro hc)<;>try (exfalso;omega)) | ((first | (refine w_e [] ?_;intro J hJ;simp only []) | (refine w_q ?_;intro J hJ) | refine e_go ?_);simp [];(repeat refine ca ?_);(try ((try with_reducible refine ⟨?_,?_⟩)<;>(try with_reducible intro hnil)<;>refine hJ _ _ ?_<;>clear hJ J<;>simp only [ak,reduceIte]<;>try subst hnil)))))
  exact ⟨c,rfl,hpm,hbig fun x h1 h2=>by have:=hmax x h1 h2;omega⟩
 (refine d_go ?_;simp [hnv,hyy];(repeat refine ca ?_);(try ((try with_reducible refine ⟨?_,?_⟩)<;>(try with_reducible intro hnil)<;>refine hJ _ _ ?_<;>clear hJ J<;>simp only [ak,reduceIte]<;>try subst hnil)))
 (repeat' (first | refine qS ?_ | refine qB ?_ | ((first | refine qK ?_ | refine qX ?_);simp only [ak,reduceIte]) | (refine qR ?_;simp only [ak,reduceIte];simp []) | (refine qC ?_;simp [];(try with_reducible refine ⟨?_,?_⟩)<;>(try with_reducible intro hc)<;>try (exfalso;omega)) | ((first | (refine w_e [] ?_;intro J hJ;simp only []) | (refine w_q ?_;intro J hJ) | refine e_go ?_);simp [];(repeat refine ca ?_);(try ((try with_reducible refine ⟨?_,?_⟩)<;>(try with_reducible intro hnil)<;>refine hJ _ _ ?_<;>clear hJ J<;>simp only [ak,reduceIte]<;>try subst hnil)))))
 (refine w_s [] [q] [(0,true),(1,true),(2,true),(3,true),(4,true),(5,true),(6,true),(7,true),(8,true),(9,true),(10,true),(11,true),(12,true),(13,true),(14,true),(15,true),(16,true),(17,true),(18,true),(19,true),(20,true),(21,false),(22,true),(23,false)] ?_;intro J hJ;simp [f0,fC,f2,f3,f8,f9,w4,w6,hl1,hl0,hcl,hd1,hd0];(repeat refine ca ?_);(try ((try with_reducible refine ⟨?_,?_⟩)<;>(try with_reducible intro hnil)<;>refine hJ _ _ ?_<;>clear hJ J<;>simp only [ak,reduceIte]<;>try subst hnil)))
 (repeat' (first | refine qS ?_ | refine qB ?_ | ((first | refine qK ?_ | refine qX ?_);simp only [ak,reduceIte]) | (refine qR ?_;simp only [ak,reduceIte];simp [f9]) | (refine qC ?_;simp [f9];(try with_reducible refine ⟨?_,?_⟩)<;>(try with_reducible intro hc)<;>try (exfalso;omega)) | ((first | (refine w_e [] ?_;intro J hJ;simp only []) | (refine w_q ?_;intro J hJ) | refine e_go ?_);simp [f9];(repeat refine ca ?_);(try ((try with_reducible refine ⟨?_,?_⟩)<;>(try with_reducible intro hnil)<;>refine hJ _ _ ?_<;>clear hJ J<;>simp only [ak,reduceIte]<;>try subst hnil)))))
 exact hJJ (hi - ch) _ _ (by omega) ⟨ch,sw c x0 x1,by omega,by omega,rfl,by simp [f0,fC],by simp [f2],by simp [f3],by simp,bx_sw en ec st q c x0 x1 (by omega) (by omega) hy0 hy1,hpm1,hstep hyy⟩
def Last (c:List Int) (f j hi:Nat):Prop:=∀ p q,p < q→j≤q→q < hi→c.getD (f+p) 0≤c.getD (f+q) 0
theorem heapSort {fid:FuncId} {caps:List LV} {en:Int→Nat} {ec:Int→List LV} {Dm:Int→Prop} (hC:CmpW fid caps en ec Dm) (l:List Int) (q a b:Nat) (st:St) (hD:∀ x∈l,Dm x) (hl:small l) (ha:a < b) (hb:b≤l.length) (hH:st.H q=.box 23 1 (ws en ec l)):
 ACalls Tryz.prog 49 [.ms q 0 l.length,i a,i b,.fn (.func fid) caps] st fun r st'=>∃ c,st'=bx en ec st q c∧Pm a b l c∧Srt a b c:=by
 have hsm:=hl
 unfold small at hl
 obtain ⟨n,hn⟩:∃ n:Nat,n=b - a:=⟨_,rfl⟩
 obtain ⟨n1,hn1⟩:∃ n:Nat,n=b - a - 1:=⟨_,rfl⟩
 obtain ⟨n2,hn2⟩:∃ n:Nat,n=n1 / 2:=⟨_,rfl⟩
 have w1:IntKind.i64.wrap ((b:Int) - (a:Int))=(n:Int):=by rw [wrap_i64 _ (by omega) (by omega)];omega
 have w2:IntKind.i64.wrap ((n:Int) - 1)=(n1:Int):=by rw [wrap_i64 _ (by omega) (by omega)];omega
 have w3:IntKind.i64.wrap ((n1:Int) / 2)=(n2:Int):=by
  rw [show (n1:Int) / 2=((n1 / 2:Nat):Int) from rfl,← hn2]
  exact wrap_i64 _ (by omega) (by omega)
 refine qO tabOk Tryz.func49 rfl rfl Tryz.ntmps49 (rs:=[]) rfl (by simp) ?_
 (repeat' (first | refine qS ?_ | refine qB ?_ | ((first | refine qK ?_ | refine qX ?_);simp only [ak,reduceIte]) | (refine qR ?_;simp only [ak,reduceIte];simp [w1,w2,w3]) | (refine qC ?_;simp [w1,w2,w3];(try with_reducible refine ⟨?_,?_⟩)<;>(try with_reducible intro hc)<;>try (exfalso;omega)) | ((first | (refine w_e [] ?_;intro J hJ;simp only []) | (refine w_q ?_;intro J hJ) | refine e_go ?_);simp [w1,w2,w3];(repeat refine ca ?_);(try ((try with_reducible refine ⟨?_,?_⟩)<;>(try with_reducible intro hnil)<;>refine hJ _ _ ?_<;>clear hJ J<;>simp only [ak,reduceIte]<;>try subst hnil)))))
 refine qL (fun m fr st'=>∃ (c:List Int),m≤n2+1∧(fr 0=.ms q 0 l.length∧fr 3=.fn (.func fid) caps)∧fr 8=i a∧fr 9=i 0∧fr 10=i n∧fr 11=i ((m:Int) - 1)∧st'=bx en ec st q c∧Pm a b l c∧Heap m n a c) (n2+1) ?_ ?_
 ·exact ⟨l,by omega,by simp,by simp,by simp,by simp,by simp,bx_self hH,.refl,fun k x h1 h2 h3=>by omega⟩
 rintro m fr st1 ⟨c,hm,⟨f0,fC⟩,f6,f7,f8,f9,rfl,hpm,hh⟩ JJ hJJ
 have hcl:=hpm.len
 have hDc:=dm_pm hD hpm
 cases m with
 | succ m=>
   have f9':fr 11=i (m:Int):=by rw [f9];congr 2;omega
   have w4:IntKind.i64.wrap ((m:Int) - 1)=(m:Int) - 1:=wrap_i64 _ (by omega) (by omega)
   have hge:(0:Int)≤(m:Int):=by omega
   (repeat' (first | refine qS ?_ | refine qB ?_ | ((first | refine qK ?_ | refine qX ?_);simp only [ak,reduceIte]) | (refine qR ?_;simp only [ak,reduceIte];simp [f0,fC,f6,f7,f8,f9',hge]) | (refine qC ?_;simp [f0,fC,f6,f7,f8,f9',hge];(try with_reducible refine ⟨?_,?_⟩)<;>(try with_reducible intro hc)<;>try (exfalso;omega)) | ((first | (refine w_e [] ?_;intro J hJ;simp only []) | (refine w_q ?_;intro J hJ) | refine e_go ?_);simp [f0,fC,f6,f7,f8,f9',hge];(repeat refine ca ?_);(try ((try with_reducible refine ⟨?_,?_⟩)<;>(try with_reducible intro hnil)<;>refine hJ _ _ ?_<;>clear hJ J<;>simp only [ak,reduceIte]<;>try subst hnil)))))
   rw [← hcl]
   refine qF (siftDown hC c q m n a _ (by first | assumption | exact dm_pm hD ‹Pm _ _ l c›) (by unfold small;omega) (by omega) (by omega) hh (by simp)) ?_
   rintro r s2 ⟨c2,rfl,hpm2,hh2⟩
   rw [hcl]
   (repeat' (first | refine qS ?_ | refine qB ?_ | ((first | refine qK ?_ | refine qX ?_);simp only [ak,reduceIte]) | (refine qR ?_;simp only [ak,reduceIte];simp [f9',w4]) | (refine qC ?_;simp [f9',w4];(try with_reducible refine ⟨?_,?_⟩)<;>(try with_reducible intro hc)<;>try (exfalso;omega)) | ((first | (refine w_e [] ?_;intro J hJ;simp only []) | (refine w_q ?_;intro J hJ) | refine e_go ?_);simp [f9',w4];(repeat refine ca ?_);(try ((try with_reducible refine ⟨?_,?_⟩)<;>(try with_reducible intro hnil)<;>refine hJ _ _ ?_<;>clear hJ J<;>simp only [ak,reduceIte]<;>try subst hnil)))))
   exact hJJ m _ _ (by omega) ⟨c2,by omega,by simp [f0,fC],by simp [f6],by simp [f7],by simp [f8],by simp,St.set_set _ _ _ _,hpm.trans (hpm2.wide (by omega) (by omega) (by omega)),hh2⟩
 | zero=>
   clear hJJ
   have f9':fr 11=i (-1):=by rw [f9];rfl
   (repeat' (first | refine qS ?_ | refine qB ?_ | ((first | refine qK ?_ | refine qX ?_);simp only [ak,reduceIte]) | (refine qR ?_;simp only [ak,reduceIte];simp [f0,fC,f6,f7,f8,f9',w2]) | (refine qC ?_;simp [f0,fC,f6,f7,f8,f9',w2];(try with_reducible refine ⟨?_,?_⟩)<;>(try with_reducible intro hc)<;>try (exfalso;omega)) | ((first | (refine w_e [] ?_;intro J hJ;simp only []) | (refine w_q ?_;intro J hJ) | refine e_go ?_);simp [f0,fC,f6,f7,f8,f9',w2];(repeat refine ca ?_);(try ((try with_reducible refine ⟨?_,?_⟩)<;>(try with_reducible intro hnil)<;>refine hJ _ _ ?_<;>clear hJ J<;>simp only [ak,reduceIte]<;>try subst hnil)))))
   refine qL (fun m fr st'=>∃ (c:List Int),m≤n∧(fr 0=.ms q 0 l.length∧fr 3=.fn (.func fid) caps)∧fr 8=i a∧fr 9=i 0∧fr 12=i ((m:Int) - 1)∧st'=bx en ec st q c∧Pm a b l c∧Heap 0 m a c∧Last c a m n) n ?_ ?_
   ·exact ⟨c,Nat.le_refl _,by simp [f0,fC],by simp [f6],by simp [f7],by simp;omega,rfl,hpm,hh,fun p q h1 h2 h3=>by omega⟩
   clear f0 fC f6 f7 f8 f9 f9' hpm hh hcl hDc c fr
   rintro m fr st1 ⟨c,hm,⟨f0,fC⟩,f6,f7,f10,rfl,hpm,hh,hla⟩ JJ hJJ
   have hcl:=hpm.len
   have hDc:=dm_pm hD hpm
   cases m with
   | zero=>
     have f10':fr 12=i (-1):=by rw [f10];rfl
     (repeat' (first | refine qS ?_ | refine qB ?_ | ((first | refine qK ?_ | refine qX ?_);simp only [ak,reduceIte]) | (refine qR ?_;simp only [ak,reduceIte];simp [f10']) | (refine qC ?_;simp [f10'];(try with_reducible refine ⟨?_,?_⟩)<;>(try with_reducible intro hc)<;>try (exfalso;omega)) | ((first | (refine w_e [] ?_;intro J hJ;simp only []) | (refine w_q ?_;intro J hJ) | refine e_go ?_);simp [f10'];(repeat refine ca ?_);(try ((try with_reducible refine ⟨?_,?_⟩)<;>(try with_reducible intro hnil)<;>refine hJ _ _ ?_<;>clear hJ J<;>simp only [ak,reduceIte]<;>try subst hnil)))))
     refine ⟨trivial,c,rfl,hpm,fun p q h1 h2 h3=>?_⟩
     have:=hla (p - a) (q - a) (by omega) (by omega) (by omega)
     rwa [show a+(p - a)=p by omega,show a+(q - a)=q by omega] at this
   | succ m=>
     have f10':fr 12=i (m:Int):=by rw [f10];congr 2;omega
     have w4:IntKind.i64.wrap ((m:Int) - 1)=(m:Int) - 1:=wrap_i64 _ (by omega) (by omega)
     have hge:(0:Int)≤(m:Int):=by omega
     obtain ⟨x1,hx1⟩:∃ x:Nat,x=a+m:=⟨_,rfl⟩
     have w5:IntKind.i64.wrap ((a:Int)+(m:Int))=(x1:Int):=by rw [wrap_i64 _ (by omega) (by omega)];omega
     have hd0:=ws_drop en ec c a (by omega)
     have hd1:=ws_drop en ec c x1 (by omega)
     have hl0:a < l.length:=by omega
     have hl1:x1 < l.length:=by omega
     have hpop:=hh.pop (by omega)
     have hnext:=fun c2=>heap_next (c2:=c2) hh hla (by omega) (by omega)
     have hpm1:=hpm.step a x1 (by omega) (by omega) (by omega) (by omega) (by omega)
     rw [← hx1] at hpop hnext
     have hsl:=sw_length c a x1
     have hsw:=fun x y=>bx_sw en ec st q c a x1 (x:=x) (y:=y) (by omega) (by omega)
     generalize hy0:c.getD a 0=y0 at *
     generalize hy1:c.getD x1 0=y1 at *
     have hsw':=hsw y0 y1 rfl rfl
     (repeat' (first | refine qS ?_ | refine qB ?_ | ((first | refine qK ?_ | refine qX ?_);simp only [ak,reduceIte]) | (refine qR ?_;simp only [ak,reduceIte];simp [f0,fC,f6,f7,f10',hge]) | (refine qC ?_;simp [f0,fC,f6,f7,f10',hge];(try with_reducible refine ⟨?_,?_⟩)<;>(try with_reducible intro hc)<;>try (exfalso;omega)) | ((first | (refine w_e [] ?_;intro J hJ;simp only []) | (refine w_q ?_;intro J hJ) | refine e_go ?_);simp [f0,fC,f6,f7,f10',hge];(repeat refine ca ?_);(try ((try with_reducible refine ⟨?_,?_⟩)<;>(try with_reducible intro hnil)<;>refine hJ _ _ ?_<;>clear hJ J<;>simp only [ak,reduceIte]<;>try subst hnil)))))
     (refine w_s [] [q] [(0,true),(1,true),(2,true),(3,true),(4,true),(5,true),(6,true),(7,true),(8,true),(9,true),(10,true),(11,true),(12,true),(13,true),(14,true),(15,true),(16,true),(17,false),(18,true),(19,false)] ?_;intro J hJ;simp [f0,fC,f6,f7,f10',w5,hl0,hl1,hcl,hd0,hd1];(repeat refine ca ?_);(try ((try with_reducible refine ⟨?_,?_⟩)<;>(try with_reducible intro hnil)<;>refine hJ _ _ ?_<;>clear hJ J<;>simp only [ak,reduceIte]<;>try subst hnil)))
     rw [hsw']
     generalize hc1:sw c a x1=c1 at *
     (repeat' (first | refine qS ?_ | refine qB ?_ | ((first | refine qK ?_ | refine qX ?_);simp only [ak,reduceIte]) | (refine qR ?_;simp only [ak,reduceIte];simp [f0,fC,f6,f7,f10']) | (refine qC ?_;simp [f0,fC,f6,f7,f10'];(try with_reducible refine ⟨?_,?_⟩)<;>(try with_reducible intro hc)<;>try (exfalso;omega)) | ((first | (refine w_e [] ?_;intro J hJ;simp only []) | (refine w_q ?_;intro J hJ) | refine e_go ?_);simp [f0,fC,f6,f7,f10'];(repeat refine ca ?_);(try ((try with_reducible refine ⟨?_,?_⟩)<;>(try with_reducible intro hnil)<;>refine hJ _ _ ?_<;>clear hJ J<;>simp only [ak,reduceIte]<;>try subst hnil)))))
     rw [← hcl,← hsl]
     refine qF (siftDown hC c1 q 0 m a _ (by first | assumption | exact dm_pm hD ‹Pm _ _ l c1›) (by unfold small;omega) (by omega) (by omega) hpop (by simp)) ?_
     rintro r s2 ⟨c2,rfl,hpm2,hh2⟩
     rw [hsl,hcl]
     (repeat' (first | refine qS ?_ | refine qB ?_ | ((first | refine qK ?_ | refine qX ?_);simp only [ak,reduceIte]) | (refine qR ?_;simp only [ak,reduceIte];simp [f10',w4]) | (refine qC ?_;simp [f10',w4];(try with_reducible refine ⟨?_,?_⟩)<;>(try with_reducible intro hc)<;>try (exfalso;omega)) | ((first | (refine w_e [] ?_;intro J hJ;simp only []) | (refine w_q ?_;intro J hJ) | refine e_go ?_);simp [f10',w4];(repeat refine ca ?_);(try ((try with_reducible refine ⟨?_,?_⟩)<;>(try with_reducible intro hnil)<;>refine hJ _ _ ?_<;>clear hJ J<;>simp only [ak,reduceIte]<;>try subst hnil)))))
     exact hJJ m _ _ (by omega) ⟨c2,by omega,by simp [f0,fC],by simp [f6],by simp [f7],by simp,St.set_set _ _ _ _,hpm1.trans (hpm2.wide (by omega) (by omega) (by omega)),hh2,hnext c2 (by rw [hx1];exact hpm2)⟩
end Go.Proofs.YtkcokoefodgigaaGreat.Aw.CB
