/- Drawing on a map: a step. -/
import Derived.Test.YtglkgindpjdoiaaGreatJg
import Derived.Test.YtglkgindpjdoiaaGreatAwShp
import Derived.Test.YtglkgindpjdoiaaGreatAwAlt
namespace Go.Proofs.YtglkgindpjdoiaaGreat.Aw
open Go Go.RowKit Go.Proofs.YtglkgindpjdoiaaGreat.Pl Go.Proofs.YtglkgindpjdoiaaGreat.Eu
set_option linter.unusedSimpArgs false
set_option linter.unusedVariables false
set_option maxHeartbeats 2000000 in
theorem stepS (B D : Nat) (m : Mp) (s : Sp) (st : St) (h : DrB B D m st) (hB : B ≤ st.next) (hm : Drw m) :
    ACalls Tryz.prog 30 [.pt D 0, .ag (spL s)] st fun r st' => r = i (stpW m s) ∧ (stpW m s = 0 → DrB B D (stpM m s) st') ∧ KB B st st' := by
  have ho := hm.ord
  have hsm := hm.sm
  have hq : ∀ c : LObj, DrB B D m (st.new c) := fun c => by
    obtain ⟨⟨lv, le, lr, ⟨h1, h2, h3⟩, b1, b2, b3⟩, hB0⟩ := h
    have n1 := h2.v0
    have n2 := h2.e0
    have n3 := h2.r0
    exact ⟨⟨lv, le, lr, ⟨by simp [show ¬ D = st.next by omega, h1], ⟨by simp [show ¬ lv = st.next by omega, h2.v], by simp [show ¬ le = st.next by omega, h2.e], by simp [show ¬ lr = st.next by omega, h2.r], by simp; omega, by simp; omega, by simp; omega⟩, by simp; omega⟩, b1, b2, b3⟩, hB0⟩
  have hk0 : ∀ c : LObj, KB B st (st.new c) := fun c => (Keeps.new st c).kb hB
  obtain ⟨y, hy⟩ : ∃ y, y = stpW m s := ⟨_, rfl⟩
  obtain ⟨m', hm'⟩ : ∃ m', m' = stpM m s := ⟨_, rfl⟩
  rw [← hy, ← hm']
  unfold stpW at hy
  unfold stpM at hm'
  have hform := fun st => form s st
  have hlink := fun st h hid => linkS B D m s st h ho hm.ok hsm hid
  have hfid := fun h => formW_id (s := s) h
  obtain ⟨k, id, sa, sb, pa, pb⟩ := s
  simp only [spL] at *
  refine qO tabOk Tryz.func30 rfl rfl Tryz.ntmps30 (rs := [.tmp 4]) rfl (by simp) ?_
  refine awp_posG fun hpos => ?_
  (repeat' (first | refine qS ?_ | (refine w_e [] ?_; intro J hJ; simp only []; simp []; (try (refine hJ _ _ ?_; clear hJ J; simp only [ak, reduceIte])))))
  refine qE (hform _) (by simp) ?_; rintro r s1 ⟨rfl, h1⟩
  rw [h1]; clear h1 s1
  by_cases hf : formW ⟨k, id, sa, sb, pa, pb⟩ = 0
  rotate_left
  · rw [if_pos hf] at hy
    rw [← hy] at hf ⊢
    have hfb : (y != 0) = true := by simpa using hf
    (repeat' (first | refine qS ?_ | (refine qR ?_; simp only [ak, reduceIte]; simp [hf, hfb]) | (refine qC ?_; simp [hf, hfb]) | ((first | (refine w_e [] ?_; intro J hJ; simp only []) | (refine e_go ?_)); simp [hf, hfb]; (refine hJ _ _ ?_; clear hJ J; simp only [ak, reduceIte]))))
    exact hk0 _
  rw [if_neg (fun k => k hf)] at hy
  have hid := hfid hf
  rw [hf]
  clear hform
  by_cases h1 : k = 1
  · subst h1
    rw [if_pos rfl] at hy hm'
    subst hm'
    (repeat' (first | refine qS ?_ | refine qB ?_ | (refine qK ?_; simp only [ak, reduceIte]) | (refine qC ?_; simp []) | ((first | (refine w_e [] ?_; intro J hJ; simp only []) | (refine e_go ?_)); simp []; (try (refine hJ _ _ ?_; clear hJ J; simp only [ak, reduceIte])))))
    refine qE (vertexS B D m id _ (hq _) ho) (by simp) ?_; rintro r s1 ⟨rfl, h2, h3⟩
    rw [← hy] at h2 ⊢
    (repeat' (first | (refine qR ?_; simp only [ak, reduceIte]; simp []) | (refine e_go ?_; simp []; (refine hJ _ _ ?_; clear hJ J; simp only [ak, reduceIte]))))
    exact ⟨h2, (hk0 _).trans h3⟩
  rw [if_neg h1] at hy hm'
  have h1b : (k == 1) = false := by simpa using h1
  by_cases h2 : k = 2
  · subst h2
    rw [if_pos rfl] at hy hm'
    subst hm'
    (repeat' (first | refine qS ?_ | refine qB ?_ | (refine qK ?_; simp only [ak, reduceIte]) | (refine qC ?_; simp []) | ((first | (refine w_e [] ?_; intro J hJ; simp only []) | (refine e_go ?_)); simp []; (try (refine hJ _ _ ?_; clear hJ J; simp only [ak, reduceIte])))))
    refine qE (noVertexS B D m id _ (hq _) ho) (by simp) ?_; rintro r s1 ⟨rfl, h2, h3⟩
    rw [← hy] at h2 ⊢
    (repeat' (first | (refine qR ?_; simp only [ak, reduceIte]; simp []) | (refine e_go ?_; simp []; (refine hJ _ _ ?_; clear hJ J; simp only [ak, reduceIte]))))
    exact ⟨h2, (hk0 _).trans h3⟩
  rw [if_neg h2] at hy hm'
  have h2b : (k == 2) = false := by simpa using h2
  by_cases h3 : k = 3
  · subst h3
    rw [if_pos rfl] at hy hm'
    subst hm'
    (repeat' (first | refine qS ?_ | refine qB ?_ | (refine qK ?_; simp only [ak, reduceIte]) | (refine qC ?_; simp []) | ((first | (refine w_e [] ?_; intro J hJ; simp only []) | (refine e_go ?_)); simp []; (try (refine hJ _ _ ?_; clear hJ J; simp only [ak, reduceIte])))))
    refine qE (hlink _ (hq _) hid) (by simp) ?_; rintro r s1 ⟨rfl, h2, h3⟩
    rw [← hy] at h2 ⊢
    (repeat' (first | (refine qR ?_; simp only [ak, reduceIte]; simp []) | (refine e_go ?_; simp []; (refine hJ _ _ ?_; clear hJ J; simp only [ak, reduceIte]))))
    exact ⟨h2, (hk0 _).trans h3⟩
  rw [if_neg h3] at hy hm'
  have h3b : (k == 3) = false := by simpa using h3
  subst hm'
  (repeat' (first | refine qS ?_ | refine qB ?_ | (refine qK ?_; simp only [ak, reduceIte]) | (refine qC ?_; simp [h1, h2, h3, h1b, h2b, h3b]) | ((first | (refine w_e [] ?_; intro J hJ; simp only []) | (refine e_go ?_)); simp [h1, h2, h3, h1b, h2b, h3b]; (try (refine hJ _ _ ?_; clear hJ J; simp only [ak, reduceIte])))))
  refine qE (noLinkS B D m id _ (hq _) ho hsm hm.ok.g.pos) (by simp) ?_; rintro r s1 ⟨rfl, h2, h3⟩
  rw [keptP_less hm.ok] at h2
  rw [← hy] at h2 ⊢
  (repeat' (first | (refine qR ?_; simp only [ak, reduceIte]; simp []) | (refine e_go ?_; simp []; (refine hJ _ _ ?_; clear hJ J; simp only [ak, reduceIte]))))
  exact ⟨h2, (hk0 _).trans h3⟩
end Go.Proofs.YtglkgindpjdoiaaGreat.Aw
namespace Go.Proofs.YtglkgindpjdoiaaGreat.Aw
open Go Go.RowKit Go.Proofs.YtglkgindpjdoiaaGreat.Pl Go.Proofs.YtglkgindpjdoiaaGreat.Eu
set_option linter.unusedSimpArgs false
set_option linter.unusedVariables false
def aft (m : Mp) (l : List Sp) : Mp := l.foldl stpM m
def nilMp : Mp := ⟨⟨[], []⟩, []⟩
def DoTo (m : Mp) (l : List Sp) (j : Nat) : Prop := ∀ i, i < j → stpW (aft m (l.take i)) (l.getD i sp0) = 0
theorem aft_take {m : Mp} {l : List Sp} {j : Nat} (hj : j < l.length) : aft m (l.take (j + 1)) = stpM (aft m (l.take j)) (l.getD j sp0) := by
  unfold aft
  rw [List.take_succ_eq_append_getElem hj, List.foldl_append, List.getD_eq_getElem?_getD, List.getElem?_eq_getElem hj]
  rfl
theorem DoTo.drw {m : Mp} {l : List Sp} (hm : Drw m) : ∀ j, j ≤ l.length → DoTo m l j → Drw (aft m (l.take j)) ∧ (gn m = 0 → gn (aft m (l.take j)) = 0)
  | 0, _, _ => ⟨hm, fun h => h⟩
  | j + 1, hj, h => by
    obtain ⟨h1, h2⟩ := DoTo.drw hm j (by omega) fun i hi => h i (by omega)
    obtain ⟨k1, k2⟩ := step_drw h1 (h j (by omega))
    rw [aft_take (by omega)]
    exact ⟨k1, fun hg => k2 (h2 hg)⟩
theorem DoTo.succ {m : Mp} {l : List Sp} {j : Nat} (h : DoTo m l j) (k : stpW (aft m (l.take j)) (l.getD j sp0) = 0) : DoTo m l (j + 1) := fun i hi => by
  rcases Nat.lt_or_ge i j with h1 | h1
  · exact h i h1
  · obtain rfl : i = j := by omega
    exact k
theorem frz_norm (st : St) (x : LV) : Frz st st x (norm x) := fun w g _ hi hr => ⟨g, hi, rep_norm hr, Ext.refl w g⟩
theorem DrB.keeps {B D : Nat} {m : Mp} {st st' : St} (h : DrB B D m st) (hk : Keeps st st') : DrB B D m st' := by
  obtain ⟨⟨lv, le, lr, ⟨h1, h2, h3⟩, b⟩, hB0⟩ := h
  have hn := hk.next
  exact ⟨⟨lv, le, lr, ⟨by rw [hk.H _ h3]; exact h1, ⟨by rw [hk.H _ h2.v0]; exact h2.v, by rw [hk.H _ h2.e0]; exact h2.e, by rw [hk.H _ h2.r0]; exact h2.r, Nat.lt_of_lt_of_le h2.v0 hn, Nat.lt_of_lt_of_le h2.e0 hn, Nat.lt_of_lt_of_le h2.r0 hn⟩, Nat.lt_of_lt_of_le h3 hn⟩, b⟩, hB0⟩
def DoQ (m : Mp) (l : List Sp) (r : LV) : Prop := (DoTo m l l.length ∧ r = .tu [.ag (mpL (aft m l)), i l.length, i 0]) ∨ ∃ j, j < l.length ∧ DoTo m l j ∧ stpW (aft m (l.take j)) (l.getD j sp0) ≠ 0 ∧ r = .tu [.ag (mpL nilMp), i j, i (stpW (aft m (l.take j)) (l.getD j sp0))]
set_option maxHeartbeats 4000000 in
theorem DoK (m : Mp) (l : List Sp) (t : Nat) (st : St) (hm : Drw m) (hl : l.length ≤ 100000) :
    ACalls Tryz.prog 10 [.ag (mpL m), .sl t l.length (sps l)] st fun r st' => DoQ m l r ∧ Keeps st st' := by
  have hv := hm.v
  have he := hm.e
  have hsl := sps_length l
  have hr : m.rots.length ≤ 1000 := by rw [hm.ok.len]; omega
  refine acalls_frzR ?_
  refine qO tabOk Tryz.func10 rfl rfl Tryz.ntmps10 (rs := [.cell 4 28, .tmp 5, .tmp 6]) rfl (by simp) ?_
  refine awp_posG fun hpos => ?_
  (repeat' (first | refine qS ?_ | (refine w_e [] ?_; intro J hJ; simp only []; simp []; (try (refine hJ _ _ ?_; clear hJ J; simp only [ak, reduceIte])))))
  refine qE (rCloneM m _ (by omega) (by omega) hr hm.sm) (by simp) ?_; rintro r s1 ⟨lv, le, lr, rfl, hat, l1, l2, l3, hk1⟩
  simp only [new_next] at l1 l2 l3
  have hn1 := hk1.next
  simp only [new_next] at hn1
  have hR1 : s1.H (st.next + 1) = .box 28 3 [.nil, .nil, .nil] := by rw [hk1.H _ (by simp)]; simp
  have hkp1 : Keeps st s1 := ((Keeps.new _ _).trans (Keeps.new _ _)).trans hk1
  have h1 := hat.v0
  have h2 := hat.e0
  have h3 := hat.r0
  have hdr : DrB (st.next + 2) s1.next m (s1.new (.box 61 3 (mpM lv le lr m))) := ⟨⟨lv, le, lr, ⟨by simp, ⟨by simp [show ¬ lv = s1.next by omega, hat.v], by simp [show ¬ le = s1.next by omega, hat.e], by simp [show ¬ lr = s1.next by omega, hat.r], by simp; omega, by simp; omega, by simp; omega⟩, by simp⟩, by omega, by omega, by omega⟩, by omega⟩
  have hk2 : KB (st.next + 2) s1 (s1.new (.box 61 3 (mpM lv le lr m))) := (Keeps.new _ _).kb (by omega)
  obtain ⟨D, hD⟩ : ∃ D, D = s1.next := ⟨_, rfl⟩
  obtain ⟨s2, hs2⟩ : ∃ s2, s2 = s1.new (.box 61 3 (mpM lv le lr m)) := ⟨_, rfl⟩
  rw [← hs2, ← hD] at hdr
  rw [← hs2] at hk2
  have hn2 : s2.next = D + 1 := by rw [hs2, hD]; rfl
  unfold mpM at hs2 ⊢
  (repeat' (first | refine qS ?_ | refine qB ?_ | ((first | (refine w_e [] ?_; intro J hJ; simp only []) | (refine e_go ?_)); simp []; (refine hJ _ _ ?_; clear hJ J; simp only [ak, reduceIte]))))
  rw [← hs2, ← hD]
  have hR2 : s2.H (st.next + 1) = .box 28 3 [.nil, .nil, .nil] := by rw [hk2.H _ (by omega)]; exact hR1
  have hk3 : Keeps st s2 := ⟨Nat.le_trans hkp1.next hk2.next, fun x hx => (hk2.H x (by omega)).trans (hkp1.H x hx)⟩
  clear hs2 hk2 hR1 hkp1 hn1 hk1 hat h1 h2 h3 l1 l2 l3
  refine awp_range 17 16 18 30 (l.length) (fun j fr st2 => fr 4 = .pt (st.next + 1) 0 ∧ fr 7 = .pt D 0 ∧ fr 1 = .sl t l.length (sps l) ∧ fr 15 = .sl t l.length (sps l) ∧ DrB (st.next + 2) D (aft m (l.take j)) st2 ∧ DoTo m l j ∧ st2.H (st.next + 1) = .box 28 3 [.nil, .nil, .nil] ∧ Keeps st st2 ∧ D < st2.next) ?_ ?_ ?_
  · exact ⟨by simp, by simp, by simp, by simp, hdr, fun i hi => by omega, hR2, hk3, by omega⟩
  · clear hR2 hk3 hdr
    rintro j fr s hlt ⟨f4, f7, f1, f15, hdr, hto, hR, hkp, hDn⟩ fi fn JO hJO
    have hd := sps_drop l j hlt
    have hj6 : j * 6 < l.length * 6 := by omega
    have hdw := (hto.drw hm j (by omega)).1
    have hax := aft_take (m := m) hlt
    have hsc := hto.succ (j := j)
    have hB0 := hdr.B0
    have hstp := fun st' h hB => stepS (st.next + 2) D (aft m (l.take j)) (l.getD j sp0) st' h hB hdw
    have herr : stpW (aft m (l.take j)) (l.getD j sp0) ≠ 0 → DoQ m l (.tu [.ag (mpL nilMp), i j, i (stpW (aft m (l.take j)) (l.getD j sp0))]) := fun hne => .inr ⟨j, hlt, hto, hne, rfl⟩
    rw [hax] at hJO
    generalize l.getD j sp0 = y at *
    generalize hmj : aft m (l.take j) = mj at *
    obtain ⟨y1, y2, y3, y4, y5, y6⟩ := y
    simp only [spL] at hd hstp
    (repeat' (first | refine qS ?_ | (refine w_e [] ?_; intro J hJ; simp only []; simp [f4, f7, f1, f15, fi, fn, hd, hj6, hlt, hsl]; (try (refine hJ _ _ ?_; clear hJ J; simp only [ak, reduceIte])))))
    refine qE (hstp _ (hdr.keeps (Keeps.new _ _)) (by simp; omega)) (by simp) ?_; rintro r s3 ⟨rfl, k1, k2⟩
    have hn3 := k2.next
    simp only [new_next] at hn3
    have hR3 : s3.H (st.next + 1) = .box 28 3 [.nil, .nil, .nil] := by rw [k2.H _ (by omega)]; simp [show ¬ st.next + 1 = s.next by omega, hR]
    have hkp3 : Keeps st s3 := ⟨by have := hkp.next; omega, fun x hx => by rw [k2.H x (by omega), new_H, if_neg (by have := hkp.next; omega)]; exact hkp.H x hx⟩
    by_cases hz : stpW mj ⟨y1, y2, y3, y4, y5, y6⟩ = 0
    · have h1 := k1 hz
      have h2 := hsc hz
      rw [hz]
      (repeat' (first | refine qS ?_ | (refine qK ?_; simp only [ak, reduceIte]) | (refine qC ?_; simp []) | ((first | (refine w_e [] ?_; intro J hJ; simp only []) | (refine e_go ?_)); simp []; (refine hJ _ _ ?_; clear hJ J; simp only [ak, reduceIte]))))
      exact hJO _ _ (by simp [fi]) (by simp [fn]) ⟨by simp [f4], by simp [f7], by simp [f1], by simp [f15], h1, h2, hR3, hkp3, by omega⟩
    · have hE := herr hz
      generalize stpW mj ⟨y1, y2, y3, y4, y5, y6⟩ = e at *
      have hzb : (e != 0) = true := by simpa using hz
      (repeat' (first | refine qS ?_ | (refine qR ?_; simp only [ak, reduceIte]; simp [hz, hzb, f4, hR3]) | (refine qC ?_; simp [hz, hzb, f4, hR3]) | ((first | (refine w_e [] ?_; intro J hJ; simp only []) | (refine e_go ?_)); simp [hz, hzb, f4, hR3]; (refine hJ _ _ ?_; clear hJ J; simp only [ak, reduceIte]))))
      exact ⟨_, _, frz_tu (frzL_cons (frz_ag (frzL_cons (frz_norm _ _) (frzL_cons (frz_norm _ _) (frzL_cons (frz_norm _ _) (frzL_same _ _))))) (frzL_same _ _)), hE, hkp3.set (by omega) _⟩
  · clear hR2 hk3 hdr
    rintro fr s ⟨f4, f7, f1, f15, ⟨⟨lv', le', lr', hI, b⟩, hB0⟩, hto, hR, hkp, hDn⟩
    rw [List.take_length] at hI
    have hne := hI.ne
    have hD1 := hI.d
    unfold mpM at hD1
    obtain ⟨d1, d2, d3, d4, d5, d6⟩ := hne
    have hat := hI.at'
    have n1 := hat.v0
    have n2 := hat.e0
    have n3 := hat.r0
    (repeat' (first | refine qS ?_ | (refine qR ?_; simp only [ak, reduceIte]; simp [f1, f4, f7, hD1, hR]) | (refine w_e [] ?_; intro J hJ; simp only []; simp [f1, f4, f7, hD1, hR]; (refine hJ _ _ ?_; clear hJ J; simp only [ak, reduceIte]))))
    refine ⟨_, _, frz_tu (frzL_cons (frz_mp (m := aft m l) ⟨?_, ?_, ?_, ?_, ?_, ?_⟩ d4 d5 d6) (frzL_same _ _)), .inl ⟨hto, rfl⟩, ⟨?_, fun x hx => ?_⟩⟩
    · rw [set_H, if_neg (by omega)]; exact hat.v
    · rw [set_H, if_neg (by omega)]; exact hat.e
    · rw [set_H, if_neg (by omega)]; exact hat.r
    · simpa using n1
    · simpa using n2
    · simpa using n3
    · simp only [set_next]; exact hkp.next
    · rw [set_H, if_neg (by omega), set_H, if_neg (by omega), set_H, if_neg (by omega), set_H, if_neg (by omega)]
      exact hkp.H x hx
theorem Do (m : Mp) (l : List Sp) (t : Nat) (st : St) (hm : Drw m) (hl : l.length ≤ 100000) :
    ACalls Tryz.prog 10 [.ag (mpL m), .sl t l.length (sps l)] st fun r st' => DoQ m l r ∧ st' = st :=
  qT (Q := DoQ m l) (DoK m l t st hm hl) fun r h => by
    rcases h with ⟨_, rfl⟩ | ⟨j, _, _, _, rfl⟩
    · exact ⟨bel_mpL _ _, trivial, trivial, trivial⟩
    · exact ⟨bel_mpL _ _, trivial, trivial, trivial⟩
end Go.Proofs.YtglkgindpjdoiaaGreat.Aw
namespace Go.Proofs.YtglkgindpjdoiaaGreat.Aw
open Go Go.RowKit Go.Proofs.YtglkgindpjdoiaaGreat.Pl
set_option linter.unusedSimpArgs false
set_option linter.unusedVariables false
theorem ref_rRightC (m : Mp) (st : St) (hr : m.rots.length ≤ 1000) (he : m.g.es.length ≤ 1000) : ACalls Tryz.prog 9 [.ag (mpL m)] st fun r st' => r = i (rright m) ∧ Keeps st st' := by
  by_cases hv : m.g.vs.length ≤ 1000
  · exact ref_rRight m st hv he hr
  · have hc : rchk m ≠ 0 := fun h => hv (Nat.le_trans (chk_smallC h) (by omega))
    have hrc : rright m = rchk m := by unfold rright; rw [if_pos hc]
    refine qO tabOk Tryz.func9 rfl rfl Tryz.ntmps9 (rs := [.tmp 2]) rfl (by simp) ?_
    (repeat' (first | refine qS ?_ | (refine w_e [] ?_; intro J hJ; simp only []; simp []; (try (refine hJ _ _ ?_; clear hJ J; simp only [ak, reduceIte])))))
    refine qE (ref_rCheckC m _ hr he) (by simp) ?_; rintro r s1 ⟨rfl, hk1⟩
    generalize rchk m = x at *
    have hcb : (x == 0) = false := by simpa using hc
    (repeat' (first | refine qS ?_ | (refine qK ?_; simp only [ak, reduceIte]) | (refine qR ?_; simp only [ak, reduceIte]; simp [hcb, hc, hrc]) | (refine qC ?_; simp [hcb, hc, hrc]) | ((first | (refine w_e [] ?_; intro J hJ; simp only []) | (refine e_go ?_)); simp [hcb, hc, hrc]; (refine hJ _ _ ?_; clear hJ J; simp only [ak, reduceIte]))))
    exact (Keeps.new _ _).trans hk1
theorem rRightC' (m : Mp) (st : St) (hr : m.rots.length ≤ 1000) (he : m.g.es.length ≤ 1000) :
    ACalls Tryz.prog 9 [.ag (mpL m)] st fun r st' => r = i (rright m) ∧ st' = st :=
  qT (Q := fun r => r = i (rright m)) (ref_rRightC m st hr he) fun r h => by subst h; trivial
end Go.Proofs.YtglkgindpjdoiaaGreat.Aw
namespace Go.Proofs.YtglkgindpjdoiaaGreat.Aw
open Go Go.RowKit Go.Proofs.YtglkgindpjdoiaaGreat.Pl Go.Proofs.YtglkgindpjdoiaaGreat.Eu
set_option linter.unusedSimpArgs false
set_option linter.unusedVariables false
theorem rTurn' (m : Mp) (d : Int) (st : St) (hr : m.rots.length ≤ 1000) (hs : ∀ t ∈ m.rots, small t) :
    ACalls Tryz.prog 16 [.ag (mpL m), u d] st fun r st' => r = .sl 0 (turnOf m.rots d).length (us (turnOf m.rots d)) ∧ st' = st :=
  qT (Q := fun r => r = .sl 0 (turnOf m.rots d).length (us (turnOf m.rots d))) (acalls_frzR ((rTurn m d st hr hs).mono fun r s hr => by
    obtain ⟨⟨t, rfl⟩, hk⟩ := hr
    exact ⟨_, s, frz_tok s t _ _, rfl, hk⟩)) fun r h => by subst h; exact ⟨.inl rfl, belL_us _ _⟩
section
variable {m : Mp} (h : MapOk m) {x : Ed} {pa pb : Int} (hl : LinkOk m x pa pb)
include h hl
end
theorem turn_small {m : Mp} (h : MapOk m) (he : m.g.es.length ≤ 1000) {d : Int} (hd : d ∈ darts m.g.es) : small (turnOf m.rots d) := by
  have := h.row_le (turn_of_dart h hd).1
  unfold small; omega
theorem do_one {m : Mp} {s : Sp} {r : LV} (h : DoQ m [s] r) : (stpW m s = 0 ∧ r = .tu [.ag (mpL (stpM m s)), i 1, i 0]) ∨ (stpW m s ≠ 0 ∧ r = .tu [.ag (mpL nilMp), i 0, i (stpW m s)]) := by
  rcases h with ⟨h1, rfl⟩ | ⟨j, hj, h1, h2, rfl⟩
  · exact .inl ⟨h1 0 (by simp), rfl⟩
  · obtain rfl : j = 0 := by simpa using hj
    exact .inr ⟨h2, rfl⟩
def ahdW (n : Mp) (d : Int) : Int := if pv (turnOf n.rots d) d = d then 0 else pv (turnOf n.rots d) d
theorem ahd_pv {n : Mp} (h : MapOk n) {x : Ed} (hx : x ∈ n.g.es) {A B : Int} (hA : Ahd n x A B) : pv (turnOf n.rots (2 * x.id)) (2 * x.id) = A ∧ pv (turnOf n.rots (2 * x.id + 1)) (2 * x.id + 1) = B := by
  obtain ⟨d0, d1⟩ := h.dart0 hx
  obtain ⟨t1, t2⟩ := turn_of_dart h d0
  obtain ⟨t3, t4⟩ := turn_of_dart h d1
  have a3 := (h.less_end hx (.inl ⟨rfl, rfl⟩) t1 t2).2.2.1
  have b3 := (h.less_end hx (.inr ⟨rfl, rfl⟩) t3 t4).2.2.1
  exact ⟨h.sg_inj (a3.trans hA.a.symm), h.sg_inj (b3.trans hA.b.symm)⟩
theorem ahd_eq {n : Mp} (h : MapOk n) {x : Ed} (hx : x ∈ n.g.es) {A B : Int} (hA : Ahd n x A B) : ahdW n (2 * x.id) = (if A = 2 * x.id then 0 else A) ∧ ahdW n (2 * x.id + 1) = (if B = 2 * x.id + 1 then 0 else B) := by
  obtain ⟨e1, e2⟩ := ahd_pv h hx hA
  unfold ahdW
  rw [e1, e2]
  exact ⟨rfl, rfl⟩
theorem form3 {s : Sp} (hk : s.k = 3) (h1 : numI s.id) (h2 : numI s.a) (h3 : numI s.b) : formW s = 0 := by
  unfold formW
  rw [if_neg (by omega), if_neg (fun k => k.1 hk), if_neg]
  rintro (k | ⟨_, k | k⟩)
  · exact k h1
  · exact k h2
  · exact k h3
theorem form0 {k id : Int} (hk : k = 1 ∨ k = 2 ∨ k = 4) (h1 : numI id) : formW ⟨k, id, 0, 0, 0, 0⟩ = 0 := by
  unfold formW
  simp only
  rw [if_neg (by omega), if_neg (by simp), if_neg]
  rintro (q | ⟨q, _⟩)
  · exact q h1
  · omega
theorem back_ok {n : Mp} (h : Drw n) (hg : gn n = 0) {x : Ed} (hx : x ∈ n.g.es) : stpW (lessM n x.id) ⟨3, x.id, x.a, x.b, ahdW n (2 * x.id), ahdW n (2 * x.id + 1)⟩ = 0 ∧ stpM (lessM n x.id) ⟨3, x.id, x.a, x.b, ahdW n (2 * x.id), ahdW n (2 * x.id + 1)⟩ = n := by
  obtain ⟨A, B, hA⟩ := h.ok.ahd hx
  obtain ⟨e1, e2⟩ := ahd_eq h.ok hx hA
  rw [e1, e2]
  have hl := less_linkOk h.ok hx hA
  have ho := less_ok h.ok x.id
  obtain ⟨va, vb, vab⟩ := h.ok.edge_vs hx
  constructor
  · unfold stpW
    have hf : formW ⟨3, x.id, x.a, x.b, if A = 2 * x.id then 0 else A, if B = 2 * x.id + 1 then 0 else B⟩ = 0 := form3 rfl (h.ok.g.pos x hx) (h.vp _ va) (h.vp _ vb)
    rw [if_neg (fun k => k hf), if_neg (show ¬ (3 : Int) = 1 by decide), if_neg (show ¬ (3 : Int) = 2 by decide), if_pos rfl]
    refine linkW_mk hl ?_ fun hr => ?_
    · have := h.ok.len_less hx
      have := h.e
      omega
    · simp only at hr ⊢
      obtain ⟨na, nb⟩ := h.ok.less_part hx hA hr
      have hgn := h.ok.less_gn hx hA
      rw [hg] at hgn
      have hS : Orb (fc (lessM n x.id) (lessM n x.id).g.es) (sg (lessM n x.id) A) (sg (lessM n x.id) B) := Classical.byContradiction fun hS => by
        rw [if_pos ⟨hr, hS⟩] at hgn
        omega
      have sa := hl.sa
      have sb := hl.sb
      rw [if_neg na] at sa ⊢
      rw [if_neg nb] at sb ⊢
      obtain ⟨l0, l1⟩ := less_nil h.ok hx hA
      have ma : A ∈ (lessM n x.id).rots.getD ((lessM n x.id).g.vs.idxOf x.a) [] := by rcases sa with k | k; exact absurd (l0.1 k.1) na; exact k
      have mb : B ∈ (lessM n x.id).rots.getD ((lessM n x.id).g.vs.idxOf x.b) [] := by rcases sb with k | k; exact absurd (l1.1 k.1) nb; exact k
      rw [← link_row_at ho hl hl.a ma, ← link_row_at ho hl hl.b mb]
      exact hS
  · unfold stpM
    rw [if_neg (show ¬ (3 : Int) = 1 by decide), if_neg (show ¬ (3 : Int) = 2 by decide), if_pos rfl]
    exact less_back h.ok hx hA
def abtW (m : Mp) (s : Sp) : Sp := if s.k = 1 then ⟨2, s.id, 0, 0, 0, 0⟩ else if s.k = 2 then ⟨1, s.id, 0, 0, 0, 0⟩ else if s.k = 3 then ⟨4, s.id, 0, 0, 0, 0⟩
  else ⟨3, (m.g.es.getD (fe m.g.es s.id).toNat ed0).id, (m.g.es.getD (fe m.g.es s.id).toNat ed0).a, (m.g.es.getD (fe m.g.es s.id).toNat ed0).b, ahdW m (2 * (m.g.es.getD (fe m.g.es s.id).toNat ed0).id), ahdW m (2 * (m.g.es.getD (fe m.g.es s.id).toNat ed0).id + 1)⟩
theorem idx_mid {l : List Int} {v : Int} (hv : v ∉ l) {k : Nat} (hk : k ≤ l.length) : (l.take k ++ v :: l.drop k).idxOf v = k := by
  rw [List.idxOf_append, if_neg (fun h => hv (List.mem_of_mem_take h)), List.idxOf_cons_self, List.length_take]
  omega
theorem noLinkW_zero {m : Mp} {id : Int} (h : noLinkW m id = 0) : (fe m.g.es id).toNat < m.g.es.length ∧ (m.g.es.getD (fe m.g.es id).toNat ed0).id = id := by
  unfold noLinkW at h
  split at h
  · cases h
  · rename_i k
    obtain ⟨h1, _, h2⟩ := fe_lt m.g.es id k
    exact ⟨h1, h2⟩
theorem noLinkW_mk {m : Mp} {x : Ed} (hx : x ∈ m.g.es) : noLinkW m x.id = 0 := by
  unfold noLinkW
  rw [if_neg]
  intro k
  exact fe_neg.1 k x hx rfl
theorem undo_step {m : Mp} (h : Drw m) (hg : gn m = 0) {s : Sp} (h0 : stpW m s = 0) : stpW (stpM m s) (abtW m s) = 0 ∧ stpM (stpM m s) (abtW m s) = m := by
  unfold stpW at h0
  by_cases hf : formW s = 0
  rotate_left
  · rw [if_pos hf] at h0; exact absurd h0 hf
  rw [if_neg (fun k => k hf)] at h0
  have hid := formW_id hf
  by_cases h1 : s.k = 1
  · rw [if_pos h1] at h0
    have e1 : stpM m s = addV m s.id := by unfold stpM; rw [if_pos h1]
    have e2 : abtW m s = ⟨2, s.id, 0, 0, 0, 0⟩ := by unfold abtW; rw [if_pos h1]
    rw [e1, e2]
    obtain ⟨k1, k2⟩ := vertexW_zero h0
    have hk := lss_le m.g.vs s.id
    have hix := idx_mid k1 hk
    have hp := mid_perm m.g.vs (lss m.g.vs s.id) s.id
    have hlen := h.ok.len
    constructor
    · unfold stpW
      rw [if_neg (fun k => k (form0 (.inr (.inl rfl)) hid)), if_neg (show ¬ (2 : Int) = 1 by decide), if_pos rfl]
      unfold noVertexW addV
      simp only
      rw [hix, if_neg (fun k => k (hp.mem_iff.2 (by simp))), if_neg]
      intro k
      refine k ?_
      rw [List.getD_eq_getElem?_getD, List.getElem?_append_right (by rw [List.length_take]; omega), List.length_take, show lss m.g.vs s.id - min (lss m.g.vs s.id) m.rots.length = 0 by omega]
      rfl
    · unfold stpM
      rw [if_neg (show ¬ (2 : Int) = 1 by decide), if_pos rfl]
      unfold delV addV
      simp only
      rw [hix]
      have t1 : (m.g.vs.take (lss m.g.vs s.id)).length = lss m.g.vs s.id := by rw [List.length_take]; omega
      have t2 : (m.rots.take (lss m.g.vs s.id)).length = lss m.g.vs s.id := by rw [List.length_take]; omega
      rw [List.take_left' t1, List.take_left' t2]
      have hd : ∀ {α : Type} (P : List α) (x : α) (Q : List α) (n : Nat), P.length = n → (P ++ x :: Q).drop (n + 1) = Q := fun P x Q n hn => by
        rw [← hn, ← List.drop_drop, List.drop_left]; rfl
      rw [hd _ _ _ _ t1, hd _ _ _ _ t2, List.take_append_drop, List.take_append_drop]
  rw [if_neg h1] at h0
  by_cases h2 : s.k = 2
  · rw [if_pos h2] at h0
    have e1 : stpM m s = delV m s.id := by unfold stpM; rw [if_neg h1, if_pos h2]
    have e2 : abtW m s = ⟨1, s.id, 0, 0, 0, 0⟩ := by unfold abtW; rw [if_neg h1, if_pos h2]
    rw [e1, e2]
    obtain ⟨k1, k2⟩ := noVertexW_zero h0
    obtain ⟨d1, _⟩ := delV_drw h k1 k2
    have hp := del_perm h k1 k2
    have hout := del_out h k1 k2
    have hl := hp.length_eq
    rw [List.length_cons] at hl
    have hv := h.v
    constructor
    · unfold stpW
      rw [if_neg (fun k => k (form0 (.inl rfl) hid)), if_pos rfl]
      unfold vertexW
      rw [if_neg hout, if_neg (by omega)]
    · unfold stpM
      rw [if_pos rfl]
      have ha := addV_ok d1 hout
      refine map_ext ha h.ok (rise_unique ha.g.rise h.ok.g.rise fun w => ?_) rfl fun d => ?_
      · rw [hp.mem_iff]
        exact (mid_perm _ _ _).mem_iff
      · rw [addV_sg d1, delV_sg h k1 k2]
  rw [if_neg h2] at h0
  by_cases h3 : s.k = 3
  · rw [if_pos h3] at h0
    have e1 : stpM m s = linkM m ⟨s.id, s.a, s.b⟩ s.pa s.pb := by unfold stpM; rw [if_neg h1, if_neg h2, if_pos h3]
    have e2 : abtW m s = ⟨4, s.id, 0, 0, 0, 0⟩ := by unfold abtW; rw [if_neg h1, if_neg h2, if_pos h3]
    rw [e1, e2]
    obtain ⟨hl, _, _⟩ := linkW_zero h hid h0
    constructor
    · unfold stpW
      rw [if_neg (fun k => k (form0 (.inr (.inr rfl)) hid)), if_neg (show ¬ (4 : Int) = 1 by decide), if_neg (show ¬ (4 : Int) = 2 by decide), if_neg (show ¬ (4 : Int) = 3 by decide)]
      exact noLinkW_mk (link_in h.ok hl)
    · unfold stpM
      rw [if_neg (show ¬ (4 : Int) = 1 by decide), if_neg (show ¬ (4 : Int) = 2 by decide), if_neg (show ¬ (4 : Int) = 3 by decide)]
      exact link_less h.ok hl
  rw [if_neg h3] at h0
  have e1 : stpM m s = lessM m s.id := by unfold stpM; rw [if_neg h1, if_neg h2, if_neg h3]
  obtain ⟨k1, k2⟩ := noLinkW_zero h0
  rw [e1]
  unfold abtW
  rw [if_neg h1, if_neg h2, if_neg h3]
  have hx : m.g.es.getD (fe m.g.es s.id).toNat ed0 ∈ m.g.es := by rw [getE_lt _ _ k1]; exact List.getElem_mem _
  generalize m.g.es.getD (fe m.g.es s.id).toNat ed0 = x at *
  rw [← k2]
  exact back_ok h hg hx
def DoAll : Mp → List Sp → Prop
  | _, [] => True
  | m, s :: l => stpW m s = 0 ∧ DoAll (stpM m s) l
theorem aft_cons (m : Mp) (s : Sp) (l : List Sp) : aft m (s :: l) = aft (stpM m s) l := rfl
theorem aft_append (m : Mp) (l l' : List Sp) : aft m (l ++ l') = aft (aft m l) l' := by unfold aft; rw [List.foldl_append]
theorem doAll_append : ∀ (m : Mp) (l l' : List Sp), DoAll m (l ++ l') ↔ DoAll m l ∧ DoAll (aft m l) l'
  | m, [], l' => by simp [DoAll, aft]
  | m, s :: l, l' => by
    rw [List.cons_append]
    simp only [DoAll]
    rw [doAll_append (stpM m s) l l', aft_cons, and_assoc]
theorem doAll_to : ∀ (m : Mp) (l : List Sp), DoTo m l l.length ↔ DoAll m l
  | m, [] => ⟨fun _ => trivial, fun _ i hi => by simp at hi⟩
  | m, s :: l => by
    simp only [DoAll]
    rw [← doAll_to (stpM m s) l]
    constructor
    · intro h
      refine ⟨h 0 (by simp), fun i hi => ?_⟩
      have := h (i + 1) (by simpa using hi)
      rw [List.take_succ_cons, aft_cons, List.getD_cons_succ] at this
      exact this
    · rintro ⟨h1, h2⟩ i hi
      cases i with
      | zero => exact h1
      | succ i =>
        rw [List.take_succ_cons, aft_cons, List.getD_cons_succ]
        exact h2 i (by simpa using hi)
theorem doAll_drw : ∀ {m : Mp} {l : List Sp}, Drw m → DoAll m l → Drw (aft m l) ∧ (gn m = 0 → gn (aft m l) = 0)
  | m, [], h, _ => ⟨h, fun k => k⟩
  | m, s :: l, h, hd => by
    obtain ⟨k1, k2⟩ := step_drw h hd.1
    obtain ⟨q1, q2⟩ := doAll_drw k1 hd.2
    rw [aft_cons]
    exact ⟨q1, fun hg => q2 (k2 hg)⟩
def backW : Mp → List Sp → List Sp
  | _, [] => []
  | m, s :: l => backW (stpM m s) l ++ [abtW m s]
theorem backW_len : ∀ (m : Mp) (l : List Sp), (backW m l).length = l.length
  | _, [] => rfl
  | m, s :: l => by unfold backW; rw [List.length_append, backW_len]; rfl
theorem undo_all : ∀ {m : Mp} {l : List Sp}, Drw m → gn m = 0 → DoAll m l → DoAll (aft m l) (backW m l) ∧ aft (aft m l) (backW m l) = m
  | m, [], _, _, _ => ⟨trivial, rfl⟩
  | m, s :: l, h, hg, hd => by
    obtain ⟨k1, k2⟩ := step_drw h hd.1
    obtain ⟨q1, q2⟩ := undo_all k1 (k2 hg) hd.2
    obtain ⟨u1, u2⟩ := undo_step h hg hd.1
    unfold backW
    rw [aft_cons, doAll_append, aft_append, q2]
    exact ⟨⟨q1, u1, trivial⟩, u2⟩
theorem do_ex (m : Mp) (s : Sp) (hm : Drw m) : ∃ n k e, (∀ t st, ACalls Tryz.prog 10 [.ag (mpL m), .sl t 1 (sps [s])] st fun r st' => r = .tu [.ag (mpL n), i k, i e] ∧ st' = st) ∧ ((e = 0 ∧ stpW m s = 0 ∧ n = stpM m s) ∨ (e ≠ 0 ∧ stpW m s = e)) := by
  by_cases h : stpW m s = 0
  · refine ⟨stpM m s, 1, 0, fun t st => (Do m [s] t st hm (by simp)).mono ?_, .inl ⟨rfl, h, rfl⟩⟩
    rintro r s' ⟨hq, h2⟩
    rcases do_one hq with ⟨_, hr⟩ | ⟨hn, _⟩
    · exact ⟨hr, h2⟩
    · exact absurd h hn
  · refine ⟨nilMp, 0, stpW m s, fun t st => (Do m [s] t st hm (by simp)).mono ?_, .inr ⟨h, rfl⟩⟩
    rintro r s' ⟨hq, h2⟩
    rcases do_one hq with ⟨hn, _⟩ | ⟨_, hr⟩
    · exact absurd hn h
    · exact ⟨hr, h2⟩
theorem sAhead (m : Mp) (h : MapOk m) (d : Int) (st : St) (hv : m.g.vs.length ≤ 1000) (he : m.g.es.length ≤ 1000) :
    ACalls Tryz.prog 69 [.ag (mpL m), u d] st fun r st' => r = u (ahdW m d) ∧ st' = st := by
  refine qT (Q := fun r => r = u (ahdW m d)) ?_ fun r h => by subst h; trivial
  have hs : ∀ t ∈ m.rots, small t := fun t ht => by have := h.row_le ht; unfold small; omega
  have hts : small (turnOf m.rots d) := by
    by_cases hd : d ∈ darts m.g.es
    · exact turn_small h he hd
    · rw [turnOf_none (tix_out fun t ht hdt => hd (h.turn_dart ht hdt))]; simp [small]
  obtain ⟨y, hy⟩ : ∃ y, y = ahdW m d := ⟨_, rfl⟩
  rw [← hy]
  unfold ahdW at hy
  refine qO tabOk Tryz.func69 rfl rfl Tryz.ntmps69 (rs := [.tmp 4]) rfl (by simp) ?_
  (repeat' (first | refine qS ?_ | (refine w_e [] ?_; intro J hJ; simp only []; simp []; (try (refine hJ _ _ ?_; clear hJ J; simp only [ak, reduceIte])))))
  refine qE (rTurn' m d _ (by rw [h.len]; omega) hs) (by simp) ?_; rintro r s1 ⟨rfl, h1⟩
  rw [h1]; clear h1 s1
  generalize turnOf m.rots d = t at *
  (repeat' (refine e_go ?_; simp []))
  refine qE (Prev t 0 d _ hts) (by simp) ?_; rintro r s1 ⟨rfl, h1⟩
  rw [h1]; clear h1 s1
  by_cases hp : pv t d = d
  · rw [if_pos hp] at hy
    subst hy
    have hpb : (pv t d == d) = true := by simpa using hp
    generalize pv t d = p at *
    (repeat' (first | refine qS ?_ | (refine qR ?_; simp only [ak, reduceIte]; simp [hp, hpb]) | (refine qC ?_; simp [hp, hpb]) | ((first | (refine w_e [] ?_; intro J hJ; simp only []) | (refine e_go ?_)); simp [hp, hpb]; (refine hJ _ _ ?_; clear hJ J; simp only [ak, reduceIte]))))
    exact Keeps.new _ _
  · rw [if_neg hp] at hy
    subst hy
    have hpb : (pv t d == d) = false := by simpa using hp
    generalize pv t d = p at *
    (repeat' (first | refine qS ?_ | (refine qK ?_; simp only [ak, reduceIte]) | (refine qR ?_; simp only [ak, reduceIte]; simp [hp, hpb]) | (refine qC ?_; simp [hp, hpb]) | ((first | (refine w_e [] ?_; intro J hJ; simp only []) | (refine e_go ?_)); simp [hp, hpb]; (refine hJ _ _ ?_; clear hJ J; simp only [ak, reduceIte]))))
    exact Keeps.new _ _
def swS (c : List Sp) (a b : Nat) : List Sp := (c.set a (c.getD b sp0)).set b (c.getD a sp0)
theorem sps_append (a b : List Sp) : sps (a ++ b) = sps a ++ sps b := by simp [sps]
theorem sps_set (l : List Sp) (k : Nat) (x : Sp) (hk : k < l.length) : (sps l).take (k * 6) ++ (i x.k :: u x.id :: u x.a :: u x.b :: u x.pa :: u x.pb :: (sps l).drop (k * 6 + 6)) = sps (l.set k x) := by
  have h1 : (sps (l.take k)).length = k * 6 := by rw [sps_length, List.length_take]; omega
  have h2 : sps l = sps (l.take k) ++ sps (l.drop k) := by rw [← sps_append, List.take_append_drop]
  have h3 : (sps l).take (k * 6) = sps (l.take k) := by rw [h2, List.take_left' h1]
  have h4 : (sps l).drop (k * 6 + 6) = sps (l.drop (k + 1)) := by
    have := sps_drop l k hk
    rw [← List.drop_drop, this]; rfl
  rw [h3, h4, List.set_eq_take_append_cons_drop, if_pos hk, sps_append]
  rfl
theorem sps_getD (l : List Sp) (j : Nat) (hj : j < l.length) : l.getD j sp0 = l[j] := by rw [List.getD_eq_getElem?_getD, List.getElem?_eq_getElem hj]; rfl
theorem swS_length (c : List Sp) (a b : Nat) : (swS c a b).length = c.length := by simp [swS]
theorem swS_get (c : List Sp) (a b j : Nat) (ha : a < c.length) (hb : b < c.length) : (swS c a b).getD j sp0 = if j = b then c.getD a sp0 else if j = a then c.getD b sp0 else c.getD j sp0 := by
  unfold swS
  simp only [List.getD_eq_getElem?_getD, List.getElem?_set, List.length_set]
  by_cases h1 : j = b
  · subst h1; simp [hb]
  · rw [if_neg (Ne.symm h1), if_neg h1]
    by_cases h2 : j = a
    · subst h2; simp [ha]
    · rw [if_neg (Ne.symm h2), if_neg h2]
theorem revS_of (l c : List Sp) (hc : c.length = l.length) (h : ∀ j, j < l.length → c.getD j sp0 = l.getD (l.length - 1 - j) sp0) : c = l.reverse := by
  refine List.ext_getElem (by simp [hc]) fun j h1 h2 => ?_
  have := h j (by omega)
  rw [sps_getD _ _ h1, sps_getD _ _ (by omega)] at this
  rw [this, List.getElem_reverse]
theorem ReverseS (l : List Sp) (q : Nat) (st : St) (hl : l.length ≤ 100000) (hH : st.H q = .box 38 6 (sps l)) :
    ACalls Tryz.prog 39 [.ms q 0 l.length] st fun r st' => st' = st.set q (.box 38 6 (sps l.reverse)) := by
  have hw1 : IntKind.i64.wrap ((l.length : Int) - 1) = (l.length : Int) - 1 := wrap_i64 _ (by omega) (by omega)
  refine qO tabOk Tryz.func39 rfl rfl Tryz.ntmps39 (rs := []) rfl (by simp) ?_
  (repeat' (first | refine qS ?_ | refine qB ?_ | (refine w_e [] ?_; intro J hJ; simp only []; simp [hw1]; (refine hJ _ _ ?_; clear hJ J; simp only [ak, reduceIte]))))
  refine qL (fun n fr st' => ∃ (k : Nat) (c : List Sp), n = l.length - k ∧ k ≤ l.length ∧ fr 0 = .ms q 0 l.length ∧ fr 2 = i k ∧ fr 3 = i ((l.length : Int) - 1 - k) ∧ c.length = l.length ∧ st' = st.set q (.box 38 6 (sps c)) ∧ ∀ j, j < l.length → c.getD j sp0 = if j < k ∨ l.length ≤ j + k then l.getD (l.length - 1 - j) sp0 else l.getD j sp0) l.length ?_ ?_
  · refine ⟨0, l, by omega, by omega, by simp, by simp, by simp, rfl, St.ext' rfl fun x => by by_cases hx : x = q <;> simp [hx, hH], fun j hj => ?_⟩
    rw [if_neg (by omega)]
  rintro n fr st1 ⟨k, c, rfl, hk, h0, h2, h3, hc, rfl, hin⟩ JJ hJJ
  by_cases hlt : (k : Int) < (l.length : Int) - 1 - k
  · obtain ⟨m, hm⟩ : ∃ m : Nat, (l.length : Int) - 1 - k = m := ⟨l.length - 1 - k, by omega⟩
    rw [hm] at h3 hlt
    have hw2 := qN k (by omega)
    have hw3 : IntKind.i64.wrap ((m : Int) - 1) = (m : Int) - 1 := wrap_i64 _ (by omega) (by omega)
    have hd := sps_drop c k (by omega)
    have hd2 := sps_drop c m (by omega)
    have hkl : k < l.length := by omega
    have hml : m < l.length := by omega
    have hk6 : k * 6 < l.length * 6 := by omega
    have hm6 : m * 6 < l.length * 6 := by omega
    have hcl : (sps c).length = l.length * 6 := by rw [sps_length, hc]
    have hs1 := sps_set c k (c.getD m sp0) (by omega)
    have hs2 := sps_set (c.set k (c.getD m sp0)) m (c.getD k sp0) (by simp; omega)
    have hsw : swS c k m = (c.set k (c.getD m sp0)).set m (c.getD k sp0) := rfl
    have hgk := hin k hkl
    have hgm := hin m hml
    have hget := fun j => swS_get c k m j (by omega) (by omega)
    have hswl := swS_length c k m
    generalize swS c k m = c2 at *
    generalize hX : c.getD k sp0 = X at *
    generalize hY : c.getD m sp0 = Y at *
    (repeat' (first | refine qS ?_ | refine qB ?_ | (refine qK ?_; simp only [ak, reduceIte]) | (refine qC ?_; simp [h0, h2, h3, hlt]) | (refine w_e [] ?_; intro J hJ; simp only []; simp [h0, h2, h3, hlt]; (refine hJ _ _ ?_; clear hJ J; simp only [ak, reduceIte]))))
    obtain ⟨x1, x2, x3, x4, x5, x6⟩ := X
    obtain ⟨y1, y2, y3, y4, y5, y6⟩ := Y
    simp only at hd hd2 hs1 hs2
    (refine w_s [] [q] [(0, true), (1, true), (2, true), (3, true), (4, true), (5, true), (6, true), (7, true), (8, true), (9, true), (10, true), (11, true), (12, true), (13, false), (14, true), (15, false)] ?_; intro J hJ; simp [h0, h2, h3, hkl, hml, hc, hd, hd2, hk6, hm6, hcl]; (repeat refine ca ?_); (refine hJ _ _ ?_; clear hJ J; simp only [ak, reduceIte]))
    rw [hs1, hs2, ← hsw]
    (repeat' (refine w_e [] ?_; intro J hJ; simp only []; simp [h2, h3, hw2, hw3]; (refine hJ _ _ ?_; clear hJ J; simp only [ak, reduceIte])))
    refine hJJ _ _ _ ?_ ⟨k + 1, c2, rfl, by omega, by simp [h0], by simp, ?_, by rw [hswl]; exact hc, St.ext' rfl fun y => by by_cases hy : y = q <;> simp [hy], fun j hj => ?_⟩
    · omega
    · simp only [upd_at]; simp; omega
    · rw [hget, hgk, hgm, hin j hj]
      by_cases h1 : j = m
      · rw [if_pos h1, if_neg (by omega), if_pos (by omega)]; congr 1; omega
      · rw [if_neg h1]
        by_cases h2 : j = k
        · rw [if_pos h2, if_neg (by omega), if_pos (by omega)]; congr 1; omega
        · rw [if_neg h2]
          by_cases h3 : j < k ∨ l.length ≤ j + k
          · rw [if_pos h3, if_pos (by omega)]
          · rw [if_neg h3, if_neg (by omega)]
  · have hcr : c = l.reverse := ?_
    · subst hcr
      clear hJJ
      (repeat' (first | refine qS ?_ | (refine qX ?_; simp only [ak, reduceIte]) | (refine qC ?_; simp [h0, h2, h3, hlt]) | (refine w_e [] ?_; intro J hJ; simp only []; simp [h0, h2, h3, hlt]; (refine hJ _ _ ?_; clear hJ J; simp only [ak, reduceIte]))))
      simp
    refine revS_of l c hc ?_
    intro j hj
    rw [hin j hj]
    by_cases h : j < k ∨ l.length ≤ j + k
    · rw [if_pos h]
    · rw [if_neg h]
      congr 1
      omega
def AbI (p c : Nat) (m : Mp) (y : Ed) (f : Frm) (s : St) : Prop := f 2 = .pt p 0 ∧ f 4 = .pt (p + 2) 0 ∧ f 5 = .pt c 0 ∧ s.H p = .box 28 3 (mpL m) ∧ s.H c = .box 31 3 (edL y) ∧ p + 2 ≠ c ∧ p ≠ c ∧ p + 2 < s.next ∧ c < s.next ∧ s.H (p + 2) = .box 38 6 [i 0, u 0, u 0, u 0, u 0, u 0]
set_option maxHeartbeats 4000000 in
theorem sAbout (m : Mp) (h : MapOk m) (s : Sp) (st : St) (hv : m.g.vs.length ≤ 1000) (he : m.g.es.length ≤ 1000) (hf : s.k = 1 ∨ s.k = 2 ∨ s.k = 3 ∨ ¬ fe m.g.es s.id < 0) :
    ACalls Tryz.prog 38 [.ag (mpL m), .ag (spL s)] st fun r st' => r = .ag (spL (abtW m s)) ∧ st' = st := by
  refine qT (Q := fun r => r = .ag (spL (abtW m s))) ?_ fun r h => by subst h; exact ⟨trivial, trivial, trivial, trivial, trivial, trivial, trivial⟩
  obtain ⟨y, hy⟩ : ∃ y, y = abtW m s := ⟨_, rfl⟩
  rw [← hy]
  unfold abtW at hy
  obtain ⟨k, id, sa, sb, pa, pb⟩ := s
  simp only [spL] at *
  have K3 : Keeps st (((st.new (.box 28 3 [.sl 0 m.g.vs.length (us m.g.vs), .sl 0 m.g.es.length (eds m.g.es), .sl 0 m.rots.length (rowsL m.rots)])).new (.box 38 6 [i k, u id, u sa, u sb, u pa, u pb])).new (.box 38 6 [i 0, u 0, u 0, u 0, u 0, u 0])) := ((Keeps.new _ _).trans (Keeps.new _ _)).trans (Keeps.new _ _)
  have e1 : ¬ st.next + 1 = st.next + 1 + 1 := by omega
  have e2 : ¬ st.next = st.next + 1 + 1 := by omega
  have e3 : ¬ st.next = st.next + 1 := by omega
  refine qO tabOk Tryz.func38 rfl rfl Tryz.ntmps38 (rs := [.cell 4 38]) rfl (by simp) ?_
  refine awp_posG fun hpos => ?_
  by_cases h1 : k = 1
  · rw [if_pos h1] at hy
    subst hy h1
    (repeat' (first | refine qS ?_ | refine qB ?_ | (refine qC ?_; simp []) | (refine w_e [] ?_; intro J hJ; simp only []; simp []; (try (refine hJ _ _ ?_; clear hJ J; simp only [ak, reduceIte])))))
    refine qE (NoVertex' id _) (by simp) ?_; rintro r s1 ⟨rfl, h1⟩
    rw [h1]; clear h1 s1
    (repeat' (first | (refine qR ?_; simp only [ak, reduceIte]; simp [stp]) | (refine e_go ?_; simp [stp]; (refine hJ _ _ ?_; clear hJ J; simp only [ak, reduceIte]))))
    exact (((Keeps.new _ _).trans (Keeps.new _ _)).trans (Keeps.new _ _)).set (by omega) _
  rw [if_neg h1] at hy
  have h1b : (k == 1) = false := by simpa using h1
  by_cases h2 : k = 2
  · rw [if_pos h2] at hy
    subst hy h2
    (repeat' (first | refine qS ?_ | refine qB ?_ | (refine qC ?_; simp []) | (refine w_e [] ?_; intro J hJ; simp only []; simp []; (try (refine hJ _ _ ?_; clear hJ J; simp only [ak, reduceIte])))))
    refine qE (Vertex' id _) (by simp) ?_; rintro r s1 ⟨rfl, h1⟩
    rw [h1]; clear h1 s1
    (repeat' (first | (refine qR ?_; simp only [ak, reduceIte]; simp [stp]) | (refine e_go ?_; simp [stp]; (refine hJ _ _ ?_; clear hJ J; simp only [ak, reduceIte]))))
    exact (((Keeps.new _ _).trans (Keeps.new _ _)).trans (Keeps.new _ _)).set (by omega) _
  rw [if_neg h2] at hy
  have h2b : (k == 2) = false := by simpa using h2
  by_cases h3 : k = 3
  · rw [if_pos h3] at hy
    subst hy h3
    (repeat' (first | refine qS ?_ | refine qB ?_ | (refine qC ?_; simp []) | (refine w_e [] ?_; intro J hJ; simp only []; simp []; (try (refine hJ _ _ ?_; clear hJ J; simp only [ak, reduceIte])))))
    refine qE (NoLink' id _) (by simp) ?_; rintro r s1 ⟨rfl, h1⟩
    rw [h1]; clear h1 s1
    (repeat' (first | (refine qR ?_; simp only [ak, reduceIte]; simp [stp]) | (refine e_go ?_; simp [stp]; (refine hJ _ _ ?_; clear hJ J; simp only [ak, reduceIte]))))
    exact (((Keeps.new _ _).trans (Keeps.new _ _)).trans (Keeps.new _ _)).set (by omega) _
  rw [if_neg h3] at hy
  have h3b : (k == 3) = false := by simpa using h3
  have hfe : ¬ fe m.g.es id < 0 := by
    rcases hf with h | h | h | h
    · exact absurd h h1
    · exact absurd h h2
    · exact absurd h h3
    · exact h
  obtain ⟨f1, f2, f3⟩ := fe_lt m.g.es id hfe
  have hel := eds_length m.g.es
  have hd := eds_drop m.g.es (fe m.g.es id).toNat f1
  have hxin : m.g.es.getD (fe m.g.es id).toNat ed0 ∈ m.g.es := by rw [getE_lt _ _ f1]; exact List.getElem_mem _
  have hx1 := h.g.pos _ hxin
  generalize hfi : (fe m.g.es id).toNat = fi at *
  have ff : ∀ st, ACalls Tryz.prog 68 [.ag (grL m.g), u id] st fun r st' => r = i fi ∧ Keeps st st' := fun st => by
    have := gEdge m.g id st he
    rwa [f2] at this
  have ff' : ∀ st, ACalls Tryz.prog 68 [.ag (grL m.g), u id] st fun r st' => r = i fi ∧ st' = st := fun st => qT (Q := fun r => r = i fi) (ff st) fun r h => by subst h; trivial
  have f1' : (fi : Int) < m.g.es.length := by omega
  have f3' : fi * 3 < m.g.es.length * 3 := by omega
  generalize m.g.es.getD fi ed0 = x at *
  obtain ⟨d, a, b⟩ := x
  simp only at hd hx1 f3
  clear ff f2 hfe hf
  obtain ⟨s3, hs3⟩ : ∃ s3, s3 = ((st.new (.box 28 3 [.sl 0 m.g.vs.length (us m.g.vs), .sl 0 m.g.es.length (eds m.g.es), .sl 0 m.rots.length (rowsL m.rots)])).new (.box 38 6 [i k, u id, u sa, u sb, u pa, u pb])).new (.box 38 6 [i 0, u 0, u 0, u 0, u 0, u 0]) := ⟨_, rfl⟩
  have hp3 : s3.H st.next = .box 28 3 (mpL m) := by subst hs3; simp [e2, e3]
  have hq3 : s3.H (st.next + 1) = .box 38 6 [i k, u id, u sa, u sb, u pa, u pb] := by subst hs3; simp [e1]
  have hr3 : s3.H (st.next + 2) = .box 38 6 [i 0, u 0, u 0, u 0, u 0, u 0] := by subst hs3; simp
  have hn3 : s3.next = st.next + 3 := by subst hs3; simp
  rw [← hs3] at K3
  (repeat' (first | refine qS ?_ | refine qB ?_ | (refine qK ?_; simp only [ak, reduceIte]) | (refine qC ?_; simp [h1, h2, h3, h1b, h2b, h3b]) | (refine w_e [] ?_; intro J hJ; simp only []; simp [h1, h2, h3, h1b, h2b, h3b]; (refine hJ _ _ ?_; clear hJ J; simp only [ak, reduceIte]))))
  rw [← hs3]
  have g1 : ¬ st.next = st.next + 3 := by omega
  have g2 : ¬ st.next + 1 = st.next + 3 := by omega
  have g3 : ¬ st.next + 2 = st.next + 3 := by omega
  have g4 : ¬ st.next + 3 = st.next := by omega
  have g5 : ¬ st.next + 3 = st.next + 1 := by omega
  have g6 : ¬ st.next + 3 = st.next + 2 := by omega
  refine awp_cutN (fun f s => AbI st.next (st.next + 3) m ⟨d, a, b⟩ f s ∧ Keeps st s) ?_ ?_
  · refine w_a [] [st.next, st.next + 1] ?_; intro J hJ
    refine a_pre 5 [(0, true), (1, true), (2, true), (3, true), (4, true), (5, true), (6, true)] ?_
    simp [hp3, hq3, hr3, hn3, hd, hel, f1', f3', f1, g1, g2, g3, g4, g5, g6]
    refine a_alt2 4 (7, true) (10, true) ?_ ?_
    · simp [hp3, hq3, hr3, hn3, hd, hel, f1', f3', f1, g1, g2, g3, g4, g5, g6]
      refine qD (ff' _) (by simp) ?_; rintro r s1 ⟨rfl, h7⟩
      rw [h7]; clear h7 s1
      refine ⟨fun h => by first | (cases h; done) | simp, ?_⟩
      simp [hp3, hq3, hr3, hn3, hd, hel, f1', f3', f1, g1, g2, g3, g4, g5, g6]
      refine a_pre 0 [(8, true), (9, true), (10, true), (11, true)] ?_
      simp [hp3, hq3, hr3, hn3, hd, hel, f1', f3', f1, g1, g2, g3, g4, g5, g6]
      refine aany_end (hJ _ _ ?_)
      simp only [ak]
      refine ⟨by trivial, ⟨by simp, by simp, by simp, by simp [hp3, hq3, hr3, hn3, hd, hel, f1', f3', f1, g1, g2, g3, g4, g5, g6], by simp [hp3, hq3, hr3, hn3, hd, hel, f1', f3', f1, g1, g2, g3, g4, g5, g6, edL], by omega, by omega, by simp [hn3], by simp [hn3], by simp [hp3, hq3, hr3, hn3, g1, g2, g3, g4, g5, g6]⟩, ?_⟩
      exact (K3.trans (Keeps.new _ _)).set (by omega) _
    · simp [hp3, hq3, hr3, hn3, hd, hel, f1', f3', f1, g1, g2, g3, g4, g5, g6]
      refine a_pre 0 [(7, true), (8, true), (9, true), (11, true)] ?_
      simp [hp3, hq3, hr3, hn3, hd, hel, f1', f3', f1, g1, g2, g3, g4, g5, g6]
      refine qD (ff' _) (by simp) ?_; rintro r s1 ⟨rfl, h7⟩
      rw [h7]; clear h7 s1
      refine ⟨fun h => by first | (cases h; done) | simp [hp3, hq3, hr3, hn3, hd, hel, f1', f3', f1, g1, g2, g3, g4, g5, g6], ?_⟩
      simp [hp3, hq3, hr3, hn3, hd, hel, f1', f3', f1, g1, g2, g3, g4, g5, g6]
      refine aany_end (hJ _ _ ?_)
      simp only [ak]
      refine ⟨by trivial, ⟨by simp, by simp, by simp, by simp [hp3, hq3, hr3, hn3, hd, hel, f1', f3', f1, g1, g2, g3, g4, g5, g6], by simp [hp3, hq3, hr3, hn3, hd, hel, f1', f3', f1, g1, g2, g3, g4, g5, g6, edL], by omega, by omega, by simp [hn3], by simp [hn3], by simp [hp3, hq3, hr3, hn3, g1, g2, g3, g4, g5, g6]⟩, ?_⟩
      exact (K3.trans (Keeps.new _ _)).set (by omega) _
  clear g1 g2 g3 g4 g5 g6 e1 e2 e3 hs3 hp3 hq3 hr3 hn3 K3 s3 ff'
  rintro fr s ⟨⟨f2, f4, f5, hp, hc, c1, c2, n1, n2, hr⟩, hk⟩
  simp only [edL] at hc
  refine qS ?_
  (refine w_s [] [st.next, st.next + 3] [(0, true), (1, true), (2, true), (3, true), (6, true), (7, true), (8, true), (4, true), (5, true), (9, true), (10, true), (11, true), (12, false)] ?_; intro J hJ; simp [f2, f4, f5, hp, hc])
  refine qD (dOf0 d _ hx1) (by simp) ?_; rintro r s1 ⟨rfl, h7⟩
  rw [h7]; clear h7 s1
  refine ⟨fun h => by first | (cases h; done) | simp, ?_⟩
  (refine d_go ?_; simp [f2, f4, f5, hp, hc])
  refine qD (sAhead m h (2 * d) _ hv he) (by simp) ?_; rintro r s1 ⟨rfl, h7⟩
  rw [h7]; clear h7 s1
  refine ⟨fun h => by first | (cases h; done) | simp, ?_⟩
  (refine d_go ?_; simp [f2, f4, f5, hp, hc])
  refine qD (dOf1 d _ hx1) (by simp) ?_; rintro r s1 ⟨rfl, h7⟩
  rw [h7]; clear h7 s1
  refine ⟨fun h => by first | (cases h; done) | simp, ?_⟩
  (refine d_go ?_; simp [f2, f4, f5, hp, hc])
  refine qD (sAhead m h (2 * d + 1) _ hv he) (by simp) ?_; rintro r s1 ⟨rfl, h7⟩
  rw [h7]; clear h7 s1
  refine ⟨fun h => by first | (cases h; done) | simp, ?_⟩
  (refine d_go ?_; simp [f2, f4, f5, hp, hc])
  refine qD (Link' ⟨d, a, b⟩ (ahdW m (2 * d)) (ahdW m (2 * d + 1)) _) (by simp) ?_; rintro r s1 ⟨rfl, h7⟩
  rw [h7]; clear h7 s1
  refine ⟨fun h => by first | (cases h; done) | simp, ?_⟩
  (refine d_go ?_; simp [f2, f4, f5, hp, hc, hr, stp]; (refine hJ _ _ ?_; clear hJ J; simp only [ak, reduceIte]))
  (repeat' (refine qR ?_; simp only [ak, reduceIte]; simp [f4, hr, stp]))
  refine ⟨?_, hk.set (by omega) _⟩
  subst hy
  simp
def fwdW : Mp → List Sp → List Sp
  | _, [] => []
  | m, s :: l => abtW m s :: fwdW (stpM m s) l
theorem fwd_back : ∀ (m : Mp) (l : List Sp), (fwdW m l).reverse = backW m l
  | _, [] => rfl
  | m, s :: l => by unfold fwdW backW; rw [List.reverse_cons, fwd_back]
theorem fwd_snoc : ∀ (m : Mp) (l : List Sp) (s : Sp), fwdW m (l ++ [s]) = fwdW m l ++ [abtW (aft m l) s]
  | _, [], _ => rfl
  | m, x :: l, s => by rw [List.cons_append]; unfold fwdW; rw [fwd_snoc, aft_cons]; rfl
theorem fwd_len : ∀ (m : Mp) (l : List Sp), (fwdW m l).length = l.length
  | _, [] => rfl
  | m, s :: l => by unfold fwdW; rw [List.length_cons, fwd_len, List.length_cons]
def UndoQ (m : Mp) (l : List Sp) (r : LV) : Prop := (DoTo m l l.length ∧ r = .tu [.sl 0 l.length (sps (backW m l)), i 0]) ∨ ∃ j, j < l.length ∧ DoTo m l j ∧ stpW (aft m (l.take j)) (l.getD j sp0) ≠ 0 ∧ r = .tu [.sl 0 0 [], i (stpW (aft m (l.take j)) (l.getD j sp0))]
theorem abt_ok {m : Mp} {s : Sp} (h0 : stpW m s = 0) : s.k = 1 ∨ s.k = 2 ∨ s.k = 3 ∨ ¬ fe m.g.es s.id < 0 := by
  unfold stpW at h0
  by_cases hf : formW s = 0
  rotate_left
  · rw [if_pos hf] at h0; exact absurd h0 hf
  rw [if_neg (fun k => k hf)] at h0
  by_cases h1 : s.k = 1
  · exact .inl h1
  by_cases h2 : s.k = 2
  · exact .inr (.inl h2)
  by_cases h3 : s.k = 3
  · exact .inr (.inr (.inl h3))
  rw [if_neg h1, if_neg h2, if_neg h3] at h0
  refine .inr (.inr (.inr fun k => ?_))
  unfold noLinkW at h0
  rw [if_pos k] at h0
  cases h0
set_option maxHeartbeats 4000000 in
theorem sUndo (m : Mp) (l : List Sp) (t : Nat) (st : St) (hm : Drw m) (hl : l.length ≤ 100000) :
    ACalls Tryz.prog 17 [.ag (mpL m), .sl t l.length (sps l)] st fun r st' => UndoQ m l r ∧ st' = st := by
  refine qT (Q := UndoQ m l) (acalls_frzR ?_) fun r h => by
    rcases h with ⟨_, rfl⟩ | ⟨j, _, _, _, rfl⟩
    · exact ⟨⟨.inl rfl, belL_sps _ _⟩, trivial, trivial⟩
    · exact ⟨⟨.inl rfl, trivial⟩, trivial, trivial⟩
  have hsl := sps_length l
  refine qO tabOk Tryz.func17 rfl rfl Tryz.ntmps17 (rs := [.tmp 4, .tmp 5]) rfl (by simp) ?_
  refine awp_posG fun hpos => ?_
  (repeat' (first | refine qS ?_ | refine qB ?_ | (refine w_e [] ?_; intro J hJ; simp only []; simp []; (refine hJ _ _ ?_; clear hJ J; simp only [ak, reduceIte]))))
  refine awp_ownM 6 38 6 (by simp) ?_
  refine awp_range 14 13 15 36 (l.length) (fun j fr st2 => fr 1 = .sl t l.length (sps l) ∧ fr 2 = .pt st.next 0 ∧ fr 12 = .sl t l.length (sps l) ∧ DoTo m l j ∧ st2.H st.next = .box 28 3 (mpL (aft m (l.take j))) ∧ Keeps st st2 ∧ ∃ q, fr 6 = .ms q 0 j ∧ st2.H q = .box 38 6 (sps (fwdW m (l.take j))) ∧ st.next < q ∧ q < st2.next) ?_ ?_ ?_
  · refine ⟨by simp, by simp, by simp, fun i hi => by omega, ?_, (Keeps.new _ _).trans (Keeps.new _ _), st.next + 1, by simp, by simp [fwdW, sps], by omega, by simp⟩
    simp [aft]
  · rintro j fr s hlt ⟨f1, f2, f12, hto, hp, hkp, q, f6, hq, q1, q2⟩ fi fn JO hJO
    have hd := sps_drop l j hlt
    have hj6 : j * 6 < l.length * 6 := by omega
    have hdw := (hto.drw hm j (by omega)).1
    have hax := aft_take (m := m) hlt
    have hfw := fwd_snoc m (l.take j) (l.getD j sp0)
    have htk : l.take (j + 1) = l.take j ++ [l.getD j sp0] := by rw [List.take_succ_eq_append_getElem hlt, sps_getD _ _ hlt]
    rw [← htk] at hfw
    have hsc := hto.succ (j := j)
    have hfl : (fwdW m (l.take j)).length = j := by rw [fwd_len, List.length_take]; omega
    obtain ⟨n', k', e', hD, hDe⟩ := do_ex (aft m (l.take j)) (l.getD j sp0) hdw
    have herr : stpW (aft m (l.take j)) (l.getD j sp0) ≠ 0 → UndoQ m l (.tu [.sl 0 0 [], i (stpW (aft m (l.take j)) (l.getD j sp0))]) := fun hne => .inr ⟨j, hlt, hto, hne, rfl⟩
    have hab := fun st hh => sAbout (aft m (l.take j)) hdw.ok (l.getD j sp0) st (by have := hdw.v; omega) (by have := hdw.e; omega) hh
    have hok := fun h => abt_ok (m := aft m (l.take j)) (s := l.getD j sp0) h
    rw [hfw] at hJO
    rw [hax] at hJO
    generalize l.getD j sp0 = y at *
    generalize aft m (l.take j) = mj at *
    generalize fwdW m (l.take j) = W at *
    obtain ⟨y1, y2, y3, y4, y5, y6⟩ := y
    simp only [sps, spL, List.flatMap_cons, List.flatMap_nil, List.append_nil] at hD
    simp only [spL] at hab
    simp only at hd
    have a1 : ¬ st.next = s.next := by have := hkp.next; omega
    have a2 : ¬ st.next = s.next + 1 := by have := hkp.next; omega
    have a3 : ¬ st.next = s.next + 1 + 1 := by have := hkp.next; omega
    have b1 : ¬ q = s.next := by omega
    have b2 : ¬ q = s.next + 1 := by omega
    have b3 : ¬ q = s.next + 1 + 1 := by omega
    (repeat' (first | refine qS ?_ | (refine w_e [] ?_; intro J hJ; simp only []; simp [f1, f2, f12, fi, fn, hd, hj6, hlt, hsl, hp, a1, a2, a3]; (try (refine hJ _ _ ?_; clear hJ J; simp only [ak, reduceIte])))))
    refine qE (hD (s.next + 1) _) (by simp) ?_; rintro r s1 ⟨rfl, h7⟩
    rw [h7]; clear h7 s1
    (refine e_go ?_; simp [f1, f2, f12]; (refine hJ _ _ ?_; clear hJ J; simp only [ak, reduceIte]))
    rcases hDe with ⟨rfl, hz, rfl⟩ | ⟨hz, he⟩
    rotate_left
    · rw [he] at herr
      have hE := herr hz
      have hzb : (e' != 0) = true := by simpa using hz
      (repeat' (first | refine qS ?_ | (refine qR ?_; simp only [ak, reduceIte]; simp [hz, hzb]) | (refine qC ?_; simp [hz, hzb]) | (refine w_e [] ?_; intro J hJ; simp only []; simp [hz, hzb]; (refine hJ _ _ ?_; clear hJ J; simp only [ak, reduceIte]))))
      exact ⟨_, _, frz_tu (frzL_cons (frz_norm _ _) (frzL_same _ _)), hE, ((((hkp.trans (Keeps.new _ _)).trans (Keeps.new _ _)).trans (Keeps.new _ _)).set (by have := hkp.next; omega) _)⟩
    · have h2 := hsc hz
      have hk2 := hok hz
      (repeat' (first | refine qS ?_ | (refine qK ?_; simp only [ak, reduceIte]) | (refine qC ?_; simp [f1, f2, f12, f6, hp, a1, a2, a3]) | (refine w_e [] ?_; intro J hJ; simp only []; simp [f1, f2, f12, f6, hp, a1, a2, a3]; (try (refine hJ _ _ ?_; clear hJ J; simp only [ak, reduceIte])))))
      refine qE (hab _ hk2) (by simp) ?_; rintro r s1 ⟨rfl, h7⟩
      rw [h7]; clear h7 s1
      clear hab hD herr hok
      generalize abtW mj ⟨y1, y2, y3, y4, y5, y6⟩ = z at *
      generalize stpM mj ⟨y1, y2, y3, y4, y5, y6⟩ = mn at *
      obtain ⟨z1, z2, z3, z4, z5, z6⟩ := z
      have hWl : (sps W).length = j * 6 := by rw [sps_length, hfl]
      have b4 : ¬ q = s.next + 1 + 1 + 1 := by omega
      have a4 : ¬ st.next = s.next + 1 + 1 + 1 := by have := hkp.next; omega
      have b5 : ¬ q = st.next := by omega
      have b6 : ¬ st.next = q := by omega
      have a5 : ¬ s.next + 1 + 1 = st.next := by have := hkp.next; omega
      have a6 : ¬ st.next = s.next + 1 + 1 + 1 + 1 := by have := hkp.next; omega
      have b7 : ¬ q = s.next + 1 + 1 + 1 + 1 := by omega
      have b8 : ¬ s.next + 1 + 1 = q := by omega
      (repeat' ((first | (refine w_e [] ?_; intro J hJ; simp only []) | (refine e_go ?_)); simp [f1, f2, f12, f6, hp, hq, a1, a2, a3, a4, a5, a6, b1, b2, b3, b4, b5, b6, b7, b8, hWl]; (repeat refine ca ?_); (refine hJ _ _ ?_; clear hJ J; simp only [ak, reduceIte])))
      refine hJO _ _ (by simp [fi]) (by simp [fn]) ⟨by simp [f1], by simp [f2], by simp [f12], h2, ?_, ?_, s.next + 1 + 1 + 1 + 1, by simp, ?_, by have := hkp.next; omega, by simp⟩
      · simp [a5]
      · have n0 := hkp.next
        exact ((((((hkp.trans (Keeps.new _ _)).trans (Keeps.new _ _)).trans (Keeps.new _ _)).set (by omega) _).trans (Keeps.new _ _)).set (by omega) _ |>.trans (Keeps.new _ _)).set (by omega) _
      · simp [show ¬ s.next + 1 + 1 + 1 + 1 = st.next by have := hkp.next; omega, sps_append]
        simp [sps, spL]
  · rintro fr s ⟨f1, f2, f12, hto, hp, hkp, q, f6, hq, q1, q2⟩
    rw [List.take_length] at hq
    have hfl := fwd_len m l
    have hfb := fwd_back m l
    generalize hW : fwdW m l = W at *
    rw [← hfl] at f6
    (repeat' (first | refine qS ?_ | (refine w_e [] ?_; intro J hJ; simp only []; simp [f6])))
    refine qE (ReverseS W q _ (by omega) hq) (by simp) ?_; rintro r s1 rfl
    (repeat' (first | refine qS ?_ | (refine qR ?_; simp only [ak, reduceIte]; simp [f6]) | ((first | (refine w_e [] ?_; intro J hJ; simp only []) | (refine e_go ?_)); simp [f6]; (refine hJ _ _ ?_; clear hJ J; simp only [ak, reduceIte]))))
    refine ⟨_, _, frz_tu (frzL_cons (frz_row (e := 38) (s := 6) (cs := sps W.reverse) (by simp) (by rw [sps_length, List.length_reverse])) (frzL_same _ _)), .inl ⟨hto, ?_⟩, (hkp.set (by omega) _).set (by omega) _⟩
    rw [hfb, hfl]
theorem rSame10K (a : Mp) (st : St) (hv : a.g.vs.length ≤ 1000) (he : a.g.es.length ≤ 1000) (hr : a.rots.length ≤ 1000) (hs : ∀ t ∈ a.rots, small t) :
    ACalls Tryz.prog 18 [.ag (mpL a), .ag (mpL a)] st fun r st' => r = bb true ∧ Keeps st st' := by
  refine qO tabOk Tryz.func18 rfl rfl Tryz.ntmps18 (rs := [.tmp 4]) rfl (by simp) ?_
  (repeat' (first | refine qS ?_ | (refine w_e [] ?_; intro J hJ; simp only []; simp []; (try (refine hJ _ _ ?_; clear hJ J; simp only [ak, reduceIte])))))
  refine qE (ref_SameG a.g a.g _ (by omega) (by omega)) (by simp) ?_; rintro r s1 ⟨rfl, hk1⟩
  have hn1 := hk1.next
  simp only [new_next] at hn1
  have hA1 : s1.H st.next = .box 28 3 (mpL a) := by rw [hk1.H _ (by simp; omega)]; simp
  have hB1 : s1.H (st.next + 1) = .box 28 3 (mpL a) := by rw [hk1.H _ (by simp)]; simp
  have hK1 : Keeps st s1 := ((Keeps.new _ _).trans (Keeps.new _ _)).trans hk1
  (repeat' (first | refine qS ?_ | refine qB ?_ | (refine qK ?_; simp only [ak, reduceIte]) | (refine qC ?_; simp [hA1, hB1]) | ((first | (refine w_e [] ?_; intro J hJ; simp only []) | (refine e_go ?_)); simp [hA1, hB1]; (refine hJ _ _ ?_; clear hJ J; simp only [ak, reduceIte]))))
  refine awp_range 24 23 25 39 (a.rots.length) (fun j fr st2 => fr 2 = .pt st.next 0 ∧ fr 3 = .pt (st.next + 1) 0 ∧ st2 = s1) ?_ ?_ ?_
  · exact ⟨by simp, by simp, rfl⟩
  · rintro j fr s2 hlt ⟨f2, f3, rfl⟩ fi fn JJ hJJ
    have hd := rowsL_drop a.rots j hlt
    have hRl2 : j < (rowsL a.rots).length := by simpa using hlt
    have hsk := hs (a.rots.getD j []) (by rw [getR_lt _ _ hlt]; exact List.getElem_mem _)
    generalize a.rots.getD j [] = c at *
    (repeat' (first | refine qS ?_ | (refine w_e [] ?_; intro J hJ; simp only []; simp [fi, fn]; (refine hJ _ _ ?_; clear hJ J; simp only [ak, reduceIte]))))
    (refine w_s [] [st.next, st.next + 1] [(0, true), (1, true), (2, true), (3, true), (4, true), (5, true), (6, true), (7, true), (8, true), (9, true), (10, true), (11, true)] ?_; intro J hJ; simp [f2, f3, hA1, hB1, hd, hRl2, hlt])
    refine qD (ref_Same c c 0 0 _ hsk) (by simp) ?_; rintro r s3 ⟨rfl, rfl⟩
    refine ⟨fun _ => by simp, ?_⟩
    (refine d_go ?_; simp []; (refine hJ _ _ ?_; clear hJ J; simp only [ak, reduceIte]))
    (repeat' (first | (refine qK ?_; simp only [ak, reduceIte]) | (refine qC ?_; simp [])))
    exact hJJ _ _ (by simp [fi]) (by simp [fn]) ⟨by simp [f2], by simp [f3], rfl⟩
  · rintro fr s2 ⟨f2, f3, rfl⟩
    (repeat' (first | refine qS ?_ | (refine qR ?_; simp only [ak, reduceIte]; simp []) | (refine w_e [] ?_; intro J hJ; simp only []; simp []; (refine hJ _ _ ?_; clear hJ J; simp only [ak, reduceIte]))))
    exact hK1
theorem rSame10 (a : Mp) (st : St) (h : Drw a) : ACalls Tryz.prog 18 [.ag (mpL a), .ag (mpL a)] st fun r st' => r = bb true ∧ st' = st :=
  qT (Q := fun r => r = bb true) (rSame10K a st (by have := h.v; omega) (by have := h.e; omega) (by have := h.v; rw [h.ok.len]; omega) h.sm) fun r h => by subst h; trivial
theorem shp_sp {lvs : List LV} (h : Shp tab 38 lvs) : ∃ s : Sp, lvs = spL s := by
  obtain ⟨ps, rfl, h1, h2⟩ := shp_struct rfl rfl h
  match ps, h1 with
  | [p0, p1, p2, p3, p4, p5], _ =>
    obtain ⟨k, rfl, _⟩ := shp_int rfl rfl (h2 0 _ p0 rfl rfl)
    obtain ⟨n, rfl, _⟩ := shp_u (h2 1 _ p1 rfl rfl)
    obtain ⟨a, rfl, _⟩ := shp_u (h2 2 _ p2 rfl rfl)
    obtain ⟨b, rfl, _⟩ := shp_u (h2 3 _ p3 rfl rfl)
    obtain ⟨c, rfl, _⟩ := shp_u (h2 4 _ p4 rfl rfl)
    obtain ⟨d, rfl, _⟩ := shp_u (h2 5 _ p5 rfl rfl)
    exact ⟨⟨k, n, a, b, c, d⟩, rfl⟩
theorem shp_sps {lvs : List LV} (h : Shp tab 45 lvs) : ∃ l : List Sp, lvs = [.sl 0 l.length (sps l)] := by
  obtain ⟨es, h1, h2, h3⟩ := shp_slice rfl rfl h
  have : ∃ l : List Sp, es = l.map spL := by
    clear h1 h2
    induction es with
    | nil => exact ⟨[], rfl⟩
    | cons x es ih =>
      obtain ⟨l, k1⟩ := ih (fun y hy => h3 y (by simp [hy]))
      obtain ⟨n, k3⟩ := shp_sp (h3 x (by simp))
      exact ⟨n :: l, by rw [k1, k3]; rfl⟩
  obtain ⟨l, rfl⟩ := this
  refine ⟨l, ?_⟩
  rw [h1, List.length_map, ← List.flatMap_def]
  rfl
theorem do_uniq {m : Mp} {l : List Sp} {j j' : Nat} (h : DoTo m l j) (h1 : stpW (aft m (l.take j)) (l.getD j sp0) ≠ 0) (h' : DoTo m l j') (h1' : stpW (aft m (l.take j')) (l.getD j' sp0) ≠ 0) : j = j' := by
  rcases Nat.lt_trichotomy j j' with k | k | k
  · exact absurd (h' j k) h1
  · exact k
  · exact absurd (h j' k) h1'
set_option maxHeartbeats 4000000 in
theorem SketchUndoes (m : Mp) (l : List Sp) (t : Nat) (st : St) : ACalls Tryz.prog 4 [.ag (mpL m), .sl t l.length (sps l)] st fun r st' => r = bb true := by
  refine qO tabOk Tryz.func4 rfl rfl Tryz.ntmps4 (rs := [.tmp 4]) rfl (by simp) ?_
  refine awp_posG fun hpos => ?_
  (repeat' (first | refine qS ?_ | (refine w_e [] ?_; intro J hJ; simp only []; simp []; (try (refine hJ _ _ ?_; clear hJ J; simp only [ak, reduceIte])))))
  refine qE (awake11 _) (by simp []) ?_; rintro r st' ⟨rfl, rfl⟩
  by_cases h1 : (40 : Int) < m.g.es.length
  · (repeat' (first | refine qS ?_ | (refine qK ?_; simp only [ak, reduceIte]) | (refine qR ?_; simp only [ak, reduceIte]; simp [h1]) | (refine qC ?_; simp [h1]) | ((first | (refine w_e [] ?_; intro J hJ; simp only []) | (refine e_go ?_)); simp [h1]; (refine hJ _ _ ?_; clear hJ J; simp only [ak, reduceIte]))))
  by_cases h2 : (40 : Int) < l.length
  · (repeat' (first | refine qS ?_ | (refine qK ?_; simp only [ak, reduceIte]) | (refine qR ?_; simp only [ak, reduceIte]; simp [h1, h2]) | (refine qC ?_; simp [h1, h2]) | ((first | (refine w_e [] ?_; intro J hJ; simp only []) | (refine e_go ?_)); simp [h1, h2]; (refine hJ _ _ ?_; clear hJ J; simp only [ak, reduceIte]))))
  by_cases h3 : (70 : Int) < m.rots.length
  · (repeat' (first | refine qS ?_ | (refine qK ?_; simp only [ak, reduceIte]) | (refine qR ?_; simp only [ak, reduceIte]; simp [h1, h2, h3]) | (refine qC ?_; simp [h1, h2, h3]) | ((first | (refine w_e [] ?_; intro J hJ; simp only []) | (refine e_go ?_)); simp [h1, h2, h3]; (refine hJ _ _ ?_; clear hJ J; simp only [ak, reduceIte]))))
  (repeat' (first | refine qS ?_ | (refine qK ?_; simp only [ak, reduceIte]) | (refine qC ?_; simp [h1, h2, h3]) | ((first | (refine w_e [] ?_; intro J hJ; simp only []) | (refine e_go ?_)); simp [h1, h2, h3]; (try (refine hJ _ _ ?_; clear hJ J; simp only [ak, reduceIte])))))
  refine qE (rRightC' m _ (by omega) (by omega)) (by simp) ?_; rintro r s1 ⟨rfl, h7⟩
  rw [h7]; clear h7 s1
  by_cases hc : rright m = 0
  rotate_left
  · generalize rright m = y at *
    have hcb : (y != 0) = true := by simpa using hc
    (repeat' (first | refine qS ?_ | (refine qR ?_; simp only [ak, reduceIte]; simp [hc, hcb]) | (refine qC ?_; simp [hc, hcb]) | ((first | (refine w_e [] ?_; intro J hJ; simp only []) | (refine e_go ?_)); simp [hc, hcb]; (refine hJ _ _ ?_; clear hJ J; simp only [ak, reduceIte]))))
  rw [hc]
  obtain ⟨hm, hg⟩ := drw_right.1 hc
  clear hc
  have hel := hm.e
  have hvl := hm.v
  have hsl := sps_length l
  (repeat' (first | refine qS ?_ | (refine qK ?_; simp only [ak, reduceIte]) | (refine qC ?_; simp []) | ((first | (refine w_e [] ?_; intro J hJ; simp only []) | (refine e_go ?_)); simp []; (try (refine hJ _ _ ?_; clear hJ J; simp only [ak, reduceIte])))))
  refine qE (Do m l t _ hm (by omega)) (by simp) ?_; rintro r s1 ⟨hq, h7⟩
  rw [h7]; clear h7 s1
  rcases hq with ⟨hto, rfl⟩ | ⟨j, hj, hto, hne, rfl⟩
  · (repeat' (first | refine qS ?_ | ((first | (refine w_e [] ?_; intro J hJ; simp only []) | (refine e_go ?_)); simp []; (try (refine hJ _ _ ?_; clear hJ J; simp only [ak, reduceIte])))))
    refine qE (sUndo m l t _ hm (by omega)) (by simp) ?_; rintro r s1 ⟨hq, h7⟩
    rw [h7]; clear h7 s1
    rcases hq with ⟨_, rfl⟩ | ⟨j, hj, _, hne, _⟩
    rotate_left
    · exact absurd (hto j hj) hne
    obtain ⟨hd1, _⟩ := doAll_drw hm ((doAll_to m l).1 hto)
    obtain ⟨hu1, hu2⟩ := undo_all hm hg ((doAll_to m l).1 hto)
    have hbl := backW_len m l
    rw [← hbl]
    generalize hB : backW m l = B at *
    generalize ha : aft m l = a at *
    (repeat' (first | refine qS ?_ | (refine qK ?_; simp only [ak, reduceIte]) | (refine qC ?_; simp []) | ((first | (refine w_e [] ?_; intro J hJ; simp only []) | (refine e_go ?_)); simp []; (try (refine hJ _ _ ?_; clear hJ J; simp only [ak, reduceIte])))))
    refine qE (Do a B 0 _ hd1 (by omega)) (by simp) ?_; rintro r s1 ⟨hq, h7⟩
    rw [h7]; clear h7 s1
    rcases hq with ⟨_, rfl⟩ | ⟨j, hj, hto2, hne, _⟩
    rotate_left
    · exact absurd ((doAll_to a B).2 hu1 j hj) hne
    rw [hu2]
    (repeat' (first | refine qS ?_ | ((first | (refine w_e [] ?_; intro J hJ; simp only []) | (refine e_go ?_)); simp []; (try (refine hJ _ _ ?_; clear hJ J; simp only [ak, reduceIte])))))
    refine qE (rSame10 m _ hm) (by simp) ?_; rintro r s1 ⟨rfl, h7⟩
    rw [h7]; clear h7 s1
    (repeat' (first | (refine qR ?_; simp only [ak, reduceIte]; simp []) | (refine e_go ?_; simp []; (refine hJ _ _ ?_; clear hJ J; simp only [ak, reduceIte]))))
  · obtain ⟨e, he⟩ : ∃ e, e = stpW (aft m (l.take j)) (l.getD j sp0) := ⟨_, rfl⟩
    have hU : ∀ st, ACalls Tryz.prog 17 [.ag (mpL m), .sl t l.length (sps l)] st fun r st' => r = .tu [.sl 0 0 [], i e] ∧ st' = st := fun st => (sUndo m l t st hm (by omega)).mono fun r s' hq => by
      obtain ⟨hq, h7⟩ := hq
      rcases hq with ⟨h9, _⟩ | ⟨j', hj', hto', hne', rfl⟩
      · exact absurd (h9 j hj) hne
      · obtain rfl := do_uniq hto hne hto' hne'
        exact ⟨by rw [he], h7⟩
    rw [← he] at hne ⊢
    clear he
    have hnb : (e != 0) = true := by simpa using hne
    (repeat' (first | refine qS ?_ | ((first | (refine w_e [] ?_; intro J hJ; simp only []) | (refine e_go ?_)); simp [hne, hnb]; (try (refine hJ _ _ ?_; clear hJ J; simp only [ak, reduceIte])))))
    refine qE (hU _) (by simp) ?_; rintro r s1 ⟨rfl, h7⟩
    rw [h7]; clear h7 s1
    (repeat' (first | refine qS ?_ | (refine qR ?_; simp only [ak, reduceIte]; simp [hne, hnb]) | (refine qC ?_; simp [hne, hnb]) | ((first | (refine w_e [] ?_; intro J hJ; simp only []) | (refine e_go ?_)); simp [hne, hnb]; (refine hJ _ _ ?_; clear hJ J; simp only [ak, reduceIte]))))
theorem SketchUndoes_shp (l0 l1 : List LV) (st : St) (h0 : Shp tab 28 l0) (h1 : Shp tab 45 l1) : ACalls Tryz.prog 4 [argT tab 28 l0, argT tab 45 l1] st fun r st' => r = bb true := by
  obtain ⟨m, rfl, _⟩ := shp_mp h0
  obtain ⟨l, rfl⟩ := shp_sps h1
  exact SketchUndoes m l 0 st
end Go.Proofs.YtglkgindpjdoiaaGreat.Aw
