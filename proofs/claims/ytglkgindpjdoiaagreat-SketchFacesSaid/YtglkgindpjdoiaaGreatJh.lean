/- Drawing on a map: Do. -/
import Derived.Test.YtglkgindpjdoiaaGreatJg
import Derived.Test.YtglkgindpjdoiaaGreatAwShp
import Derived.Test.YtglkgindpjdoiaaGreatAwAlt
namespace Go.Proofs.YtglkgindpjdoiaaGreat.Aw
open Go Go.RowKit Go.Proofs.YtglkgindpjdoiaaGreat.Pl Go.Proofs.YtglkgindpjdoiaaGreat.Eu
set_option linter.unusedSimpArgs false
set_option linter.unusedVariables false
def aft (m : Mp) (l : List Sp) : Mp := l.foldl stpM m
def nilMp : Mp := ⟨⟨[], []⟩, []⟩
def DoTo (m : Mp) (l : List Sp) (j : Nat) : Prop := ∀ i, i < j → stpW (aft m (l.take i)) (l.getD i sp0) = 0
theorem aft_take {m : Mp} {l : List Sp} {j : Nat} (hj : j < l.length) : aft m (l.take (j + 1)) = stpM (aft m (l.take j)) (l.getD j sp0) := by
  unfold aft
  rw [List.take_succ_eq_append_getElem hj, List.foldl_append, List.getD_eq_getElem?_getD, List.getElem?_eq_getElem hj]
  rfl
theorem DoTo.drw {m : Mp} {l : List Sp} (hm : Drw m) : ∀ j, j ≤ l.length → DoTo m l j → Drw (aft m (l.take j)) ∧ (gn m = 0 → gn (aft m (l.take j)) = 0)
  | 0, _, _ => ⟨hm, fun h => h⟩
  | j + 1, hj, h => by
    obtain ⟨h1, h2⟩ := DoTo.drw hm j (by omega) fun i hi => h i (by omega)
    obtain ⟨k1, k2⟩ := step_drw h1 (h j (by omega))
    rw [aft_take (by omega)]
    exact ⟨k1, fun hg => k2 (h2 hg)⟩
theorem DoTo.succ {m : Mp} {l : List Sp} {j : Nat} (h : DoTo m l j) (k : stpW (aft m (l.take j)) (l.getD j sp0) = 0) : DoTo m l (j + 1) := fun i hi => by
  rcases Nat.lt_or_ge i j with h1 | h1
  · exact h i h1
  · obtain rfl : i = j := by omega
    exact k
theorem frz_norm (st : St) (x : LV) : Frz st st x (norm x) := fun w g _ hi hr => ⟨g, hi, rep_norm hr, Ext.refl w g⟩
theorem DrB.keeps {B D : Nat} {m : Mp} {st st' : St} (h : DrB B D m st) (hk : Keeps st st') : DrB B D m st' := by
  obtain ⟨⟨lv, le, lr, ⟨h1, h2, h3⟩, b⟩, hB0⟩ := h
  have hn := hk.next
  exact ⟨⟨lv, le, lr, ⟨by rw [hk.H _ h3]; exact h1, ⟨by rw [hk.H _ h2.v0]; exact h2.v, by rw [hk.H _ h2.e0]; exact h2.e, by rw [hk.H _ h2.r0]; exact h2.r, Nat.lt_of_lt_of_le h2.v0 hn, Nat.lt_of_lt_of_le h2.e0 hn, Nat.lt_of_lt_of_le h2.r0 hn⟩, Nat.lt_of_lt_of_le h3 hn⟩, b⟩, hB0⟩
def DoQ (m : Mp) (l : List Sp) (r : LV) : Prop := (DoTo m l l.length ∧ r = .tu [.ag (mpL (aft m l)), i l.length, i 0]) ∨ ∃ j, j < l.length ∧ DoTo m l j ∧ stpW (aft m (l.take j)) (l.getD j sp0) ≠ 0 ∧ r = .tu [.ag (mpL nilMp), i j, i (stpW (aft m (l.take j)) (l.getD j sp0))]
set_option maxHeartbeats 4000000 in
theorem DoK (m : Mp) (l : List Sp) (t : Nat) (st : St) (hm : Drw m) (hl : l.length ≤ 100000) :
    ACalls Tryz.prog 10 [.ag (mpL m), .sl t l.length (sps l)] st fun r st' => DoQ m l r ∧ Keeps st st' := by
  have hv := hm.v
  have he := hm.e
  have hsl := sps_length l
  have hr : m.rots.length ≤ 1000 := by rw [hm.ok.len]; omega
  refine acalls_frzR ?_
  refine qO tabOk Tryz.func10 rfl rfl Tryz.ntmps10 (rs := [.cell 4 28, .tmp 5, .tmp 6]) rfl (by simp) ?_
  refine awp_posG fun hpos => ?_
  (repeat' (first | refine qS ?_ | (refine w_e [] ?_; intro J hJ; simp only []; simp []; (try (refine hJ _ _ ?_; clear hJ J; simp only [ak, reduceIte])))))
  refine qE (rCloneM m _ (by omega) (by omega) hr hm.sm) (by simp) ?_; rintro r s1 ⟨lv, le, lr, rfl, hat, l1, l2, l3, hk1⟩
  simp only [new_next] at l1 l2 l3
  have hn1 := hk1.next
  simp only [new_next] at hn1
  have hR1 : s1.H (st.next + 1) = .box 28 3 [.nil, .nil, .nil] := by rw [hk1.H _ (by simp)]; simp
  have hkp1 : Keeps st s1 := ((Keeps.new _ _).trans (Keeps.new _ _)).trans hk1
  have h1 := hat.v0
  have h2 := hat.e0
  have h3 := hat.r0
  have hdr : DrB (st.next + 2) s1.next m (s1.new (.box 61 3 (mpM lv le lr m))) := ⟨⟨lv, le, lr, ⟨by simp, ⟨by simp [show ¬ lv = s1.next by omega, hat.v], by simp [show ¬ le = s1.next by omega, hat.e], by simp [show ¬ lr = s1.next by omega, hat.r], by simp; omega, by simp; omega, by simp; omega⟩, by simp⟩, by omega, by omega, by omega⟩, by omega⟩
  have hk2 : KB (st.next + 2) s1 (s1.new (.box 61 3 (mpM lv le lr m))) := (Keeps.new _ _).kb (by omega)
  obtain ⟨D, hD⟩ : ∃ D, D = s1.next := ⟨_, rfl⟩
  obtain ⟨s2, hs2⟩ : ∃ s2, s2 = s1.new (.box 61 3 (mpM lv le lr m)) := ⟨_, rfl⟩
  rw [← hs2, ← hD] at hdr
  rw [← hs2] at hk2
  have hn2 : s2.next = D + 1 := by rw [hs2, hD]; rfl
  unfold mpM at hs2 ⊢
  (repeat' (first | refine qS ?_ | refine qB ?_ | ((first | (refine w_e [] ?_; intro J hJ; simp only []) | (refine e_go ?_)); simp []; (refine hJ _ _ ?_; clear hJ J; simp only [ak, reduceIte]))))
  rw [← hs2, ← hD]
  have hR2 : s2.H (st.next + 1) = .box 28 3 [.nil, .nil, .nil] := by rw [hk2.H _ (by omega)]; exact hR1
  have hk3 : Keeps st s2 := ⟨Nat.le_trans hkp1.next hk2.next, fun x hx => (hk2.H x (by omega)).trans (hkp1.H x hx)⟩
  clear hs2 hk2 hR1 hkp1 hn1 hk1 hat h1 h2 h3 l1 l2 l3
  refine awp_range 17 16 18 30 (l.length) (fun j fr st2 => fr 4 = .pt (st.next + 1) 0 ∧ fr 7 = .pt D 0 ∧ fr 1 = .sl t l.length (sps l) ∧ fr 15 = .sl t l.length (sps l) ∧ DrB (st.next + 2) D (aft m (l.take j)) st2 ∧ DoTo m l j ∧ st2.H (st.next + 1) = .box 28 3 [.nil, .nil, .nil] ∧ Keeps st st2 ∧ D < st2.next) ?_ ?_ ?_
  · exact ⟨by simp, by simp, by simp, by simp, hdr, fun i hi => by omega, hR2, hk3, by omega⟩
  · clear hR2 hk3 hdr
    rintro j fr s hlt ⟨f4, f7, f1, f15, hdr, hto, hR, hkp, hDn⟩ fi fn JO hJO
    have hd := sps_drop l j hlt
    have hj6 : j * 6 < l.length * 6 := by omega
    have hdw := (hto.drw hm j (by omega)).1
    have hax := aft_take (m := m) hlt
    have hsc := hto.succ (j := j)
    have hB0 := hdr.B0
    have hstp := fun st' h hB => stepS (st.next + 2) D (aft m (l.take j)) (l.getD j sp0) st' h hB hdw
    have herr : stpW (aft m (l.take j)) (l.getD j sp0) ≠ 0 → DoQ m l (.tu [.ag (mpL nilMp), i j, i (stpW (aft m (l.take j)) (l.getD j sp0))]) := fun hne => .inr ⟨j, hlt, hto, hne, rfl⟩
    rw [hax] at hJO
    generalize l.getD j sp0 = y at *
    generalize hmj : aft m (l.take j) = mj at *
    obtain ⟨y1, y2, y3, y4, y5, y6⟩ := y
    simp only [spL] at hd hstp
    (repeat' (first | refine qS ?_ | (refine w_e [] ?_; intro J hJ; simp only []; simp [f4, f7, f1, f15, fi, fn, hd, hj6, hlt, hsl]; (try (refine hJ _ _ ?_; clear hJ J; simp only [ak, reduceIte])))))
    refine qE (hstp _ (hdr.keeps (Keeps.new _ _)) (by simp; omega)) (by simp) ?_; rintro r s3 ⟨rfl, k1, k2⟩
    have hn3 := k2.next
    simp only [new_next] at hn3
    have hR3 : s3.H (st.next + 1) = .box 28 3 [.nil, .nil, .nil] := by rw [k2.H _ (by omega)]; simp [show ¬ st.next + 1 = s.next by omega, hR]
    have hkp3 : Keeps st s3 := ⟨by have := hkp.next; omega, fun x hx => by rw [k2.H x (by omega), new_H, if_neg (by have := hkp.next; omega)]; exact hkp.H x hx⟩
    by_cases hz : stpW mj ⟨y1, y2, y3, y4, y5, y6⟩ = 0
    · have h1 := k1 hz
      have h2 := hsc hz
      rw [hz]
      (repeat' (first | refine qS ?_ | (refine qK ?_; simp only [ak, reduceIte]) | (refine qC ?_; simp []) | ((first | (refine w_e [] ?_; intro J hJ; simp only []) | (refine e_go ?_)); simp []; (refine hJ _ _ ?_; clear hJ J; simp only [ak, reduceIte]))))
      exact hJO _ _ (by simp [fi]) (by simp [fn]) ⟨by simp [f4], by simp [f7], by simp [f1], by simp [f15], h1, h2, hR3, hkp3, by omega⟩
    · have hE := herr hz
      generalize stpW mj ⟨y1, y2, y3, y4, y5, y6⟩ = e at *
      have hzb : (e != 0) = true := by simpa using hz
      (repeat' (first | refine qS ?_ | (refine qR ?_; simp only [ak, reduceIte]; simp [hz, hzb, f4, hR3]) | (refine qC ?_; simp [hz, hzb, f4, hR3]) | ((first | (refine w_e [] ?_; intro J hJ; simp only []) | (refine e_go ?_)); simp [hz, hzb, f4, hR3]; (refine hJ _ _ ?_; clear hJ J; simp only [ak, reduceIte]))))
      exact ⟨_, _, frz_tu (frzL_cons (frz_ag (frzL_cons (frz_norm _ _) (frzL_cons (frz_norm _ _) (frzL_cons (frz_norm _ _) (frzL_same _ _))))) (frzL_same _ _)), hE, hkp3.set (by omega) _⟩
  · clear hR2 hk3 hdr
    rintro fr s ⟨f4, f7, f1, f15, ⟨⟨lv', le', lr', hI, b⟩, hB0⟩, hto, hR, hkp, hDn⟩
    rw [List.take_length] at hI
    have hne := hI.ne
    have hD1 := hI.d
    unfold mpM at hD1
    obtain ⟨d1, d2, d3, d4, d5, d6⟩ := hne
    have hat := hI.at'
    have n1 := hat.v0
    have n2 := hat.e0
    have n3 := hat.r0
    (repeat' (first | refine qS ?_ | (refine qR ?_; simp only [ak, reduceIte]; simp [f1, f4, f7, hD1, hR]) | (refine w_e [] ?_; intro J hJ; simp only []; simp [f1, f4, f7, hD1, hR]; (refine hJ _ _ ?_; clear hJ J; simp only [ak, reduceIte]))))
    refine ⟨_, _, frz_tu (frzL_cons (frz_mp (m := aft m l) ⟨?_, ?_, ?_, ?_, ?_, ?_⟩ d4 d5 d6) (frzL_same _ _)), .inl ⟨hto, rfl⟩, ⟨?_, fun x hx => ?_⟩⟩
    · rw [set_H, if_neg (by omega)]; exact hat.v
    · rw [set_H, if_neg (by omega)]; exact hat.e
    · rw [set_H, if_neg (by omega)]; exact hat.r
    · simpa using n1
    · simpa using n2
    · simpa using n3
    · simp only [set_next]; exact hkp.next
    · rw [set_H, if_neg (by omega), set_H, if_neg (by omega), set_H, if_neg (by omega), set_H, if_neg (by omega)]
      exact hkp.H x hx
theorem Do (m : Mp) (l : List Sp) (t : Nat) (st : St) (hm : Drw m) (hl : l.length ≤ 100000) :
    ACalls Tryz.prog 10 [.ag (mpL m), .sl t l.length (sps l)] st fun r st' => DoQ m l r ∧ st' = st :=
  qT (Q := DoQ m l) (DoK m l t st hm hl) fun r h => by
    rcases h with ⟨_, rfl⟩ | ⟨j, _, _, _, rfl⟩
    · exact ⟨bel_mpL _ _, trivial, trivial, trivial⟩
    · exact ⟨bel_mpL _ _, trivial, trivial, trivial⟩
end Go.Proofs.YtglkgindpjdoiaaGreat.Aw
namespace Go.Proofs.YtglkgindpjdoiaaGreat.Aw
open Go Go.RowKit Go.Proofs.YtglkgindpjdoiaaGreat.Pl
set_option linter.unusedSimpArgs false
set_option linter.unusedVariables false
theorem ref_rRightC (m : Mp) (st : St) (hr : m.rots.length ≤ 1000) (he : m.g.es.length ≤ 1000) : ACalls Tryz.prog 9 [.ag (mpL m)] st fun r st' => r = i (rright m) ∧ Keeps st st' := by
  by_cases hv : m.g.vs.length ≤ 1000
  · exact ref_rRight m st hv he hr
  · have hc : rchk m ≠ 0 := fun h => hv (Nat.le_trans (chk_smallC h) (by omega))
    have hrc : rright m = rchk m := by unfold rright; rw [if_pos hc]
    refine qO tabOk Tryz.func9 rfl rfl Tryz.ntmps9 (rs := [.tmp 2]) rfl (by simp) ?_
    (repeat' (first | refine qS ?_ | (refine w_e [] ?_; intro J hJ; simp only []; simp []; (try (refine hJ _ _ ?_; clear hJ J; simp only [ak, reduceIte])))))
    refine qE (ref_rCheckC m _ hr he) (by simp) ?_; rintro r s1 ⟨rfl, hk1⟩
    generalize rchk m = x at *
    have hcb : (x == 0) = false := by simpa using hc
    (repeat' (first | refine qS ?_ | (refine qK ?_; simp only [ak, reduceIte]) | (refine qR ?_; simp only [ak, reduceIte]; simp [hcb, hc, hrc]) | (refine qC ?_; simp [hcb, hc, hrc]) | ((first | (refine w_e [] ?_; intro J hJ; simp only []) | (refine e_go ?_)); simp [hcb, hc, hrc]; (refine hJ _ _ ?_; clear hJ J; simp only [ak, reduceIte]))))
    exact (Keeps.new _ _).trans hk1
theorem rRightC' (m : Mp) (st : St) (hr : m.rots.length ≤ 1000) (he : m.g.es.length ≤ 1000) :
    ACalls Tryz.prog 9 [.ag (mpL m)] st fun r st' => r = i (rright m) ∧ st' = st :=
  qT (Q := fun r => r = i (rright m)) (ref_rRightC m st hr he) fun r h => by subst h; trivial
end Go.Proofs.YtglkgindpjdoiaaGreat.Aw
namespace Go.Proofs.YtglkgindpjdoiaaGreat.Aw
open Go Go.RowKit Go.Proofs.YtglkgindpjdoiaaGreat.Pl Go.Proofs.YtglkgindpjdoiaaGreat.Eu
set_option linter.unusedSimpArgs false
set_option linter.unusedVariables false
theorem Faces' (m : Mp) (h : MapOk m) (st : St) (hv : m.g.vs.length ≤ 1000) (he : m.g.es.length ≤ 1000) :
    ACalls Tryz.prog 12 [.ag (mpL m)] st fun r st' => (∃ R, FacesOf m R ∧ r = .sl 0 R.length (rowsL R)) ∧ st' = st :=
  qT (Q := fun r => ∃ R, FacesOf m R ∧ r = .sl 0 R.length (rowsL R)) (acalls_frzR ((Faces m h st hv he).mono fun r s hr => by
    obtain ⟨⟨t, R, rfl, hR⟩, hk⟩ := hr
    exact ⟨_, s, frz_tok s t _ _, ⟨R, hR, rfl⟩, hk⟩)) fun r h => by obtain ⟨R, _, rfl⟩ := h; exact ⟨.inl rfl, belL_rows3 _ _⟩
theorem rTurn' (m : Mp) (d : Int) (st : St) (hr : m.rots.length ≤ 1000) (hs : ∀ t ∈ m.rots, small t) :
    ACalls Tryz.prog 16 [.ag (mpL m), u d] st fun r st' => r = .sl 0 (turnOf m.rots d).length (us (turnOf m.rots d)) ∧ st' = st :=
  qT (Q := fun r => r = .sl 0 (turnOf m.rots d).length (us (turnOf m.rots d))) (acalls_frzR ((rTurn m d st hr hs).mono fun r s hr => by
    obtain ⟨⟨t, rfl⟩, hk⟩ := hr
    exact ⟨_, s, frz_tok s t _ _, rfl, hk⟩)) fun r h => by subst h; exact ⟨.inl rfl, belL_us _ _⟩
theorem rFace' (m : Mp) (h : MapOk m) (d : Int) (st : St) (hv : m.g.vs.length ≤ 1000) (he : m.g.es.length ≤ 1000) :
    ACalls Tryz.prog 14 [.ag (mpL m), u d] st fun r st' => (∃ R, FacesOf m R ∧ r = .sl 0 (turnOf R d).length (us (turnOf R d))) ∧ st' = st :=
  qT (Q := fun r => ∃ R, FacesOf m R ∧ r = .sl 0 (turnOf R d).length (us (turnOf R d))) (acalls_frzR ((rFace m h d st hv he).mono fun r s hr => by
    obtain ⟨⟨R, t, hR, rfl⟩, hk⟩ := hr
    exact ⟨_, s, frz_tok s t _ _, ⟨R, hR, rfl⟩, hk⟩)) fun r h => by obtain ⟨R, _, rfl⟩ := h; exact ⟨.inl rfl, belL_us _ _⟩
theorem facesOf_len {m : Mp} (h : MapOk m) {R : List (List Int)} (hR : FacesOf m R) : R.length = ncl (Orb (fc m m.g.es)) (darts m.g.es) := Lead.all (h.fc_per _ fun _ h => h) hR
section
variable {m : Mp} (h : MapOk m) {x : Ed} {pa pb : Int} (hl : LinkOk m x pa pb)
include h hl
theorem link_zero : (pa = 0 ↔ m.rots.getD (m.g.vs.idxOf x.a) [] = []) ∧ (pb = 0 ↔ m.rots.getD (m.g.vs.idxOf x.b) [] = []) := by
  obtain ⟨ia, ib, _⟩ := link_idx h hl
  have hp : ∀ k, k < m.rots.length → ∀ p ∈ m.rots.getD k [], p ≠ 0 := fun k hk p hp e => by
    obtain ⟨y, hy, e2⟩ := darts_half.1 (h.turn_dart (by rw [getR_lt _ _ hk]; exact List.getElem_mem _) hp)
    have := h.g.pos y hy
    omega
  constructor
  · constructor
    · intro e
      rcases hl.sa with k | k
      · exact k.1
      · exact absurd e (hp _ ia _ k)
    · intro e
      rcases hl.sa with k | k
      · exact k.2
      · rw [e] at k; simp at k
  · constructor
    · intro e
      rcases hl.sb with k | k
      · exact k.1
      · exact absurd e (hp _ ib _ k)
    · intro e
      rcases hl.sb with k | k
      · exact k.2
      · rw [e] at k; simp at k
theorem link_faces : (pa = 0 → pb = 0 → ncl (Orb (fc (linkM m x pa pb) (linkM m x pa pb).g.es)) (darts (linkM m x pa pb).g.es) = ncl (Orb (fc m m.g.es)) (darts m.g.es) + 1) ∧
    (pa = 0 → pb ≠ 0 → ncl (Orb (fc (linkM m x pa pb) (linkM m x pa pb).g.es)) (darts (linkM m x pa pb).g.es) = ncl (Orb (fc m m.g.es)) (darts m.g.es)) ∧
    (pa ≠ 0 → pb = 0 → ncl (Orb (fc (linkM m x pa pb) (linkM m x pa pb).g.es)) (darts (linkM m x pa pb).g.es) = ncl (Orb (fc m m.g.es)) (darts m.g.es)) ∧
    (pa ≠ 0 → pb ≠ 0 → pa ∈ darts m.g.es ∧ pb ∈ darts m.g.es ∧ (ncl (Orb (fc (linkM m x pa pb) (linkM m x pa pb).g.es)) (darts (linkM m x pa pb).g.es) = ncl (Orb (fc m m.g.es)) (darts m.g.es) + 1 → Orb (fc m m.g.es) (sg m pa) (sg m pb)) ∧
      (ncl (Orb (fc (linkM m x pa pb) (linkM m x pa pb).g.es)) (darts (linkM m x pa pb).g.es) ≠ ncl (Orb (fc m m.g.es)) (darts m.g.es) + 1 → ncl (Orb (fc (linkM m x pa pb) (linkM m x pa pb).g.es)) (darts (linkM m x pa pb).g.es) + 1 = ncl (Orb (fc m m.g.es)) (darts m.g.es))) := by
  have ho := link_ok h hl
  have hin := link_in h hl
  have hA := link_ahd h hl
  obtain ⟨za, zb⟩ := link_zero h hl
  obtain ⟨f1, f2, f3, f4, f5⟩ := ho.less_faces hin hA
  rw [link_less h hl] at f1 f2 f3 f4 f5
  obtain ⟨ia, ib, _⟩ := link_idx h hl
  have nin : ∀ k, k < m.rots.length → ∀ p ∈ m.rots.getD k [], p ∈ darts m.g.es ∧ p ≠ 2 * x.id ∧ p ≠ 2 * x.id + 1 := fun k hk p hp => by
    have hd := h.turn_dart (by rw [getR_lt _ _ hk]; exact List.getElem_mem _) hp
    obtain ⟨y, hy, e⟩ := darts_half.1 hd
    have := hl.new y hy
    exact ⟨hd, by omega, by omega⟩
  refine ⟨fun a b => ?_, fun a b => ?_, fun a b => ?_, fun a b => ?_⟩
  · exact f1 (by rw [if_pos (za.1 a)]) (by rw [if_pos (zb.1 b)])
  · have mb : pb ∈ m.rots.getD (m.g.vs.idxOf x.b) [] := by rcases hl.sb with k | k; exact absurd k.2 b; exact k
    exact f2 (by rw [if_pos (za.1 a)]) (by rw [if_neg (fun k => b (zb.2 k))]; exact (nin _ ib _ mb).2.2)
  · have ma : pa ∈ m.rots.getD (m.g.vs.idxOf x.a) [] := by rcases hl.sa with k | k; exact absurd k.2 a; exact k
    exact f3 (by rw [if_neg (fun k => a (za.2 k))]; exact (nin _ ia _ ma).2.1) (by rw [if_pos (zb.1 b)])
  · have ma : pa ∈ m.rots.getD (m.g.vs.idxOf x.a) [] := by rcases hl.sa with k | k; exact absurd k.2 a; exact k
    have mb : pb ∈ m.rots.getD (m.g.vs.idxOf x.b) [] := by rcases hl.sb with k | k; exact absurd k.2 b; exact k
    rw [if_neg (fun k => a (za.2 k)), if_neg (fun k => b (zb.2 k))] at f4 f5
    refine ⟨(nin _ ia _ ma).1, (nin _ ib _ mb).1, fun hF => Classical.byContradiction fun hS => ?_, fun hF => ?_⟩
    · have := f5 (nin _ ia _ ma).2.1 (nin _ ib _ mb).2.2 hS
      omega
    · by_cases hS : Orb (fc m m.g.es) (sg m pa) (sg m pb)
      · exact absurd (f4 (nin _ ia _ ma).2.1 (nin _ ib _ mb).2.2 hS) hF
      · exact f5 (nin _ ia _ ma).2.1 (nin _ ib _ mb).2.2 hS
end
theorem turn_sg {m : Mp} (h : MapOk m) {d : Int} (hd : d ∈ darts m.g.es) : nx (turnOf m.rots d) d = sg m d := by
  obtain ⟨h1, h2⟩ := turn_of_dart h hd
  exact (sg_at h h1 h2).symm
theorem turn_small {m : Mp} (h : MapOk m) (he : m.g.es.length ≤ 1000) {d : Int} (hd : d ∈ darts m.g.es) : small (turnOf m.rots d) := by
  have := h.row_le (turn_of_dart h hd).1
  unfold small; omega
theorem do_one {m : Mp} {s : Sp} {r : LV} (h : DoQ m [s] r) : (stpW m s = 0 ∧ r = .tu [.ag (mpL (stpM m s)), i 1, i 0]) ∨ (stpW m s ≠ 0 ∧ r = .tu [.ag (mpL nilMp), i 0, i (stpW m s)]) := by
  rcases h with ⟨h1, rfl⟩ | ⟨j, hj, h1, h2, rfl⟩
  · exact .inl ⟨h1 0 (by simp), rfl⟩
  · obtain rfl : j = 0 := by simpa using hj
    exact .inr ⟨h2, rfl⟩
theorem awp_weakS {P : Program} {N : Nat} {Q : AQ} {c : Code} {fr : Frm} {st : St} (I : Frm → St → Prop) (h0 : I fr st) (h : ∀ fr st, I fr st → AWp P N c Q fr st) : AWp P N c Q fr st := h _ _ h0
def SfI (p c : Nat) (m n : Mp) (pa pb : Int) (z : Nat) (f : Frm) (s : St) : Prop := f 2 = u pa ∧ f 3 = u pb ∧ f 4 = .pt p 0 ∧ f 9 = .pt c 0 ∧ f 12 = i z ∧ s.H p = .box 28 3 (mpL m) ∧ s.H c = .box 28 3 (mpL n) ∧ p < s.next ∧ c < s.next
def SfA (p : Nat) (m n : Mp) (pa pb e : Int) (f : Frm) (s : St) : Prop := ∃ c, f 2 = u pa ∧ f 3 = u pb ∧ f 4 = .pt p 0 ∧ f 9 = .pt c 0 ∧ f 11 = i e ∧ s.H p = .box 28 3 (mpL m) ∧ s.H c = .box 28 3 (mpL n) ∧ p < s.next ∧ c < s.next ∧ p ≠ c
theorem do_ex (m : Mp) (s : Sp) (hm : Drw m) : ∃ n k e, (∀ t st, ACalls Tryz.prog 10 [.ag (mpL m), .sl t 1 (sps [s])] st fun r st' => r = .tu [.ag (mpL n), i k, i e] ∧ st' = st) ∧ ((e = 0 ∧ stpW m s = 0 ∧ n = stpM m s) ∨ (e ≠ 0 ∧ stpW m s = e)) := by
  by_cases h : stpW m s = 0
  · refine ⟨stpM m s, 1, 0, fun t st => (Do m [s] t st hm (by simp)).mono ?_, .inl ⟨rfl, h, rfl⟩⟩
    rintro r s' ⟨hq, h2⟩
    rcases do_one hq with ⟨_, hr⟩ | ⟨hn, _⟩
    · exact ⟨hr, h2⟩
    · exact absurd h hn
  · refine ⟨nilMp, 0, stpW m s, fun t st => (Do m [s] t st hm (by simp)).mono ?_, .inr ⟨h, rfl⟩⟩
    rintro r s' ⟨hq, h2⟩
    rcases do_one hq with ⟨hn, _⟩ | ⟨_, hr⟩
    · exact absurd hn h
    · exact ⟨hr, h2⟩
theorem zero_cnt (pa pb : Int) (j : Nat) (hj : j < 2) : (([pa, pb].take (j + 1)).countP fun z => decide (z = 0)) = (([pa, pb].take j).countP fun z => decide (z = 0)) + if ([pa, pb].getD j 0) = 0 then 1 else 0 := by
  rw [List.take_succ_eq_append_getElem (by simpa using hj), List.countP_append, List.getD_eq_getElem?_getD, List.getElem?_eq_getElem (by simpa using hj)]
  simp only [List.countP_cons, List.countP_nil, Option.getD_some, decide_eq_true_eq, Nat.zero_add]
set_option maxHeartbeats 4000000 in
theorem SketchFaces (m : Mp) (x : Ed) (pa pb : Int) (st : St) : ACalls Tryz.prog 3 [.ag (mpL m), .ag (edL x), u pa, u pb] st fun r st' => r = bb true := by
  obtain ⟨id, xa, xb⟩ := x
  refine qO tabOk Tryz.func3 rfl rfl Tryz.ntmps3 (rs := [.tmp 8]) rfl (by simp) ?_
  refine awp_posG fun hpos => ?_
  (repeat' (first | refine qS ?_ | (refine w_e [] ?_; intro J hJ; simp only []; simp []; (try (refine hJ _ _ ?_; clear hJ J; simp only [ak, reduceIte])))))
  refine qE (awake11 _) (by simp []) ?_; rintro r st' ⟨rfl, rfl⟩
  by_cases h1 : (40 : Int) < m.g.es.length
  · (repeat' (first | refine qS ?_ | (refine qK ?_; simp only [ak, reduceIte]) | (refine qR ?_; simp only [ak, reduceIte]; simp [h1]) | (refine qC ?_; simp [h1]) | ((first | (refine w_e [] ?_; intro J hJ; simp only []) | (refine e_go ?_)); simp [h1]; (refine hJ _ _ ?_; clear hJ J; simp only [ak, reduceIte]))))
  by_cases h2 : (70 : Int) < m.rots.length
  · (repeat' (first | refine qS ?_ | (refine qK ?_; simp only [ak, reduceIte]) | (refine qR ?_; simp only [ak, reduceIte]; simp [h1, h2]) | (refine qC ?_; simp [h1, h2]) | ((first | (refine w_e [] ?_; intro J hJ; simp only []) | (refine e_go ?_)); simp [h1, h2]; (refine hJ _ _ ?_; clear hJ J; simp only [ak, reduceIte]))))
  (repeat' (first | refine qS ?_ | (refine qK ?_; simp only [ak, reduceIte]) | (refine qC ?_; simp [h1, h2]) | ((first | (refine w_e [] ?_; intro J hJ; simp only []) | (refine e_go ?_)); simp [h1, h2]; (try (refine hJ _ _ ?_; clear hJ J; simp only [ak, reduceIte])))))
  refine qE (rRightC' m _ (by omega) (by omega)) (by simp) ?_; rintro r s1 ⟨rfl, h3⟩
  rw [h3]; clear h3 s1
  by_cases hc : rright m = 0
  rotate_left
  · generalize rright m = y at *
    have hcb : (y != 0) = true := by simpa using hc
    (repeat' (first | refine qS ?_ | (refine qR ?_; simp only [ak, reduceIte]; simp [hc, hcb]) | (refine qC ?_; simp [hc, hcb]) | ((first | (refine w_e [] ?_; intro J hJ; simp only []) | (refine e_go ?_)); simp [hc, hcb]; (refine hJ _ _ ?_; clear hJ J; simp only [ak, reduceIte]))))
  rw [hc]
  obtain ⟨hm, hg⟩ := drw_right.1 hc
  clear hc
  have hel := hm.e
  have hvl := hm.v
  have e1 : ¬ st.next = st.next + 1 := by omega
  (repeat' (first | refine qS ?_ | (refine qK ?_; simp only [ak, reduceIte]) | (refine qC ?_; simp []) | (refine e_go ?_; simp []; (refine hJ _ _ ?_; clear hJ J; simp only [ak, reduceIte]))))
  obtain ⟨n, k', e', hD, hDe⟩ := do_ex m ⟨3, id, xa, xb, pa, pb⟩ hm
  simp only [sps, spL, List.flatMap_cons, List.flatMap_nil, List.append_nil] at hD
  refine awp_cutN (SfA st.next m n pa pb e') ?_ ?_
  · have e2 : ¬ st.next = st.next + 1 + 1 := by omega
    have e3 : ¬ st.next + 1 = st.next + 1 + 1 := by omega
    have e4 : ¬ st.next = st.next + 1 + 1 + 1 := by omega
    have e5 : ¬ st.next + 1 = st.next + 1 + 1 + 1 := by omega
    have e6 : ¬ st.next = st.next + 2 := by omega
    have e7 : ¬ st.next = st.next + 3 := by omega
    refine w_a [] [st.next, st.next + 1] ?_; intro J hJ
    refine a_pre 11 [(0, true), (1, true), (2, true), (3, true)] ?_
    simp
    refine a_alt2 10 (4, true) (11, true) ?_ ?_
    · simp
      refine qD (Link' ⟨id, xa, xb⟩ pa pb _) (by simp) ?_; rintro r s1 ⟨rfl, h3⟩
      rw [h3]; clear h3 s1
      refine ⟨fun h => by first | (cases h; done) | simp [e2, e3, e4, e5, e6, e7, stp], ?_⟩
      simp [e2, e3, e4, e5, e6, e7, stp]
      refine a_alt2 9 (5, true) (11, true) ?_ ?_
      · simp [e2, e3, e4, e5, e6, e7, stp]
        refine a_alt2 8 (6, true) (11, true) ?_ ?_
        · simp [e2, e3, e4, e5, e6, e7, stp]
          refine qD (hD (st.next + 1 + 1) _) (by simp) ?_; rintro r s1 ⟨rfl, h3⟩
          rw [h3]; clear h3 s1
          refine ⟨fun h => by first | (cases h; done) | simp [e2, e3, e4, e5, e6, e7, stp], ?_⟩
          simp [e2, e3, e4, e5, e6, e7, stp]
          refine a_pre 0 [(7, true), (8, true), (9, true), (10, true), (11, true), (12, true), (13, true), (14, true)] ?_
          simp [e2, e3, e4, e5, e6, e7, stp]
          refine aany_end (hJ _ _ ?_)
          simp only [ak]
          refine ⟨by trivial, st.next + 1 + 1 + 1, by simp, by simp, by simp, by simp, by simp, by simp [e2, e3, e4, e5, e6, e7, stp], by simp [e2, e3, e4, e5, e6, e7, stp], by simp; omega, by simp, by omega⟩
        · simp [e2, e3, e4, e5, e6, e7, stp]
          refine a_pre 0 [(6, true), (7, true), (8, true), (9, true), (10, true), (12, true), (13, true), (14, true)] ?_
          simp [e2, e3, e4, e5, e6, e7, stp]
          refine qD (hD (st.next + 1 + 1) _) (by simp) ?_; rintro r s1 ⟨rfl, h3⟩
          rw [h3]; clear h3 s1
          refine ⟨fun h => by first | (cases h; done) | simp [e2, e3, e4, e5, e6, e7, stp], ?_⟩
          simp [e2, e3, e4, e5, e6, e7, stp]
          refine aany_end (hJ _ _ ?_)
          simp only [ak]
          refine ⟨by trivial, st.next + 1 + 1 + 1, by simp, by simp, by simp, by simp, by simp, by simp [e2, e3, e4, e5, e6, e7, stp], by simp [e2, e3, e4, e5, e6, e7, stp], by simp; omega, by simp, by omega⟩
      · simp [e2, e3, e4, e5, e6, e7, stp]
        refine a_pre 0 [(5, true), (6, true), (7, true), (8, true), (9, true), (10, true), (12, true), (13, true), (14, true)] ?_
        simp [e2, e3, e4, e5, e6, e7, stp]
        refine qD (hD (st.next + 1 + 1 + 1) _) (by simp) ?_; rintro r s1 ⟨rfl, h3⟩
        rw [h3]; clear h3 s1
        refine ⟨fun h => by first | (cases h; done) | simp [e2, e3, e4, e5, e6, e7, stp], ?_⟩
        simp [e2, e3, e4, e5, e6, e7, stp]
        refine aany_end (hJ _ _ ?_)
        simp only [ak]
        refine ⟨by trivial, st.next + 1 + 1, by simp, by simp, by simp, by simp, by simp, by simp [e2, e3, e4, e5, e6, e7, stp], by simp [e2, e3, e4, e5, e6, e7, stp], by simp; omega, by simp, by omega⟩
    · simp [e2, e3, e4, e5, e6, e7, stp]
      refine a_pre 0 [(4, true), (5, true), (6, true), (7, true), (8, true), (9, true), (10, true), (12, true), (13, true), (14, true)] ?_
      simp [e2, e3, e4, e5, e6, e7, stp]
      refine qD (Link' ⟨id, xa, xb⟩ pa pb _) (by simp) ?_; rintro r s1 ⟨rfl, h3⟩
      rw [h3]; clear h3 s1
      refine ⟨fun h => by first | (cases h; done) | simp [e2, e3, e4, e5, e6, e7, stp], ?_⟩
      simp [e2, e3, e4, e5, e6, e7, stp]
      refine qD (hD (st.next + 1 + 1 + 1) _) (by simp) ?_; rintro r s1 ⟨rfl, h3⟩
      rw [h3]; clear h3 s1
      refine ⟨fun h => by first | (cases h; done) | simp [e2, e3, e4, e5, e6, e7, stp], ?_⟩
      simp [e2, e3, e4, e5, e6, e7, stp]
      refine aany_end (hJ _ _ ?_)
      simp only [ak]
      refine ⟨by trivial, st.next + 1 + 1, by simp, by simp, by simp, by simp, by simp, by simp [e2, e3, e4, e5, e6, e7, stp], by simp [e2, e3, e4, e5, e6, e7, stp], by simp; omega, by simp, by omega⟩
  clear hD e1
  rintro fr s ⟨c, f2, f3, f4, f9, f11, hp, hc, n1, n2, hpc⟩
  rcases hDe with ⟨rfl, h0, hn0⟩ | ⟨h0, _⟩
  rotate_left
  · have hcb : (e' != 0) = true := by simpa using h0
    (repeat' (first | refine qS ?_ | (refine qR ?_; simp only [ak, reduceIte]; simp [f11, h0, hcb]) | (refine qC ?_; simp [f11, h0, hcb]) | (refine w_e [] ?_; intro J hJ; simp only []; simp [f11, h0, hcb]; (refine hJ _ _ ?_; clear hJ J; simp only [ak, reduceIte]))))
  have hn := step_drw hm h0
  have h00 := h0
  unfold stpW at h00
  by_cases hf : formW ⟨3, id, xa, xb, pa, pb⟩ = 0
  rotate_left
  · rw [if_pos hf] at h00; exact absurd h00 hf
  rw [if_neg (fun k => k hf), if_neg (show ¬ (3 : Int) = 1 by decide), if_neg (show ¬ (3 : Int) = 2 by decide), if_pos rfl] at h00
  obtain ⟨hl, _, _⟩ := linkW_zero hm (formW_id hf) h00
  simp only at hl
  have hlf := link_faces hm.ok hl
  have hst : stpM m ⟨3, id, xa, xb, pa, pb⟩ = linkM m ⟨id, xa, xb⟩ pa pb := by unfold stpM; rw [if_neg (show ¬ (3 : Int) = 1 by decide), if_neg (show ¬ (3 : Int) = 2 by decide), if_pos rfl]
  rw [hst] at hn0
  rw [← hn0] at hlf
  rw [hst, ← hn0] at hn
  have hnd := hn.1
  have hne := hnd.e
  have hnv := hnd.v
  clear hn hst hf h00 hn0 h0
  refine qS ?_
  refine awp_cutN (SfA st.next m n pa pb 0) ?_ ?_
  · (repeat' (first | refine qS ?_ | (refine qK ?_; simp only [ak, reduceIte]) | (refine qC ?_; simp [f11]) | (refine w_e [] ?_; intro J hJ; simp only []; simp [f11]; (refine hJ _ _ ?_; clear hJ J; simp only [ak, reduceIte]))))
    exact ⟨by trivial, c, by simp [f2], by simp [f3], by simp [f4], by simp [f9], by simp [f11], hp, hc, n1, n2, hpc⟩
  clear f2 f3 f4 f9 f11 hp hc n1 n2 hpc fr s c
  rintro fr s ⟨c, f2, f3, f4, f9, f11, hp, hc, n1, n2, hpc⟩
  refine qS ?_
  (refine w_e [] ?_; intro J hJ; simp only []; simp []; (refine hJ _ _ ?_; clear hJ J; simp only [ak, reduceIte]))
  refine awp_weakS (SfI st.next c m n pa pb 0) ⟨by simp [f2], by simp [f3], by simp [f4], by simp [f9], by simp, hp, hc, n1, n2⟩ ?_
  clear f2 f3 f4 f9 f11 hp hc n1 n2 fr s
  rintro fr s ⟨f2, f3, f4, f9, f12, hp, hc, n1, n2⟩
  have e1 : ¬ st.next = s.next := by omega
  have e2 : ¬ c = s.next := by omega
  (repeat' (first | refine qS ?_ | refine qB ?_ | (refine w_e [] ?_; intro J hJ; simp only []; simp [f2, f3]; (refine hJ _ _ ?_; clear hJ J; simp only [ak, reduceIte]))))
  obtain ⟨S, hS⟩ : ∃ S, S = s.new (.own 29 1 2) := ⟨_, rfl⟩
  have hp1 : S.H st.next = .box 28 3 (mpL m) := by subst hS; simp [e1, hp]
  have hc1 : S.H c = .box 28 3 (mpL n) := by subst hS; simp [e2, hc]
  rw [← hS]
  refine awp_range 51 50 52 59 (2) (fun j fr st2 => fr 2 = u pa ∧ fr 3 = u pb ∧ fr 4 = .pt st.next 0 ∧ fr 9 = .pt c 0 ∧ fr 12 = i ((([pa, pb].take j).countP fun z => decide (z = 0) : Nat)) ∧ fr 49 = .sl s.next 2 [u pa, u pb] ∧ st2 = S) ?_ ?_ ?_
  · exact ⟨by simp [f2], by simp [f3], by simp [f4], by simp [f9], by simp [f12], by simp, rfl⟩
  · rintro j fr s2 hlt ⟨f2, f3, f4, f9, f12, f49, h2⟩ fi fn JJ hJJ
    rw [h2]; clear h2 s2
    have hz := zero_cnt pa pb j hlt
    have hcl : (([pa, pb].take j).countP fun z => decide (z = 0)) ≤ 2 := Nat.le_trans List.countP_le_length (by simp; omega)
    have hw := qN (([pa, pb].take j).countP fun z => decide (z = 0)) (by omega)
    rw [hz] at hJJ
    generalize (([pa, pb].take j).countP fun z => decide (z = 0)) = z at *
    have hjj : j = 0 ∨ j = 1 := by omega
    rcases hjj with rfl | rfl
    · by_cases hpa : pa = 0
      · rw [if_pos (by simpa using hpa)] at hJJ
        (repeat' (first | refine qS ?_ | (refine qC ?_; simp [f2, f3, f4, f9, f12, f49, fi, fn, hpa, hw]) | (refine w_e [] ?_; intro J hJ; simp only []; simp [f2, f3, f4, f9, f12, f49, fi, fn, hpa, hw]; (refine hJ _ _ ?_; clear hJ J; simp only [ak, reduceIte]))))
        exact hJJ _ _ (by simp [fi]) (by simp [fn]) ⟨by simp [f2], by simp [f3], by simp [f4], by simp [f9], by simp, by simp [f49], rfl⟩
      · rw [if_neg (by simpa using hpa)] at hJJ
        have hpb : (pa == 0) = false := by simpa using hpa
        (repeat' (first | refine qS ?_ | (refine qK ?_; simp only [ak, reduceIte]) | (refine qC ?_; simp [f2, f3, f4, f9, f12, f49, fi, fn, hpa, hpb]) | (refine w_e [] ?_; intro J hJ; simp only []; simp [f2, f3, f4, f9, f12, f49, fi, fn, hpa, hpb]; (refine hJ _ _ ?_; clear hJ J; simp only [ak, reduceIte]))))
        exact hJJ _ _ (by simp [fi]) (by simp [fn]) ⟨by simp [f2], by simp [f3], by simp [f4], by simp [f9], by simp [f12], by simp [f49], rfl⟩
    · by_cases hpa : pb = 0
      · rw [if_pos (by simpa using hpa)] at hJJ
        (repeat' (first | refine qS ?_ | (refine qC ?_; simp [f2, f3, f4, f9, f12, f49, fi, fn, hpa, hw]) | (refine w_e [] ?_; intro J hJ; simp only []; simp [f2, f3, f4, f9, f12, f49, fi, fn, hpa, hw]; (refine hJ _ _ ?_; clear hJ J; simp only [ak, reduceIte]))))
        exact hJJ _ _ (by simp [fi]) (by simp [fn]) ⟨by simp [f2], by simp [f3], by simp [f4], by simp [f9], by simp, by simp [f49], rfl⟩
      · rw [if_neg (by simpa using hpa)] at hJJ
        have hpb : (pb == 0) = false := by simpa using hpa
        (repeat' (first | refine qS ?_ | (refine qK ?_; simp only [ak, reduceIte]) | (refine qC ?_; simp [f2, f3, f4, f9, f12, f49, fi, fn, hpa, hpb]) | (refine w_e [] ?_; intro J hJ; simp only []; simp [f2, f3, f4, f9, f12, f49, fi, fn, hpa, hpb]; (refine hJ _ _ ?_; clear hJ J; simp only [ak, reduceIte]))))
        exact hJJ _ _ (by simp [fi]) (by simp [fn]) ⟨by simp [f2], by simp [f3], by simp [f4], by simp [f9], by simp [f12], by simp [f49], rfl⟩
  · clear f2 f3 f4 f9 f12 fr
    rintro fr s2 ⟨f2, f3, f4, f9, f12, f49, h2⟩
    rw [h2]; clear h2 s2
    rw [List.take_of_length_le (by simp)] at f12
    have hz0 : (([pa, pb].countP fun z => decide (z = 0)) : Nat) = (if pa = 0 then 1 else 0) + if pb = 0 then 1 else 0 := by
      simp only [List.countP_cons, List.countP_nil, decide_eq_true_eq]; omega
    rw [hz0] at f12
    clear hz0 f49
    obtain ⟨hF1, hF2, hF3, hF4⟩ := hlf
    have hdl1 := ncl_le (Orb (fc m m.g.es)) (darts m.g.es)
    have hdl2 := ncl_le (Orb (fc n n.g.es)) (darts n.g.es)
    rw [darts_length] at hdl1 hdl2
    refine qS ?_
    (refine w_s [] [st.next, c] [(0, true), (3, true), (1, true), (2, true), (4, true), (5, true), (6, true), (7, true), (8, true)] ?_; intro J hJ; simp [f2, f3, f4, f9, hp1, hc1])
    refine qD (Faces' n hnd.ok _ (by omega) (by omega)) (by simp) ?_; rintro r s1 ⟨⟨R', hR', rfl⟩, h3⟩
    rw [h3]; clear h3 s1
    have hr' := facesOf_len hnd.ok hR'
    refine ⟨fun h => by first | (cases h; done) | simp, ?_⟩
    (refine d_go ?_; simp [f2, f3, f4, f9, hp1, hc1])
    refine qD (Faces' m hm.ok _ (by omega) (by omega)) (by simp) ?_; rintro r s1 ⟨⟨R, hR, rfl⟩, h3⟩
    rw [h3]; clear h3 s1
    have hr := facesOf_len hm.ok hR
    refine ⟨fun h => by first | (cases h; done) | simp, ?_⟩
    rw [← hr, ← hr'] at hF1 hF2 hF3 hF4
    rw [← hr] at hdl1
    rw [← hr'] at hdl2
    have hw := qN R.length (by omega)
    (refine d_go ?_; simp [f2, f3, f4, f9, hp1, hc1, hw]; (refine hJ _ _ ?_; clear hJ J; simp only [ak, reduceIte]))
    have hone : ((R'.length : Int) == (R.length : Int) + 1) = decide (R'.length = R.length + 1) := by
      by_cases h : R'.length = R.length + 1
      · rw [decide_eq_true h, beq_iff_eq]; omega
      · rw [decide_eq_false h, beq_eq_false_iff_ne]; omega
    rw [hone]
    clear hone
    obtain ⟨o, ho⟩ : ∃ o, o = decide (R'.length = R.length + 1) := ⟨_, rfl⟩
    rw [← ho]
    by_cases hA : pa ≠ 0 ∧ pb ≠ 0 ∧ o = true
    · obtain ⟨hpa, hpb, rfl⟩ := hA
      have hpa' : (pa != 0) = true := by simpa using hpa
      have hpb' : (pb != 0) = true := by simpa using hpb
      obtain ⟨k1, k2, k3, _⟩ := hF4 hpa hpb
      have hS := k3 (of_decide_eq_true ho.symm)
      have ts := hm.sm
      have sa := turn_small hm.ok (by omega) k1
      have sb := turn_small hm.ok (by omega) k2
      have na := turn_sg hm.ok k1
      have nb := turn_sg hm.ok k2
      have da := hm.ok.sg_dart k1
      generalize hta : turnOf m.rots pa = ta at *
      generalize htb : turnOf m.rots pb = tb at *
      (repeat' (first | refine qS ?_ | (refine qC ?_; simp [f2, f3, hpa', hpb', hpa, hpb]) | (refine w_e [] ?_; intro J hJ; simp only []; simp [f2, f3, hpa', hpb', hpa, hpb]; (refine hJ _ _ ?_; clear hJ J; simp only [ak, reduceIte]))))
      (refine w_s [] [st.next] [(0, true), (1, true), (2, true), (4, true), (7, true), (8, true), (10, true), (3, true), (5, true), (6, true), (9, true), (11, true), (12, true), (13, true)] ?_; intro J hJ; simp [f2, f3, f4, f9, hp1, hc1])
      refine qD (rTurn' m pa _ (by rw [hm.ok.len]; omega) ts) (by simp) ?_; rintro r s1 ⟨rfl, h3⟩
      rw [h3, hta]; clear h3 s1
      refine ⟨fun h => by first | (cases h; done) | simp, ?_⟩
      (refine d_go ?_; simp [f2, f3, f4, f9, hp1, hc1])
      refine qD (Next ta 0 pa _ sa) (by simp) ?_; rintro r s1 ⟨rfl, h3⟩
      rw [h3, na]; clear h3 s1
      refine ⟨fun h => by first | (cases h; done) | simp, ?_⟩
      (refine d_go ?_; simp [f2, f3, f4, f9, hp1, hc1])
      refine qD (rFace' m hm.ok (sg m pa) _ (by omega) (by omega)) (by simp) ?_; rintro r s1 ⟨⟨R2, hR2, rfl⟩, h3⟩
      rw [h3]; clear h3 s1
      have hfo := (face_orb hm.ok hR2 da (d' := sg m pb)).2 hS
      have hfl := face_len hm.ok hR2 (by omega) (sg m pa)
      generalize turnOf R2 (sg m pa) = F at *
      refine ⟨fun h => by first | (cases h; done) | simp, ?_⟩
      (refine d_go ?_; simp [f2, f3, f4, f9, hp1, hc1])
      refine qD (rTurn' m pb _ (by rw [hm.ok.len]; omega) ts) (by simp) ?_; rintro r s1 ⟨rfl, h3⟩
      rw [h3, htb]; clear h3 s1
      refine ⟨fun h => by first | (cases h; done) | simp, ?_⟩
      (refine d_go ?_; simp [f2, f3, f4, f9, hp1, hc1])
      refine qD (Next tb 0 pb _ sb) (by simp) ?_; rintro r s1 ⟨rfl, h3⟩
      rw [h3, nb]; clear h3 s1
      refine ⟨fun h => by first | (cases h; done) | simp, ?_⟩
      (refine d_go ?_; simp [f2, f3, f4, f9, hp1, hc1])
      refine qD (Contains F 0 (sg m pb) _ hfl) (by simp) ?_; rintro r s1 ⟨rfl, h3⟩
      rw [h3]; clear h3 s1
      refine ⟨fun h => by first | (cases h; done) | simp, ?_⟩
      (refine d_go ?_; simp [f2, f3, f4, f9, hp1, hc1]; (refine hJ _ _ ?_; clear hJ J; simp only [ak, reduceIte]))
      (repeat' (refine qR ?_; simp only [ak, reduceIte]; simp [hfo]))
    have hcount : (R'.length : Int) = (R.length : Int) - 1 + (((if pa = 0 then 1 else 0) + if pb = 0 then 1 else 0 : Nat) : Int) := by
      by_cases hpa : pa = 0 <;> by_cases hpb : pb = 0
      · have := hF1 hpa hpb; rw [if_pos hpa, if_pos hpb]; omega
      · have := hF2 hpa hpb; rw [if_pos hpa, if_neg hpb]; omega
      · have := hF3 hpa hpb; rw [if_neg hpa, if_pos hpb]; omega
      · obtain ⟨_, _, _, k4⟩ := hF4 hpa hpb
        rw [if_neg hpa, if_neg hpb]
        have := k4 fun h => hA ⟨hpa, hpb, by rw [ho]; exact decide_eq_true h⟩
        omega
    have hcl : ((if pa = 0 then 1 else 0) + if pb = 0 then 1 else 0 : Nat) ≤ 2 := by split <;> split <;> omega
    have hall : ((pa != 0) && (pb != 0) && o) = false := by
      cases h : ((pa != 0) && (pb != 0) && o) with
      | false => rfl
      | true =>
        exfalso
        simp only [Bool.and_eq_true, bne_iff_ne] at h
        exact hA ⟨h.1.1, h.1.2, h.2⟩
    generalize ((if pa = 0 then 1 else 0) + if pb = 0 then 1 else 0 : Nat) = z at *
    have hw1 : IntKind.i64.wrap ((R.length : Int) - 1) = (R.length : Int) - 1 := wrap_i64 _ (by omega) (by omega)
    have hw2 : IntKind.i64.wrap ((R.length : Int) - 1 + (z : Int)) = (R.length : Int) - 1 + (z : Int) := wrap_i64 _ (by omega) (by omega)
    have hq1 : ((R'.length : Int) == (R.length : Int) - 1 + (z : Int)) = true := by rw [beq_iff_eq]; exact hcount
    refine qS ?_
    refine awp_cutN (fun f s => f 4 = .pt st.next 0 ∧ f 9 = .pt c 0 ∧ f 12 = i z ∧ s = S) ?_ ?_
    · by_cases hpa : pa = 0
      · (repeat' (first | refine qS ?_ | (refine qK ?_; simp only [ak, reduceIte]) | (refine qC ?_; simp [f2, f3, hpa]) | (refine w_e [] ?_; intro J hJ; simp only []; simp [f2, f3, hpa]; (refine hJ _ _ ?_; clear hJ J; simp only [ak, reduceIte]))))
        exact ⟨by trivial, by simp [f4], by simp [f9], by simp [f12], by trivial⟩
      · have hpa' : (pa != 0) = true := by simpa using hpa
        by_cases hpb : pb = 0
        · (repeat' (first | refine qS ?_ | (refine qK ?_; simp only [ak, reduceIte]) | (refine qC ?_; simp [f2, f3, hpa, hpa', hpb]) | (refine w_e [] ?_; intro J hJ; simp only []; simp [f2, f3, hpa, hpa', hpb]; (refine hJ _ _ ?_; clear hJ J; simp only [ak, reduceIte]))))
          exact ⟨by trivial, by simp [f4], by simp [f9], by simp [f12], by trivial⟩
        · have hpb' : (pb != 0) = true := by simpa using hpb
          have ho0 : o = false := by rw [hpa', hpb'] at hall; simpa using hall
          (repeat' (first | refine qS ?_ | (refine qK ?_; simp only [ak, reduceIte]) | (refine qC ?_; simp [f2, f3, hpa, hpa', hpb, hpb', ho0]) | (refine w_e [] ?_; intro J hJ; simp only []; simp [f2, f3, hpa, hpa', hpb, hpb', ho0]; (refine hJ _ _ ?_; clear hJ J; simp only [ak, reduceIte]))))
          exact ⟨by trivial, by simp [f4], by simp [f9], by simp [f12], by trivial⟩
    · clear f2 f3 f4 f9 f12 fr
      rintro fr s2 ⟨f4, f9, f12, h2⟩
      rw [h2]; clear h2 s2
      (repeat' refine qS ?_)
      (refine w_s [] [st.next, c] [(0, true), (3, true), (7, true), (1, true), (2, true), (4, true), (5, true), (6, true), (8, true), (9, true), (10, true)] ?_; intro J hJ; simp [f4, f9, f12, hp1, hc1])
      refine qD (Faces' n hnd.ok _ (by omega) (by omega)) (by simp) ?_; rintro r s1 ⟨⟨R2', hR2', rfl⟩, h3⟩
      rw [h3]; clear h3 s1
      have hl2 := (facesOf_len hnd.ok hR2').trans hr'.symm
      refine ⟨fun h => by first | (cases h; done) | simp, ?_⟩
      (refine d_go ?_; simp [f4, f9, f12, hp1, hc1])
      refine qD (Faces' m hm.ok _ (by omega) (by omega)) (by simp) ?_; rintro r s1 ⟨⟨R2, hR2, rfl⟩, h3⟩
      rw [h3]; clear h3 s1
      have hl3 := (facesOf_len hm.ok hR2).trans hr.symm
      refine ⟨fun h => by first | (cases h; done) | simp, ?_⟩
      (refine d_go ?_; simp [f4, f9, f12, hp1, hc1, hl2, hl3, hw1, hw2, hq1]; (refine hJ _ _ ?_; clear hJ J; simp only [ak, reduceIte]))
      (repeat' (refine qR ?_; simp only [ak, reduceIte]; simp []))
theorem SketchFaces_shp (l0 l1 l2 l3 : List LV) (st : St) (h0 : Shp tab 28 l0) (h1 : Shp tab 31 l1) (h2 : Shp tab 29 l2) (h3 : Shp tab 29 l3) : ACalls Tryz.prog 3 [argT tab 28 l0, argT tab 31 l1, argT tab 29 l2, argT tab 29 l3] st fun r st' => r = bb true := by
  obtain ⟨m, rfl, _⟩ := shp_mp h0
  obtain ⟨x, rfl, _⟩ := shp_ed h1
  obtain ⟨a, rfl, _⟩ := shp_u h2
  obtain ⟨b, rfl, _⟩ := shp_u h3
  exact SketchFaces m x a b st
end Go.Proofs.YtglkgindpjdoiaaGreat.Aw
