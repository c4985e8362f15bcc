/- Graphs that may be; what the parts have together. No program. -/
import Derived.Test.YtphdhggoaijfoaaG6
namespace Go.Proofs.Ytphdhggoaijfoaa.Aw
open Go Go.RowKit Go.Proofs.Ytphdhggoaijfoaa.Pl
set_option linter.unusedSimpArgs false
set_option linter.unusedVariables false

theorem firstNZ_all {f : Nat → Int} {n : Nat} (h : firstNZ f n = 0) : ∀ j, j < n → f j = 0 := by
  induction n with
  | zero => intro j hj; omega
  | succ n ih =>
    intro j hj
    simp only [firstNZ] at h
    by_cases h0 : firstNZ f n = 0
    · rw [if_neg (by simp [h0])] at h
      rcases Nat.lt_or_ge j n with h1 | h1
      · exact ih h0 j h1
      · obtain rfl : j = n := by omega
        exact h
    · rw [if_pos h0] at h; exact absurd h h0
theorem numb_zero {n a : Int} {b : Bool} (h : numb n a b = 0) : 1 ≤ n ∧ n ≤ 1048576 ∧ (b = false → a < n) := by
  unfold numb at h
  by_cases h1 : n < 1 ∨ 1048576 < n
  · rw [if_pos h1] at h; cases h
  · rw [if_neg h1] at h
    by_cases h2 : b = false ∧ n ≤ a
    · rw [if_pos h2] at h; cases h
    · refine ⟨by omega, by omega, fun hb => ?_⟩
      rcases Int.lt_or_le a n with h3 | h3
      · exact h3
      · exact absurd ⟨hb, h3⟩ h2
theorem rise_of {l : List Int} (h : ∀ j, j < l.length → 0 < j → l.getD (j - 1) 0 < l.getD j 0) : l.Pairwise (· < ·) := by
  rw [List.pairwise_iff_getElem]
  intro a b ha hb hab
  induction b with
  | zero => omega
  | succ b ih =>
    have h1 := h (b + 1) hb (by omega)
    rw [Nat.add_sub_cancel, getD_lt _ _ hb, getD_lt _ _ (by omega)] at h1
    rcases Nat.lt_or_ge a b with h2 | h2
    · have := ih (by omega) h2; omega
    · obtain rfl : a = b := by omega
      exact h1
theorem chk_good {g : Gr} (h : chk g = 0) : Good g ∧ idOk g.es ∧ g.vs.length ≤ 64 ∧ g.es.length ≤ 160 := by
  unfold chk at h
  by_cases h1 : 64 < g.vs.length ∨ 160 < g.es.length
  · rw [if_pos h1] at h; cases h
  · rw [if_neg h1] at h
    by_cases h2 : firstNZ (badV g) g.vs.length = 0
    · rw [if_neg (by simp [h2])] at h
      have hV := firstNZ_all h2
      have hE := firstNZ_all h
      have hEx : ∀ j, j < g.es.length → (1 ≤ (g.es.getD j ed0).id ∧ (g.es.getD j ed0).id ≤ 1048576) ∧ (g.es.getD j ed0).a ∈ g.vs ∧ (g.es.getD j ed0).b ∈ g.vs := by
        intro j hj
        have := hE j hj
        unfold badE at this
        simp only at this
        by_cases h3 : numb (g.es.getD j ed0).id (g.es.getD (j - 1) ed0).id (decide (j = 0)) = 0
        · rw [if_neg (fun h => h h3)] at this
          by_cases h4 : (g.es.getD j ed0).a = (g.es.getD j ed0).b
          · rw [if_pos h4] at this; cases this
          · rw [if_neg h4] at this
            by_cases h5 : (g.es.getD j ed0).a ∉ g.vs ∨ (g.es.getD j ed0).b ∉ g.vs
            · rw [if_pos h5] at this; cases this
            · have h6 := numb_zero h3
              refine ⟨⟨h6.1, h6.2.1⟩, ?_, ?_⟩
              · exact Classical.byContradiction fun h => h5 (.inl h)
              · exact Classical.byContradiction fun h => h5 (.inr h)
        · rw [if_pos h3] at this; exact absurd this h3
      have hget : ∀ x ∈ g.es, ∃ j, j < g.es.length ∧ g.es.getD j ed0 = x := by
        intro x hx
        obtain ⟨j, hj, rfl⟩ := List.getElem_of_mem hx
        exact ⟨j, hj, by rw [List.getD_eq_getElem?_getD, List.getElem?_eq_getElem hj]; rfl⟩
      refine ⟨⟨rise_of fun j hj h0 => ?_, fun x hx => ?_⟩, fun x hx => ?_, by omega, by omega⟩
      · have := (numb_zero (hV j hj)).2.2 (by simp; omega)
        exact this
      · obtain ⟨j, hj, rfl⟩ := hget x hx
        exact (hEx j hj).2
      · obtain ⟨j, hj, rfl⟩ := hget x hx
        have := (hEx j hj).1; omega
    · rw [if_pos h2] at h; exact absurd h h2

theorem ends_nil (es : List Ed) (v : Int) : ends es v = [] ↔ nbr es v = [] := by
  unfold ends nbr
  simp only [List.flatMap_eq_nil_iff]
  refine forall_congr' fun x => forall_congr' fun _ => ?_
  unfold end1 nbr1
  by_cases h1 : x.a = v <;> by_cases h2 : x.b = v <;> simp [h1, h2]

theorem gi_snoc_new (l : List Int) (v : Int) (h : v ∉ l) : gi (l ++ [v]) v = l.length := by
  rw [gi_mem (by simp), List.idxOf_append]
  simp [h]
theorem gi_snoc_ne (l : List Int) (v x : Int) (h : x ≠ v) : gi (l ++ [x]) v = gi l v := by
  by_cases hv : v ∈ l
  · rw [gi_mem hv, gi_mem (List.mem_append_left _ hv), List.idxOf_append, if_pos hv]
  · rw [gi_not hv, gi_not (by simp [hv]; exact fun e => h e.symm)]

theorem PartsTo.flat {g : Gr} (hg : Good g) {k : Nat} {R : List (List Int)} (h : PartsTo g k R) : R.flatten.Nodup ∧ ∀ w, w ∈ R.flatten ↔ w ∈ g.vs ∧ Seen g k w := by
  induction h with
  | zero => exact ⟨by simp, fun w => ⟨fun h => by simp at h, fun h => by obtain ⟨u, hu, _⟩ := h.2; simp at hu⟩⟩
  | seen _ hk hs ih => exact ⟨ih.1, fun w => by rw [ih.2, seen_same hk hs]⟩
  | @lead k R c _ hk hs hc ih =>
    rw [List.flatten_append, List.flatten_cons, List.flatten_nil, List.append_nil]
    refine ⟨?_, fun w => ?_⟩
    · rw [List.nodup_append]
      refine ⟨ih.1, hc.1.imp fun h => by omega, fun a ha b hb => ?_⟩
      rintro rfl
      have h1 := ((ih.2 a).1 ha).2
      have h2 := ((hc.2 a).1 hb).2
      exact hs (h1.reach h2.symm)
    · rw [List.mem_append, ih.2, hc.2, seen_succ hk]
      constructor
      · rintro (⟨h1, h2⟩ | ⟨h1, h2⟩)
        · exact ⟨h1, .inl h2⟩
        · exact ⟨h1, .inr h2⟩
      · rintro ⟨h1, h2 | h2⟩
        · exact .inl ⟨h1, h2⟩
        · exact .inr ⟨h1, h2⟩
theorem PartsTo.count {g : Gr} (hg : Good g) {R : List (List Int)} (h : PartsTo g g.vs.length R) : R.flatten.length = g.vs.length := by
  obtain ⟨h1, h2⟩ := h.flat hg
  refine ((List.perm_ext_iff_of_nodup h1 hg.nodup).2 fun w => ?_).length_eq
  rw [h2]
  refine ⟨fun h => h.1, fun h => ⟨h, w, ?_, .refl⟩⟩
  rw [List.take_length]; exact h
theorem flatten_take (R : List (List Int)) (k : Nat) (hk : k < R.length) : (R.take (k + 1)).flatten.length = (R.take k).flatten.length + (R[k]).length := by
  rw [List.take_succ_eq_append_getElem hk, List.flatten_append]; simp
theorem PartsTo.row_le {g : Gr} (hg : Good g) {k : Nat} {R : List (List Int)} (h : PartsTo g k R) : ∀ c ∈ R, c.length ≤ g.vs.length := by
  induction h with
  | zero => intro c hc; simp at hc
  | seen _ _ _ ih => exact ih
  | lead _ _ _ hc ih =>
    intro d hd
    rw [List.mem_append, List.mem_singleton] at hd
    rcases hd with hd | rfl
    · exact ih d hd
    · exact List.Nodup.length_le_of_subset (hc.1.imp fun h => by omega) fun w hw => ((hc.2 w).1 hw).1

end Go.Proofs.Ytphdhggoaijfoaa.Aw
