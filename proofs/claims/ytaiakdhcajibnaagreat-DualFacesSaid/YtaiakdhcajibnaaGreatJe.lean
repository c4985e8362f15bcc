/- Graphs that may be; what the parts have together. No program. Maps that may be: darts, turns, faces; twice the genus is even, and not less than 0. No program. Maps: what is behind each dart; the walk round a face. Maps: the walk round a face. Maps: Faces. Faces: each dart is in one; what is told of them. No program. The dual of a map. No program. The dual: faces by their numbers. The dual: sides, bridges. -/
import Derived.Test.YtaiakdhcajibnaaGreatJd
import Derived.Test.YtaiakdhcajibnaaGreatAwRg
import Derived.Test.YtaiakdhcajibnaaGreatAwAlt
namespace Go.Proofs.YtaiakdhcajibnaaGreat.Aw
open Go Go.RowKit Go.Proofs.YtaiakdhcajibnaaGreat.Pl
set_option linter.unusedSimpArgs false
set_option linter.unusedVariables false

theorem firstNZ_all {f : Nat → Int} {n : Nat} (h : firstNZ f n = 0) : ∀ j, j < n → f j = 0 := by
  induction n with
  | zero => intro j hj; omega
  | succ n ih =>
    intro j hj
    simp only [firstNZ] at h
    by_cases h0 : firstNZ f n = 0
    · rw [if_neg (by simp [h0])] at h
      rcases Nat.lt_or_ge j n with h1 | h1
      · exact ih h0 j h1
      · obtain rfl : j = n := by omega
        exact h
    · rw [if_pos h0] at h; exact absurd h h0
theorem numb_zero {n a : Int} {b : Bool} (h : numb n a b = 0) : 1 ≤ n ∧ n ≤ 1048576 ∧ (b = false → a < n) := by
  unfold numb at h
  by_cases h1 : n < 1 ∨ 1048576 < n
  · rw [if_pos h1] at h; cases h
  · rw [if_neg h1] at h
    by_cases h2 : b = false ∧ n ≤ a
    · rw [if_pos h2] at h; cases h
    · refine ⟨by omega, by omega, fun hb => ?_⟩
      rcases Int.lt_or_le a n with h3 | h3
      · exact h3
      · exact absurd ⟨hb, h3⟩ h2
theorem rise_of {l : List Int} (h : ∀ j, j < l.length → 0 < j → l.getD (j - 1) 0 < l.getD j 0) : l.Pairwise (· < ·) := by
  rw [List.pairwise_iff_getElem]
  intro a b ha hb hab
  induction b with
  | zero => omega
  | succ b ih =>
    have h1 := h (b + 1) hb (by omega)
    rw [Nat.add_sub_cancel, getD_lt _ _ hb, getD_lt _ _ (by omega)] at h1
    rcases Nat.lt_or_ge a b with h2 | h2
    · have := ih (by omega) h2; omega
    · obtain rfl : a = b := by omega
      exact h1
theorem chk_good {g : Gr} (h : chk g = 0) : Good g ∧ idOk g.es ∧ g.vs.length ≤ 64 ∧ g.es.length ≤ 160 := by
  unfold chk at h
  by_cases h1 : 64 < g.vs.length ∨ 160 < g.es.length
  · rw [if_pos h1] at h; cases h
  · rw [if_neg h1] at h
    by_cases h2 : firstNZ (badV g) g.vs.length = 0
    · rw [if_neg (by simp [h2])] at h
      have hV := firstNZ_all h2
      have hE := firstNZ_all h
      have hEx : ∀ j, j < g.es.length → (1 ≤ (g.es.getD j ed0).id ∧ (g.es.getD j ed0).id ≤ 1048576) ∧ (g.es.getD j ed0).a ∈ g.vs ∧ (g.es.getD j ed0).b ∈ g.vs := by
        intro j hj
        have := hE j hj
        unfold badE at this
        simp only at this
        by_cases h3 : numb (g.es.getD j ed0).id (g.es.getD (j - 1) ed0).id (decide (j = 0)) = 0
        · rw [if_neg (fun h => h h3)] at this
          by_cases h4 : (g.es.getD j ed0).a = (g.es.getD j ed0).b
          · rw [if_pos h4] at this; cases this
          · rw [if_neg h4] at this
            by_cases h5 : (g.es.getD j ed0).a ∉ g.vs ∨ (g.es.getD j ed0).b ∉ g.vs
            · rw [if_pos h5] at this; cases this
            · have h6 := numb_zero h3
              refine ⟨⟨h6.1, h6.2.1⟩, ?_, ?_⟩
              · exact Classical.byContradiction fun h => h5 (.inl h)
              · exact Classical.byContradiction fun h => h5 (.inr h)
        · rw [if_pos h3] at this; exact absurd this h3
      have hget : ∀ x ∈ g.es, ∃ j, j < g.es.length ∧ g.es.getD j ed0 = x := by
        intro x hx
        obtain ⟨j, hj, rfl⟩ := List.getElem_of_mem hx
        exact ⟨j, hj, by rw [List.getD_eq_getElem?_getD, List.getElem?_eq_getElem hj]; rfl⟩
      refine ⟨⟨rise_of fun j hj h0 => ?_, fun x hx => ?_⟩, fun x hx => ?_, by omega, by omega⟩
      · have := (numb_zero (hV j hj)).2.2 (by simp; omega)
        exact this
      · obtain ⟨j, hj, rfl⟩ := hget x hx
        exact (hEx j hj).2
      · obtain ⟨j, hj, rfl⟩ := hget x hx
        have := (hEx j hj).1; omega
    · rw [if_pos h2] at h; exact absurd h h2

theorem ends_nil (es : List Ed) (v : Int) : ends es v = [] ↔ nbr es v = [] := by
  unfold ends nbr
  simp only [List.flatMap_eq_nil_iff]
  refine forall_congr' fun x => forall_congr' fun _ => ?_
  unfold end1 nbr1
  by_cases h1 : x.a = v <;> by_cases h2 : x.b = v <;> simp [h1, h2]

theorem PartsTo.flat {g : Gr} (hg : Good g) {k : Nat} {R : List (List Int)} (h : PartsTo g k R) : R.flatten.Nodup ∧ ∀ w, w ∈ R.flatten ↔ w ∈ g.vs ∧ Seen g k w := by
  induction h with
  | zero => exact ⟨by simp, fun w => ⟨fun h => by simp at h, fun h => by obtain ⟨u, hu, _⟩ := h.2; simp at hu⟩⟩
  | seen _ hk hs ih => exact ⟨ih.1, fun w => by rw [ih.2, seen_same hk hs]⟩
  | @lead k R c _ hk hs hc ih =>
    rw [List.flatten_append, List.flatten_cons, List.flatten_nil, List.append_nil]
    refine ⟨?_, fun w => ?_⟩
    · rw [List.nodup_append]
      refine ⟨ih.1, hc.1.imp fun h => by omega, fun a ha b hb => ?_⟩
      rintro rfl
      have h1 := ((ih.2 a).1 ha).2
      have h2 := ((hc.2 a).1 hb).2
      exact hs (h1.reach h2.symm)
    · rw [List.mem_append, ih.2, hc.2, seen_succ hk]
      constructor
      · rintro (⟨h1, h2⟩ | ⟨h1, h2⟩)
        · exact ⟨h1, .inl h2⟩
        · exact ⟨h1, .inr h2⟩
      · rintro ⟨h1, h2 | h2⟩
        · exact .inl ⟨h1, h2⟩
        · exact .inr ⟨h1, h2⟩
theorem PartsTo.count {g : Gr} (hg : Good g) {R : List (List Int)} (h : PartsTo g g.vs.length R) : R.flatten.length = g.vs.length := by
  obtain ⟨h1, h2⟩ := h.flat hg
  refine ((List.perm_ext_iff_of_nodup h1 hg.nodup).2 fun w => ?_).length_eq
  rw [h2]
  refine ⟨fun h => h.1, fun h => ⟨h, w, ?_, .refl⟩⟩
  rw [List.take_length]; exact h
theorem PartsTo.row_le {g : Gr} (hg : Good g) {k : Nat} {R : List (List Int)} (h : PartsTo g k R) : ∀ c ∈ R, c.length ≤ g.vs.length := by
  induction h with
  | zero => intro c hc; simp at hc
  | seen _ _ _ ih => exact ih
  | lead _ _ _ hc ih =>
    intro d hd
    rw [List.mem_append, List.mem_singleton] at hd
    rcases hd with hd | rfl
    · exact ih d hd
    · exact List.Nodup.length_le_of_subset (hc.1.imp fun h => by omega) fun w hw => ((hc.2 w).1 hw).1

end Go.Proofs.YtaiakdhcajibnaaGreat.Aw

namespace Go.Proofs.YtaiakdhcajibnaaGreat.Aw
open Go Go.RowKit Go.Proofs.YtaiakdhcajibnaaGreat.Pl Go.Proofs.YtaiakdhcajibnaaGreat.Eu
set_option linter.unusedSimpArgs false
set_option linter.unusedVariables false

/-- All darts, in the edges' order. -/
def darts (es : List Ed) : List Int := es.flatMap fun x => [2 * x.id, 2 * x.id + 1]
structure GoodE (g : Gr) : Prop extends Good g where
  ids : g.es.Pairwise (fun x y => x.id < y.id)
  pos : ∀ x ∈ g.es, 1 ≤ x.id ∧ x.id ≤ 1048576
  ne : ∀ x ∈ g.es, x.a ≠ x.b
theorem getE_lt (l : List Ed) (j : Nat) (hj : j < l.length) : l.getD j ed0 = l[j] := by
  rw [List.getD_eq_getElem?_getD, List.getElem?_eq_getElem hj]; rfl
theorem chk_goodE {g : Gr} (h : chk g = 0) : GoodE g := by
  obtain ⟨hg, _, _, _⟩ := chk_good h
  unfold chk at h
  by_cases h1 : 64 < g.vs.length ∨ 160 < g.es.length
  · rw [if_pos h1] at h; cases h
  rw [if_neg h1] at h
  by_cases h2 : firstNZ (badV g) g.vs.length = 0
  · rw [if_neg (by simp [h2])] at h
    have hE := firstNZ_all h
    have hEx : ∀ j, j < g.es.length → ((1 ≤ (g.es.getD j ed0).id ∧ (g.es.getD j ed0).id ≤ 1048576) ∧ (0 < j → (g.es.getD (j - 1) ed0).id < (g.es.getD j ed0).id)) ∧ (g.es.getD j ed0).a ≠ (g.es.getD j ed0).b := by
      intro j hj
      have := hE j hj
      unfold badE at this
      simp only at this
      by_cases h3 : numb (g.es.getD j ed0).id (g.es.getD (j - 1) ed0).id (decide (j = 0)) = 0
      · rw [if_neg (fun h => h h3)] at this
        by_cases h4 : (g.es.getD j ed0).a = (g.es.getD j ed0).b
        · rw [if_pos h4] at this; cases this
        · have h6 := numb_zero h3
          exact ⟨⟨⟨h6.1, h6.2.1⟩, fun h0 => h6.2.2 (by simp; omega)⟩, h4⟩
      · rw [if_pos h3] at this; exact absurd this h3
    have hget : ∀ x ∈ g.es, ∃ j, j < g.es.length ∧ g.es.getD j ed0 = x := by
      intro x hx
      obtain ⟨j, hj, rfl⟩ := List.getElem_of_mem hx
      exact ⟨j, hj, getE_lt _ _ hj⟩
    refine ⟨hg, ?_, fun x hx => ?_, fun x hx => ?_⟩
    · rw [List.pairwise_iff_getElem]
      intro a b ha hb hab
      induction b with
      | zero => omega
      | succ b ih =>
        have h1 := (hEx (b + 1) hb).1.2 (by omega)
        rw [Nat.add_sub_cancel, getE_lt _ _ hb, getE_lt _ _ (by omega)] at h1
        rcases Nat.lt_or_ge a b with h2 | h2
        · have := ih (by omega) h2; omega
        · obtain rfl : a = b := by omega
          exact h1
    · obtain ⟨j, hj, rfl⟩ := hget x hx
      exact (hEx j hj).1.1
    · obtain ⟨j, hj, rfl⟩ := hget x hx
      exact (hEx j hj).2
  · rw [if_pos h2] at h; exact absurd h h2

theorem id_eq {es : List Ed} (h : es.Pairwise (fun x y => x.id < y.id)) {x y : Ed} (hx : x ∈ es) (hy : y ∈ es) (he : x.id = y.id) : x = y := by
  obtain ⟨j, hj, rfl⟩ := List.getElem_of_mem hx
  obtain ⟨k, hk, rfl⟩ := List.getElem_of_mem hy
  rcases Nat.lt_trichotomy j k with h1 | h1 | h1
  · have := List.pairwise_iff_getElem.1 h j k hj hk h1; omega
  · subst h1; rfl
  · have := List.pairwise_iff_getElem.1 h k j hk hj h1; omega
theorem mem_ends {es : List Ed} {v d : Int} : d ∈ ends es v ↔ ∃ x ∈ es, (x.a = v ∧ d = 2 * x.id) ∨ (x.b = v ∧ d = 2 * x.id + 1) := by
  unfold ends
  rw [List.mem_flatMap]
  refine exists_congr fun x => and_congr_right fun _ => ?_
  unfold end1
  rw [List.mem_append]
  refine or_congr ?_ ?_
  · split
    · rename_i h; simp [h]
    · rename_i h; simp [h]
  · split
    · rename_i h; simp [h]
    · rename_i h; simp [h]
theorem mem_darts {es : List Ed} {d : Int} : d ∈ darts es ↔ ∃ x ∈ es, d = 2 * x.id ∨ d = 2 * x.id + 1 := by
  unfold darts
  rw [List.mem_flatMap]
  refine exists_congr fun x => and_congr_right fun _ => ?_
  simp
theorem darts_half {es : List Ed} {d : Int} : d ∈ darts es ↔ ∃ x ∈ es, x.id = d / 2 := by
  rw [mem_darts]
  refine exists_congr fun x => and_congr_right fun _ => ?_
  omega
theorem darts_rise {es : List Ed} (h : es.Pairwise (fun x y => x.id < y.id)) : (darts es).Pairwise (· < ·) := by
  unfold darts
  rw [List.pairwise_flatMap]
  refine ⟨fun x _ => by simp; omega, h.imp fun {x y} hxy a ha b hb => ?_⟩
  simp at ha hb
  omega
theorem ends_rise {es : List Ed} (h : es.Pairwise (fun x y => x.id < y.id)) (v : Int) : (ends es v).Pairwise (· < ·) := by
  unfold ends
  rw [List.pairwise_flatMap]
  refine ⟨fun x _ => ?_, h.imp fun {x y} hxy a ha b hb => ?_⟩
  · unfold end1
    by_cases h1 : x.a = v <;> by_cases h2 : x.b = v <;> simp [h1, h2]
    omega
  · unfold end1 at ha hb
    simp only [List.mem_append] at ha hb
    have h1 : a = 2 * x.id ∨ a = 2 * x.id + 1 := by
      rcases ha with ha | ha <;> split at ha <;> simp at ha
      · exact .inl ha
      · exact .inr ha
    have h2 : b = 2 * y.id ∨ b = 2 * y.id + 1 := by
      rcases hb with hb | hb <;> split at hb <;> simp at hb
      · exact .inl hb
      · exact .inr hb
    omega
theorem rise_nodup {l : List Int} (h : l.Pairwise (· < ·)) : l.Nodup := h.imp fun h => by omega
theorem darts_length (es : List Ed) : (darts es).length = 2 * es.length := by
  induction es with
  | nil => rfl
  | cons x l ih => simp only [darts, List.flatMap_cons, List.length_append, List.length_cons, List.length_nil] at ih ⊢; omega
theorem darts_get (es : List Ed) (k : Nat) (hk : k < es.length) : (darts es).getD (2 * k) 0 = 2 * (es.getD k ed0).id ∧ (darts es).getD (2 * k + 1) 0 = 2 * (es.getD k ed0).id + 1 := by
  induction es generalizing k with
  | nil => simp at hk
  | cons x l ih =>
    cases k with
    | zero => simp [darts]
    | succ k =>
      have := ih k (by simpa using hk)
      simp only [darts, List.flatMap_cons, List.cons_append, List.nil_append, show 2 * (k + 1) = 2 * k + 1 + 1 by omega, List.getD_cons_succ] at this ⊢
      exact this

/-- A turn that stands right at a vertex. -/
def okTurn (es : List Ed) (v : Int) (t : List Int) : Prop := t.Perm (ends es v) ∧ nrm t = t
structure MapOk (m : Mp) : Prop where
  g : GoodE m.g
  len : m.rots.length = m.g.vs.length
  ok : ∀ k, k < m.g.vs.length → okTurn m.g.es (m.g.vs.getD k 0) (m.rots.getD k [])

theorem at_unique {es : List Ed} (h : es.Pairwise (fun x y => x.id < y.id)) {d v w : Int} (hv : d ∈ ends es v) (hw : d ∈ ends es w) : v = w := by
  rw [mem_ends] at hv hw
  obtain ⟨x, hx, h1⟩ := hv
  obtain ⟨y, hy, h2⟩ := hw
  have he : x.id = y.id := by omega
  have := id_eq h hx hy he
  subst this
  omega
theorem ends_dart {es : List Ed} {d v : Int} (h : d ∈ ends es v) : d ∈ darts es := by
  rw [mem_ends] at h
  rw [mem_darts]
  obtain ⟨x, hx, h1⟩ := h
  exact ⟨x, hx, by omega⟩
theorem dart_at {es : List Ed} {d : Int} (h : d ∈ darts es) : ∃ v, d ∈ ends es v ∧ ∃ x ∈ es, x.id = d / 2 ∧ (v = x.a ∨ v = x.b) := by
  rw [mem_darts] at h
  obtain ⟨x, hx, h1 | h1⟩ := h
  · exact ⟨x.a, mem_ends.2 ⟨x, hx, .inl ⟨rfl, h1⟩⟩, x, hx, by omega, .inl rfl⟩
  · exact ⟨x.b, mem_ends.2 ⟨x, hx, .inr ⟨rfl, h1⟩⟩, x, hx, by omega, .inr rfl⟩

theorem getR_lt (l : List (List Int)) (j : Nat) (hj : j < l.length) : l.getD j [] = l[j] := by
  rw [List.getD_eq_getElem?_getD, List.getElem?_eq_getElem hj]; rfl

section
variable {m : Mp} (h : MapOk m)
include h
theorem MapOk.turn {t : List Int} (ht : t ∈ m.rots) : ∃ k, k < m.g.vs.length ∧ t = m.rots.getD k [] ∧ okTurn m.g.es (m.g.vs.getD k 0) t := by
  obtain ⟨k, hk, rfl⟩ := List.getElem_of_mem ht
  have hk' : k < m.g.vs.length := by rw [← h.len]; exact hk
  refine ⟨k, hk', (getR_lt _ _ hk).symm, ?_⟩
  have := h.ok k hk'
  rwa [getR_lt _ _ hk] at this
theorem MapOk.nodup {t : List Int} (ht : t ∈ m.rots) : t.Nodup := by
  obtain ⟨k, _, _, h1, _⟩ := h.turn ht
  exact h1.nodup_iff.2 (rise_nodup (ends_rise h.g.ids _))
theorem MapOk.same {t t' : List Int} (ht : t ∈ m.rots) (ht' : t' ∈ m.rots) {d : Int} (hd : d ∈ t) (hd' : d ∈ t') : t = t' := by
  obtain ⟨k, hk, rfl, h1, _⟩ := h.turn ht
  obtain ⟨k', hk', rfl, h2, _⟩ := h.turn ht'
  have := at_unique h.g.ids (h1.mem_iff.1 hd) (h2.mem_iff.1 hd')
  rw [getD_lt _ _ hk, getD_lt _ _ hk'] at this
  have h3 := congrArg m.g.vs.idxOf this
  rw [h.g.toGood.nodup.idxOf_getElem, h.g.toGood.nodup.idxOf_getElem] at h3
  rw [h3]
theorem MapOk.turn_of {d : Int} (hd : d ∈ darts m.g.es) : ∃ t ∈ m.rots, d ∈ t := by
  obtain ⟨v, hv, x, hx, _, hvx⟩ := dart_at hd
  have hvin : v ∈ m.g.vs := by
    rcases hvx with rfl | rfl
    · exact (h.g.ends x hx).1
    · exact (h.g.ends x hx).2
  obtain ⟨k, hk, rfl⟩ := List.getElem_of_mem hvin
  have := h.ok k hk
  rw [getD_lt _ _ hk] at this
  refine ⟨_, ?_, this.1.mem_iff.2 hv⟩
  rw [getR_lt _ _ (by rw [h.len]; exact hk)]
  exact List.getElem_mem _
theorem MapOk.turn_dart {t : List Int} (ht : t ∈ m.rots) {d : Int} (hd : d ∈ t) : d ∈ darts m.g.es := by
  obtain ⟨k, _, _, h1, _⟩ := h.turn ht
  exact ends_dart (h1.mem_iff.1 hd)
theorem MapOk.row_le {t : List Int} (ht : t ∈ m.rots) : t.length ≤ 2 * m.g.es.length := by
  obtain ⟨k, _, _, h1, _⟩ := h.turn ht
  rw [h1.length_eq]
  exact flat_len _ (end1_len _) _
end

/-- The one behind a dart, in its turn. -/
def sg (m : Mp) (d : Int) : Int := match m.rots.find? (fun t => decide (d ∈ t)) with
  | some t => nx t d
  | none => d
theorem sg_out {m : Mp} {d : Int} (h : ∀ t ∈ m.rots, d ∉ t) : sg m d = d := by
  unfold sg
  have : m.rots.find? (fun t => decide (d ∈ t)) = none := by
    rw [List.find?_eq_none]
    intro t ht
    simpa using h t ht
  rw [this]
theorem sg_at {m : Mp} (h : MapOk m) {t : List Int} (ht : t ∈ m.rots) {d : Int} (hd : d ∈ t) : sg m d = nx t d := by
  unfold sg
  cases hf : m.rots.find? (fun t => decide (d ∈ t)) with
  | none =>
    rw [List.find?_eq_none] at hf
    exact absurd hd (by simpa using hf t ht)
  | some t' =>
    have h1 := List.find?_some hf
    have h2 := List.mem_of_find?_eq_some hf
    simp only at h1 ⊢
    rw [h.same h2 ht (by simpa using h1) hd]

/-- The other end, of some edges. -/
def al (es : List Ed) (d : Int) : Int := if (es.any fun x => decide (x.id = d / 2)) = true then tw d else d
theorem al_in {es : List Ed} {d : Int} (h : d ∈ darts es) : al es d = tw d := by
  unfold al
  rw [if_pos]
  obtain ⟨x, hx, h⟩ := darts_half.1 h
  exact List.any_eq_true.2 ⟨x, hx, by simpa using h⟩
theorem al_out {es : List Ed} {d : Int} (h : d ∉ darts es) : al es d = d := by
  unfold al
  rw [if_neg]
  intro ha
  obtain ⟨x, hx, h1⟩ := List.any_eq_true.1 ha
  exact h (darts_half.2 ⟨x, hx, by simpa using h1⟩)
theorem twHalf (d : Int) : tw d / 2 = d / 2 := by unfold tw; split <;> omega
theorem twTw (d : Int) : tw (tw d) = d := by unfold tw; split <;> split <;> omega
theorem tw_dart {es : List Ed} {d : Int} : tw d ∈ darts es ↔ d ∈ darts es := by rw [darts_half, darts_half, twHalf]
theorem al_al (es : List Ed) (d : Int) : al es (al es d) = d := by
  by_cases h : d ∈ darts es
  · rw [al_in h, al_in (tw_dart.2 h), twTw]
  · rw [al_out h, al_out h]
theorem al_half (es : List Ed) (d : Int) : al es d / 2 = d / 2 := by
  unfold al; split
  · exact twHalf d
  · rfl
theorem al_dart (es es' : List Ed) (d : Int) : al es d ∈ darts es' ↔ d ∈ darts es' := by rw [darts_half, darts_half, al_half]
theorem al_inj (es : List Ed) {d e : Int} (h : al es d = al es e) : d = e := by rw [← al_al es d, h, al_al]

/-- The dart behind one in its face. -/
def fc (m : Mp) (es : List Ed) (d : Int) : Int := sg m (al es d)

section
variable {m : Mp} (h : MapOk m)
include h
theorem MapOk.sg_mem {t : List Int} (ht : t ∈ m.rots) {d : Int} (hd : d ∈ t) : sg m d ∈ t := by rw [sg_at h ht hd]; exact nx_mem hd
theorem MapOk.sg_dart {d : Int} (hd : d ∈ darts m.g.es) : sg m d ∈ darts m.g.es := by
  obtain ⟨t, ht, hdt⟩ := h.turn_of hd
  exact h.turn_dart ht (h.sg_mem ht hdt)
theorem MapOk.sg_id {d : Int} (hd : d ∉ darts m.g.es) : sg m d = d := sg_out fun _ ht hdt => hd (h.turn_dart ht hdt)
theorem MapOk.sg_inj {d e : Int} (he : sg m d = sg m e) : d = e := by
  by_cases h1 : d ∈ darts m.g.es
  · by_cases h2 : e ∈ darts m.g.es
    · obtain ⟨t, ht, hd⟩ := h.turn_of h1
      obtain ⟨t', ht', hd'⟩ := h.turn_of h2
      have := h.same ht ht' (h.sg_mem ht hd) (he ▸ h.sg_mem ht' hd')
      subst this
      rw [sg_at h ht hd, sg_at h ht hd'] at he
      exact nx_inj (h.nodup ht) hd hd' he
    · have := h.sg_dart h1
      rw [he, h.sg_id h2] at this
      exact absurd this h2
  · by_cases h2 : e ∈ darts m.g.es
    · have := h.sg_dart h2
      rw [← he, h.sg_id h1] at this
      exact absurd this h1
    · rwa [h.sg_id h1, h.sg_id h2] at he
theorem MapOk.fc_inj (es : List Ed) (d e : Int) (he : fc m es d = fc m es e) : d = e := al_inj es (h.sg_inj he)
theorem MapOk.fc_dart (es : List Ed) (d : Int) (hd : d ∈ darts m.g.es) : fc m es d ∈ darts m.g.es := h.sg_dart ((al_dart es _ d).2 hd)
theorem MapOk.fc_per (es : List Ed) (hs : ∀ x ∈ es, x ∈ m.g.es) : Per (fc m es) := by
  refine per_of (darts m.g.es) (fun x hx => h.fc_dart es x hx) (h.fc_inj es) fun x hx => ?_
  have hx' : x ∉ darts es := fun hd => hx (by
    rw [mem_darts] at hd ⊢
    obtain ⟨y, hy, h1⟩ := hd
    exact ⟨y, hs y hy, h1⟩)
  unfold fc
  rw [al_out hx', h.sg_id hx]
theorem MapOk.sg_at_v {d v : Int} (hd : d ∈ ends m.g.es v) : sg m d ∈ ends m.g.es v := by
  obtain ⟨t, ht, hdt⟩ := h.turn_of (ends_dart hd)
  obtain ⟨k, hk, rfl, h1, _⟩ := h.turn ht
  have := at_unique h.g.ids hd (h1.mem_iff.1 hdt)
  rw [this]
  exact h1.mem_iff.1 (h.sg_mem ht hdt)
theorem MapOk.orb_reach (es : List Ed) (hs : ∀ x ∈ es, x ∈ m.g.es) (n : Nat) : ∀ {d v : Int}, d ∈ ends m.g.es v → ∃ w, it (fc m es) n d ∈ ends m.g.es w ∧ Reach es v w := by
  induction n with
  | zero => intro d v hd; exact ⟨v, hd, .refl⟩
  | succ n ih =>
    intro d v hd
    have key : ∃ w, fc m es d ∈ ends m.g.es w ∧ Reach es v w := by
      by_cases hin : d ∈ darts es
      · unfold fc
        rw [al_in hin]
        obtain ⟨x, hx, hxd⟩ := darts_half.1 hin
        have hxg := hs x hx
        obtain ⟨y, hy, hyd⟩ := mem_ends.1 hd
        have hxy : x = y := id_eq h.g.ids hxg hy (by omega)
        subst hxy
        rcases hyd with ⟨rfl, hdd⟩ | ⟨rfl, hdd⟩
        · refine ⟨x.b, h.sg_at_v (mem_ends.2 ⟨x, hxg, .inr ⟨rfl, ?_⟩⟩), .step .refl (mem_nbr.2 ⟨x, hx, .inl ⟨rfl, rfl⟩⟩)⟩
          unfold tw; split <;> omega
        · refine ⟨x.a, h.sg_at_v (mem_ends.2 ⟨x, hxg, .inl ⟨rfl, ?_⟩⟩), .step .refl (mem_nbr.2 ⟨x, hx, .inr ⟨rfl, rfl⟩⟩)⟩
          unfold tw; split <;> omega
      · unfold fc
        rw [al_out hin]
        exact ⟨v, h.sg_at_v hd, .refl⟩
    obtain ⟨w, h1, h2⟩ := key
    obtain ⟨w', h3, h4⟩ := ih h1
    exact ⟨w', h3, h2.trans h4⟩
end

/-! ### Euler -/
theorem reach_eqv (es : List Ed) : Eqv (Reach es) := ⟨fun _ => .refl, Reach.symm, Reach.trans⟩
theorem Reach.mono {es es' : List Ed} (hs : ∀ x ∈ es, x ∈ es') {v w : Int} (h : Reach es v w) : Reach es' v w := by
  induction h with
  | refl => exact .refl
  | step _ hw ih =>
    refine .step ih ?_
    rw [mem_nbr] at hw ⊢
    obtain ⟨x, hx, h1⟩ := hw
    exact ⟨x, hs x hx, h1⟩
theorem reach_snoc (es : List Ed) (x : Ed) (v w : Int) : Reach (es ++ [x]) v w ↔ Eu.Mg (Reach es) x.a x.b v w := by
  constructor
  · intro h
    have hE := Mg.eqv (reach_eqv es) x.a x.b
    induction h with
    | refl => exact hE.refl _
    | step _ hw ih =>
      refine hE.trans ih ?_
      obtain ⟨y, hy, h1⟩ := mem_nbr.1 hw
      rw [List.mem_append, List.mem_singleton] at hy
      rcases hy with hy | rfl
      · exact .inl (.step .refl (mem_nbr.2 ⟨y, hy, h1⟩))
      · rcases h1 with ⟨rfl, rfl⟩ | ⟨rfl, rfl⟩
        · exact .inr (.inl ⟨.refl, .refl⟩)
        · exact .inr (.inr ⟨.refl, .refl⟩)
  · refine Mg.le (reach_eqv _) (.step .refl (mem_nbr.2 ⟨x, by simp, .inl ⟨rfl, rfl⟩⟩)) fun v w h => h.mono fun y hy => by simp [hy]
theorem ncl_one {R : Int → Int → Prop} (hR : ∀ x y, R x y → x = y) {l : List Int} (hn : l.Nodup) : ncl R l = l.length := by
  induction l with
  | nil => rfl
  | cons x l ih =>
    rw [List.nodup_cons] at hn
    rw [ncl_cons_new, ih hn.2, List.length_cons]
    rintro ⟨y, hy, hr⟩
    exact hn.1 (hR _ _ hr ▸ hy)
theorem reach_nil {v w : Int} (h : Reach [] v w) : v = w := by
  induction h with
  | refl => rfl
  | step _ hw _ => obtain ⟨x, hx, _⟩ := mem_nbr.1 hw; cases hx
theorem filter_eq {α β : Type} (p : α → Bool) (q : β → Bool) : ∀ (l : List α) (l' : List β), l.length = l'.length → (∀ k (h1 : k < l.length) (h2 : k < l'.length), p l[k] = !q l'[k]) → (l.filter p).length + l'.countP q = l.length
  | [], [], _, _ => rfl
  | [], _ :: _, h, _ => by simp at h
  | _ :: _, [], h, _ => by simp at h
  | a :: l, b :: l', h, hk => by
    have ih := filter_eq p q l l' (by simpa using h) fun k h1 h2 => hk (k + 1) (by simpa using h1) (by simpa using h2)
    have h0 := hk 0 (by simp) (by simp)
    simp only [List.getElem_cons_zero] at h0
    rw [List.filter_cons, List.countP_cons, h0, List.length_cons]
    cases q b <;> simp <;> omega
section
variable {m : Mp} (h : MapOk m)
include h
theorem MapOk.flat_perm : (darts m.g.es).Perm m.rots.flatten := by
  refine (List.perm_ext_iff_of_nodup (rise_nodup (darts_rise h.g.ids)) ?_).2 fun d => ?_
  · unfold List.Nodup
    rw [List.pairwise_flatten]
    refine ⟨fun t ht => h.nodup ht, ?_⟩
    rw [List.pairwise_iff_getElem]
    intro a b ha hb hab x hx y hy
    rintro rfl
    have h1 := h.ok a (by rw [← h.len]; exact ha)
    have h2 := h.ok b (by rw [← h.len]; exact hb)
    rw [getR_lt _ _ ha] at h1
    rw [getR_lt _ _ hb] at h2
    have h3 := at_unique h.g.ids (h1.1.mem_iff.1 hx) (h2.1.mem_iff.1 hy)
    have ha' : a < m.g.vs.length := by rw [← h.len]; exact ha
    have hb' : b < m.g.vs.length := by rw [← h.len]; exact hb
    rw [getD_lt _ _ ha', getD_lt _ _ hb'] at h3
    have := List.pairwise_iff_getElem.1 h.g.rise a b ha' hb' hab
    omega
  · rw [List.mem_flatten]
    exact ⟨fun hd => h.turn_of hd, fun ⟨t, ht, hd⟩ => h.turn_dart ht hd⟩
theorem MapOk.ncl_sg : ncl (Orb (sg m)) (darts m.g.es) + alone m.g = m.g.vs.length := by
  have hfc : fc m [] = sg m := by funext d; simp [fc, al]
  have hP : Per (sg m) := by rw [← hfc]; exact h.fc_per [] (fun x hx => by cases hx)
  have hst : ∀ t ∈ m.rots, ∀ n x, x ∈ t → it (sg m) n x ∈ t := by
    intro t ht n
    induction n with
    | zero => intro x hx; exact hx
    | succ n ih => intro x hx; exact ih _ (h.sg_mem ht hx)
  have hit : ∀ t ∈ m.rots, ∀ n x, x ∈ t → it (sg m) n x = it (nx t) n x := by
    intro t ht n
    induction n with
    | zero => intro x hx; rfl
    | succ n ih => intro x hx; rw [it_succ, it_succ, ih x hx, sg_at h ht]; rw [← ih x hx]; exact hst t ht n x hx
  rw [ncl_perm hP.eqv h.flat_perm, ncl_rows]
  · have := filter_eq (fun t => decide (t ≠ [])) (fun v => decide (nbr m.g.es v = [])) m.rots m.g.vs h.len fun k h1 h2 => ?_
    · rw [← h.len]; exact this
    · have hk := h.ok k h2
      rw [getR_lt _ _ h1, getD_lt _ _ h2] at hk
      have e1 : m.rots[k] = [] ↔ nbr m.g.es m.g.vs[k] = [] := by
        rw [← ends_nil]
        constructor
        · intro h3; have := hk.1; rw [h3] at this; exact this.symm.eq_nil
        · intro h3; have := hk.1; rw [h3] at this; exact this.eq_nil
      by_cases h3 : m.rots[k] = []
      · simp [h3, e1.1 h3]
      · have h5 : ¬ nbr m.g.es m.g.vs[k] = [] := fun h4 => h3 (e1.2 h4)
        simp [h3, h5]
  · intro t ht x hx y hy
    obtain ⟨n, hn⟩ := nx_orb (h.nodup ht) hx hy
    exact ⟨n, by rw [hit t ht n x hx, hn]⟩
  · rw [List.pairwise_iff_getElem]
    rintro a b ha hb hab x hx y hy ⟨n, hn⟩
    have h4 := hst _ (List.getElem_mem hb) n y hy
    rw [hn] at h4
    have h1 := h.ok a (by rw [← h.len]; exact ha)
    have h2 := h.ok b (by rw [← h.len]; exact hb)
    rw [getR_lt _ _ ha] at h1
    rw [getR_lt _ _ hb] at h2
    have h3 := at_unique h.g.ids (h1.1.mem_iff.1 hx) (h2.1.mem_iff.1 h4)
    have ha' : a < m.g.vs.length := by rw [← h.len]; exact ha
    have hb' : b < m.g.vs.length := by rw [← h.len]; exact hb
    rw [getD_lt _ _ ha', getD_lt _ _ hb'] at h3
    have := List.pairwise_iff_getElem.1 h.g.rise a b ha' hb' hab
    omega
theorem MapOk.euler_at (j : Nat) (hj : j ≤ m.g.es.length) : ∃ k : Nat, 2 * ncl (Reach (m.g.es.take j)) m.g.vs + j = 2 * k + alone m.g + m.g.vs.length + ncl (Orb (fc m (m.g.es.take j))) (darts m.g.es) := by
  induction j with
  | zero =>
    have hfc : fc m [] = sg m := by funext d; simp [fc, al]
    refine ⟨0, ?_⟩
    rw [List.take_zero, hfc, ncl_one (fun x y => reach_nil) h.g.toGood.nodup]
    have := h.ncl_sg
    omega
  | succ j ih =>
    obtain ⟨k, hk⟩ := ih (by omega)
    have hs : ∀ i, ∀ x ∈ m.g.es.take i, x ∈ m.g.es := fun i x hx => List.mem_of_mem_take hx
    have hp := h.fc_per (m.g.es.take j) (hs j)
    have hp' := h.fc_per (m.g.es.take (j + 1)) (hs (j + 1))
    have htk : m.g.es.take (j + 1) = m.g.es.take j ++ [m.g.es[j]] := List.take_succ_eq_append_getElem (by omega)
    have hxin : m.g.es[j] ∈ m.g.es := List.getElem_mem _
    have hxno : ∀ y ∈ m.g.es.take j, y.id ≠ m.g.es[j].id := by
      intro y hy
      obtain ⟨i, hi, rfl⟩ := List.getElem_of_mem hy
      rw [List.length_take] at hi
      rw [List.getElem_take]
      have := List.pairwise_iff_getElem.1 h.g.ids i j (by omega) (by omega) (by omega)
      omega
    generalize m.g.es[j] = x at *
    have hf' : ∀ d, fc m (m.g.es.take (j + 1)) d = fc m (m.g.es.take j) (sw (2 * x.id) (2 * x.id + 1) d) := by
      intro d
      unfold fc
      congr 1
      by_cases h1 : d = 2 * x.id
      · subst h1
        rw [sw_a, al_in (darts_half.2 ⟨x, by rw [htk]; simp, by omega⟩), al_out]
        · unfold tw; rw [if_pos (by omega)]
        · intro hd
          obtain ⟨y, hy, h2⟩ := darts_half.1 hd
          exact hxno y hy (by omega)
      · by_cases h2 : d = 2 * x.id + 1
        · subst h2
          rw [sw_b, al_in (darts_half.2 ⟨x, by rw [htk]; simp, by omega⟩), al_out]
          · unfold tw; rw [if_neg (by omega)]; omega
          · intro hd
            obtain ⟨y, hy, h2⟩ := darts_half.1 hd
            exact hxno y hy (by omega)
        · rw [sw_o h1 h2]
          by_cases h3 : d ∈ darts (m.g.es.take j)
          · rw [al_in h3, al_in]
            obtain ⟨y, hy, h4⟩ := darts_half.1 h3
            exact darts_half.2 ⟨y, by rw [htk]; simp [hy], h4⟩
          · rw [al_out h3, al_out]
            intro hd
            obtain ⟨y, hy, h4⟩ := darts_half.1 hd
            rw [htk, List.mem_append, List.mem_singleton] at hy
            rcases hy with hy | rfl
            · exact h3 (darts_half.2 ⟨y, hy, h4⟩)
            · omega
    have ha : 2 * x.id ∈ darts m.g.es := mem_darts.2 ⟨x, hxin, .inl rfl⟩
    have hb : 2 * x.id + 1 ∈ darts m.g.es := mem_darts.2 ⟨x, hxin, .inr rfl⟩
    have hR : ∀ v w, Reach (m.g.es.take (j + 1)) v w ↔ Eu.Mg (Reach (m.g.es.take j)) x.a x.b v w := fun v w => by rw [htk]; exact reach_snoc _ _ _ _
    have hRn : ncl (Reach (m.g.es.take (j + 1))) m.g.vs = ncl (Eu.Mg (Reach (m.g.es.take j)) x.a x.b) m.g.vs := ncl_congr fun v _ w _ => hR v w
    rw [hRn]
    by_cases ho : Orb (fc m (m.g.es.take j)) (2 * x.id) (2 * x.id + 1)
    · have h1 := ncl_split hp hp' hf' (by omega) ha hb ho
      have hr : Reach (m.g.es.take j) x.a x.b := by
        obtain ⟨n, hn⟩ := ho
        obtain ⟨w, h2, h3⟩ := h.orb_reach (m.g.es.take j) (hs j) n (mem_ends.2 ⟨x, hxin, .inl ⟨rfl, rfl⟩⟩)
        rw [hn] at h2
        rwa [at_unique h.g.ids h2 (mem_ends.2 ⟨x, hxin, .inr ⟨rfl, rfl⟩⟩)] at h3
      have h2 : ncl (Eu.Mg (Reach (m.g.es.take j)) x.a x.b) m.g.vs = ncl (Reach (m.g.es.take j)) m.g.vs := ncl_congr fun v _ w _ => Mg.same (reach_eqv _) hr v w
      rw [h2, h1]
      exact ⟨k, by omega⟩
    · have h1 := ncl_join hp hp' hf' ha hb ho
      by_cases hr : Reach (m.g.es.take j) x.a x.b
      · have h2 : ncl (Eu.Mg (Reach (m.g.es.take j)) x.a x.b) m.g.vs = ncl (Reach (m.g.es.take j)) m.g.vs := ncl_congr fun v _ w _ => Mg.same (reach_eqv _) hr v w
        rw [h2]
        exact ⟨k + 1, by omega⟩
      · have h2 := ncl_mg (reach_eqv _) hr (h.g.ends x hxin).1 (h.g.ends x hxin).2
        exact ⟨k, by omega⟩
theorem MapOk.euler : ∃ k : Nat, 2 * ncl (Reach m.g.es) m.g.vs + m.g.es.length = 2 * k + alone m.g + m.g.vs.length + ncl (Orb (fc m m.g.es)) (darts m.g.es) := by
  have := h.euler_at m.g.es.length (Nat.le_refl _)
  rwa [List.take_length] at this
end

/-! ### parts and faces, counted -/
theorem PartsTo.ncl {g : Gr} {k : Nat} {R : List (List Int)} (h : PartsTo g k R) : R.length = Eu.ncl (Reach g.es) (g.vs.take k).reverse := by
  induction h with
  | zero => rfl
  | @seen k R _ hk hs ih =>
    rw [List.take_succ_eq_append_getElem hk, List.reverse_append, List.reverse_singleton, List.singleton_append, ncl_cons_in, ih]
    obtain ⟨u, hu, hr⟩ := hs
    rw [getD_lt _ _ hk] at hr
    exact ⟨u, List.mem_reverse.2 hu, hr⟩
  | @lead k R c _ hk hs _ ih =>
    rw [List.take_succ_eq_append_getElem hk, List.reverse_append, List.reverse_singleton, List.singleton_append, ncl_cons_new, List.length_append, ih]
    · rfl
    · rintro ⟨u, hu, hr⟩
      rw [← getD_lt _ _ hk] at hr
      exact hs ⟨u, List.mem_reverse.1 hu, hr⟩
theorem PartsTo.all {g : Gr} {R : List (List Int)} (h : PartsTo g g.vs.length R) : R.length = Eu.ncl (Reach g.es) g.vs := by
  rw [h.ncl, List.take_length]
  exact ncl_perm (reach_eqv _) (List.reverse_perm _)

def SeenD (f : Int → Int) (ds : List Int) (k : Nat) (x : Int) : Prop := ∃ y ∈ ds.take k, Orb f y x
/-- The cycles, as they come from the first darts. -/
inductive Lead (f : Int → Int) (ds : List Int) : Nat → List (List Int) → Prop
  | zero : Lead f ds 0 []
  | seen {k : Nat} {R : List (List Int)} (h : Lead f ds k R) (hk : k < ds.length) (hs : SeenD f ds k (ds.getD k 0)) : Lead f ds (k + 1) R
  | lead {k : Nat} {R : List (List Int)} {c : List Int} (h : Lead f ds k R) (hk : k < ds.length) (hs : ¬ SeenD f ds k (ds.getD k 0)) (hc : IsCyc f (ds.getD k 0) c) : Lead f ds (k + 1) (R ++ [c])
theorem Lead.unique {f : Int → Int} {ds : List Int} {k : Nat} {R R' : List (List Int)} (h : Lead f ds k R) (h' : Lead f ds k R') : R = R' := by
  induction h generalizing R' with
  | zero => cases h'; rfl
  | seen _ _ hs ih =>
    cases h' with
    | seen h2 _ _ => exact ih h2
    | lead h2 _ hs2 _ => exact absurd hs hs2
  | lead _ _ hs hc ih =>
    cases h' with
    | seen h2 _ hs2 => exact absurd hs2 hs
    | lead h2 _ _ hc2 => rw [ih h2, hc.unique hc2]
theorem Lead.len {f : Int → Int} {ds : List Int} {k : Nat} {R : List (List Int)} (h : Lead f ds k R) : R.length ≤ k := by
  induction h with
  | zero => simp
  | seen _ _ _ ih => omega
  | lead _ _ _ _ ih => simp; omega
theorem Lead.ncl {f : Int → Int} {ds : List Int} {k : Nat} {R : List (List Int)} (h : Lead f ds k R) : R.length = Eu.ncl (Orb f) (ds.take k).reverse := by
  induction h with
  | zero => rfl
  | @seen k R _ hk hs ih =>
    rw [List.take_succ_eq_append_getElem hk, List.reverse_append, List.reverse_singleton, List.singleton_append, ncl_cons_in, ih]
    obtain ⟨u, hu, hr⟩ := hs
    rw [getD_lt _ _ hk] at hr
    exact ⟨u, List.mem_reverse.2 hu, hr⟩
  | @lead k R c _ hk hs _ ih =>
    rw [List.take_succ_eq_append_getElem hk, List.reverse_append, List.reverse_singleton, List.singleton_append, ncl_cons_new, List.length_append, ih]
    · rfl
    · rintro ⟨u, hu, hr⟩
      rw [← getD_lt _ _ hk] at hr
      exact hs ⟨u, List.mem_reverse.1 hu, hr⟩
theorem Lead.all {f : Int → Int} (hf : Per f) {ds : List Int} {R : List (List Int)} (h : Lead f ds ds.length R) : R.length = Eu.ncl (Orb f) ds := by
  rw [h.ncl, List.take_length]
  exact ncl_perm hf.eqv (List.reverse_perm _)
theorem seenD_succ {f : Int → Int} {ds : List Int} {k : Nat} (hk : k < ds.length) {x : Int} : SeenD f ds (k + 1) x ↔ SeenD f ds k x ∨ Orb f (ds.getD k 0) x := by
  unfold SeenD
  rw [List.take_succ_eq_append_getElem hk, getD_lt _ _ hk]
  constructor
  · rintro ⟨u, hu, hr⟩
    rw [List.mem_append, List.mem_singleton] at hu
    rcases hu with hu | rfl
    · exact .inl ⟨u, hu, hr⟩
    · exact .inr hr
  · rintro (⟨u, hu, hr⟩ | hr)
    · exact ⟨u, List.mem_append_left _ hu, hr⟩
    · exact ⟨_, List.mem_append_right _ (List.mem_singleton.2 rfl), hr⟩
theorem seenD_same {f : Int → Int} {ds : List Int} {k : Nat} (hk : k < ds.length) (hs : SeenD f ds k (ds.getD k 0)) {x : Int} : SeenD f ds (k + 1) x ↔ SeenD f ds k x := by
  rw [seenD_succ hk]
  refine ⟨fun h => h.elim id fun h => ?_, .inl⟩
  obtain ⟨y, hy, hr⟩ := hs
  exact ⟨y, hy, hr.trans h⟩
/-- In rising darts a cycle that was not seen begins with its least. -/
theorem cyc_lead {f : Int → Int} (hf : Per f) {ds : List Int} (hr : ds.Pairwise (· < ·)) (hd : ∀ x ∈ ds, f x ∈ ds) {k : Nat} (hk : k < ds.length) {c : List Int} (hc : IsCyc f (ds.getD k 0) c) : (¬ SeenD f ds k (ds.getD k 0)) ↔ mn c = ds.getD k 0 := by
  have hin : ∀ n x, x ∈ ds → it f n x ∈ ds := by
    intro n
    induction n with
    | zero => intro x hx; exact hx
    | succ n ih => intro x hx; exact ih _ (hd x hx)
  have hx : ds.getD k 0 ∈ ds := by rw [getD_lt _ _ hk]; exact List.getElem_mem _
  constructor
  · intro hs
    refine mn_eq (hc.mem.2 (Orb.refl _ _)) fun y hy => ?_
    obtain ⟨n, hn⟩ := hc.mem.1 hy
    rcases Int.lt_or_le y (ds.getD k 0) with h1 | h1
    · have hy2 : y ∈ ds := by rw [← hn]; exact hin n _ hx
      exact absurd ⟨y, (take_lt hr hk).2 ⟨hy2, h1⟩, Orb.symm hf ⟨n, hn⟩⟩ hs
    · exact h1
  · rintro hm ⟨y, hy, hr2⟩
    have h1 := ((take_lt hr hk).1 hy).2
    have := mn_le (hc.mem.2 (Orb.symm hf hr2))
    omega
theorem nrm_of_head {c : List Int} {d : Int} {r : List Int} (h : c = d :: r) (hm : mn c = d) : nrm c = c := by
  subst h
  unfold nrm
  rw [hm]
  simp [rt]
theorem IsCyc.head {f : Int → Int} {d : Int} {c : List Int} (h : IsCyc f d c) : ∃ r, c = d :: r := by
  obtain ⟨p, hp, rfl, _, _⟩ := h
  obtain ⟨q, rfl⟩ : ∃ q, p = q + 1 := ⟨p - 1, by omega⟩
  rw [List.range_succ_eq_map]
  exact ⟨_, rfl⟩
theorem nrm_head (c : List Int) (h : c ≠ []) : ∃ r, nrm c = mn c :: r := by
  have hm := mn_mem h
  have hlt := List.idxOf_lt_length_of_mem hm
  have hl : 0 < (nrm c).length := by rw [nrm_length]; omega
  have h0 := nrm_get c 0 (by omega)
  simp only [Nat.add_zero, Nat.mod_eq_of_lt hlt, List.getElem_idxOf] at h0
  cases hn : nrm c with
  | nil => rw [hn] at hl; simp at hl
  | cons a r => simp only [hn, List.getElem_cons_zero] at h0; rw [h0]; exact ⟨r, rfl⟩

end Go.Proofs.YtaiakdhcajibnaaGreat.Aw

namespace Go.Proofs.YtaiakdhcajibnaaGreat.Aw
open Go Go.RowKit Go.Proofs.YtaiakdhcajibnaaGreat.Pl Go.Proofs.YtaiakdhcajibnaaGreat.Eu
set_option linter.unusedSimpArgs false
set_option linter.unusedVariables false

/-- A map that has what is behind each dart of some. -/
def BehI (m : Mp) (es : List (List Int × LV)) (S : List Int) : Prop := ∀ d, mget es [d] = if d ∈ S then some (u (sg m d)) else none
theorem BehI.step {m : Mp} {es : List (List Int × LV)} {S : List Int} (h : BehI m es S) {d x : Int} (hx : x = sg m d) : BehI m (mset es [d] (u x)) (S ++ [d]) := by
  intro e
  rw [mget_mset]
  by_cases he : e = d
  · subst he; rw [if_pos rfl, if_pos (by simp), hx]
  · rw [if_neg (by simpa using he), h e]
    simp [he]
theorem flat_snoc (rs : List (List Int)) (k : Nat) (hk : k < rs.length) : (rs.take (k + 1)).flatten = (rs.take k).flatten ++ rs.getD k [] := by
  rw [List.take_succ_eq_append_getElem hk, List.flatten_append, getR_lt _ _ hk]; simp

def BehP (m : Mp) (st : St) (r : LV) (st' : St) : Prop := ∃ q es, r = .mp q ∧ st.next ≤ q ∧ q < st'.next ∧ st'.H q = .map false [.u32] es ∧ Keeps st st' ∧ BehI m es m.rots.flatten
theorem behind (m : Mp) (h : MapOk m) (st : St) (hv : m.g.vs.length ≤ 1000) (he : m.g.es.length ≤ 1000) :
    ACalls Tryz.prog 135 [.ag (mpL m)] st (BehP m st) := by
  have hrl := h.len
  refine acalls_of_body tabOk Tryz.func135 rfl rfl Tryz.ntmps135 (rs := [.tmp 2]) rfl (by simp) ?_
  (repeat' (first | refine awp_seq ?_ | refine awp_block ?_ | ((first | refine awp_skip ?_ | refine awp_exit ?_); simp only [ak, reduceIte]) | (refine awp_ret ?_; simp only [ak, reduceIte]; simp []) | (refine awp_cond ?_; simp []; (try with_reducible refine ⟨?_, ?_⟩) <;> (try with_reducible intro hc) <;> try (exfalso; omega)) | ((first | (refine w_e [] ?_; intro J hJ; simp only []) | (refine w_q ?_; intro J hJ) | refine e_go ?_); simp []; (repeat refine ca ?_); (try ((try with_reducible refine ⟨?_, ?_⟩) <;> (try with_reducible intro hnil) <;> refine hJ _ _ ?_ <;> clear hJ J <;> simp only [ak, reduceIte] <;> try subst hnil)))))
  refine awp_range 12 11 13 34 (m.rots.length) (fun j fr st2 => fr 3 = .mp (st.next + 1) ∧ fr 10 = .sl 0 m.rots.length (rowsL m.rots) ∧ Keeps st st2 ∧ st.next + 1 < st2.next ∧ ∃ es, st2.H (st.next + 1) = .map false [.u32] es ∧ BehI m es (m.rots.take j).flatten) ?_ ?_ ?_
  · exact ⟨by simp, by simp, (Keeps.new _ _).trans (Keeps.new _ _), by simp, [], by simp, fun d => rfl⟩
  · rintro j0 fr st2 hlt ⟨f3, f10, hkp, hlt2, es, hM, hB⟩ fi fn JJ hJJ
    have hd := rowsL_drop m.rots j0 hlt
    have hRl : j0 < (rowsL m.rots).length := by simpa using hlt
    have hfl := flat_snoc m.rots j0 hlt
    have htin : m.rots.getD j0 [] ∈ m.rots := by rw [getR_lt _ _ hlt]; exact List.getElem_mem _
    have htl := h.row_le htin
    have htn := h.nodup htin
    have hsg := fun d hd => @sg_at m h _ htin d hd
    generalize m.rots.getD j0 [] = t at *
    (repeat' (first | refine awp_seq ?_ | refine awp_block ?_ | ((first | refine awp_skip ?_ | refine awp_exit ?_); simp only [ak, reduceIte]) | (refine awp_ret ?_; simp only [ak, reduceIte]; simp [f10, fi, fn, hd, hRl]) | (refine awp_cond ?_; simp [f10, fi, fn, hd, hRl]; (try with_reducible refine ⟨?_, ?_⟩) <;> (try with_reducible intro hc) <;> try (exfalso; omega)) | ((first | (refine w_e [] ?_; intro J hJ; simp only []) | (refine w_q ?_; intro J hJ) | refine e_go ?_); simp [f10, fi, fn, hd, hRl]; (repeat refine ca ?_); (try ((try with_reducible refine ⟨?_, ?_⟩) <;> (try with_reducible intro hnil) <;> refine hJ _ _ ?_ <;> clear hJ J <;> simp only [ak, reduceIte] <;> try subst hnil)))))
    refine awp_range 18 17 19 33 (t.length) (fun j fr st2 => fr 3 = .mp (st.next + 1) ∧ fr 10 = .sl 0 m.rots.length (rowsL m.rots) ∧ fr 5 = .sl 0 t.length (us t) ∧ fr 16 = .sl 0 t.length (us t) ∧ fr 12 = i j0 ∧ fr 11 = i m.rots.length ∧ Keeps st st2 ∧ st.next + 1 < st2.next ∧ ∃ es, st2.H (st.next + 1) = .map false [.u32] es ∧ BehI m es ((m.rots.take j0).flatten ++ t.take j)) ?_ ?_ ?_
    · exact ⟨by simp [f3], by simp [f10], by simp, by simp, by simp [fi], by simp [fn], hkp, hlt2, es, hM, by simpa using hB⟩
    · clear f3 f10 fi fn hkp hlt2 hM hB es fr st2
      rintro k fr st2 hk ⟨f3, f10, f5, f16, f12, f11, hkp, hlt2, es, hM, hB⟩ fi fn J2 hJ2
      have hd1 := us_drop_getD t k hk
      have hw := nat_add_one k (by omega)
      have htm : ((k : Int) + 1).tmod (t.length : Int) = (((k + 1) % t.length : Nat) : Int) := tmod_nat (k + 1) t.length _ rfl
      have hr : (k + 1) % t.length < t.length := Nat.mod_lt _ (by omega)
      have hd2 := us_drop_getD t _ hr
      have hx : t.getD ((k + 1) % t.length) 0 = sg m (t.getD k 0) := by
        rw [getD_lt _ _ hr, getD_lt _ _ hk, hsg _ (List.getElem_mem _), nx_get htn hk]
      have htk : t.take (k + 1) = t.take k ++ [t.getD k 0] := by rw [getD_lt _ _ hk]; exact List.take_succ_eq_append_getElem hk
      have hB2 := hB.step hx
      rw [List.append_assoc, ← htk] at hB2
      have ht0 : ¬ t.length = 0 := by omega
      generalize (k + 1) % t.length = r at *
      generalize t.getD k 0 = d at *
      generalize t.getD r 0 = x at *
      (repeat' (first | refine awp_seq ?_ | refine awp_block ?_ | ((first | refine awp_skip ?_ | refine awp_exit ?_); simp only [ak, reduceIte]) | (refine awp_ret ?_; simp only [ak, reduceIte]; simp [f3, f5, f16, fi, fn, hd1, hw, htm, hd2, hM, hk, hr, ht0]) | (refine awp_cond ?_; simp [f3, f5, f16, fi, fn, hd1, hw, htm, hd2, hM, hk, hr, ht0]; (try with_reducible refine ⟨?_, ?_⟩) <;> (try with_reducible intro hc) <;> try (exfalso; omega)) | ((first | (refine w_e [] ?_; intro J hJ; simp only []) | (refine w_q ?_; intro J hJ) | refine e_go ?_); simp [f3, f5, f16, fi, fn, hd1, hw, htm, hd2, hM, hk, hr, ht0]; (repeat refine ca ?_); (try ((try with_reducible refine ⟨?_, ?_⟩) <;> (try with_reducible intro hnil) <;> refine hJ _ _ ?_ <;> clear hJ J <;> simp only [ak, reduceIte] <;> try subst hnil)))))
      exact hJ2 _ _ (by simp [fi]) (by simp [fn]) ⟨by simp [f3], by simp [f10], by simp [f5], by simp [f16], by simp [f12], by simp [f11], hkp.set (by omega) _, by simpa using hlt2, _, by simp, hB2⟩
    · clear f3 f10 fi fn hkp hlt2 hM hB es fr st2
      rintro fr st2 ⟨f3, f10, f5, f16, f12, f11, hkp, hlt2, es, hM, hB⟩
      rw [List.take_length, ← hfl] at hB
      (repeat' (first | refine awp_seq ?_ | refine awp_block ?_ | ((first | refine awp_skip ?_ | refine awp_exit ?_); simp only [ak, reduceIte]) | (refine awp_ret ?_; simp only [ak, reduceIte]; simp []) | (refine awp_cond ?_; simp []; (try with_reducible refine ⟨?_, ?_⟩) <;> (try with_reducible intro hc) <;> try (exfalso; omega)) | ((first | (refine w_e [] ?_; intro J hJ; simp only []) | (refine w_q ?_; intro J hJ) | refine e_go ?_); simp []; (repeat refine ca ?_); (try ((try with_reducible refine ⟨?_, ?_⟩) <;> (try with_reducible intro hnil) <;> refine hJ _ _ ?_ <;> clear hJ J <;> simp only [ak, reduceIte] <;> try subst hnil)))))
      exact hJJ _ _ (by simp [f12]) (by simp [f11]) ⟨by simp [f3], by simp [f10], hkp, hlt2, es, hM, hB⟩
  · rintro fr st2 ⟨f3, f10, hkp, hlt2, es, hM, hB⟩
    (repeat' (first | refine awp_seq ?_ | refine awp_block ?_ | ((first | refine awp_skip ?_ | refine awp_exit ?_); simp only [ak, reduceIte]) | (refine awp_ret ?_; simp only [ak, reduceIte]; simp [f3]) | (refine awp_cond ?_; simp [f3]; (try with_reducible refine ⟨?_, ?_⟩) <;> (try with_reducible intro hc) <;> try (exfalso; omega)) | ((first | (refine w_e [] ?_; intro J hJ; simp only []) | (refine w_q ?_; intro J hJ) | refine e_go ?_); simp [f3]; (repeat refine ca ?_); (try ((try with_reducible refine ⟨?_, ?_⟩) <;> (try with_reducible intro hnil) <;> refine hJ _ _ ?_ <;> clear hJ J <;> simp only [ak, reduceIte] <;> try subst hnil)))))
    rw [List.take_length] at hB
    exact ⟨_, es, rfl, by omega, by omega, hM, hkp, hB⟩

end Go.Proofs.YtaiakdhcajibnaaGreat.Aw

namespace Go.Proofs.YtaiakdhcajibnaaGreat.Aw
open Go Go.RowKit Go.Proofs.YtaiakdhcajibnaaGreat.Pl Go.Proofs.YtaiakdhcajibnaaGreat.Eu
set_option linter.unusedSimpArgs false
set_option linter.unusedVariables false

theorem dart_range {m : Mp} (h : MapOk m) {d : Int} (hd : d ∈ darts m.g.es) : 2 ≤ d ∧ d ≤ 2097153 := by
  obtain ⟨x, hx, h1⟩ := mem_darts.1 hd
  have := h.g.pos x hx
  omega
theorem MapOk.cyc_le {m : Mp} (h : MapOk m) {d : Int} (hd : d ∈ darts m.g.es) {L : List Int} (hc : IsCyc (fc m m.g.es) d L) : (∀ x ∈ L, x ∈ darts m.g.es) ∧ L.length ≤ 2 * m.g.es.length := by
  have hdk : ∀ k, it (fc m m.g.es) k d ∈ darts m.g.es := by
    intro k
    induction k with
    | zero => exact hd
    | succ k ih => rw [it_succ]; exact h.fc_dart _ _ ih
  have hs : ∀ x ∈ L, x ∈ darts m.g.es := fun x hx => by
    obtain ⟨n, rfl⟩ := hc.mem.1 hx
    exact hdk n
  have := List.Nodup.length_le_of_subset (hc.nodup (h.fc_inj _)) (l₂ := darts m.g.es) hs
  rw [darts_length] at this
  exact ⟨hs, this⟩
def WalkP (m : Mp) (d : Int) (S : Int → Prop) (ms : Nat) (st : St) (r : LV) (st' : St) : Prop :=
  (∃ t L, r = .sl t L.length (us L) ∧ IsCyc (fc m m.g.es) d L) ∧ OffS ms st st' ∧ ∃ es, st'.H ms = .map false [.u32] es ∧ SeenI es (fun x => S x ∨ Orb (fc m m.g.es) d x)
/-- So far round. -/
def itL (f : Int → Int) (d : Int) (k : Nat) : List Int := (List.range k).map fun j => it f j d
theorem itL_succ (f : Int → Int) (d : Int) (k : Nat) : itL f d (k + 1) = itL f d k ++ [it f k d] := by unfold itL; rw [List.range_succ]; simp
@[simp] theorem itL_len (f : Int → Int) (d : Int) (k : Nat) : (itL f d k).length = k := by simp [itL]

theorem Walk (m : Mp) (h : MapOk m) (d : Int) (q5 q4 ms ma : Nat) (es5 es4 : List (List Int × LV)) (S : Int → Prop) (st : St) (he : m.g.es.length ≤ 1000) (hd : d ∈ darts m.g.es)
    (h5 : st.H q5 = .box 67 1 [.mp ms]) (h4 : st.H q4 = .box 155 1 [.mp ma]) (hms : st.H ms = .map false [.u32] es5) (hma : st.H ma = .map false [.u32] es4) (hlt : (q5 < st.next ∧ q4 < st.next) ∧ ms < st.next ∧ ma < st.next) (hmm : ms ≠ ma)
    (hSI : SeenI es5 S) (hB : BehI m es4 m.rots.flatten) (hS : ∀ x, Orb (fc m m.g.es) d x → ¬ S x) :
    ACalls Tryz.prog 136 [u d, .pt q5 0, .pt q4 0] st (WalkP m d S ms st) := by
  obtain ⟨⟨l5, l4⟩, ls, la⟩ := hlt
  have n1 : ¬ q5 = ms := by rintro rfl; rw [h5] at hms; cases hms
  have n2 : ¬ q4 = ms := by rintro rfl; rw [h4] at hms; cases hms
  have hmm' : ¬ ma = ms := fun e => hmm e.symm
  have hP := h.fc_per m.g.es (fun x hx => hx)
  obtain ⟨L, p, hp, hL, hp1, hp2⟩ := isCyc_ex hP d
  have hcyc : IsCyc (fc m m.g.es) d L := ⟨p, hp, hL, hp1, hp2⟩
  have hL' : L = itL (fc m m.g.es) d p := hL
  have hdk : ∀ k, it (fc m m.g.es) k d ∈ darts m.g.es := by
    intro k
    induction k with
    | zero => exact hd
    | succ k ih => rw [it_succ]; exact h.fc_dart _ _ ih
  have hpl : p ≤ 2 * m.g.es.length := by
    have := (h.cyc_le hd hcyc).2
    rwa [hL', itL_len] at this
  refine acalls_of_body tabOk Tryz.func136 rfl rfl Tryz.ntmps136 (rs := [.tmp 4]) rfl (by simp) ?_
  (repeat' (first | refine awp_seq ?_ | refine awp_block ?_ | ((first | refine awp_skip ?_ | refine awp_exit ?_); simp only [ak, reduceIte]) | (refine awp_ret ?_; simp only [ak, reduceIte]; simp []) | (refine awp_cond ?_; simp []; (try with_reducible refine ⟨?_, ?_⟩) <;> (try with_reducible intro hc) <;> try (exfalso; omega)) | ((first | (refine w_e [] ?_; intro J hJ; simp only []) | (refine w_q ?_; intro J hJ) | refine e_go ?_); simp []; (repeat refine ca ?_); (try ((try with_reducible refine ⟨?_, ?_⟩) <;> (try with_reducible intro hnil) <;> refine hJ _ _ ?_ <;> clear hJ J <;> simp only [ak, reduceIte] <;> try subst hnil)))))
  refine awp_posG fun hpos => ?_
  refine awp_own 5 29 1 (by simp) ?_
  generalize hf : fc m m.g.es = f at *
  refine awp_loop (fun n fr st2 => ∃ k : Nat, k ≤ p ∧ n = p - k ∧ fr 0 = u (it f k d) ∧ fr 1 = .pt q5 0 ∧ fr 2 = .pt q4 0 ∧ ∃ t es, fr 5 = .sl t k (us (itL f d k)) ∧ (t ≠ 0 ∧ st.next ≤ t ∧ t < st2.next) ∧ st2.H t = .own 29 1 k ∧ OffS ms st st2 ∧ st2.H ms = .map false [.u32] es ∧ SeenI es (fun x => S x ∨ ∃ i, i < k ∧ x = it f i d)) p ?_ ?_
  · exact ⟨0, by omega, by omega, by simp [it], by simp, by simp, st.next, es5, by simp [itL], ⟨by omega, by omega, by simp⟩, by simp, (OffS.refl ms st).keeps (Keeps.new _ _), by simp [show ¬ ms = st.next by omega, hms], hSI.congr fun v => ⟨fun h => h.elim id fun ⟨_, h, _⟩ => by omega, .inl⟩⟩
  rintro n fr st2 ⟨k, hk, rfl, f0, f1, f2, t, es, f5, ⟨ht0, htl, htn⟩, htH, hoff, hM, hSk⟩ JJ hJJ
  have hn2 := hoff.1
  have h5' := (hoff.2 q5 n1 l5).trans h5
  have h4' := (hoff.2 q4 n2 l4).trans h4
  have ha' := (hoff.2 ma hmm' la).trans hma
  by_cases hkp : k < p
  rotate_left
  · clear hJJ
    obtain rfl : k = p := by omega
    have hs1 := (hSk (it f k d)).1 (.inr ⟨0, hp, by rw [hp1]; rfl⟩)
    (repeat' (first | refine awp_seq ?_ | refine awp_block ?_ | ((first | refine awp_skip ?_ | refine awp_exit ?_); simp only [ak, reduceIte]) | (refine awp_ret ?_; simp only [ak, reduceIte]; simp [f0, f1, h5', hM, hs1, f5]) | (refine awp_cond ?_; simp [f0, f1, h5', hM, hs1, f5]; (try with_reducible refine ⟨?_, ?_⟩) <;> (try with_reducible intro hc) <;> try (exfalso; omega)) | ((first | (refine w_e [] ?_; intro J hJ; simp only []) | (refine w_q ?_; intro J hJ) | refine e_go ?_); simp [f0, f1, h5', hM, hs1, f5]; (repeat refine ca ?_); (try ((try with_reducible refine ⟨?_, ?_⟩) <;> (try with_reducible intro hnil) <;> refine hJ _ _ ?_ <;> clear hJ J <;> simp only [ak, reduceIte] <;> try subst hnil)))))
    refine ⟨⟨t, L, by rw [hL']; simp, ?_⟩, hoff, es, hM, hSk.congr fun v => ?_⟩
    · rw [hf]; exact hcyc
    · rw [hf]
      refine or_congr Iff.rfl ?_
      rw [← hcyc.mem, hL]
      simp only [List.mem_map, List.mem_range]
      exact ⟨fun ⟨a, b, c⟩ => ⟨a, b, c.symm⟩, fun ⟨a, b, c⟩ => ⟨a, b, c.symm⟩⟩
  have hs0 : ¬ (S (it f k d) ∨ ∃ i, i < k ∧ it f k d = it f i d) := by
    rintro (h1 | ⟨j, h1, h2⟩)
    · exact hS _ ⟨k, rfl⟩ h1
    · have e : k = j + (k - j) := by omega
      rw [e, it_add] at h2
      exact hp2 (k - j) (by omega) (by omega) (it_inj (fun x y => by rw [← hf]; exact h.fc_inj _ x y) j h2)
  have hs1 := (hSk (it f k d)).2 hs0
  have hSn := hSk.step (P' := fun x => S x ∨ ∃ i, i < k + 1 ∧ x = it f i d) (it f k d) fun v => by
    constructor
    · rintro (h1 | ⟨j, h1, h2⟩)
      · exact .inl (.inl h1)
      · rcases Nat.lt_or_ge j k with h3 | h3
        · exact .inl (.inr ⟨j, h3, h2⟩)
        · obtain rfl : j = k := by omega
          exact .inr h2
    · rintro ((h1 | ⟨j, h1, h2⟩) | h1)
      · exact .inl h1
      · exact .inr ⟨j, by omega, h2⟩
      · exact .inr ⟨k, by omega, h1⟩
  have hxd := hdk k
  have hx1 := dart_range h hxd
  have hxl : (mget es4 [tw (it f k d)]).getD (u 0) = u (it f (k + 1) d) := by
    rw [hB, if_pos (by rw [← (h.flat_perm).mem_iff]; exact tw_dart.2 hxd), it_succ, ← hf]
    simp only [Option.getD_some, fc]
    rw [al_in (by rw [hf]; exact hxd), hf]
  have hLn := itL_succ f d k
  have hLl := itL_len f d k
  generalize itL f d k = Lk at *
  generalize hxe : it f k d = x at *
  generalize hye : it f (k + 1) d = y at *
  have t1 : ¬ t = ms := by rintro rfl; rw [hM] at htH; cases htH
  have t2 : ¬ t = st2.next := by omega
  have t3 : ¬ ms = st2.next := by omega
  have t4 : ¬ ms = st2.next + 1 := by omega
  have t5 : ¬ q4 = st2.next := by omega
  have t6 : ¬ q4 = st2.next + 1 := by omega
  have t7 : ¬ ma = st2.next := by omega
  have t8 : ¬ ma = st2.next + 1 := by omega
  have t9 : ¬ q4 = t := by rintro rfl; rw [h4'] at htH; cases htH
  have t10 : ¬ ma = t := by rintro rfl; rw [ha'] at htH; cases htH
  have t11 : ¬ ms = t := fun e => t1 e.symm
  (repeat' (first | refine awp_seq ?_ | refine awp_block ?_ | ((first | refine awp_skip ?_ | refine awp_exit ?_); simp only [ak, reduceIte]) | (refine awp_ret ?_; simp only [ak, reduceIte]; simp [f0, f1, f2, f5, h5', hM, hs1, n1, n2, htH, ht0, t1, t2, t3, t4, hLl]) | (refine awp_cond ?_; simp [f0, f1, f2, f5, h5', hM, hs1, n1, n2, htH, ht0, t1, t2, t3, t4, hLl]; (try with_reducible refine ⟨?_, ?_⟩) <;> (try with_reducible intro hc) <;> try (exfalso; omega)) | ((first | (refine w_e [] ?_; intro J hJ; simp only []) | (refine w_q ?_; intro J hJ) | refine e_go ?_); simp [f0, f1, f2, f5, h5', hM, hs1, n1, n2, htH, ht0, t1, t2, t3, t4, hLl]; (repeat refine ca ?_); (try ((try with_reducible refine ⟨?_, ?_⟩) <;> (try with_reducible intro hnil) <;> refine hJ _ _ ?_ <;> clear hJ J <;> simp only [ak, reduceIte] <;> try subst hnil)))))
  (refine w_s [] [q4, ma] [(0, true), (1, true), (2, true), (3, true), (4, true)] ?_; intro J hJ; simp [f2, f0, h4', ha', t5, t6, t7, t8, t9, t10, n2, hmm']; (repeat refine ca ?_); (try ((try with_reducible refine ⟨?_, ?_⟩) <;> (try with_reducible intro hnil) <;> refine hJ _ _ ?_ <;> clear hJ J <;> simp only [ak, reduceIte] <;> try subst hnil)))
  refine dcallK_ofE (Twin x _ (by omega) (by omega)) (by simp) ?_; rintro r s3 ⟨rfl, rfl⟩
  refine ⟨fun _ => by simp [h4', ha', t5, t6, t7, t8, t9, t10, n2, hmm'], ?_⟩
  (refine d_go ?_; simp [f2, f0, h4', ha', t5, t6, t7, t8, t9, t10, n2, hmm', hxl]; (repeat refine ca ?_); (try ((try with_reducible refine ⟨?_, ?_⟩) <;> (try with_reducible intro hnil) <;> refine hJ _ _ ?_ <;> clear hJ J <;> simp only [ak, reduceIte] <;> try subst hnil)))
  (repeat' (first | refine awp_seq ?_ | refine awp_block ?_ | ((first | refine awp_skip ?_ | refine awp_exit ?_); simp only [ak, reduceIte]) | (refine awp_ret ?_; simp only [ak, reduceIte]; simp []) | (refine awp_cond ?_; simp []; (try with_reducible refine ⟨?_, ?_⟩) <;> (try with_reducible intro hc) <;> try (exfalso; omega)) | ((first | (refine w_e [] ?_; intro J hJ; simp only []) | (refine w_q ?_; intro J hJ) | refine e_go ?_); simp []; (repeat refine ca ?_); (try ((try with_reducible refine ⟨?_, ?_⟩) <;> (try with_reducible intro hnil) <;> refine hJ _ _ ?_ <;> clear hJ J <;> simp only [ak, reduceIte] <;> try subst hnil)))))
  refine hJJ (p - (k + 1)) _ _ (by omega) ⟨k + 1, by omega, rfl, by simp [hye], by simp [f1], by simp [f2], st2.next + 1, _, by simp [hLn], ⟨by omega, by omega, by simp⟩, by simp, ?_, by simp [t11, t3, t4], hSn⟩
  exact (((hoff.set _).keeps (Keeps.new _ _)).set' htl _).keeps (Keeps.new _ _)

end Go.Proofs.YtaiakdhcajibnaaGreat.Aw

namespace Go.Proofs.YtaiakdhcajibnaaGreat.Aw
open Go Go.RowKit Go.Proofs.YtaiakdhcajibnaaGreat.Pl Go.Proofs.YtaiakdhcajibnaaGreat.Eu
set_option linter.unusedSimpArgs false
set_option linter.unusedVariables false

def FacesP (m : Mp) (st : St) (r : LV) (st' : St) : Prop := (∃ t R, r = .sl t R.length (rowsL3 R) ∧ Lead (fc m m.g.es) (darts m.g.es) (darts m.g.es).length R) ∧ Keeps st st'
structure FcI (m : Mp) (q4 q5 ms ma : Nat) (es4 : List (List Int × LV)) (st : St) (K : Nat) (fr : Frm) (st2 : St) : Prop where
  f5 : fr 5 = .pt q5 0
  f6 : fr 6 = .fn (.func 136) [.pt q5 0, .pt q4 0]
  h5 : st2.H q5 = .box 67 1 [.mp ms]
  h4 : st2.H q4 = .box 155 1 [.mp ma]
  ha : st2.H ma = .map false [.u32] es4
  hs : ∃ es, st2.H ms = .map false [.u32] es ∧ SeenI es (SeenD (fc m m.g.es) (darts m.g.es) K)
  kp : Keeps st st2
  lt : (q5 < st2.next ∧ q4 < st2.next) ∧ ms < st2.next ∧ ma < st2.next
  lo : (st.next ≤ q5 ∧ st.next ≤ q4) ∧ st.next ≤ ms ∧ st.next ≤ ma
  rows : ∃ t R, fr 3 = .sl t R.length (rowsL3 R) ∧ Lead (fc m m.g.es) (darts m.g.es) K R ∧ (t ≠ 0 ∧ st.next ≤ t ∧ t < st2.next) ∧ st2.H t = .own 22 1 R.length
theorem FcI.fr {m : Mp} {q4 q5 ms ma : Nat} {es4 : List (List Int × LV)} {st : St} {K : Nat} {fr fr' : Frm} {st2 st3 : St} (h : FcI m q4 q5 ms ma es4 st K fr st2) (h3 : fr' 3 = fr 3) (h5 : fr' 5 = fr 5) (h6 : fr' 6 = fr 6) (hk : Keeps st2 st3) : FcI m q4 q5 ms ma es4 st K fr' st3 := by
  obtain ⟨f5, f6, a5, a4, aa, ⟨es, as1, as2⟩, kp, ⟨⟨l1, l2⟩, l3, l4⟩, lo, t, R, f3, hL, ⟨t0, t1, t2⟩, hH⟩ := h
  have := hk.next
  exact ⟨h5.trans f5, h6.trans f6, (hk.H _ l1).trans a5, (hk.H _ l2).trans a4, (hk.H _ l4).trans aa, ⟨es, (hk.H _ l3).trans as1, as2⟩, kp.trans hk, ⟨⟨by omega, by omega⟩, by omega, by omega⟩, lo, t, R, h3.trans f3, hL, ⟨t0, t1, by omega⟩, (hk.H _ t2).trans hH⟩

theorem Faces (m : Mp) (h : MapOk m) (st : St) (hv : m.g.vs.length ≤ 1000) (he : m.g.es.length ≤ 1000) :
    ACalls Tryz.prog 87 [.ag (mpL m)] st (FacesP m st) := by
  have hel := eds_length m.g.es
  have hdl := darts_length m.g.es
  have hP := h.fc_per m.g.es (fun x hx => hx)
  refine acalls_of_body tabOk Tryz.func87 rfl rfl Tryz.ntmps87 (rs := [.tmp 2]) rfl (by simp) ?_
  (repeat' (first | refine awp_seq ?_ | refine awp_block ?_ | ((first | refine awp_skip ?_ | refine awp_exit ?_); simp only [ak, reduceIte]) | (refine awp_ret ?_; simp only [ak, reduceIte]; simp []) | (refine awp_cond ?_; simp []; (try with_reducible refine ⟨?_, ?_⟩) <;> (try with_reducible intro hc) <;> try (exfalso; omega)) | ((first | (refine w_e [] ?_; intro J hJ; simp only []) | (refine w_q ?_; intro J hJ) | refine e_go ?_); simp []; (repeat refine ca ?_); (try ((try with_reducible refine ⟨?_, ?_⟩) <;> (try with_reducible intro hnil) <;> refine hJ _ _ ?_ <;> clear hJ J <;> simp only [ak, reduceIte] <;> try subst hnil)))))
  refine callK_ofE (behind m h _ hv he) (by simp) ?_; rintro r s1 ⟨ma, es4, rfl, hm1, hm2, hMa, hk1, hB⟩
  have hn1 := hk1.next
  simp only [new_next] at hn1 hm1
  have hG1 : s1.H st.next = .box 28 3 (mpL m) := by rw [hk1.H _ (by simp)]; simp
  have a1 : ¬ st.next = s1.next := by omega
  have a2 : ¬ st.next = s1.next + 1 := by omega
  have a3 : ¬ st.next = s1.next + 1 + 1 := by omega
  have a4 : ¬ ma = s1.next := by omega
  have a5 : ¬ ma = s1.next + 1 := by omega
  have a6 : ¬ ma = s1.next + 1 + 1 := by omega
  have a7 : ¬ ma = s1.next + 1 + 1 + 1 := by omega
  (repeat' (first | refine awp_seq ?_ | refine awp_block ?_ | ((first | refine awp_skip ?_ | refine awp_exit ?_); simp only [ak, reduceIte]) | (refine awp_ret ?_; simp only [ak, reduceIte]; simp [hG1, a1, a2, a3]) | (refine awp_cond ?_; simp [hG1, a1, a2, a3]; (try with_reducible refine ⟨?_, ?_⟩) <;> (try with_reducible intro hc) <;> try (exfalso; omega)) | ((first | (refine w_e [] ?_; intro J hJ; simp only []) | (refine w_q ?_; intro J hJ) | refine e_go ?_); simp [hG1, a1, a2, a3]; (repeat refine ca ?_); (try ((try with_reducible refine ⟨?_, ?_⟩) <;> (try with_reducible intro hnil) <;> refine hJ _ _ ?_ <;> clear hJ J <;> simp only [ak, reduceIte] <;> try subst hnil)))))
  refine awp_posG fun hpos => ?_
  refine awp_own 3 22 1 (by simp) ?_
  refine awp_range 19 18 20 42 (m.g.es.length) (fun j fr st2 => fr 17 = .sl 0 m.g.es.length (eds m.g.es) ∧ FcI m s1.next (s1.next + 1 + 1) (s1.next + 1) ma es4 st (2 * j) fr st2) ?_ ?_ ?_
  · refine ⟨by simp, by simp, by simp, by simp, by simp, by simp [a4, a5, a6, a7, hMa], ⟨[], by simp, fun v => ⟨?_, fun _ => rfl⟩⟩, ?_, by simp; omega, by omega, s1.next + 1 + 1 + 1, [], by simp, .zero, ⟨by omega, by omega, by simp⟩, by simp⟩
    · rintro ⟨y, hy, _⟩; simp at hy
    · (repeat (first | exact Keeps.refl _ | exact (Keeps.new _ _).trans hk1 | (refine Keeps.trans ?_ (Keeps.new _ _)) | (refine Keeps.set ?_ (by omega) _)))
  · rintro j0 fr st2' hlt ⟨f17, hI⟩ fi fn JJ hJJ
    have hd := eds_drop m.g.es j0 hlt
    have hk3 : j0 * 3 < m.g.es.length * 3 := by omega
    have hxin : m.g.es.getD j0 ed0 ∈ m.g.es := by rw [getE_lt _ _ hlt]; exact List.getElem_mem _
    have hpos := h.g.pos _ hxin
    have hg := darts_get m.g.es j0 hlt
    generalize hx : m.g.es.getD j0 ed0 = x at *
    obtain ⟨id, a, b⟩ := x
    simp only at hpos hd hg
    (repeat' (first | refine awp_seq ?_ | refine awp_block ?_ | ((first | refine awp_skip ?_ | refine awp_exit ?_); simp only [ak, reduceIte]) | (refine awp_ret ?_; simp only [ak, reduceIte]; simp [fi, fn, f17, hd, hel, hk3]) | (refine awp_cond ?_; simp [fi, fn, f17, hd, hel, hk3]; (try with_reducible refine ⟨?_, ?_⟩) <;> (try with_reducible intro hc) <;> try (exfalso; omega)) | ((first | (refine w_e [] ?_; intro J hJ; simp only []) | (refine w_q ?_; intro J hJ) | refine e_go ?_); simp [fi, fn, f17, hd, hel, hk3]; (repeat refine ca ?_); (try ((try with_reducible refine ⟨?_, ?_⟩) <;> (try with_reducible intro hnil) <;> refine hJ _ _ ?_ <;> clear hJ J <;> simp only [ak, reduceIte] <;> try subst hnil)))))
    refine awp_rangeC 23 24 41 2 (fun j fr st2 => fr 17 = .sl 0 m.g.es.length (eds m.g.es) ∧ fr 19 = i j0 ∧ fr 18 = i m.g.es.length ∧ fr 8 = .pt st2'.next 0 ∧ st2.H st2'.next = .box 44 3 (edL ⟨id, a, b⟩) ∧ st2'.next < st2.next ∧ FcI m s1.next (s1.next + 1 + 1) (s1.next + 1) ma es4 st (2 * j0 + j) fr st2) ?_ ?_ ?_
    · exact ⟨by simp [f17], by simp [fi], by simp [fn], by simp, by simp, by simp, hI.fr (by simp) (by simp) (by simp) (Keeps.new _ _)⟩
    · clear f17 fi fn hI fr
      rintro e fr st2 hle ⟨f17, f19, f18, f8, hX, hXl, hI⟩ fi J2 hJ2
      have hK : 2 * j0 + e < (darts m.g.es).length := by omega
      have hKd : (darts m.g.es).getD (2 * j0 + e) 0 = 2 * id + e := by
        rcases Nat.lt_or_ge e 1 with h1 | h1
        · obtain rfl : e = 0 := by omega
          rw [Nat.add_zero, hg.1]; omega
        · obtain rfl : e = 1 := by omega
          rw [hg.2]; rfl
      have hdin : 2 * id + (e : Int) ∈ darts m.g.es := by rw [← hKd, getD_lt _ _ hK]; exact List.getElem_mem _
      obtain ⟨f5, f6, h5, h4, ha, ⟨es, hM, hSI⟩, hkp, hlt5, hlo5, t, R, f3, hL, ⟨t0, t1, t2⟩, hH⟩ := hI
      (repeat' (first | refine awp_seq ?_ | refine awp_block ?_ | ((first | refine awp_skip ?_ | refine awp_exit ?_); simp only [ak, reduceIte]) | (refine awp_ret ?_; simp only [ak, reduceIte]; simp [f8, hX, fi]) | (refine awp_cond ?_; simp [f8, hX, fi]; (try with_reducible refine ⟨?_, ?_⟩) <;> (try with_reducible intro hc) <;> try (exfalso; omega)) | ((first | (refine w_e [] ?_; intro J hJ; simp only []) | (refine w_q ?_; intro J hJ) | refine e_go ?_); simp [f8, hX, fi]; (repeat refine ca ?_); (try ((try with_reducible refine ⟨?_, ?_⟩) <;> (try with_reducible intro hnil) <;> refine hJ _ _ ?_ <;> clear hJ J <;> simp only [ak, reduceIte] <;> try subst hnil)))))
      refine callK_ofE (dOf id e _ (by omega) (by omega) (by omega)) (by simp) ?_; rintro r s3 ⟨rfl, rfl⟩
      by_cases hs : SeenD (fc m m.g.es) (darts m.g.es) (2 * j0 + e) (2 * id + e)
      · have hg1 := (hSI _).1 hs
        have hs' := hs
        rw [← hKd] at hs'
        (repeat' (first | refine awp_seq ?_ | refine awp_block ?_ | ((first | refine awp_skip ?_ | refine awp_exit ?_); simp only [ak, reduceIte]) | (refine awp_ret ?_; simp only [ak, reduceIte]; simp [f5, h5, hM, hg1]) | (refine awp_cond ?_; simp [f5, h5, hM, hg1]; (try with_reducible refine ⟨?_, ?_⟩) <;> (try with_reducible intro hc) <;> try (exfalso; omega)) | ((first | (refine w_e [] ?_; intro J hJ; simp only []) | (refine w_q ?_; intro J hJ) | refine e_go ?_); simp [f5, h5, hM, hg1]; (repeat refine ca ?_); (try ((try with_reducible refine ⟨?_, ?_⟩) <;> (try with_reducible intro hnil) <;> refine hJ _ _ ?_ <;> clear hJ J <;> simp only [ak, reduceIte] <;> try subst hnil)))))
        refine hJ2 _ _ (by simp [fi]) ⟨by simp [f17], by simp [f19], by simp [f18], by simp [f8], hX, hXl, by simp [f5], by simp [f6], h5, h4, ha, ⟨es, hM, hSI.congr fun v => seenD_same hK hs'⟩, hkp, hlt5, hlo5, t, R, by simp [f3], .seen hL hK hs', ⟨t0, t1, t2⟩, hH⟩
      · have hg1 := (hSI _).2 hs
        have hs' := hs
        rw [← hKd] at hs'
        (repeat' (first | refine awp_seq ?_ | refine awp_block ?_ | ((first | refine awp_skip ?_ | refine awp_exit ?_); simp only [ak, reduceIte]) | (refine awp_ret ?_; simp only [ak, reduceIte]; simp [f5, h5, hM, hg1, f6, f3]) | (refine awp_cond ?_; simp [f5, h5, hM, hg1, f6, f3]; (try with_reducible refine ⟨?_, ?_⟩) <;> (try with_reducible intro hc) <;> try (exfalso; omega)) | ((first | (refine w_e [] ?_; intro J hJ; simp only []) | (refine w_q ?_; intro J hJ) | refine e_go ?_); simp [f5, h5, hM, hg1, f6, f3]; (repeat refine ca ?_); (try ((try with_reducible refine ⟨?_, ?_⟩) <;> (try with_reducible intro hnil) <;> refine hJ _ _ ?_ <;> clear hJ J <;> simp only [ak, reduceIte] <;> try subst hnil)))))
        refine callK_ofE (Walk m h (2 * id + e) _ _ _ _ es es4 _ _ he hdin h5 h4 hM ha hlt5 (by omega) hSI hB fun x hx hx2 => ?_) (by simp) ?_
        · obtain ⟨y, hy, hr⟩ := hx2
          exact hs ⟨y, hy, hr.trans (Orb.symm hP hx)⟩
        rintro r s4 ⟨⟨t', L, rfl, hc⟩, hoff, es', hM', hSI'⟩
        have hn4 := hoff.1
        have hLl := (h.cyc_le hdin hc).2
        obtain ⟨Lr, hLr⟩ := IsCyc.head hc
        rw [← hKd] at hc
        have hmn := (cyc_lead hP (darts_rise h.g.ids) (h.fc_dart _) hK hc).1 hs'
        have hnL : nrm L = L := nrm_of_head hLr (hmn.trans hKd)
        have hSn : SeenI es' (SeenD (fc m m.g.es) (darts m.g.es) (2 * j0 + e + 1)) := hSI'.congr fun v => by rw [seenD_succ hK, hKd]
        have hRl := hL.len
        have hL2 := Lead.lead hL hK hs' hc
        obtain ⟨⟨l5, l4⟩, ls, la⟩ := hlt5
        obtain ⟨⟨o5, o4⟩, os, oa⟩ := hlo5
        have n1 : ¬ t = s1.next + 1 := by rintro rfl; rw [hM] at hH; cases hH
        (repeat' (first | refine awp_seq ?_ | refine awp_block ?_ | ((first | refine awp_skip ?_ | refine awp_exit ?_); simp only [ak, reduceIte]) | (refine awp_ret ?_; simp only [ak, reduceIte]; simp [f6, f3]) | (refine awp_cond ?_; simp [f6, f3]; (try with_reducible refine ⟨?_, ?_⟩) <;> (try with_reducible intro hc) <;> try (exfalso; omega)) | ((first | (refine w_e [] ?_; intro J hJ; simp only []) | (refine w_q ?_; intro J hJ) | refine e_go ?_); simp [f6, f3]; (repeat refine ca ?_); (try ((try with_reducible refine ⟨?_, ?_⟩) <;> (try with_reducible intro hnil) <;> refine hJ _ _ ?_ <;> clear hJ J <;> simp only [ak, reduceIte] <;> try subst hnil)))))
        refine callK_ofE (Normal L t' _ (by unfold small; omega)) (by simp) ?_; rintro r s5 ⟨rfl, hk5⟩
        have hn5 := hk5.next
        have g5 := (hk5.H _ (by omega)).trans ((hoff.2 _ (by omega) l5).trans h5)
        have g4 := (hk5.H _ (by omega)).trans ((hoff.2 _ (by omega) l4).trans h4)
        have ga := (hk5.H _ (by omega)).trans ((hoff.2 _ (by omega) la).trans ha)
        have gs := (hk5.H _ (by omega)).trans hM'
        have gt := (hk5.H _ (by omega)).trans ((hoff.2 _ n1 t2).trans hH)
        have n2 : ¬ st2'.next = s1.next + 1 := by intro e; rw [e, hM] at hX; cases hX
        have gX := (hk5.H _ (by omega)).trans ((hoff.2 _ n2 hXl).trans hX)
        have m1 : ¬ t = s5.next := by omega
        have m2 : ¬ t = s1.next := by rintro rfl; rw [h4] at hH; cases hH
        have m3 : ¬ t = s1.next + 1 + 1 := by rintro rfl; rw [h5] at hH; cases hH
        have m4 : ¬ t = ma := by rintro rfl; rw [ha] at hH; cases hH
        have m5 : ¬ st2'.next = t := by rintro rfl; rw [hX] at hH; cases hH
        rw [hnL]
        (repeat' (first | refine awp_seq ?_ | refine awp_block ?_ | ((first | refine awp_skip ?_ | refine awp_exit ?_); simp only [ak, reduceIte]) | (refine awp_ret ?_; simp only [ak, reduceIte]; simp [f3, gt, t0, m1]) | (refine awp_cond ?_; simp [f3, gt, t0, m1]; (try with_reducible refine ⟨?_, ?_⟩) <;> (try with_reducible intro hc) <;> try (exfalso; omega)) | ((first | (refine w_e [] ?_; intro J hJ; simp only []) | (refine w_q ?_; intro J hJ) | refine e_go ?_); simp [f3, gt, t0, m1]; (repeat refine ca ?_); (try ((try with_reducible refine ⟨?_, ?_⟩) <;> (try with_reducible intro hnil) <;> refine hJ _ _ ?_ <;> clear hJ J <;> simp only [ak, reduceIte] <;> try subst hnil)))))
        refine hJ2 _ _ (by simp [fi]) ⟨by simp [f17], by simp [f19], by simp [f18], by simp [f8], ?_, by simp; omega, by simp [f5], by simp [f6], ?_, ?_, ?_, ⟨es', ?_, hSn⟩, ?_, by simp; omega, by omega, s5.next + 1, R ++ [L], by simp, hL2, ⟨by omega, by omega, by simp⟩, by simp⟩
        · rw [new_H, if_neg (by simp only [set_next, new_next]; omega), set_H, if_neg (by omega), new_H, if_neg (by omega)]; exact gX
        · rw [new_H, if_neg (by simp only [set_next, new_next]; omega), set_H, if_neg (by omega), new_H, if_neg (by omega)]; exact g5
        · rw [new_H, if_neg (by simp only [set_next, new_next]; omega), set_H, if_neg (by omega), new_H, if_neg (by omega)]; exact g4
        · rw [new_H, if_neg (by simp only [set_next, new_next]; omega), set_H, if_neg (by omega), new_H, if_neg (by omega)]; exact ga
        · rw [new_H, if_neg (by simp only [set_next, new_next]; omega), set_H, if_neg (by omega), new_H, if_neg (by omega)]; exact gs
        · have hK3 : Keeps st s5 := ⟨by have := hkp.next; omega, fun l hl => (hk5.H l (by have := hkp.next; omega)).trans ((hoff.2 l (by omega) (by have := hkp.next; omega)).trans (hkp.H l hl))⟩
          exact ((hK3.trans (Keeps.new _ _)).set t1 _).trans (Keeps.new _ _)
    · clear f17 fi fn hI fr
      rintro fr st2 ⟨f17, f19, f18, f8, hX, hXl, hI⟩
      (repeat' (first | refine awp_seq ?_ | refine awp_block ?_ | ((first | refine awp_skip ?_ | refine awp_exit ?_); simp only [ak, reduceIte]) | (refine awp_ret ?_; simp only [ak, reduceIte]; simp []) | (refine awp_cond ?_; simp []; (try with_reducible refine ⟨?_, ?_⟩) <;> (try with_reducible intro hc) <;> try (exfalso; omega)) | ((first | (refine w_e [] ?_; intro J hJ; simp only []) | (refine w_q ?_; intro J hJ) | refine e_go ?_); simp []; (repeat refine ca ?_); (try ((try with_reducible refine ⟨?_, ?_⟩) <;> (try with_reducible intro hnil) <;> refine hJ _ _ ?_ <;> clear hJ J <;> simp only [ak, reduceIte] <;> try subst hnil)))))
      exact hJJ _ _ (by simp [f19]) (by simp [f18]) ⟨by simp [f17], hI.fr (by simp) (by simp) (by simp) (Keeps.refl _)⟩
  · rintro fr st2 ⟨f17, hI⟩
    obtain ⟨t, R, f3, hL, _⟩ := hI.rows
    (repeat' (first | refine awp_seq ?_ | refine awp_block ?_ | ((first | refine awp_skip ?_ | refine awp_exit ?_); simp only [ak, reduceIte]) | (refine awp_ret ?_; simp only [ak, reduceIte]; simp [f3]) | (refine awp_cond ?_; simp [f3]; (try with_reducible refine ⟨?_, ?_⟩) <;> (try with_reducible intro hc) <;> try (exfalso; omega)) | ((first | (refine w_e [] ?_; intro J hJ; simp only []) | (refine w_q ?_; intro J hJ) | refine e_go ?_); simp [f3]; (repeat refine ca ?_); (try ((try with_reducible refine ⟨?_, ?_⟩) <;> (try with_reducible intro hnil) <;> refine hJ _ _ ?_ <;> clear hJ J <;> simp only [ak, reduceIte] <;> try subst hnil)))))
    exact ⟨⟨t, R, rfl, by rw [hdl]; exact hL⟩, hI.kp⟩

end Go.Proofs.YtaiakdhcajibnaaGreat.Aw

namespace Go.Proofs.YtaiakdhcajibnaaGreat.Aw
open Go Go.RowKit Go.Proofs.YtaiakdhcajibnaaGreat.Pl Go.Proofs.YtaiakdhcajibnaaGreat.Eu
set_option linter.unusedSimpArgs false
set_option linter.unusedVariables false

theorem it_in {f : Int → Int} {ds : List Int} (hd : ∀ x ∈ ds, f x ∈ ds) (n : Nat) : ∀ x, x ∈ ds → it f n x ∈ ds := by
  induction n with
  | zero => intro x hx; exact hx
  | succ n ih => intro x hx; exact ih _ (hd x hx)
theorem Lead.flat {f : Int → Int} (hf : Per f) {ds : List Int} {k : Nat} {R : List (List Int)} (h : Lead f ds k R) : R.flatten.Nodup ∧ ∀ x, x ∈ R.flatten ↔ SeenD f ds k x := by
  induction h with
  | zero => exact ⟨by simp, fun w => ⟨fun h => by simp at h, fun h => by obtain ⟨u, hu, _⟩ := h; simp at hu⟩⟩
  | seen _ hk hs ih => exact ⟨ih.1, fun w => by rw [ih.2, seenD_same hk hs]⟩
  | @lead k R c _ hk hs hc ih =>
    rw [List.flatten_append, List.flatten_cons, List.flatten_nil, List.append_nil]
    refine ⟨?_, fun w => ?_⟩
    · rw [List.nodup_append]
      refine ⟨ih.1, hc.nodup fun x y => hf.inj, fun a ha b hb => ?_⟩
      rintro rfl
      obtain ⟨y, hy, h1⟩ := (ih.2 a).1 ha
      exact hs ⟨y, hy, h1.trans (Orb.symm hf (hc.mem.1 hb))⟩
    · rw [List.mem_append, ih.2, hc.mem, seenD_succ hk]
section
variable {f : Int → Int} (hf : Per f) {ds : List Int} (hd : ∀ x ∈ ds, f x ∈ ds)
include hf hd
theorem Lead.count {R : List (List Int)} (hn : ds.Nodup) (h : Lead f ds ds.length R) : R.flatten.Perm ds := by
  obtain ⟨h1, h2⟩ := Lead.flat hf h
  refine (List.perm_ext_iff_of_nodup h1 hn).2 fun w => ?_
  rw [h2]
  unfold SeenD
  rw [List.take_length]
  constructor
  · rintro ⟨y, hy, n, rfl⟩; exact it_in hd n y hy
  · intro hw; exact ⟨w, hw, Orb.refl _ _⟩
theorem Lead.cyc (hr : ds.Pairwise (· < ·)) {k : Nat} {R : List (List Int)} (h : Lead f ds k R) : ∀ c ∈ R, ∃ e ∈ ds, IsCyc f e c ∧ mn c = e := by
  induction h with
  | zero => intro c hc; simp at hc
  | seen _ _ _ ih => exact ih
  | @lead k R c _ hk hs hc ih =>
    intro c' hc'
    rw [List.mem_append, List.mem_singleton] at hc'
    rcases hc' with h1 | rfl
    · exact ih c' h1
    · exact ⟨_, by rw [getD_lt _ _ hk]; exact List.getElem_mem _, hc, (cyc_lead hf hr hd hk hc).1 hs⟩
end
/-- The place of the first turn that has a dart. -/
def tix (rs : List (List Int)) (d : Int) : Int := if (rs.any fun t => decide (d ∈ t)) = true then (rs.findIdx fun t => decide (d ∈ t) : Int) else -1
theorem tix_some {rs : List (List Int)} {d : Int} {k : Nat} (hk : k < rs.length) (h : d ∈ rs.getD k []) (hn : ∀ j, j < k → d ∉ rs.getD j []) : tix rs d = k := by
  rw [getR_lt _ _ hk] at h
  unfold tix
  rw [if_pos (List.any_eq_true.2 ⟨_, List.getElem_mem hk, by simpa using h⟩)]
  congr 1
  refine (List.findIdx_eq hk).2 ⟨by simpa using h, fun j hj => ?_⟩
  have := hn j hj
  rw [getR_lt _ _ (by omega)] at this
  simpa using this
theorem tix_none {rs : List (List Int)} {d : Int} (hn : ∀ j, j < rs.length → d ∉ rs.getD j []) : tix rs d = -1 := by
  unfold tix
  rw [if_neg]
  intro h
  obtain ⟨t, ht, hp⟩ := List.any_eq_true.1 h
  obtain ⟨j, hj, rfl⟩ := List.getElem_of_mem ht
  have := hn j hj
  rw [getR_lt _ _ hj] at this
  exact this (by simpa using hp)
theorem tix_in {rs : List (List Int)} {d : Int} (h : ∃ t ∈ rs, d ∈ t) : ∃ k, k < rs.length ∧ tix rs d = (k : Int) ∧ d ∈ rs.getD k [] := by
  obtain ⟨t, ht, hd⟩ := h
  obtain ⟨j, hj, rfl⟩ := List.getElem_of_mem ht
  obtain ⟨k, hk, hmin⟩ := least (P := fun k => k < rs.length ∧ d ∈ rs.getD k []) ⟨hj, by rw [getR_lt _ _ hj]; exact hd⟩
  exact ⟨k, hk.1, tix_some hk.1 hk.2 fun i hi hd => hmin i hi ⟨by omega, hd⟩, hk.2⟩
theorem tix_out {rs : List (List Int)} {d : Int} (h : ∀ t ∈ rs, d ∉ t) : tix rs d = -1 := tix_none fun j hj => by rw [getR_lt _ _ hj]; exact h _ (List.getElem_mem _)

end Go.Proofs.YtaiakdhcajibnaaGreat.Aw

namespace Go.Proofs.YtaiakdhcajibnaaGreat.Aw
open Go Go.RowKit Go.Proofs.YtaiakdhcajibnaaGreat.Pl Go.Proofs.YtaiakdhcajibnaaGreat.Eu
set_option linter.unusedSimpArgs false
set_option linter.unusedVariables false

/-- A map's faces, by their first darts. -/
def FacesOf (m : Mp) (R : List (List Int)) : Prop := Lead (fc m m.g.es) (darts m.g.es) (darts m.g.es).length R
/-- The dual, of these faces. -/
def dm (m : Mp) (R : List (List Int)) : Mp := ⟨⟨(List.range R.length).map (fun (k : Nat) => ((k : Int) + 1)), m.g.es.map fun x => ⟨x.id, tix R (2 * x.id) + 1, tix R (2 * x.id + 1) + 1⟩⟩, R⟩

section
variable {m : Mp} (h : MapOk m) {R : List (List Int)} (hR : FacesOf m R)
include h hR
theorem faces_perm : R.flatten.Perm (darts m.g.es) := Lead.count (h.fc_per m.g.es fun x hx => hx) (h.fc_dart _) (rise_nodup (darts_rise h.g.ids)) hR
theorem faces_cyc {c : List Int} (hc : c ∈ R) : ∃ e ∈ darts m.g.es, IsCyc (fc m m.g.es) e c ∧ mn c = e := Lead.cyc (h.fc_per m.g.es fun x hx => hx) (h.fc_dart _) (darts_rise h.g.ids) hR c hc
theorem faces_nodup : R.flatten.Nodup := (faces_perm h hR).nodup_iff.2 (rise_nodup (darts_rise h.g.ids))
theorem faces_in {d : Int} (hd : d ∈ darts m.g.es) : ∃ k, k < R.length ∧ tix R d = (k : Int) ∧ d ∈ R.getD k [] := by
  refine tix_in ?_
  have := (faces_perm h hR).mem_iff.2 hd
  obtain ⟨t, ht, h1⟩ := List.mem_flatten.1 this
  exact ⟨t, ht, h1⟩
theorem faces_at {d : Int} {k : Nat} (hk : k < R.length) (hd : d ∈ R.getD k []) : tix R d = (k : Int) ∧ d ∈ darts m.g.es := by
  refine ⟨tix_some hk hd fun j hj h1 => ?_, ?_⟩
  · have hn := faces_nodup h hR
    unfold List.Nodup at hn
    rw [List.pairwise_flatten] at hn
    have := List.pairwise_iff_getElem.1 hn.2 j k (by omega) hk hj
    rw [getR_lt _ _ hk] at hd
    rw [getR_lt _ _ (by omega)] at h1
    exact this d h1 d hd rfl
  · rw [getR_lt _ _ hk] at hd
    exact (faces_perm h hR).mem_iff.1 (List.mem_flatten.2 ⟨_, List.getElem_mem hk, hd⟩)
theorem faces_mem {d : Int} (k : Nat) (hk : k < R.length) : d ∈ R.getD k [] ↔ d ∈ darts m.g.es ∧ tix R d = (k : Int) := by
  constructor
  · intro hd; exact ⟨(faces_at h hR hk hd).2, (faces_at h hR hk hd).1⟩
  · rintro ⟨h1, h2⟩
    obtain ⟨j, hj, h3, h4⟩ := faces_in h hR h1
    have : j = k := by omega
    rwa [← this]
theorem faces_same {x y : Int} (hx : x ∈ darts m.g.es) (hy : y ∈ darts m.g.es) : tix R x = tix R y ↔ Orb (fc m m.g.es) x y := by
  have hP := h.fc_per m.g.es fun x hx => hx
  obtain ⟨k, hk, h1, h2⟩ := faces_in h hR hx
  obtain ⟨e, _, hc, _⟩ := faces_cyc h hR (c := R.getD k []) (by rw [getR_lt _ _ hk]; exact List.getElem_mem _)
  have hxo := hc.mem.1 h2
  rw [h1]
  constructor
  · intro h3
    have : y ∈ R.getD k [] := (faces_mem h hR k hk).2 ⟨hy, h3.symm⟩
    exact (Orb.symm hP hxo).trans (hc.mem.1 this)
  · intro h3
    exact ((faces_at h hR hk (hc.mem.2 (hxo.trans h3))).1).symm
end

end Go.Proofs.YtaiakdhcajibnaaGreat.Aw

namespace Go.Proofs.YtaiakdhcajibnaaGreat.Aw
open Go Go.RowKit Go.Proofs.YtaiakdhcajibnaaGreat.Pl Go.Proofs.YtaiakdhcajibnaaGreat.Eu
set_option linter.unusedSimpArgs false
set_option linter.unusedVariables false

/-- A map of the faces' numbers, of the first faces. -/
def NamI (R : List (List Int)) (es : List (List Int × LV)) : Prop := ∀ d, (mget es [d]).getD (i 0) = i (tix R d + 1)
/-- Faces by their numbers, in memory. -/
structure DF (m : Mp) (R : List (List Int)) (q mn : Nat) (st : St) : Prop where
  box : ∃ t1 t2, st.H q = .box 111 3 [.sl t1 m.g.es.length (eds m.g.es), .sl t2 R.length (rowsL R), .mp mn]
  lt : q < st.next ∧ mn < st.next
  map : ∃ es, st.H mn = .map false [.u32] es ∧ NamI R es
theorem DF.keeps {m : Mp} {R : List (List Int)} {q mn : Nat} {st st' : St} (h : DF m R q mn st) (hk : Keeps st st') : DF m R q mn st' := by
  obtain ⟨⟨t1, t2, h1⟩, h2, es, h3, h4⟩ := h
  have := hk.next
  exact ⟨⟨t1, t2, (hk.H _ h2.1).trans h1⟩, by omega, es, (hk.H _ h2.2).trans h3, h4⟩

def DnamP (l : List Int) (n : Int) (mn : Nat) (es : List (List Int × LV)) (st : St) (r : LV) (st' : St) : Prop := ∃ es', st' = st.set mn (.map false [.u32] es') ∧ ∀ d, mget es' [d] = if d ∈ l then some (i n) else mget es [d]
theorem dname (l : List Int) (t : Nat) (n : Int) (q mn : Nat) (x y : LV) (es : List (List Int × LV)) (st : St) (hl : small l) (hq : st.H q = .box 111 3 [x, y, .mp mn]) (hm : st.H mn = .map false [.u32] es) :
    ACalls Tryz.prog 88 [.pt q 0, i n, .sl t l.length (us l)] st (DnamP l n mn es st) := by
  have hne : ¬ q = mn := by rintro rfl; rw [hq] at hm; cases hm
  unfold small at hl
  refine acalls_of_body tabOk Tryz.func88 rfl rfl Tryz.ntmps88 (rs := []) rfl (by simp) ?_
  (repeat' (first | refine awp_seq ?_ | refine awp_block ?_ | ((first | refine awp_skip ?_ | refine awp_exit ?_); simp only [ak, reduceIte]) | (refine awp_ret ?_; simp only [ak, reduceIte]; simp []) | (refine awp_cond ?_; simp []; (try with_reducible refine ⟨?_, ?_⟩) <;> (try with_reducible intro hc) <;> try (exfalso; omega)) | ((first | (refine w_e [] ?_; intro J hJ; simp only []) | (refine w_q ?_; intro J hJ) | refine e_go ?_); simp []; (repeat refine ca ?_); (try ((try with_reducible refine ⟨?_, ?_⟩) <;> (try with_reducible intro hnil) <;> refine hJ _ _ ?_ <;> clear hJ J <;> simp only [ak, reduceIte] <;> try subst hnil)))))
  refine awp_range 10 9 11 20 (l.length) (fun j fr st2 => fr 0 = .pt q 0 ∧ fr 1 = i n ∧ fr 8 = .sl t l.length (us l) ∧ ∃ es', st2 = st.set mn (.map false [.u32] es') ∧ ∀ d, mget es' [d] = if d ∈ l.take j then some (i n) else mget es [d]) ?_ ?_ ?_
  · refine ⟨by simp, by simp, by simp, es, St.ext' rfl fun y => ?_, fun d => by simp⟩
    by_cases hy : y = mn
    · subst hy; simp [hm]
    · simp [hy]
  · rintro j fr st2 hlt ⟨f0, f1, f8, es', rfl, hall⟩ fi fn JJ hJJ
    have hd := us_drop_getD l j hlt
    have htk : l.take (j + 1) = l.take j ++ [l.getD j 0] := by rw [getD_lt _ _ hlt]; exact List.take_succ_eq_append_getElem hlt
    generalize l.getD j 0 = x at *
    (repeat' (first | refine awp_seq ?_ | refine awp_block ?_ | ((first | refine awp_skip ?_ | refine awp_exit ?_); simp only [ak, reduceIte]) | (refine awp_ret ?_; simp only [ak, reduceIte]; simp [f0, f1, f8, fi, fn, hd, hlt, hq, hne]) | (refine awp_cond ?_; simp [f0, f1, f8, fi, fn, hd, hlt, hq, hne]; (try with_reducible refine ⟨?_, ?_⟩) <;> (try with_reducible intro hc) <;> try (exfalso; omega)) | ((first | (refine w_e [] ?_; intro J hJ; simp only []) | (refine w_q ?_; intro J hJ) | refine e_go ?_); simp [f0, f1, f8, fi, fn, hd, hlt, hq, hne]; (repeat refine ca ?_); (try ((try with_reducible refine ⟨?_, ?_⟩) <;> (try with_reducible intro hnil) <;> refine hJ _ _ ?_ <;> clear hJ J <;> simp only [ak, reduceIte] <;> try subst hnil)))))
    refine hJJ _ _ (by simp [fi]) (by simp [fn]) ⟨by simp [f0], by simp [f1], by simp [f8], mset es' [x] (i n), by rw [St.set_set], fun d => ?_⟩
    rw [mget_mset, htk]
    by_cases hdx : d = x
    · subst hdx; simp
    · rw [if_neg (by simpa using hdx), hall d]
      simp [hdx]
  · rintro fr st2 ⟨f0, f1, f8, es', rfl, hall⟩
    rw [List.take_length] at hall
    (repeat' (first | refine awp_seq ?_ | refine awp_block ?_ | ((first | refine awp_skip ?_ | refine awp_exit ?_); simp only [ak, reduceIte]) | (refine awp_ret ?_; simp only [ak, reduceIte]; simp []) | (refine awp_cond ?_; simp []; (try with_reducible refine ⟨?_, ?_⟩) <;> (try with_reducible intro hc) <;> try (exfalso; omega)) | ((first | (refine w_e [] ?_; intro J hJ; simp only []) | (refine w_q ?_; intro J hJ) | refine e_go ?_); simp []; (repeat refine ca ?_); (try ((try with_reducible refine ⟨?_, ?_⟩) <;> (try with_reducible intro hnil) <;> refine hJ _ _ ?_ <;> clear hJ J <;> simp only [ak, reduceIte] <;> try subst hnil)))))
    simp
    exact ⟨es', rfl, hall⟩

def DOfP (m : Mp) (st : St) (r : LV) (st' : St) : Prop := ∃ q mn R, r = .pt q 0 ∧ FacesOf m R ∧ DF m R q mn st' ∧ Keeps st st'
def DOfI (m : Mp) (st : St) (fr : Frm) (st2 : St) : Prop := ∃ q mn R t1 t2, fr 3 = .pt q 0 ∧ FacesOf m R ∧ st2.H q = .box 111 3 [.sl t1 m.g.es.length (eds m.g.es), .sl t2 R.length (rowsL R), .mp mn] ∧ st2.H mn = .map false [.u32] [] ∧ (q < st2.next ∧ mn < st2.next) ∧ (st.next ≤ q ∧ st.next ≤ mn) ∧ Keeps st st2

theorem eds_oneU (l : List Ed) : (eds l).all oneL = true := by
  induction l with
  | nil => rfl
  | cons x l ih => simp only [eds, List.flatMap_cons, List.all_append, ih]; rfl
theorem faces_row {m : Mp} (h : MapOk m) {R : List (List Int)} (hR : FacesOf m R) (he : m.g.es.length ≤ 1000) {c : List Int} (hc : c ∈ R) : c.length ≤ 2000 := by
  obtain ⟨e, he', h1, _⟩ := faces_cyc h hR hc
  have := (h.cyc_le he' h1).2
  omega

set_option maxHeartbeats 2000000 in
theorem dOf_ (m : Mp) (h : MapOk m) (st : St) (hv : m.g.vs.length ≤ 1000) (he : m.g.es.length ≤ 1000) :
    ACalls Tryz.prog 16 [.ag (mpL m)] st (DOfP m st) := by
  have hel := eds_length m.g.es
  have hone := eds_oneU m.g.es
  refine acalls_of_body tabOk Tryz.func16 rfl rfl Tryz.ntmps16 (rs := [.tmp 2]) rfl (by simp) ?_
  (repeat' (first | refine awp_seq ?_ | refine awp_block ?_ | ((first | refine awp_skip ?_ | refine awp_exit ?_); simp only [ak, reduceIte]) | (refine awp_ret ?_; simp only [ak, reduceIte]; simp []) | (refine awp_cond ?_; simp []; (try with_reducible refine ⟨?_, ?_⟩) <;> (try with_reducible intro hc) <;> try (exfalso; omega)) | ((first | (refine w_e [] ?_; intro J hJ; simp only []) | (refine w_q ?_; intro J hJ) | refine e_go ?_); simp []; (repeat refine ca ?_); (try ((try with_reducible refine ⟨?_, ?_⟩) <;> (try with_reducible intro hnil) <;> refine hJ _ _ ?_ <;> clear hJ J <;> simp only [ak, reduceIte] <;> try subst hnil)))))
  refine awp_cut1 (DOfI m st) ?_ ?_
  · refine w_a [] [st.next] ?_; intro J hJ
    refine a_pre 6 [(0, true), (1, true), (2, true), (4, true)] ?_
    simp
    refine a_alt2 5 (3, true) (6, true) ?_ ?_
    · simp [hel, hone]
      refine ⟨⟨by omega, by simp only [maxLen]; omega⟩, ?_⟩
      refine a_alt2 4 (5, true) (6, true) ?_ ?_
      · simp
        refine dcallK_ofE (Faces m h _ hv he) (by simp) ?_; rintro r s3 ⟨⟨t2, R, rfl, hR⟩, hk3⟩
        have hn3 := hk3.next
        have hG3 := hk3.H st.next (by simp; omega)
        simp at hn3 hG3
        have a1 : ¬ st.next = s3.next := by omega
        have a2 : ¬ st.next = s3.next + 1 := by omega
        refine ⟨fun _ => by simp [hG3], ?_⟩
        simp
        refine a_pre 0 [(6, true), (7, true), (8, true), (9, true)] ?_
        simp [hG3, a1, a2]
        refine aany_end (hJ _ _ ?_)
        simp only [ak]
        refine ⟨trivial, s3.next + 1, s3.next, R, st.next + 1, t2, by simp, hR, by simp, by simp, by simp; omega, by omega, ?_⟩
        exact ((((Keeps.new _ _).trans (Keeps.new _ _)).trans hk3).trans (Keeps.new _ _)).trans (Keeps.new _ _)
      · simp
        refine a_pre 0 [(5, true), (7, true), (8, true), (9, true)] ?_
        simp
        refine dcallK_ofE (Faces m h _ hv he) (by simp) ?_; rintro r s3 ⟨⟨t2, R, rfl, hR⟩, hk3⟩
        have hn3 := hk3.next
        have hG3 := hk3.H st.next (by simp; omega)
        have hM3 := hk3.H (st.next + 1 + 1) (by simp)
        simp at hn3 hG3 hM3
        have a1 : ¬ st.next = s3.next := by omega
        have a3 : ¬ st.next + 1 + 1 = s3.next := by omega
        refine ⟨fun _ => by simp [hG3], ?_⟩
        simp [hG3, a1]
        refine aany_end (hJ _ _ ?_)
        simp only [ak]
        refine ⟨trivial, s3.next, st.next + 1 + 1, R, st.next + 1, t2, by simp, hR, by simp, by simp [a3, hM3], by simp; omega, by omega, ?_⟩
        exact ((((Keeps.new _ _).trans (Keeps.new _ _)).trans (Keeps.new _ _)).trans hk3).trans (Keeps.new _ _)
    · simp
      refine a_pre 0 [(3, true), (5, true), (7, true), (8, true), (9, true)] ?_
      simp [hel, hone]
      refine ⟨⟨by omega, by simp only [maxLen]; omega⟩, ?_⟩
      refine dcallK_ofE (Faces m h _ hv he) (by simp) ?_; rintro r s3 ⟨⟨t2, R, rfl, hR⟩, hk3⟩
      have hn3 := hk3.next
      have hG3 := hk3.H st.next (by simp; omega)
      have hM3 := hk3.H (st.next + 1) (by simp)
      simp at hn3 hG3 hM3
      have a1 : ¬ st.next = s3.next := by omega
      have a3 : ¬ st.next + 1 = s3.next := by omega
      refine ⟨fun _ => by simp [hG3], ?_⟩
      simp [hG3, a1]
      refine aany_end (hJ _ _ ?_)
      simp only [ak]
      refine ⟨trivial, s3.next, st.next + 1, R, st.next + 1 + 1, t2, by simp, hR, by simp, by simp [a3, hM3], by simp; omega, by omega, ?_⟩
      exact ((((Keeps.new _ _).trans (Keeps.new _ _)).trans (Keeps.new _ _)).trans hk3).trans (Keeps.new _ _)
  · rintro fr s2 ⟨q, mn, R, t1, t2, f3, hR, hq, hM, hlt, hlo, hkp⟩
    have hRl := hR.len
    have hdl := darts_length m.g.es
    have hqm : ¬ q = mn := by rintro rfl; rw [hq] at hM; cases hM
    have hnil : ∀ d, tix ([] : List (List Int)) d = -1 := fun d => tix_none (by simp)
    (repeat' (first | refine awp_seq ?_ | refine awp_block ?_ | ((first | refine awp_skip ?_ | refine awp_exit ?_); simp only [ak, reduceIte]) | (refine awp_ret ?_; simp only [ak, reduceIte]; simp [f3, hq]) | (refine awp_cond ?_; simp [f3, hq]; (try with_reducible refine ⟨?_, ?_⟩) <;> (try with_reducible intro hc) <;> try (exfalso; omega)) | ((first | (refine w_e [] ?_; intro J hJ; simp only []) | (refine w_q ?_; intro J hJ) | refine e_go ?_); simp [f3, hq]; (repeat refine ca ?_); (try ((try with_reducible refine ⟨?_, ?_⟩) <;> (try with_reducible intro hnil) <;> refine hJ _ _ ?_ <;> clear hJ J <;> simp only [ak, reduceIte] <;> try subst hnil)))))
    refine awp_range 20 19 21 30 (R.length) (fun j fr st2 => fr 3 = .pt q 0 ∧ fr 18 = .sl t2 R.length (rowsL R) ∧ ∃ es, st2 = s2.set mn (.map false [.u32] es) ∧ ∀ d, (mget es [d]).getD (i 0) = i (tix (R.take j) d + 1)) ?_ ?_ ?_
    · refine ⟨by simp [f3], by simp, [], ?_, fun d => ?_⟩
      · refine St.ext' rfl fun y => ?_
        by_cases hy : y = mn
        · subst hy; simp [hM]
        · simp [hy]
      · rw [List.take_zero, hnil]; rfl
    · rintro j fr s3 hlt2 ⟨f3, f18, es, rfl, hN⟩ fi fn JJ hJJ
      have hd := rowsL_drop R j hlt2
      have hRl2 : j < (rowsL R).length := by simpa using hlt2
      have htin : R.getD j [] ∈ R := by rw [getR_lt _ _ hlt2]; exact List.getElem_mem _
      have hsm := faces_row h hR he htin
      have hw := nat_add_one j (by omega)
      have htk : R.take (j + 1) = R.take j ++ [R.getD j []] := by rw [getR_lt _ _ hlt2]; exact List.take_succ_eq_append_getElem hlt2
      have hdis : ∀ d, d ∈ R.getD j [] → ∀ k, k < j → d ∉ R.getD k [] := fun d hd k hk hd2 => by
        have h1 := (faces_at h hR hlt2 hd).1
        have h2 := (faces_at h hR (k := k) (by omega) hd2).1
        omega
      generalize R.getD j [] = c at *
      (repeat' (first | refine awp_seq ?_ | refine awp_block ?_ | ((first | refine awp_skip ?_ | refine awp_exit ?_); simp only [ak, reduceIte]) | (refine awp_ret ?_; simp only [ak, reduceIte]; simp [f3, f18, fi, fn, hd, hRl2, hw, hlt2]) | (refine awp_cond ?_; simp [f3, f18, fi, fn, hd, hRl2, hw, hlt2]; (try with_reducible refine ⟨?_, ?_⟩) <;> (try with_reducible intro hc) <;> try (exfalso; omega)) | ((first | (refine w_e [] ?_; intro J hJ; simp only []) | (refine w_q ?_; intro J hJ) | refine e_go ?_); simp [f3, f18, fi, fn, hd, hRl2, hw, hlt2]; (repeat refine ca ?_); (try ((try with_reducible refine ⟨?_, ?_⟩) <;> (try with_reducible intro hnil) <;> refine hJ _ _ ?_ <;> clear hJ J <;> simp only [ak, reduceIte] <;> try subst hnil)))))
      refine callK_ofE (dname c 0 ((j + 1 : Nat) : Int) q mn _ _ es _ (by unfold small; omega) (by simp [hqm]; exact hq) (by simp)) (by simp) ?_; rintro r s4 ⟨es', rfl, hes⟩
      (repeat' (first | refine awp_seq ?_ | refine awp_block ?_ | ((first | refine awp_skip ?_ | refine awp_exit ?_); simp only [ak, reduceIte]) | (refine awp_ret ?_; simp only [ak, reduceIte]; simp []) | (refine awp_cond ?_; simp []; (try with_reducible refine ⟨?_, ?_⟩) <;> (try with_reducible intro hc) <;> try (exfalso; omega)) | ((first | (refine w_e [] ?_; intro J hJ; simp only []) | (refine w_q ?_; intro J hJ) | refine e_go ?_); simp []; (repeat refine ca ?_); (try ((try with_reducible refine ⟨?_, ?_⟩) <;> (try with_reducible intro hnil) <;> refine hJ _ _ ?_ <;> clear hJ J <;> simp only [ak, reduceIte] <;> try subst hnil)))))
      refine hJJ _ _ (by simp [fi]) (by simp [fn]) ⟨by simp [f3], by simp [f18], es', by rw [St.set_set], fun d => ?_⟩
      rw [hes, htk]
      by_cases hdc : d ∈ c
      · rw [if_pos hdc]
        have : tix (R.take j ++ [c]) d = (j : Int) := by
          have hjl : (R.take j).length = j := by simp; omega
          refine tix_some (by simp; omega) ?_ fun k hk => ?_
          · rw [List.getD_eq_getElem?_getD, List.getElem?_append_right (by omega), hjl]; simpa using hdc
          · have := hdis d hdc k hk
            rwa [List.getD_eq_getElem?_getD, List.getElem?_append_left (by omega), List.getElem?_take_of_lt hk, ← List.getD_eq_getElem?_getD]
        rw [this]; rfl
      · have : tix (R.take j ++ [c]) d = tix (R.take j) d := by
          unfold tix
          simp only [List.any_append, List.any_cons, List.any_nil, hdc, decide_false, Bool.or_false]
          split
          · rename_i hany
            obtain ⟨x, hx, hpx⟩ := List.any_eq_true.1 hany
            rw [List.findIdx_append, if_pos (List.findIdx_lt_length_of_exists ⟨x, hx, hpx⟩)]
          · rfl
        rw [if_neg hdc, hN d, this]
    · rintro fr s3 ⟨f3, f18, es, rfl, hN⟩
      rw [List.take_length] at hN
      (repeat' (first | refine awp_seq ?_ | refine awp_block ?_ | ((first | refine awp_skip ?_ | refine awp_exit ?_); simp only [ak, reduceIte]) | (refine awp_ret ?_; simp only [ak, reduceIte]; simp [f3]) | (refine awp_cond ?_; simp [f3]; (try with_reducible refine ⟨?_, ?_⟩) <;> (try with_reducible intro hc) <;> try (exfalso; omega)) | ((first | (refine w_e [] ?_; intro J hJ; simp only []) | (refine w_q ?_; intro J hJ) | refine e_go ?_); simp [f3]; (repeat refine ca ?_); (try ((try with_reducible refine ⟨?_, ?_⟩) <;> (try with_reducible intro hnil) <;> refine hJ _ _ ?_ <;> clear hJ J <;> simp only [ak, reduceIte] <;> try subst hnil)))))
      exact ⟨q, mn, R, rfl, hR, ⟨⟨t1, t2, by simp [hqm, hq]⟩, by simpa using hlt, es, by simp, hN⟩, hkp.set (by omega) _⟩

end Go.Proofs.YtaiakdhcajibnaaGreat.Aw

namespace Go.Proofs.YtaiakdhcajibnaaGreat.Aw
open Go Go.RowKit Go.Proofs.YtaiakdhcajibnaaGreat.Pl Go.Proofs.YtaiakdhcajibnaaGreat.Eu
set_option linter.unusedSimpArgs false
set_option linter.unusedVariables false

theorem dFace (m : Mp) (R : List (List Int)) (q mn : Nat) (d : Int) (st : St) (h : DF m R q mn st) :
    ACalls Tryz.prog 20 [.pt q 0, u d] st fun r st' => r = i (tix R d + 1) ∧ st' = st := by
  obtain ⟨⟨t1, t2, hq⟩, _, es, hm, hN⟩ := h
  have hd := hN d
  refine acalls_of_body tabOk Tryz.func20 rfl rfl Tryz.ntmps20 (rs := [.tmp 4]) rfl (by simp) ?_
  (repeat' (first | refine awp_seq ?_ | refine awp_block ?_ | ((first | refine awp_skip ?_ | refine awp_exit ?_); simp only [ak, reduceIte]) | (refine awp_ret ?_; simp only [ak, reduceIte]; simp [hq, hm, hd]) | (refine awp_cond ?_; simp [hq, hm, hd]; (try with_reducible refine ⟨?_, ?_⟩) <;> (try with_reducible intro hc) <;> try (exfalso; omega)) | ((first | (refine w_e [] ?_; intro J hJ; simp only []) | (refine w_q ?_; intro J hJ) | refine e_go ?_); simp [hq, hm, hd]; (repeat refine ca ?_); (try ((try with_reducible refine ⟨?_, ?_⟩) <;> (try with_reducible intro hnil) <;> refine hJ _ _ ?_ <;> clear hJ J <;> simp only [ak, reduceIte] <;> try subst hnil)))))

/-- An edge, and the faces at it. -/
structure Sd where
  id : Int
  l : Int
  r : Int
abbrev sdL (s : Sd) : List LV := [u s.id, i s.l, i s.r]
abbrev sds (l : List Sd) : List LV := l.flatMap sdL
def sideOf (R : List (List Int)) (x : Ed) : Sd := ⟨x.id, tix R (2 * x.id) + 1, tix R (2 * x.id + 1) + 1⟩
theorem sds_length (l : List Sd) : (sds l).length = l.length * 3 := by
  induction l with
  | nil => rfl
  | cons e l ih => simp only [sds, List.flatMap_cons, List.length_append, List.length_cons, List.length_nil] at ih ⊢; omega
abbrev sd0 : Sd := ⟨0, 0, 0⟩
theorem sds_drop (l : List Sd) (k : Nat) (hk : k < l.length) : (sds l).drop (k * 3) = u (l.getD k sd0).id :: i (l.getD k sd0).l :: i (l.getD k sd0).r :: sds (l.drop (k + 1)) := by
  induction l generalizing k with
  | nil => simp at hk
  | cons e l ih =>
    cases k with
    | zero => rfl
    | succ k =>
      have : (k + 1) * 3 = k * 3 + 1 + 1 + 1 := by omega
      rw [this]
      simp only [sds, List.flatMap_cons, sdL, List.cons_append, List.drop_succ_cons, List.nil_append, List.getD_cons_succ]
      exact ih k (by simpa using hk)
theorem sds_take (l : List Ed) (R : List (List Int)) (k : Nat) (hk : k < l.length) : sds ((l.take (k + 1)).map (sideOf R)) = sds ((l.take k).map (sideOf R)) ++ sdL (sideOf R (l.getD k ed0)) := by
  rw [List.take_succ_eq_append_getElem hk, getE_lt _ _ hk]
  simp only [List.map_append, List.map_cons, List.map_nil, sds, List.flatMap_append, List.flatMap_cons, List.flatMap_nil, List.append_nil]

def SidesP (m : Mp) (R : List (List Int)) (st : St) (r : LV) (st' : St) : Prop := (∃ t, r = .sl t m.g.es.length (sds (m.g.es.map (sideOf R)))) ∧ Keeps st st'
set_option maxHeartbeats 1000000 in
theorem dSides (m : Mp) (h : MapOk m) (R : List (List Int)) (q mn : Nat) (st : St) (he : m.g.es.length ≤ 1000) (hD : DF m R q mn st) :
    ACalls Tryz.prog 17 [.pt q 0] st (SidesP m R st) := by
  have hel := eds_length m.g.es
  obtain ⟨t1, t2, hq⟩ := hD.box
  refine acalls_of_body tabOk Tryz.func17 rfl rfl Tryz.ntmps17 (rs := [.tmp 2]) rfl (by simp) ?_
  (repeat' (first | refine awp_seq ?_ | refine awp_block ?_ | ((first | refine awp_skip ?_ | refine awp_exit ?_); simp only [ak, reduceIte]) | (refine awp_ret ?_; simp only [ak, reduceIte]; simp [hq]) | (refine awp_cond ?_; simp [hq]; (try with_reducible refine ⟨?_, ?_⟩) <;> (try with_reducible intro hc) <;> try (exfalso; omega)) | ((first | (refine w_e [] ?_; intro J hJ; simp only []) | (refine w_q ?_; intro J hJ) | refine e_go ?_); simp [hq]; (repeat refine ca ?_); (try ((try with_reducible refine ⟨?_, ?_⟩) <;> (try with_reducible intro hnil) <;> refine hJ _ _ ?_ <;> clear hJ J <;> simp only [ak, reduceIte] <;> try subst hnil)))))
  refine awp_posG fun hpos => ?_
  refine awp_own 3 46 3 (by simp) ?_
  refine awp_range 14 13 15 34 (m.g.es.length) (fun j fr st2 => fr 0 = .pt q 0 ∧ fr 12 = .sl t1 m.g.es.length (eds m.g.es) ∧ Keeps st st2 ∧ ∃ t, fr 3 = .sl t j (sds ((m.g.es.take j).map (sideOf R))) ∧ (t ≠ 0 ∧ st.next ≤ t ∧ t < st2.next) ∧ st2.H t = .own 46 3 j) ?_ ?_ ?_
  · exact ⟨by simp, by simp, Keeps.new _ _, st.next, by simp, ⟨by omega, by omega, by simp⟩, by simp⟩
  · rintro j fr s2 hlt ⟨f0, f12, hkp, t, f3, ⟨t0, tl, tn⟩, htH⟩ fi fn JJ hJJ
    have hd := eds_drop m.g.es j hlt
    have hk3 : j * 3 < m.g.es.length * 3 := by omega
    have hxin : m.g.es.getD j ed0 ∈ m.g.es := by rw [getE_lt _ _ hlt]; exact List.getElem_mem _
    have hpos := h.g.pos _ hxin
    have hst := sds_take m.g.es R j hlt
    have hsl := sds_length ((m.g.es.take j).map (sideOf R))
    rw [List.length_map, List.length_take, Nat.min_eq_left (by omega)] at hsl
    generalize hx : m.g.es.getD j ed0 = x at *
    obtain ⟨id, a, b⟩ := x
    simp only [sideOf] at hpos hd hst
    generalize sds ((m.g.es.take j).map (sideOf R)) = S at *
    have hn2 := hkp.next
    have m1 : ¬ t = s2.next := by omega
    have m2 : ¬ t = s2.next + 1 := by omega
    have m3 : ¬ s2.next = t := by omega
    have hD2 := (hD.keeps hkp).keeps (Keeps.new s2 (.box 44 3 (edL ⟨id, a, b⟩)))
    have w0 : tw (2 * id) = 2 * id + 1 := by unfold tw; rw [if_pos (by omega)]
    (repeat' (first | refine awp_seq ?_ | refine awp_block ?_ | ((first | refine awp_skip ?_ | refine awp_exit ?_); simp only [ak, reduceIte]) | (refine awp_ret ?_; simp only [ak, reduceIte]; simp [f0, f12, fi, fn, hd, hel, hk3]) | (refine awp_cond ?_; simp [f0, f12, fi, fn, hd, hel, hk3]; (try with_reducible refine ⟨?_, ?_⟩) <;> (try with_reducible intro hc) <;> try (exfalso; omega)) | ((first | (refine w_e [] ?_; intro J hJ; simp only []) | (refine w_q ?_; intro J hJ) | refine e_go ?_); simp [f0, f12, fi, fn, hd, hel, hk3]; (repeat refine ca ?_); (try ((try with_reducible refine ⟨?_, ?_⟩) <;> (try with_reducible intro hnil) <;> refine hJ _ _ ?_ <;> clear hJ J <;> simp only [ak, reduceIte] <;> try subst hnil)))))
    refine callK_ofE (dOf id 0 _ (by omega) (by omega) (.inl rfl)) (by simp) ?_; rintro r s3 ⟨rfl, rfl⟩
    simp only [Int.add_zero]
    (repeat' (first | refine awp_seq ?_ | refine awp_block ?_ | ((first | refine awp_skip ?_ | refine awp_exit ?_); simp only [ak, reduceIte]) | (refine awp_ret ?_; simp only [ak, reduceIte]; simp []) | (refine awp_cond ?_; simp []; (try with_reducible refine ⟨?_, ?_⟩) <;> (try with_reducible intro hc) <;> try (exfalso; omega)) | ((first | (refine w_e [] ?_; intro J hJ; simp only []) | (refine w_q ?_; intro J hJ) | refine e_go ?_); simp []; (repeat refine ca ?_); (try ((try with_reducible refine ⟨?_, ?_⟩) <;> (try with_reducible intro hnil) <;> refine hJ _ _ ?_ <;> clear hJ J <;> simp only [ak, reduceIte] <;> try subst hnil)))))
    (refine w_s [] [s2.next] [(0, true), (1, true), (2, true), (3, true), (4, true), (6, true), (7, true), (5, true), (8, true), (9, true), (10, true), (11, true), (12, true), (13, true)] ?_; intro J hJ; simp [f0, f3]; (repeat refine ca ?_); (try ((try with_reducible refine ⟨?_, ?_⟩) <;> (try with_reducible intro hnil) <;> refine hJ _ _ ?_ <;> clear hJ J <;> simp only [ak, reduceIte] <;> try subst hnil)))
    refine dcallK_ofE (dFace m R q mn (2 * id) _ hD2) (by simp) ?_; rintro r s4 ⟨rfl, rfl⟩
    refine ⟨fun _ => by simp, ?_⟩
    (refine d_go ?_; simp []; (repeat refine ca ?_); (try ((try with_reducible refine ⟨?_, ?_⟩) <;> (try with_reducible intro hnil) <;> refine hJ _ _ ?_ <;> clear hJ J <;> simp only [ak, reduceIte] <;> try subst hnil)))
    refine dcallK_ofE (Twin (2 * id) _ (by omega) (by omega)) (by simp) ?_; rintro r s4 ⟨rfl, rfl⟩
    refine ⟨fun _ => by simp, ?_⟩
    rw [w0]
    (refine d_go ?_; simp [f0]; (repeat refine ca ?_); (try ((try with_reducible refine ⟨?_, ?_⟩) <;> (try with_reducible intro hnil) <;> refine hJ _ _ ?_ <;> clear hJ J <;> simp only [ak, reduceIte] <;> try subst hnil)))
    refine dcallK_ofE (dFace m R q mn (2 * id + 1) _ hD2) (by simp) ?_; rintro r s4 ⟨rfl, rfl⟩
    refine ⟨fun _ => by simp, ?_⟩
    (refine d_go ?_; simp [f3, htH, t0, m1, m2, m3, hsl]; (repeat refine ca ?_); (try ((try with_reducible refine ⟨?_, ?_⟩) <;> (try with_reducible intro hnil) <;> refine hJ _ _ ?_ <;> clear hJ J <;> simp only [ak, reduceIte] <;> try subst hnil)))
    (repeat' (first | refine awp_seq ?_ | refine awp_block ?_ | ((first | refine awp_skip ?_ | refine awp_exit ?_); simp only [ak, reduceIte]) | (refine awp_ret ?_; simp only [ak, reduceIte]; simp []) | (refine awp_cond ?_; simp []; (try with_reducible refine ⟨?_, ?_⟩) <;> (try with_reducible intro hc) <;> try (exfalso; omega)) | ((first | (refine w_e [] ?_; intro J hJ; simp only []) | (refine w_q ?_; intro J hJ) | refine e_go ?_); simp []; (repeat refine ca ?_); (try ((try with_reducible refine ⟨?_, ?_⟩) <;> (try with_reducible intro hnil) <;> refine hJ _ _ ?_ <;> clear hJ J <;> simp only [ak, reduceIte] <;> try subst hnil)))))
    refine hJJ _ _ (by simp [fi]) (by simp [fn]) ⟨by simp [f0], by simp [f12], ?_, s2.next + 1 + 1, by rw [hst]; simp, ⟨by omega, by omega, by simp⟩, by simp⟩
    exact (((hkp.trans (Keeps.new _ _)).trans (Keeps.new _ _)).set tl _).trans (Keeps.new _ _)
  · rintro fr st2 ⟨f0, f12, hkp, t, f3, _⟩
    rw [List.take_length] at f3
    (repeat' (first | refine awp_seq ?_ | refine awp_block ?_ | ((first | refine awp_skip ?_ | refine awp_exit ?_); simp only [ak, reduceIte]) | (refine awp_ret ?_; simp only [ak, reduceIte]; simp [f3]) | (refine awp_cond ?_; simp [f3]; (try with_reducible refine ⟨?_, ?_⟩) <;> (try with_reducible intro hc) <;> try (exfalso; omega)) | ((first | (refine w_e [] ?_; intro J hJ; simp only []) | (refine w_q ?_; intro J hJ) | refine e_go ?_); simp [f3]; (repeat refine ca ?_); (try ((try with_reducible refine ⟨?_, ?_⟩) <;> (try with_reducible intro hnil) <;> refine hJ _ _ ?_ <;> clear hJ J <;> simp only [ak, reduceIte] <;> try subst hnil)))))
    exact ⟨⟨t, rfl⟩, hkp⟩

/-- The bridges' numbers. -/
def brg (R : List (List Int)) (es : List Ed) : List Int := (es.filter fun x => decide (tix R (2 * x.id) = tix R (2 * x.id + 1))).map (·.id)
theorem brg_take (R : List (List Int)) (l : List Ed) (k : Nat) (hk : k < l.length) : brg R (l.take (k + 1)) = brg R (l.take k) ++ if tix R (2 * (l.getD k ed0).id) = tix R (2 * (l.getD k ed0).id + 1) then [(l.getD k ed0).id] else [] := by
  unfold brg
  rw [List.take_succ_eq_append_getElem hk, getE_lt _ _ hk, List.filter_append, List.map_append]
  congr 1
  by_cases h : tix R (2 * l[k].id) = tix R (2 * l[k].id + 1) <;> simp [h]
theorem brg_len (R : List (List Int)) (l : List Ed) (k : Nat) : (brg R (l.take k)).length ≤ k := by
  unfold brg
  rw [List.length_map]
  exact Nat.le_trans (List.length_filter_le _ _) (by rw [List.length_take]; omega)
theorem getS_map (R : List (List Int)) (l : List Ed) (k : Nat) (hk : k < l.length) : (l.map (sideOf R)).getD k sd0 = sideOf R (l.getD k ed0) := by
  rw [getE_lt _ _ hk, List.getD_eq_getElem?_getD, List.getElem?_eq_getElem (by simpa using hk)]; simp

def BridgesP (m : Mp) (R : List (List Int)) (st : St) (r : LV) (st' : St) : Prop := (∃ t, r = .sl t (brg R m.g.es).length (us (brg R m.g.es))) ∧ Keeps st st'
set_option maxHeartbeats 1000000 in
theorem dBridges (m : Mp) (h : MapOk m) (R : List (List Int)) (q mn : Nat) (st : St) (he : m.g.es.length ≤ 1000) (hD : DF m R q mn st) :
    ACalls Tryz.prog 23 [.pt q 0] st (BridgesP m R st) := by
  have hsl := sds_length (m.g.es.map (sideOf R))
  rw [List.length_map] at hsl
  refine acalls_of_body tabOk Tryz.func23 rfl rfl Tryz.ntmps23 (rs := [.tmp 2]) rfl (by simp) ?_
  (repeat' (first | refine awp_seq ?_ | refine awp_block ?_ | ((first | refine awp_skip ?_ | refine awp_exit ?_); simp only [ak, reduceIte]) | (refine awp_ret ?_; simp only [ak, reduceIte]; simp []) | (refine awp_cond ?_; simp []; (try with_reducible refine ⟨?_, ?_⟩) <;> (try with_reducible intro hc) <;> try (exfalso; omega)) | ((first | (refine w_e [] ?_; intro J hJ; simp only []) | (refine w_q ?_; intro J hJ) | refine e_go ?_); simp []; (repeat refine ca ?_); (try ((try with_reducible refine ⟨?_, ?_⟩) <;> (try with_reducible intro hnil) <;> refine hJ _ _ ?_ <;> clear hJ J <;> simp only [ak, reduceIte] <;> try subst hnil)))))
  refine callK_ofE (dSides m h R q mn _ he hD) (by simp) ?_; rintro r s1 ⟨⟨ts, rfl⟩, hk1⟩
  have hn1 := hk1.next
  (repeat' (first | refine awp_seq ?_ | refine awp_block ?_ | ((first | refine awp_skip ?_ | refine awp_exit ?_); simp only [ak, reduceIte]) | (refine awp_ret ?_; simp only [ak, reduceIte]; simp []) | (refine awp_cond ?_; simp []; (try with_reducible refine ⟨?_, ?_⟩) <;> (try with_reducible intro hc) <;> try (exfalso; omega)) | ((first | (refine w_e [] ?_; intro J hJ; simp only []) | (refine w_q ?_; intro J hJ) | refine e_go ?_); simp []; (repeat refine ca ?_); (try ((try with_reducible refine ⟨?_, ?_⟩) <;> (try with_reducible intro hnil) <;> refine hJ _ _ ?_ <;> clear hJ J <;> simp only [ak, reduceIte] <;> try subst hnil)))))
  refine awp_posG fun hpos => ?_
  refine awp_own 3 29 1 (by simp) ?_
  refine awp_range 9 8 10 23 (m.g.es.length) (fun j fr st2 => fr 7 = .sl ts m.g.es.length (sds (m.g.es.map (sideOf R))) ∧ Keeps st st2 ∧ ∃ t, fr 3 = .sl t (brg R (m.g.es.take j)).length (us (brg R (m.g.es.take j))) ∧ (t ≠ 0 ∧ st.next ≤ t ∧ t < st2.next) ∧ st2.H t = .own 29 1 (brg R (m.g.es.take j)).length) ?_ ?_ ?_
  · exact ⟨by simp, hk1.trans (Keeps.new _ _), s1.next, by simp [brg], ⟨by omega, by omega, by simp⟩, by simp [brg]⟩
  · rintro j fr s2 hlt ⟨f7, hkp, t, f3, ⟨t0, tl, tn⟩, htH⟩ fi fn JJ hJJ
    have hd := sds_drop (m.g.es.map (sideOf R)) j (by simpa using hlt)
    rw [getS_map R _ _ hlt] at hd
    have hk3 : j * 3 < m.g.es.length * 3 := by omega
    have hst := brg_take R m.g.es j hlt
    have hbl := brg_len R m.g.es j
    generalize m.g.es.getD j ed0 = x at *
    obtain ⟨id, a, b⟩ := x
    simp only [sideOf] at hd hst
    generalize brg R (m.g.es.take j) = B at *
    generalize tix R (2 * id) = ta at *
    generalize tix R (2 * id + 1) = tb at *
    have hn2 := hkp.next
    have m1 : ¬ t = s2.next := by omega
    have m2 : ¬ t = s2.next + 1 := by omega
    have m3 : ¬ s2.next = t := by omega
    by_cases hab : ta = tb
    · rw [if_pos hab] at hst
      (repeat' (first | refine awp_seq ?_ | refine awp_block ?_ | ((first | refine awp_skip ?_ | refine awp_exit ?_); simp only [ak, reduceIte]) | (refine awp_ret ?_; simp only [ak, reduceIte]; simp [f7, f3, fi, fn, hd, hsl, hk3, hab, htH, t0, m1, m2, m3]) | (refine awp_cond ?_; simp [f7, f3, fi, fn, hd, hsl, hk3, hab, htH, t0, m1, m2, m3]; (try with_reducible refine ⟨?_, ?_⟩) <;> (try with_reducible intro hc) <;> try (exfalso; omega)) | ((first | (refine w_e [] ?_; intro J hJ; simp only []) | (refine w_q ?_; intro J hJ) | refine e_go ?_); simp [f7, f3, fi, fn, hd, hsl, hk3, hab, htH, t0, m1, m2, m3]; (repeat refine ca ?_); (try ((try with_reducible refine ⟨?_, ?_⟩) <;> (try with_reducible intro hnil) <;> refine hJ _ _ ?_ <;> clear hJ J <;> simp only [ak, reduceIte] <;> try subst hnil)))))
      refine hJJ _ _ (by simp [fi]) (by simp [fn]) ⟨by simp [f7], ?_, s2.next + 1 + 1, by rw [hst]; simp, ⟨by omega, by omega, by simp⟩, by rw [hst]; simp⟩
      exact (((hkp.trans (Keeps.new _ _)).trans (Keeps.new _ _)).set tl _).trans (Keeps.new _ _)
    · rw [if_neg hab, List.append_nil] at hst
      have hab' : ¬ ta + 1 = tb + 1 := by omega
      (repeat' (first | refine awp_seq ?_ | refine awp_block ?_ | ((first | refine awp_skip ?_ | refine awp_exit ?_); simp only [ak, reduceIte]) | (refine awp_ret ?_; simp only [ak, reduceIte]; simp [f7, f3, fi, fn, hd, hsl, hk3, hab', hab]) | (refine awp_cond ?_; simp [f7, f3, fi, fn, hd, hsl, hk3, hab', hab]; (try with_reducible refine ⟨?_, ?_⟩) <;> (try with_reducible intro hc) <;> try (exfalso; omega)) | ((first | (refine w_e [] ?_; intro J hJ; simp only []) | (refine w_q ?_; intro J hJ) | refine e_go ?_); simp [f7, f3, fi, fn, hd, hsl, hk3, hab', hab]; (repeat refine ca ?_); (try ((try with_reducible refine ⟨?_, ?_⟩) <;> (try with_reducible intro hnil) <;> refine hJ _ _ ?_ <;> clear hJ J <;> simp only [ak, reduceIte] <;> try subst hnil)))))
      exact hJJ _ _ (by simp [fi]) (by simp [fn]) ⟨by simp [f7], hkp.trans (Keeps.new _ _), t, by rw [hst]; simp [f3], ⟨t0, tl, by simp; omega⟩, by rw [hst]; simp [m1, htH]⟩
  · rintro fr st2 ⟨f7, hkp, t, f3, _⟩
    rw [List.take_length] at f3
    (repeat' (first | refine awp_seq ?_ | refine awp_block ?_ | ((first | refine awp_skip ?_ | refine awp_exit ?_); simp only [ak, reduceIte]) | (refine awp_ret ?_; simp only [ak, reduceIte]; simp [f3]) | (refine awp_cond ?_; simp [f3]; (try with_reducible refine ⟨?_, ?_⟩) <;> (try with_reducible intro hc) <;> try (exfalso; omega)) | ((first | (refine w_e [] ?_; intro J hJ; simp only []) | (refine w_q ?_; intro J hJ) | refine e_go ?_); simp [f3]; (repeat refine ca ?_); (try ((try with_reducible refine ⟨?_, ?_⟩) <;> (try with_reducible intro hnil) <;> refine hJ _ _ ?_ <;> clear hJ J <;> simp only [ak, reduceIte] <;> try subst hnil)))))
    exact ⟨⟨t, rfl⟩, hkp⟩

end Go.Proofs.YtaiakdhcajibnaaGreat.Aw
