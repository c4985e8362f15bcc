/- What hangs together in a graph. No program. -/
import Derived.Test.YtphdhggoaijfoaaG2
namespace Go.Proofs.Ytphdhggoaijfoaa.Aw
open Go Go.RowKit Go.Proofs.Ytphdhggoaijfoaa.Pl
set_option linter.unusedSimpArgs false
set_option linter.unusedVariables false

inductive Reach (es : List Ed) (v : Int) : Int → Prop
  | refl : Reach es v v
  | step {u w : Int} (h : Reach es v u) (hw : w ∈ nbr es u) : Reach es v w

theorem mem_nbr {es : List Ed} {u w : Int} : w ∈ nbr es u ↔ ∃ x ∈ es, (x.a = u ∧ x.b = w) ∨ (x.b = u ∧ x.a = w) := by
  unfold nbr nbr1
  simp only [List.mem_flatMap, List.mem_append]
  constructor
  · rintro ⟨x, hx, h | h⟩
    · refine ⟨x, hx, .inl ?_⟩
      split at h
      · rename_i h1; simp at h; exact ⟨h1, h.symm⟩
      · cases h
    · refine ⟨x, hx, .inr ?_⟩
      split at h
      · rename_i h1; simp at h; exact ⟨h1, h.symm⟩
      · cases h
  · rintro ⟨x, hx, ⟨h1, h2⟩ | ⟨h1, h2⟩⟩
    · exact ⟨x, hx, .inl (by simp [h1, h2])⟩
    · exact ⟨x, hx, .inr (by simp [h1, h2])⟩
theorem nbr_symm {es : List Ed} {u w : Int} (h : w ∈ nbr es u) : u ∈ nbr es w := by
  rw [mem_nbr] at h ⊢
  obtain ⟨x, hx, ⟨h1, h2⟩ | ⟨h1, h2⟩⟩ := h
  · exact ⟨x, hx, .inr ⟨h2, h1⟩⟩
  · exact ⟨x, hx, .inl ⟨h2, h1⟩⟩
theorem Reach.trans {es : List Ed} {u v w : Int} (h : Reach es u v) (k : Reach es v w) : Reach es u w := by
  induction k with
  | refl => exact h
  | step _ hw ih => exact .step ih hw
theorem Reach.symm {es : List Ed} {u v : Int} (h : Reach es u v) : Reach es v u := by
  induction h with
  | refl => exact .refl
  | step _ hw ih => exact Reach.trans (.step .refl (nbr_symm hw)) ih
theorem Reach.closed {es : List Ed} {v w : Int} {L : Int → Prop} (h : Reach es v w) (hv : L v) (hc : ∀ u, L u → ∀ w ∈ nbr es u, L w) : L w := by
  induction h with
  | refl => exact hv
  | step _ hw ih => exact hc _ ih _ hw

/-- A graph's vertices rise, and edges end at them. -/
structure Good (g : Gr) : Prop where
  rise : g.vs.Pairwise (· < ·)
  ends : ∀ x ∈ g.es, x.a ∈ g.vs ∧ x.b ∈ g.vs
theorem Good.nbr {g : Gr} (h : Good g) {u w : Int} (hw : w ∈ nbr g.es u) : w ∈ g.vs := by
  rw [mem_nbr] at hw
  obtain ⟨x, hx, ⟨_, rfl⟩ | ⟨_, rfl⟩⟩ := hw
  · exact (h.ends x hx).2
  · exact (h.ends x hx).1
theorem Good.reach {g : Gr} (h : Good g) {v w : Int} (hv : v ∈ g.vs) (hr : Reach g.es v w) : w ∈ g.vs := by
  cases hr with
  | refl => exact hv
  | step _ hw => exact h.nbr hw
theorem Good.nodup {g : Gr} (h : Good g) : g.vs.Nodup := h.rise.imp fun h => by omega

/-- A row that has just what hangs together with a vertex, rising. -/
def IsPart (g : Gr) (v : Int) (c : List Int) : Prop := c.Pairwise (· < ·) ∧ ∀ w, w ∈ c ↔ w ∈ g.vs ∧ Reach g.es v w
theorem rise_unique {c d : List Int} (hc : c.Pairwise (· < ·)) (hd : d.Pairwise (· < ·)) (h : ∀ w, w ∈ c ↔ w ∈ d) : c = d :=
  srt_unique (hc.imp fun h => by omega) (hd.imp fun h => by omega) ((List.perm_ext_iff_of_nodup (hc.imp fun h => by omega) (hd.imp fun h => by omega)).2 h)
theorem IsPart.unique {g : Gr} {v : Int} {c d : List Int} (h : IsPart g v c) (k : IsPart g v d) : c = d := rise_unique h.1 k.1 fun w => by rw [h.2, k.2]
theorem part_of {g : Gr} (h : Good g) {v : Int} (hv : v ∈ g.vs) {L c : List Int} (hn : L.Nodup) (hL : ∀ w, w ∈ L ↔ Reach g.es v w) (hp : c.Perm L) (hs : c.Pairwise (· ≤ ·)) : IsPart g v c := by
  have hcn : c.Nodup := hp.nodup_iff.2 hn
  refine ⟨?_, fun w => ?_⟩
  · refine (List.Pairwise.and hs hcn).imp ?_
    rintro a b ⟨h1, h2⟩
    have : a ≠ b := h2
    omega
  · rw [hp.mem_iff, hL]
    exact ⟨fun hr => ⟨h.reach hv hr, hr⟩, fun hr => hr.2⟩

/-- Seen from the first vertices. -/
def Seen (g : Gr) (k : Nat) (w : Int) : Prop := ∃ u ∈ g.vs.take k, Reach g.es u w
theorem take_lt {l : List Int} (h : l.Pairwise (· < ·)) {k : Nat} (hk : k < l.length) {u : Int} : u ∈ l.take k ↔ u ∈ l ∧ u < l.getD k 0 := by
  rw [getD_lt _ _ hk]
  constructor
  · intro hu
    obtain ⟨j, hj, rfl⟩ := List.getElem_of_mem hu
    rw [List.length_take] at hj
    rw [List.getElem_take]
    exact ⟨List.getElem_mem _, List.pairwise_iff_getElem.1 h j k (by omega) hk (by omega)⟩
  · rintro ⟨hu, hlt⟩
    obtain ⟨j, hj, rfl⟩ := List.getElem_of_mem hu
    have hjk : j < k := by
      rcases Nat.lt_trichotomy j k with h1 | h1 | h1
      · exact h1
      · subst h1; omega
      · have := List.pairwise_iff_getElem.1 h k j hk hj h1; omega
    rw [List.mem_take_iff_getElem]
    exact ⟨j, by omega, rfl⟩
theorem Seen.reach {g : Gr} {k : Nat} {u w : Int} (h : Seen g k u) (hr : Reach g.es u w) : Seen g k w := by
  obtain ⟨x, hx, hy⟩ := h
  exact ⟨x, hx, hy.trans hr⟩
theorem seen_succ {g : Gr} {k : Nat} (hk : k < g.vs.length) {w : Int} : Seen g (k + 1) w ↔ Seen g k w ∨ Reach g.es (g.vs.getD k 0) w := by
  unfold Seen
  rw [List.take_succ_eq_append_getElem hk, getD_lt _ _ hk]
  constructor
  · rintro ⟨u, hu, hr⟩
    rw [List.mem_append, List.mem_singleton] at hu
    rcases hu with hu | rfl
    · exact .inl ⟨u, hu, hr⟩
    · exact .inr hr
  · rintro (⟨u, hu, hr⟩ | hr)
    · exact ⟨u, List.mem_append_left _ hu, hr⟩
    · exact ⟨_, List.mem_append_right _ (List.mem_singleton.2 rfl), hr⟩
theorem seen_same {g : Gr} {k : Nat} (hk : k < g.vs.length) (hs : Seen g k (g.vs.getD k 0)) {w : Int} : Seen g (k + 1) w ↔ Seen g k w := by
  rw [seen_succ hk]
  exact ⟨fun h => h.elim id hs.reach, .inl⟩

/-- The parts, as they come from the first vertices. -/
inductive PartsTo (g : Gr) : Nat → List (List Int) → Prop
  | zero : PartsTo g 0 []
  | seen {k : Nat} {R : List (List Int)} (h : PartsTo g k R) (hk : k < g.vs.length) (hs : Seen g k (g.vs.getD k 0)) : PartsTo g (k + 1) R
  | lead {k : Nat} {R : List (List Int)} {c : List Int} (h : PartsTo g k R) (hk : k < g.vs.length) (hs : ¬ Seen g k (g.vs.getD k 0)) (hc : IsPart g (g.vs.getD k 0) c) : PartsTo g (k + 1) (R ++ [c])
theorem PartsTo.unique {g : Gr} {k : Nat} {R R' : List (List Int)} (h : PartsTo g k R) (h' : PartsTo g k R') : R = R' := by
  induction h generalizing R' with
  | zero => cases h'; rfl
  | seen _ _ hs ih =>
    cases h' with
    | seen h2 _ _ => exact ih h2
    | lead h2 _ hs2 _ => exact absurd hs hs2
  | lead _ _ hs hc ih =>
    cases h' with
    | seen h2 _ hs2 => exact absurd hs2 hs
    | lead h2 _ _ hc2 => rw [ih h2, hc.unique hc2]
theorem PartsTo.len {g : Gr} {k : Nat} {R : List (List Int)} (h : PartsTo g k R) : R.length ≤ k := by
  induction h with
  | zero => simp
  | seen _ _ _ ih => omega
  | lead _ _ _ _ ih => simp; omega

/-! ### a search -/
structure Srch (g : Gr) (n : Nat) (v : Int) (L : List Int) (k : Nat) : Prop where
  nodup : L.Nodup
  reach : ∀ w ∈ L, Reach g.es v w
  mem : v ∈ L
  done : ∀ u ∈ L.take k, ∀ w ∈ nbr g.es u, w ∈ L
theorem Srch.all {g : Gr} {n : Nat} {v : Int} {L : List Int} (h : Srch g n v L L.length) : ∀ w, w ∈ L ↔ Reach g.es v w := by
  intro w
  refine ⟨h.reach w, fun hr => ?_⟩
  exact hr.closed (L := fun w => w ∈ L) h.mem fun u hu w hw => h.done u (by rw [List.take_length]; exact hu) w hw
theorem Srch.sub {g : Gr} (hg : Good g) {n : Nat} {v : Int} {L : List Int} {k : Nat} (h : Srch g n v L k) (hv : v ∈ g.vs) : L.length ≤ g.vs.length := by
  exact List.Nodup.length_le_of_subset h.nodup fun w hw => hg.reach hv (h.reach w hw)

end Go.Proofs.Ytphdhggoaijfoaa.Aw
