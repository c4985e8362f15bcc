/- Plain lists of numbers: places, least ones, turns. No program. -/
namespace Go.Proofs.Ytphdhggoaijfoaa.Pl

/-- The first place of a number; -1. -/
def gi (l : List Int) (x : Int) : Int := if x ∈ l then (l.idxOf x : Int) else -1

theorem gi_some {l : List Int} {x : Int} {k : Nat} (hk : k < l.length) (h : l[k] = x) (hn : ∀ j (hj : j < k), l[j]'(by omega) ≠ x) : gi l x = k := by
  have hm : x ∈ l := by rw [← h]; exact List.getElem_mem hk
  unfold gi
  rw [if_pos hm]
  congr 1
  have h1 : l.idxOf x < l.length := List.idxOf_lt_length_of_mem hm
  have h2 : l[l.idxOf x] = x := List.getElem_idxOf h1
  rcases Nat.lt_trichotomy (l.idxOf x) k with h3 | h3 | h3
  · exact absurd h2 (hn _ h3)
  · exact h3
  · have := List.not_of_lt_findIdx (p := fun y => y == x) (xs := l) (i := k) (by simpa [List.idxOf] using h3)
    simp [h] at this

theorem gi_none {l : List Int} {x : Int} (hn : ∀ j (hj : j < l.length), l[j] ≠ x) : gi l x = -1 := by
  unfold gi
  rw [if_neg]
  intro hm
  obtain ⟨j, hj, h⟩ := List.getElem_of_mem hm
  exact hn j hj h

theorem gi_lt (l : List Int) (x : Int) : -1 ≤ gi l x ∧ gi l x < l.length := by
  unfold gi
  split
  · rename_i h
    have := List.idxOf_lt_length_of_mem h
    omega
  · omega

theorem gi_neg (l : List Int) (x : Int) : gi l x < 0 ↔ x ∉ l := by
  unfold gi
  split
  · rename_i h; simp [h]
  · rename_i h; simp [h]

/-- The least one. -/
def mn : List Int → Int
  | [] => 0
  | x :: l => l.foldl (fun a b => if b < a then b else a) x

theorem foldl_min_le (l : List Int) : ∀ a : Int, l.foldl (fun a b => if b < a then b else a) a ≤ a ∧ (∀ x ∈ l, l.foldl (fun a b => if b < a then b else a) a ≤ x) ∧ (l.foldl (fun a b => if b < a then b else a) a = a ∨ l.foldl (fun a b => if b < a then b else a) a ∈ l) := by
  induction l with
  | nil => intro a; simp
  | cons b l ih =>
    intro a
    simp only [List.foldl_cons]
    obtain ⟨h1, h2, h3⟩ := ih (if b < a then b else a)
    have c1 : (if b < a then b else a) ≤ a := by split <;> omega
    have c2 : (if b < a then b else a) ≤ b := by split <;> omega
    refine ⟨Int.le_trans h1 c1, ?_, ?_⟩
    · intro x hx
      rcases List.mem_cons.1 hx with rfl | hx
      · exact Int.le_trans h1 c2
      · exact h2 x hx
    · rcases h3 with h3 | h3
      · rw [h3]
        split
        · right; simp
        · left; rfl
      · right; simp [h3]

theorem mn_le {l : List Int} {x : Int} (hx : x ∈ l) : mn l ≤ x := by
  cases l with
  | nil => simp at hx
  | cons a l =>
    obtain ⟨h1, h2, _⟩ := foldl_min_le l a
    rcases List.mem_cons.1 hx with rfl | hx
    · exact h1
    · exact h2 x hx
theorem mn_mem {l : List Int} (h : l ≠ []) : mn l ∈ l := by
  cases l with
  | nil => exact absurd rfl h
  | cons a l =>
    obtain ⟨_, _, h3⟩ := foldl_min_le l a
    rcases h3 with h3 | h3
    · simp only [mn]; rw [h3]; simp
    · simp only [mn]; exact List.mem_cons_of_mem _ h3
theorem mn_eq {l : List Int} {m : Int} (hm : m ∈ l) (h : ∀ x ∈ l, m ≤ x) : mn l = m := by
  have h1 := mn_le hm
  have h2 := h _ (mn_mem (List.ne_nil_of_mem hm))
  omega

theorem mn_append (l : List Int) (x : Int) (h : l ≠ []) : mn (l ++ [x]) = if x < mn l then x else mn l := by
  cases l with
  | nil => exact absurd rfl h
  | cons a l => rw [List.cons_append, mn, List.foldl_append]; rfl
theorem mn_take (l : List Int) (k : Nat) (h0 : 0 < k) (hk : k < l.length) : mn (l.take (k + 1)) = if l[k] < mn (l.take k) then l[k] else mn (l.take k) := by
  rw [List.take_succ_eq_append_getElem hk, mn_append]
  intro h
  have := congrArg List.length h
  rw [List.length_take, List.length_nil] at this
  omega
/-- From a place on. -/
def rt (l : List Int) (k : Nat) : List Int := l.drop k ++ l.take k
/-- The turn told normally. -/
def nrm (l : List Int) : List Int := rt l (l.idxOf (mn l))

theorem rt_length (l : List Int) (k : Nat) : (rt l k).length = l.length := by simp [rt]; omega
theorem nrm_length (l : List Int) : (nrm l).length = l.length := rt_length _ _
theorem rt_mem (l : List Int) (k : Nat) (x : Int) : x ∈ rt l k ↔ x ∈ l := by
  unfold rt
  rw [List.mem_append, or_comm, ← List.mem_append, List.take_append_drop]
theorem nrm_mem (l : List Int) (x : Int) : x ∈ nrm l ↔ x ∈ l := rt_mem _ _ _
theorem rt_get (l : List Int) (k i : Nat) (hk : k ≤ l.length) (hi : i < l.length) : (rt l k)[i]'(by rw [rt_length]; exact hi) = l[(k + i) % l.length]'(Nat.mod_lt _ (by omega)) := by
  unfold rt
  by_cases h : i < l.length - k
  · rw [List.getElem_append_left (by simpa using h)]
    simp only [List.getElem_drop]
    congr 1
    rw [Nat.mod_eq_of_lt (by omega)]
  · rw [List.getElem_append_right (by simp; omega)]
    simp only [List.getElem_take, List.length_drop]
    congr 1
    rw [Nat.mod_eq_sub_mod (by omega), Nat.mod_eq_of_lt (by omega)]
    omega
theorem nrm_get (l : List Int) (i : Nat) (hi : i < l.length) : (nrm l)[i]'(by rw [nrm_length]; exact hi) = l[(l.idxOf (mn l) + i) % l.length]'(Nat.mod_lt _ (by omega)) :=
  rt_get l _ i List.idxOf_le_length hi

end Go.Proofs.Ytphdhggoaijfoaa.Pl
