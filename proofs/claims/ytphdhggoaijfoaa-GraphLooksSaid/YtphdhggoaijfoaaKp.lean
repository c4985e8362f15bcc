/- Rows, tested: the first that fits, what is kept. -/
import Derived.Test.YtphdhggoaijfoaaD3
namespace Go.Proofs.Ytphdhggoaijfoaa.Aw
open Go Go.RowKit Go.Proofs.Ytphdhggoaijfoaa.Pl
set_option linter.unusedSimpArgs false
set_option linter.unusedVariables false

/-- The first place where the test says yes. -/
def fi (l : List Int) (p : Int → Bool) : Int := if l.any p then (l.findIdx p : Int) else -1
theorem fi_some {l : List Int} {p : Int → Bool} {k : Nat} (hk : k < l.length) (h : p (l.getD k 0) = true) (hn : ∀ j, j < k → p (l.getD j 0) = false) : fi l p = k := by
  have hg : ∀ j (hj : j < l.length), l.getD j 0 = l[j] := fun j hj => by rw [List.getD_eq_getElem?_getD, List.getElem?_eq_getElem hj]; rfl
  rw [hg k hk] at h
  unfold fi
  rw [if_pos (List.any_eq_true.2 ⟨_, List.getElem_mem hk, h⟩)]
  congr 1
  refine (List.findIdx_eq hk).2 ⟨h, fun j hj => ?_⟩
  have := hn j hj
  rwa [hg j (by omega)] at this
theorem fi_none {l : List Int} {p : Int → Bool} (hn : ∀ j, j < l.length → p (l.getD j 0) = false) : fi l p = -1 := by
  unfold fi
  rw [if_neg]
  intro h
  obtain ⟨x, hx, hp⟩ := List.any_eq_true.1 h
  obtain ⟨j, hj, rfl⟩ := List.getElem_of_mem hx
  have := hn j hj
  rw [List.getD_eq_getElem?_getD, List.getElem?_eq_getElem hj] at this
  simp [hp] at this

def kept (p : Int → Bool) (l : List Int) : List Int := l.filter fun x => !p x
theorem kept_take (l : List Int) (p : Int → Bool) (k : Nat) (hk : k < l.length) : kept p (l.take (k + 1)) = if p (l.getD k 0) = true then kept p (l.take k) else kept p (l.take k) ++ [l.getD k 0] := by
  rw [show l.take (k + 1) = l.take k ++ [l.getD k 0] by rw [getD_lt _ _ hk]; exact List.take_succ_eq_append_getElem hk]
  unfold kept
  rw [List.filter_append]
  generalize l.getD k 0 = x
  by_cases h : p x = true
  · rw [if_pos h]; simp [h]
  · rw [if_neg h]
    have h : p x = false := by simpa using h
    simp [h]
theorem kept_le (p : Int → Bool) (l : List Int) : (kept p l).length ≤ l.length := List.length_filter_le _ _
theorem fi_lt {l : List Int} {p : Int → Bool} (h : l.any p = true) : fi l p = ((l.findIdx p : Nat) : Int) ∧ l.findIdx p < l.length := by
  unfold fi
  rw [if_pos h]
  obtain ⟨x, hx, hp⟩ := List.any_eq_true.1 h
  exact ⟨rfl, List.findIdx_lt_length_of_exists ⟨x, hx, hp⟩⟩
theorem kept_first (l : List Int) (p : Int → Bool) (h : l.findIdx p < l.length) : kept p (l.take (l.findIdx p + 1)) = l.take (l.findIdx p) := by
  rw [kept_take l p _ h]
  have hg : l.getD (l.findIdx p) 0 = l[l.findIdx p] := by rw [List.getD_eq_getElem?_getD, List.getElem?_eq_getElem h]; rfl
  rw [hg, if_pos (List.findIdx_getElem (w := h))]
  unfold kept
  rw [List.filter_eq_self]
  intro x hx
  obtain ⟨j, hj, rfl⟩ := List.getElem_of_mem hx
  rw [List.length_take] at hj
  rw [List.getElem_take]
  have := List.not_of_lt_findIdx (p := p) (xs := l) (i := j) (by omega)
  simp [this]
theorem kept_none (l : List Int) (p : Int → Bool) (h : l.any p = false) : kept p l = l := by
  unfold kept
  rw [List.filter_eq_self]
  intro x hx
  have := List.any_eq_false.1 h x hx
  simpa using this
theorem set_take (c : List Int) (k : Nat) (x : Int) (hk : k < c.length) : (c.set k x).take (k + 1) = c.take k ++ [x] := by
  rw [List.take_succ_eq_append_getElem (by simpa using hk), List.getElem_set_self]
  rw [List.take_set_of_le (Nat.le_refl _)]
theorem set_drop (c : List Int) (k j : Nat) (x : Int) (h : k ≤ j) : (c.set k x).drop (j + 1) = c.drop (j + 1) := by
  rw [List.drop_set_of_lt (by omega)]

theorem us_set (c : List Int) (k : Nat) (x : Int) (hk : k < c.length) : (us c).take k ++ u x :: (us c).drop (k + 1) = us (c.set k x) := by
  simp only [us]
  rw [← List.map_take, ← List.map_drop, List.set_eq_take_append_cons_drop, if_pos hk]
  simp
theorem St.set_set (st : St) (q : Nat) (a b : LObj) : (st.set q a).set q b = st.set q b := St.ext' rfl fun y => by by_cases hy : y = q <;> simp [hy]

end Go.Proofs.Ytphdhggoaijfoaa.Aw
