/- Maps: what is set is got. -/
import Derived.Test.YtphdhggoaijfoaaAwShp
namespace Go.Proofs.Ytphdhggoaijfoaa.Aw
open Go Go.RowKit
set_option linter.unusedSimpArgs false
set_option linter.unusedVariables false

theorem mget_mset (es : List (List Int × LV)) (a x : List Int) (v : LV) : mget (mset es a v) x = if x = a then some v else mget es x := by
  induction es with
  | nil =>
    simp only [mset, mget, beq_iff_eq]
  | cons p es ih =>
    by_cases h : a = p.1
    · have : mset (p :: es) a v = (a, v) :: es := by simp [mset, h]
      rw [this]
      simp only [mget, beq_iff_eq]
      by_cases hx : x = a
      · simp [hx]
      · have : ¬ x = p.1 := by rw [← h]; exact hx
        simp [hx, this]
    · have : mset (p :: es) a v = p :: mset es a v := by simp [mset, h]
      rw [this]
      simp only [mget, beq_iff_eq]
      by_cases hx : x = p.1
      · have : ¬ x = a := fun h' => h (by rw [← h', hx])
        rw [if_pos hx, if_neg this, if_pos hx]
      · simp [hx, ih]

end Go.Proofs.Ytphdhggoaijfoaa.Aw
