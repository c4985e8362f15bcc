/- A map held against nil. No program is named here. -/
import Derived.Test.YtjpnhjembncdkaaGreatAwMr4
namespace Go.Proofs.YtjpnhjembncdkaaGreat.Aw
open Go Go.RowKit
set_option linter.unusedSimpArgs false
set_option linter.unusedVariables false

theorem run_mapNil {P : Program} {w : World} {t : TypeId} {k e : TypeId} (ht : P.underlying t = some (.map k e)) (A : Option Nat) (x y : Operand) :
    (do eqGuard .eql t x y (.map A) (.map none); binOp .eql t (.map A) (.map none) : Sem Value).run P w = .ok (.bool A.isNone) w := by
  have hd : ∀ d, (Op.equalIn (d + 1) t (.map A) (.map none)).run P w = .ok A.isNone w := by
    intro d
    cases A <;> simp [Op.equalIn, run_underlying ht]
  have he : (Op.equal t (.map A) (.map none)).run P w = .ok A.isNone w := hd 9999
  unfold eqGuard
  simp [binOp, he]

section
variable {P : Program} {N : Nat} {Q : AQ} {fr : Frm} {st : St} {ra tx tm td : Nat} {ty ty2 kt et y1 y2 : TypeId} {p1 p2 : String} {f1 f2 : Array Edge}
theorem awp_mapNil (x : LV) (A : Bool) (hx : fr tx = x) (hA : ∀ (w : World) (g : G) (v : Value), Rep w g x v → ∃ B : Option Nat, v = .map B ∧ B.isNone = A) (hu : P.underlying ty = some (.map kt et)) (h : Q .normal (upd (upd fr tm x) td (.atom (.bool A))) st) (htm : tm < N := by decide) (htd : td < N := by decide) :
    AWp P N (.region ra #[⟨some tm, .move (.tmp tx), y1, p1, f1, none⟩, ⟨some td, .binOp .eql ty (.tmp tm) (.const (.map none)) ty2, y2, p2, f2, none⟩] false) Q fr st := by
  intro a w g hi hr hsz hdf
  have hv := rep_eval hr (.tmp tx)
  simp only [evalL, hx] at hv
  obtain ⟨B, hB, rfl⟩ := hA w g _ hv
  refine wp_region_list ?_
  refine wpList_one rfl (v := .map B) (w' := w) (by simp [execOp, hB]) ?_
  have hs1 : tm < a.tmps.size := by omega
  refine wpList_one rfl (v := .bool B.isNone) (w' := w) ?_ ?_
  · have hrun := run_mapNil (P := P) (w := w) hu B (.tmp tm) (.const (.map none))
    have e1 : (a.put (some tm) (.map B)).eval (.tmp tm) = .map B := eval_put a hs1 _
    have e2 : (a.put (some tm) (.map B)).eval (.const (.map none)) = .map none := rfl
    simp only [execOp, e1, e2]
    rw [Sem.run_bind, hrun]
    simp
  refine wpList_nil ?_
  rw [hB] at hv
  have hs2 : td < (a.put (some tm) (.map B)).tmps.size := by rw [put_size]; omega
  exact ⟨_, st, g, h, hi, (hr.put hs1 hv).put hs2 (by simp only [Rep]), by rw [put_size, put_size]; exact hsz, by rw [put_defers, put_defers]; exact hdf, Ext.refl w g⟩
theorem mp_notNil (m : Nat) : ∀ (w : World) (g : G) (v : Value), Rep w g (.mp m) v → ∃ B : Option Nat, v = .map B ∧ B.isNone = false := fun w g v h => by
  simp only [Rep] at h
  exact ⟨_, h.1, rfl⟩
end

end Go.Proofs.YtjpnhjembncdkaaGreat.Aw
