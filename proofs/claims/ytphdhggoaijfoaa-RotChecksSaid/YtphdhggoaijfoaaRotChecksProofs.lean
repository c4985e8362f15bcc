/-
  Proved: whatever the input, the law RotChecks returns true (the statement Rows.RotChecksSaid), with no condition beyond the statement's own.
  (The shell is written by a program, after the kit's proof-skeleton.mjs; the walk is by the contracts of the imported texts.)
-/
import Derived.Test.YtphdhggoaijfoaaRows
import Derived.WalkKit
import Derived.ProofKit
import Derived.OpenShut
import Derived.ChangeOld
import Derived.Below
import Derived.Carry
import Derived.Test.YtphdhggoaijfoaaAwArg
import Derived.Test.YtphdhggoaijfoaaJg
namespace Go.Proofs.Ytphdhggoaijfoaa.rotChecks
open Go.ChangeShapes Go.WideShapes Go.ChangeAt Go.RowKit
set_option linter.unusedVariables false

theorem own : ownKnob Try.prog.godebug = none := by kernel_rfl
theorem laidOut : laidOutB Try.prog = true := by kernel_rfl

theorem walk (l0 : List Aw.LV) (v0 : Value) (w : World) (s0 : Aw.Shp Aw.tab 71 l0) (r0 : Aw.Rep w Aw.g0 (Aw.argT Aw.tab 71 l0) v0) :
    Calls Try.prog 11 #[v0] w fun e w' => e = .returned (.bool true) ∧ Below w.heap.size w w' := by
  have h := Aw.calls_of_acalls (P := Try.prog) (w := w) (R := fun v => v = .bool true) (args := [Aw.argT Aw.tab 71 l0]) (vs := [v0]) (f := 11) (by simp only [Aw.RepL]; exact ⟨_, _, rfl, r0, rfl⟩)
    ((Aw.RotChecks_shp l0 ⟨1, fun _ => .dead⟩ s0).mono fun r st' h => ⟨_, h, rfl⟩)
  exact h.mono fun e w' h => ⟨by obtain ⟨v, rfl, rfl⟩ := h.1; rfl, h.2⟩

set_option maxRecDepth 100000 in
theorem lifted (os : Os) (started : os.Started) (H : Type) (enc : TypeId × Value → H) :
    ReturnsInHanded {} Try.checked os 11 .any (Rows.rotChecksSpec.pre6 enc Try.prog Try.f11 Rows.rotChecksRow.domain false) (Rows.rotChecksSpec.post enc Try.prog Try.f11 false true false false) := by
  refine returnsInHanded_of_change (C := Try.checked) own started (by kernel_rfl) Try.func11
    (ChangeSpec.witness6 (enc := enc) (C := Try.checked) false ⟨#[], #[.agg #[.slice none 0 0, .slice none 0 0, .slice none 0 0]], []⟩ 8 (by kernel_rfl) (by kernel_rfl) (by kernel_rfl) (by kernel_rfl)) ?_
  intro W base args ds gs before hval0 hW hcnd _
  have hval : ∀ (j : Nat) t v, Try.f11.params[j]? = some t → args[j]? = some v → Value.okWide Try.prog W .any base t v := hval0
  have hW' := hW
  obtain ⟨p, q, hA0, hV, rfl, hfz, hnd⟩ := hW
  have hA : DataW.TrodAll enc Try.prog W 0 (fun _ => true) true Try.f11.params.toList args.toList ds p := hA0
  rw [Try.params11] at hA hval
  obtain ⟨v0, vs0, d0, ds0, p0, q0, hargs, rfl, rfl, h0, r0⟩ := trodAll_cons hA
  obtain ⟨rfl, rfl, rfl⟩ := trodAll_nil r0
  obtain rfl : args = #[v0] := by cases args; simp_all
  obtain ⟨rfl, rfl⟩ := trodVars_none hV
  have lt0 : ∀ x ∈ p0, x.block < W.heap.size := by obtain ⟨m, hm⟩ := h0; exact DataW.trod_lt m _ _ _ hm
  obtain ⟨l0, s0, e0⟩ := Aw.arg_rep (P := Try.prog) (d := 9) Aw.tabOk (t := 71) rfl (by kernel_rfl) (hval 0 71 v0 rfl rfl) h0 ⟨fun _ => ⟨_, rfl⟩, fun _ => rfl⟩
  clear hA0 hval0
  refine (walk l0 v0 W s0 e0).mono fun e W' ⟨he, bel⟩ => ?_
  subst he
  exact ⟨_, rfl, _, _, _, [], _, [], hW', trodAll_mk1 (shut_bool Try.underlying4 _), (trodAll_cons_mk (Below.trod laidOut (by kernel_rfl) (of_decide_eq_true (by kernel_rfl)) h0 bel lt0) trodAll_mk0), rfl, bel.frame _, fun h => by cases h⟩

theorem over : Rows.rotChecksRow.holds Try.pinned (OpenSpec.ofChange Rows.rotChecksSpec) :=
  OpenClaim.holds_of_wide 11 Try.f11 rfl rfl rfl rfl rfl rfl rfl ⟨rfl, rfl, rfl, rfl, rfl⟩ rfl rfl rfl rfl rfl (by kernel_rfl) Try.func11 (by kernel_rfl)
    (of_decide_eq_true (by kernel_rfl)) (by unfold Func.isWrapper; first | (rw [if_pos (by decide +kernel)]; kernel_rfl) | (rw [if_neg (by decide +kernel)]; exact ⟨rfl, rfl⟩))
    (fun os started H enc _ => lifted os started H enc)

/-- ████ THE STATEMENT ████ -/
theorem proved : Rows.RotChecksSaid := over
#print axioms proved
end Go.Proofs.Ytphdhggoaijfoaa.rotChecks
