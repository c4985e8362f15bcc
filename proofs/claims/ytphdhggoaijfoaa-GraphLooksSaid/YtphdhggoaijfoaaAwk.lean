/- What each chapter's example answers. -/
import Derived.Test.YtphdhggoaijfoaaAwFn
import Derived.Test.YtphdhggoaijfoaaRgA
namespace Go.Proofs.Ytphdhggoaijfoaa.Aw
open Go Go.RowKit
set_option linter.unusedSimpArgs false
set_option linter.unusedVariables false
theorem awake09 (st : St) : ACalls Try.prog 30 [] st fun r st' => r = bb true ∧ st' = st :=
  acalls_closed tabOk fnsOk prim_ok mixed 1000000 true (by kernel_rfl)
theorem awake10 (st : St) : ACalls Try.prog 53 [] st fun r st' => r = bb true ∧ st' = st :=
  acalls_closed tabOk fnsOk prim_ok mixed 1000000 true (by kernel_rfl)
theorem awake18 (st : St) : ACalls Try.prog 43 [] st fun r st' => r = bb true ∧ st' = st :=
  acalls_closed tabOk fnsOk prim_ok mixed 1000000 true (by kernel_rfl)
end Go.Proofs.Ytphdhggoaijfoaa.Aw
