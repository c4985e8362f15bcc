/- The law DualNil: a closed call. -/
import Derived.Test.YtphdhggoaijfoaaGreatAwFn
import Derived.Test.YtphdhggoaijfoaaGreatRgA
namespace Go.Proofs.YtphdhggoaijfoaaGreat.Aw
open Go Go.RowKit
set_option linter.unusedSimpArgs false
set_option linter.unusedVariables false
theorem DualNil_shp (st : St) : ACalls Tryz.prog 7 [] st fun r st' => r = bb true :=
  (acalls_closed tabOk fnsOk prim_ok mixed 1000000 true (by kernel_rfl)).mono fun _ _ h => h.1
end Go.Proofs.YtphdhggoaijfoaaGreat.Aw
