/- Rows within a value, a call's argument or its answer, that are written no more. No program is named here. -/
import Derived.Test.YtempldclppogmaaGreatDoorAwLd
set_option linter.unusedVariables false
set_option linter.unusedSimpArgs false
namespace Go.Proofs.YtempldclppogmaaGreatDoor
namespace Aw
open Go Go.RowKit
variable {P:Program}
end Aw
end Go.Proofs.YtempldclppogmaaGreatDoor
