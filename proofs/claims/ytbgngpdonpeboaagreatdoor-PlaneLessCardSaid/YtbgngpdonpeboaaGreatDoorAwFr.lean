/- Rows within a value, a call's argument or its answer, that are written no more. No program is named here. -/
import Derived.Test.YtbgngpdonpeboaaGreatDoorAwLd
set_option linter.defProp false
set_option linter.unusedVariables false
set_option linter.unusedSimpArgs false
namespace Go.Proofs.YtbgngpdonpeboaaGreatDoor
namespace Aw
open Go Go.RowKit
variable {P:Program}
end Aw
end Go.Proofs.YtbgngpdonpeboaaGreatDoor
