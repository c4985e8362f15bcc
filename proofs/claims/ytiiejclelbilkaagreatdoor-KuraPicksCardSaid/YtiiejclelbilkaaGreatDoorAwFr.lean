/- Rows within a value, a call's argument or its answer, that are written no more. No program is named here. -/
import Derived.Test.YtiiejclelbilkaaGreatDoorAwLd
namespace Go.Proofs.YtiiejclelbilkaaGreatDoor.Aw
open Go Go.RowKit
set_option linter.unusedSimpArgs false
set_option linter.unusedVariables false
variable {P:Program}
end Go.Proofs.YtiiejclelbilkaaGreatDoor.Aw
