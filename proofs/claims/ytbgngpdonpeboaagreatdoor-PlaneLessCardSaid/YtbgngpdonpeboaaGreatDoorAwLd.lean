/- Memory lent: a piece of code, or a call, reads what may be written to as mere values; behind it all is as it was. No program is named here. -/
import Derived.Test.YtbgngpdonpeboaaGreatDoorAwTd
import Derived.Test.YtbgngpdonpeboaaGreatDoorAwMr
set_option linter.defProp false
set_option linter.unusedVariables false
set_option linter.unusedSimpArgs false
namespace Go.Proofs.YtbgngpdonpeboaaGreatDoor
namespace Aw
open Go Go.RowKit
variable {P:Program}
end Aw
end Go.Proofs.YtbgngpdonpeboaaGreatDoor
