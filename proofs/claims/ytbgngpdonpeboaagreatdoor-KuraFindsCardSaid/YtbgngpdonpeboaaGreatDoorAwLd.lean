/- Lemmas. -/
import Derived.Test.YtbgngpdonpeboaaGreatDoorAwTd
import Derived.Test.YtbgngpdonpeboaaGreatDoorAwMr
set_option linter.defProp false
namespace Go.Proofs.YtbgngpdonpeboaaGreatDoor
namespace Aw
open Go Go.RowKit
variable {P:Program}
end Aw
end Go.Proofs.YtbgngpdonpeboaaGreatDoor
