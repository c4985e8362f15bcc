/- A map held against nil. No program is named here. -/
import Derived.Test.YtbgngpdonpeboaaGreatDoorAwMr4
set_option linter.defProp false
set_option linter.unusedVariables false
set_option linter.unusedSimpArgs false
namespace Go.Proofs.YtbgngpdonpeboaaGreatDoor
namespace Aw
open Go Go.RowKit
section
variable {P:Program} {N:Nat} {Q:AQ} {fr:af} {st:St} {ra tx tm td:Nat} {ty ty2 kt et y1 y2:TypeId} {p1 p2:String} {f1 f2:Array Edge}
end
end Aw
end Go.Proofs.YtbgngpdonpeboaaGreatDoor
