/- Lemmas. -/
import Derived.Test.YtbgngpdonpeboaaGreatDoorAwMr4
set_option linter.defProp false
namespace Go.Proofs.YtbgngpdonpeboaaGreatDoor
namespace Aw
open Go Go.RowKit
section
variable {P:Program} {N:Nat} {Q:AQ} {fr:ah} {st:St} {ra tx tm td:Nat} {ty ty2 kt et y1 y2:TypeId} {p1 p2:String} {f1 f2:Array Edge}
end
end Aw
end Go.Proofs.YtbgngpdonpeboaaGreatDoor
