/- Ranging over a map: the rule. No program is named here. -/
import Derived.Test.YtplnodgkmbajiaaGreatAwMr
namespace Go.Proofs.YtplnodgkmbajiaaGreat.Aw
open Go Go.RowKit
set_option linter.unusedSimpArgs false
set_option linter.unusedVariables false
open Go.ChangeMaps (setBlock)
end Go.Proofs.YtplnodgkmbajiaaGreat.Aw
