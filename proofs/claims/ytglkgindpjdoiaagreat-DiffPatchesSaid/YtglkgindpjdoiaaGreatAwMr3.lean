/- Ranging over a map: the rule for the loop. No program is named here. -/
import Derived.Test.YtglkgindpjdoiaaGreatAwMr2
namespace Go.Proofs.YtglkgindpjdoiaaGreat.Aw
open Go Go.RowKit
set_option linter.unusedSimpArgs false
set_option linter.unusedVariables false
open Go.ChangeMaps (setBlock)
end Go.Proofs.YtglkgindpjdoiaaGreat.Aw
