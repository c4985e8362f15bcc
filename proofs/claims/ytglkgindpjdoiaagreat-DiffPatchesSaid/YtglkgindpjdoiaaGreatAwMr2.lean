/- Ranging over a map: the rule. No program is named here. -/
import Derived.Test.YtglkgindpjdoiaaGreatAwMr
namespace Go.Proofs.YtglkgindpjdoiaaGreat.Aw
open Go Go.RowKit
set_option linter.unusedSimpArgs false
set_option linter.unusedVariables false
open Go.ChangeMaps (setBlock)
end Go.Proofs.YtglkgindpjdoiaaGreat.Aw
