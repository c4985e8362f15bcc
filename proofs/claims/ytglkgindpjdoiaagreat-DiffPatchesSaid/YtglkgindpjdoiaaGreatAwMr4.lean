/- Ranging over a map: the rule for the loop. No program is named here. -/
import Derived.Test.YtglkgindpjdoiaaGreatAwMr3
namespace Go.Proofs.YtglkgindpjdoiaaGreat.Aw
open Go Go.RowKit
set_option linter.unusedSimpArgs false
set_option linter.unusedVariables false
open Go.ChangeMaps (setBlock)
section
variable {P:Program} {T:Tab} {N:Nat} {Q:AQ} {k:List AItem}
end
end Go.Proofs.YtglkgindpjdoiaaGreat.Aw
