/- Contracts: copies of slices of sectors, alike, marked. -/
import Derived.Test.YtcdbihgimjlhoaaN0
namespace Go.Proofs.Ytcdbihgimjlhoaa
open Go.RowKit
set_option linter.unusedVariables false
set_option linter.unusedSimpArgs false
set_option maxRecDepth 100000

end Go.Proofs.Ytcdbihgimjlhoaa
