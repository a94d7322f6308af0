/- Arrays of two numbers in memory: an element at a number that is not written out. Over any program; no condition. -/
import Derived.Test.YtoklmbhhoefgpaaReg
import Derived.Test.YtoklmbhhoefgpaaDefs
namespace Go.Proofs.Ytoklmbhhoefgpaa
open Go.RowKit
set_option linter.unusedSimpArgs false
set_option linter.unusedVariables false
theorem eqP2_refl (x : P2) : eqP2 x x = true := by simp [eqP2]
end Go.Proofs.Ytoklmbhhoefgpaa
