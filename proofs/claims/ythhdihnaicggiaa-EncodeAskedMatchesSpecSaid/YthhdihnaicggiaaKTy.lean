/- The seat's own types, read as data. No conditions. -/
import Derived.Test.YthhdihnaicggiaaKRd
import Derived.Test.YthhdihnaicggiaaKP0
import Derived.KernelRfl
namespace Go.Proofs.Ythhdihnaicggiaa.K
open Go.Proofs.YthhdihnaicggiaaR Go.Proofs.YthhdihnaicggiaaW.PrintWords
set_option linter.unusedVariables false
end Go.Proofs.Ythhdihnaicggiaa.K
