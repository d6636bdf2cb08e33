/- The seat's own types, read as data. No conditions. -/
import Derived.Test.YthhdihnaicggiaaRd
import Derived.Test.YthhdihnaicggiaaC0
import Derived.KernelRfl
namespace Go.Proofs.Ythhdihnaicggiaa.C
open Go.Proofs.YthhdihnaicggiaaR Go.Proofs.YthhdihnaicggiaaW.PrintWords
set_option linter.unusedVariables false
end Go.Proofs.Ythhdihnaicggiaa.C
