/- The seat's own types, read as data. No conditions. -/
import Derived.Test.YthhdihnaicggiaaDRd
import Derived.Test.YthhdihnaicggiaaDP0
import Derived.KernelRfl
namespace Go.Proofs.Ythhdihnaicggiaa.D
open Go.Proofs.YthhdihnaicggiaaR Go.Proofs.YthhdihnaicggiaaW.PrintWords
set_option linter.unusedVariables false
end Go.Proofs.Ythhdihnaicggiaa.D
