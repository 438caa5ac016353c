/- The reading of the functions, printed by program (decomp.py); each equation is checked by the kernel. -/
import Derived.Test.YtokppocbfpjngaaFns1
import Derived.Test.YtokppocbfpjngaaFns2
import Derived.Test.YtokppocbfpjngaaFns3
import Derived.KernelRfl
set_option linter.unusedVariables false
namespace Go.Proofs.Ytokppocbfpjngaa
open Go Go.Sh Go.Proofs
end Go.Proofs.Ytokppocbfpjngaa
