/- Calls of the closed run works, run by the kernel. -/
import Derived.Test.YtepohnlmekfnoaaGreatDoorRunC
import Derived.KernelRfl
set_option maxRecDepth 100000
namespace Go.Eng
open Go Go.Proofs
theorem ran8_ : chkO (tabW []) (exec (tabW []) 100000) 53 w8 = true := by kernel_rfl
end Go.Eng
