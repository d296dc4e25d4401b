/- Calls of the closed run works, run by the kernel. -/
import Derived.Test.YtepohnlmekfnoaaGreatDoorRunC
import Derived.KernelRfl
set_option maxRecDepth 100000
namespace Go.Eng
open Go Go.Proofs
theorem ran12_ : chkO (tabW [(35, w10), (53, w11)]) (exec (tabW [(35, w10), (53, w11)]) 100000) 24 w12 = true := by kernel_rfl
end Go.Eng
