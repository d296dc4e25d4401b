/- Calls of the closed run works, run by the kernel. -/
import Derived.Test.YtepohnlmekfnoaaGreatDoorRunC
import Derived.KernelRfl
set_option maxRecDepth 100000
namespace Go.Eng
open Go Go.Proofs
theorem ran0_ : chkO (tabW []) (exec (tabW []) 100000) 58 w0 = true := by kernel_rfl
theorem ran2_ : chkO (tabW []) (exec (tabW []) 100000) 59 w2 = true := by kernel_rfl
theorem ran3_ : chkO (tabW [(58, w0), (58, w1), (59, w2)]) (exec (tabW [(58, w0), (58, w1), (59, w2)]) 100000) 28 w3 = true := by kernel_rfl
theorem ran5_ : chkO (tabW [(51, w4)]) (exec (tabW [(51, w4)]) 100000) 35 w5 = true := by kernel_rfl
end Go.Eng
