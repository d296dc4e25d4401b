/- Calls of the closed run works, run by the kernel. -/
import Derived.Test.YtepohnlmekfnoaaGreatDoorRunC
import Derived.KernelRfl
set_option maxRecDepth 100000
namespace Go.Eng
open Go Go.Proofs
theorem ran6_ : chkO (tabW []) (exec (tabW []) 100000) 51 w6 = true := by kernel_rfl
theorem ran7_ : chkO (tabW [(51, w6)]) (exec (tabW [(51, w6)]) 100000) 35 w7 = true := by kernel_rfl
theorem ran9_ : chkO (tabW []) (exec (tabW []) 100000) 51 w9 = true := by kernel_rfl
theorem ran10_ : chkO (tabW [(51, w9)]) (exec (tabW [(51, w9)]) 100000) 35 w10 = true := by kernel_rfl
end Go.Eng
