/- Calls of the closed run works, run by the kernel. -/
import Derived.Test.YtepohnlmekfnoaaGreatDoorRunC
import Derived.KernelRfl
set_option maxRecDepth 100000
namespace Go.Eng
open Go Go.Proofs
theorem ran11_ : chkO (tabW []) (exec (tabW []) 100000) 53 w11 = true := by kernel_rfl
theorem ran13_ : chkO (tabW []) (exec (tabW []) 100000) 26 w13 = true := by kernel_rfl
theorem ran14_ : chkO (tabW []) (exec (tabW []) 100000) 26 w14 = true := by kernel_rfl
theorem ran15_ : chkO (tabW []) (exec (tabW []) 100000) 55 w15 = true := by kernel_rfl
end Go.Eng
