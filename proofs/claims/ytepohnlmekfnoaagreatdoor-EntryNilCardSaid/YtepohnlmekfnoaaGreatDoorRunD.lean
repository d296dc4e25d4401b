/- Covers at a schema that is not there answers false: run by the kernel. -/
import Derived.Test.YtepohnlmekfnoaaGreatDoorRunC
import Derived.KernelRfl
set_option maxRecDepth 100000
namespace Go.Eng
open Go Go.Proofs
theorem ran54 : chkO (tabW []) (exec (tabW []) 100000) 54 v4 = true := by kernel_rfl
end Go.Eng
