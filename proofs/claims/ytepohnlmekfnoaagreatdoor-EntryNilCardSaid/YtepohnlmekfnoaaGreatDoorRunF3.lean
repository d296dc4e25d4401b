/- Calls of the closed run works, run by the kernel. -/
import Derived.Test.YtepohnlmekfnoaaGreatDoorRunC
import Derived.KernelRfl
set_option maxRecDepth 100000
namespace Go.Eng
open Go Go.Proofs
theorem ran16_ : chkO (tabW []) (exec (tabW []) 100000) 26 w16 = true := by kernel_rfl
theorem ran17_ : chkO (tabW []) (exec (tabW []) 100000) 55 w17 = true := by kernel_rfl
theorem ran18_ : chkO (tabW [(28, w3), (35, w5), (35, w7), (53, w8), (24, w12), (26, w13), (26, w14), (55, w15), (26, w16), (55, w17)]) (exec (tabW [(28, w3), (35, w5), (35, w7), (53, w8), (24, w12), (26, w13), (26, w14), (55, w15), (26, w16), (55, w17)]) 100000) 9 w18 = true := by kernel_rfl
end Go.Eng
