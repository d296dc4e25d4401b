/- EntryNil run by the kernel, its calls of Values and works by what is proved of them. -/
import Derived.Test.YtepohnlmekfnoaaGreatDoorRunC
import Derived.KernelRfl
set_option maxRecDepth 100000
namespace Go.Eng
open Go Go.Proofs
theorem ran7 : chkO (tabW [(26, v0), (26, v1), (9, v2)]) (exec (tabW [(26, v0), (26, v1), (9, v2)]) 100000) 7 v3 = true := by kernel_rfl
end Go.Eng
