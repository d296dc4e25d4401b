/- The closed run works, put together of its proved calls. -/
import Derived.Test.YtepohnlmekfnoaaGreatDoorRunF0
import Derived.Test.YtepohnlmekfnoaaGreatDoorRunF1
import Derived.Test.YtepohnlmekfnoaaGreatDoorRunF2
import Derived.Test.YtepohnlmekfnoaaGreatDoorRunF3
import Derived.Test.YtepohnlmekfnoaaGreatDoorRunF4
import Derived.Test.YtepohnlmekfnoaaGreatDoorRunF5
import Derived.Test.YtepohnlmekfnoaaGreatDoorRunF6
import Derived.Test.YtepohnlmekfnoaaGreatDoorRunF7
set_option maxRecDepth 100000
namespace Go.Eng
open Go Go.Proofs
theorem okW0 : OkW 58 w0 := okW ran0_ trivial
theorem okW1 : OkW 58 w1 := okW ran1_ trivial
theorem okW2 : OkW 59 w2 := okW ran2_ trivial
theorem okW3 : OkW 28 w3 := okW ran3_ ⟨okW0, okW1, okW2, trivial⟩
theorem okW4 : OkW 51 w4 := okW ran4_ trivial
theorem okW5 : OkW 35 w5 := okW ran5_ ⟨okW4, trivial⟩
theorem okW6 : OkW 51 w6 := okW ran6_ trivial
theorem okW7 : OkW 35 w7 := okW ran7_ ⟨okW6, trivial⟩
theorem okW8 : OkW 53 w8 := okW ran8_ trivial
theorem okW9 : OkW 51 w9 := okW ran9_ trivial
theorem okW10 : OkW 35 w10 := okW ran10_ ⟨okW9, trivial⟩
theorem okW11 : OkW 53 w11 := okW ran11_ trivial
theorem okW12 : OkW 24 w12 := okW ran12_ ⟨okW10, okW11, trivial⟩
theorem okW13 : OkW 26 w13 := okW ran13_ trivial
theorem okW14 : OkW 26 w14 := okW ran14_ trivial
theorem okW15 : OkW 55 w15 := okW ran15_ trivial
theorem okW16 : OkW 26 w16 := okW ran16_ trivial
theorem okW17 : OkW 55 w17 := okW ran17_ trivial
theorem okW18 : OkW 9 w18 := okW ran18_ ⟨okW3, okW5, okW7, okW8, okW12, okW13, okW14, okW15, okW16, okW17, trivial⟩
end Go.Eng
