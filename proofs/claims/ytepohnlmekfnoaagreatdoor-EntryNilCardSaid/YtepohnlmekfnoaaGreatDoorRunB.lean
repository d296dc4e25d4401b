/- The functions without a body that the closed run reaches are as the evaluator has them. -/
import Derived.Test.YtepohnlmekfnoaaGreatDoorEngD
import Derived.Test.YtepohnlmekfnoaaGreatDoorProg
import Derived.KernelRfl
namespace Go.Eng
open Go Go.Proofs
set_option maxRecDepth 100000
noncomputable def xt : Nat → Option (List AV → Hp → Option AV) := fun f => cond (Nat.beq f 166) (some fun a _ => xCount a) (cond (Nat.beq f 271) (some fun a _ => xIndex a) (cond (Nat.beq f 220) (some fun a _ => xCmp a) (cond (Nat.beq f 158) (some xOver) none)))
theorem x166 : ExtOk Tryz.prog 166 fun a _ => xCount a := ext_count Tryz.func166 (by kernel_rfl) (by kernel_rfl) (by kernel_rfl) rfl
theorem x271 : ExtOk Tryz.prog 271 fun a _ => xIndex a := ext_index Tryz.func271 (by kernel_rfl) (by kernel_rfl) (by kernel_rfl) rfl
theorem x220 : ExtOk Tryz.prog 220 fun a _ => xCmp a := ext_cmp Tryz.func220 (by kernel_rfl) (by kernel_rfl) (by kernel_rfl) rfl
theorem x158 : ExtOk Tryz.prog 158 xOver := ext_over (tS := 40) (tR := 4) (e := 9) (sz := 1) Tryz.func158 (by kernel_rfl) (by kernel_rfl) (by kernel_rfl) rfl Tryz.underlying40 (fun w => by kernel_rfl)
theorem xt_ok : ∀ f g, xt f = some g → ExtOk Tryz.prog f g := by
  intro f g h
  unfold xt at h
  cases h1 : Nat.beq f 166 with
  | true => rw [h1] at h; obtain rfl := Option.some.inj h; rw [natBeq.1 h1]; exact x166
  | false =>
    rw [h1] at h
    cases h2 : Nat.beq f 271 with
    | true => rw [h2] at h; obtain rfl := Option.some.inj h; rw [natBeq.1 h2]; exact x271
    | false =>
      rw [h2] at h
      cases h3 : Nat.beq f 220 with
      | true => rw [h3] at h; obtain rfl := Option.some.inj h; rw [natBeq.1 h3]; exact x220
      | false =>
        rw [h3] at h
        cases h4 : Nat.beq f 158 with
        | true => rw [h4] at h; obtain rfl := Option.some.inj h; rw [natBeq.1 h4]; exact x158
        | false => rw [h4] at h; cases h
theorem mixed : Tryz.prog.follows .mixedOrders = true := by kernel_rfl
end Go.Eng
