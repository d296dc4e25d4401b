/- EntryNil: the row holds. -/
import Derived.Test.YtepohnlmekfnoaaGreatDoorNilWitness
namespace Go.Proofs.YtepohnlmekfnoaaGreatDoor
open Go Go.Eng Go.Proofs Go.ChangeShapes Go.WideShapes Go.ChangeAt Go.RowKit Go.Deep
set_option maxRecDepth 100000
theorem nil_in_place : (Rows.entryNilRow.inPlace == Tryz.prog.inPlace 7) = true := by kernel_rfl
theorem nil_unfollowed : (Rows.entryNilRow.unfollowed == Tryz.prog.unfollowed 7) = true := by kernel_rfl
theorem nil_recurses : (Rows.entryNilRow.recurses == Tryz.prog.recurses 7) = true := by kernel_rfl
theorem nil_named : (Rows.entryNilRow.named == Tryz.prog.varsNamed 7) = true := by kernel_rfl
theorem nil_facts : joinedFacts Tryz.prog 7 Tryz.f7 Rows.entryNilSpec Rows.entryNilRow = true := by
  unfold joinedFacts
  rw [nil_in_place, nil_unfollowed, nil_recurses, nil_named]
  kernel_rfl
theorem nil_func : Tryz.prog.funcNamed Rows.entryNilRow.func = some 7 := by kernel_rfl
theorem nil_wrap : Tryz.f7.isWrapper Tryz.prog Rows.entryNilRow.wrapper Rows.entryNilRow.mainSum := by
  unfold Func.isWrapper
  first | (rw [if_pos (by decide +kernel)]; kernel_rfl) | (rw [if_neg (by decide +kernel)]; exact ⟨rfl, rfl⟩)
theorem nil_said : Rows.EntryNilSaid :=
  OpenClaim.holds_of_wide 7 Tryz.f7 rfl rfl rfl rfl rfl rfl rfl ⟨rfl, rfl, rfl, rfl, rfl⟩ rfl rfl rfl rfl rfl nil_func Tryz.func7 nil_facts
    (of_decide_eq_true (by kernel_rfl)) nil_wrap
    (fun os started H enc _ => nil_lifted os started H enc)
end Go.Proofs.YtepohnlmekfnoaaGreatDoor
