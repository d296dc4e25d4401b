/- EntryNil returns true for every input and its arguments read behind the call as they read before: the tied card. Conditions: those of the given row (the listed package variables hold what the text lays). -/
import Derived.Test.YtepohnlmekfnoaaGreatDoorNilRow
import Derived.Test.YtepohnlmekfnoaaGreatDoorCards
import Derived.Test.YtepohnlmekfnoaaGreatDoorTie
import Derived.SevenTiedAt
namespace Go.Proofs.YtepohnlmekfnoaaGreatDoor
open Go
set_option maxRecDepth 100000
theorem nil_card : Rows.EntryNilCardSaid :=
  Claim7.holds_tied_plain_at .later [] [.data, .data, .data, .data, .sentinel, .sentinel, .data, .data, .data, .pinned] true (true, "c7963da583ab182db252628fb5ee99b0c646ec446be7bd1d665f502f8cd40bf6") true
    nil_said (fun _ h => by cases h) (by kernel_rfl) (fun _ h => by cases h) entryNil_row_tie rfl ⟨rfl, rfl⟩ (by kernel_rfl) rfl
    (fun f fn hf hfn => by
      obtain rfl : f = 7 := Option.some.inj ((show Tryz.prog.funcNamed "roster/rosterlaw08.EntryNil" = some 7 by kernel_rfl).symm.trans hf) |>.symm
      obtain rfl : fn = Tryz.f7 := (Option.some.inj (Tryz.func7.symm.trans hfn)).symm
      exact ⟨by kernel_rfl, fun j t ht => by
        rw [Tryz.params7] at ht
        have hm : t ∈ [24, 51, 9] := by simpa using Array.mem_of_getElem? ht
        have hall : ([24, 51, 9].all fun u => !Tryz.prog.wantsStandIn u) = true := by kernel_rfl
        exact (show Tryz.prog.wantsStandIn t = false by simpa using List.all_eq_true.1 hall t hm)⟩)
    (by kernel_rfl)
end Go.Proofs.YtepohnlmekfnoaaGreatDoor
