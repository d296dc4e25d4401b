/-
  DERIVED. GIVEN WITH THE SEED: THE CARDS: each row of YtepohnlmekfnoaaGreatDoorRows.lean that lists a variable, with what it lists TIED to the program's text (the seventh form; the later family's looks); each row that meets fmt, with fmt's text TOLD by the authors' own Lean function (tested against real Go, not proved from fmt's source: count such statements apart). THE CARD IS WHAT COUNTS. Prove the row's statement (the work); the ties are given (YtepohnlmekfnoaaGreatDoorTie.lean); close each card by the builder's one call (the guide's Derived/Test/ToyasCard.lean, 'card_holds'). Laid BY PROGRAM, IN A SANDBOX (cutbox-door.mjs). By AI agents, Wed Nov 11 2026. No macro, syntax, notation, axiom, sorry.
-/
import Derived.Test.YtepohnlmekfnoaaGreatDoorRows
import GoSem.ClaimSeven
namespace Go.Proofs.YtepohnlmekfnoaaGreatDoor
namespace Rows

/-- THE TIED CARD OF 'rosterlaw08.EntrySame'. -/
def entrySameCard : Claim7 := { stood := { row := entrySameRow, standIns := [], harness := (true, "c7963da583ab182db252628fb5ee99b0c646ec446be7bd1d665f502f8cd40bf6"), looks := true }, kinds := [], alts := [], laidByText := true, laidKinds := [.data, .data, .data, .data, .sentinel, .sentinel, .data, .data, .data, .pinned], laidTests := true, laidLooks := .later }
def EntrySameCardSaid : Prop := Claim7.holds Tryz.pinned (.plain (OpenSpec.ofChange entrySameSpec)) entrySameCard

/-- THE TIED CARD OF 'rosterlaw08.EntryTidied'. -/
def entryTidiedCard : Claim7 := { stood := { row := entryTidiedRow, standIns := [], harness := (true, "c7963da583ab182db252628fb5ee99b0c646ec446be7bd1d665f502f8cd40bf6"), looks := true }, kinds := [], alts := [], laidByText := true, laidKinds := [.data, .data, .data, .data, .sentinel, .sentinel, .data, .data, .data, .pinned], laidTests := true, laidLooks := .later }
def EntryTidiedCardSaid : Prop := Claim7.holds Tryz.pinned (.plain (OpenSpec.ofChange entryTidiedSpec)) entryTidiedCard

/-- THE TIED CARD OF 'rosterlaw08.EntryBatch'. -/
def entryBatchCard : Claim7 := { stood := { row := entryBatchRow, standIns := [], harness := (true, "c7963da583ab182db252628fb5ee99b0c646ec446be7bd1d665f502f8cd40bf6"), looks := true }, kinds := [], alts := [], laidByText := true, laidKinds := [.data, .data, .data, .data, .sentinel, .sentinel, .data, .data, .data, .pinned], laidTests := true, laidLooks := .later }
def EntryBatchCardSaid : Prop := Claim7.holds Tryz.pinned (.plain (OpenSpec.ofChange entryBatchSpec)) entryBatchCard

/-- THE TIED CARD OF 'rosterlaw08.EntryBack'. -/
def entryBackCard : Claim7 := { stood := { row := entryBackRow, standIns := [], harness := (true, "c7963da583ab182db252628fb5ee99b0c646ec446be7bd1d665f502f8cd40bf6"), looks := true }, kinds := [], alts := [], laidByText := true, laidKinds := [.data, .data, .data, .data, .sentinel, .sentinel, .data, .data, .data, .pinned], laidTests := true, laidLooks := .later }
def EntryBackCardSaid : Prop := Claim7.holds Tryz.pinned (.plain (OpenSpec.ofChange entryBackSpec)) entryBackCard

/-- THE TIED CARD OF 'rosterlaw08.EntryNil'. -/
def entryNilCard : Claim7 := { stood := { row := entryNilRow, standIns := [], harness := (true, "c7963da583ab182db252628fb5ee99b0c646ec446be7bd1d665f502f8cd40bf6"), looks := true }, kinds := [], alts := [], laidByText := true, laidKinds := [.data, .data, .data, .data, .sentinel, .sentinel, .data, .data, .data, .pinned], laidTests := true, laidLooks := .later }
def EntryNilCardSaid : Prop := Claim7.holds Tryz.pinned (.plain (OpenSpec.ofChange entryNilSpec)) entryNilCard

/-- THE SECOND FORM's CARD OF 'rosterlaw08.EntrySame'. -/
def entrySameUptoCard : Claim7 := { stood := { row := entrySameUptoRow, standIns := [], harness := (true, "c7963da583ab182db252628fb5ee99b0c646ec446be7bd1d665f502f8cd40bf6"), looks := true }, kinds := [], alts := [], laidByText := true, laidKinds := [.data, .data, .data, .data, .sentinel, .sentinel, .data, .data, .data, .pinned], laidTests := true, laidLooks := .later }
def EntrySameUptoCardSaid : Prop := Claim7.holds Tryz.pinned (.plain (OpenSpec.upto entrySameSpec)) entrySameUptoCard

/-- THE SECOND FORM's CARD OF 'rosterlaw08.EntryTidied'. -/
def entryTidiedUptoCard : Claim7 := { stood := { row := entryTidiedUptoRow, standIns := [], harness := (true, "c7963da583ab182db252628fb5ee99b0c646ec446be7bd1d665f502f8cd40bf6"), looks := true }, kinds := [], alts := [], laidByText := true, laidKinds := [.data, .data, .data, .data, .sentinel, .sentinel, .data, .data, .data, .pinned], laidTests := true, laidLooks := .later }
def EntryTidiedUptoCardSaid : Prop := Claim7.holds Tryz.pinned (.plain (OpenSpec.upto entryTidiedSpec)) entryTidiedUptoCard

/-- THE SECOND FORM's CARD OF 'rosterlaw08.EntryBatch'. -/
def entryBatchUptoCard : Claim7 := { stood := { row := entryBatchUptoRow, standIns := [], harness := (true, "c7963da583ab182db252628fb5ee99b0c646ec446be7bd1d665f502f8cd40bf6"), looks := true }, kinds := [], alts := [], laidByText := true, laidKinds := [.data, .data, .data, .data, .sentinel, .sentinel, .data, .data, .data, .pinned], laidTests := true, laidLooks := .later }
def EntryBatchUptoCardSaid : Prop := Claim7.holds Tryz.pinned (.plain (OpenSpec.upto entryBatchSpec)) entryBatchUptoCard

/-- THE SECOND FORM's CARD OF 'rosterlaw08.EntryBack'. -/
def entryBackUptoCard : Claim7 := { stood := { row := entryBackUptoRow, standIns := [], harness := (true, "c7963da583ab182db252628fb5ee99b0c646ec446be7bd1d665f502f8cd40bf6"), looks := true }, kinds := [], alts := [], laidByText := true, laidKinds := [.data, .data, .data, .data, .sentinel, .sentinel, .data, .data, .data, .pinned], laidTests := true, laidLooks := .later }
def EntryBackUptoCardSaid : Prop := Claim7.holds Tryz.pinned (.plain (OpenSpec.upto entryBackSpec)) entryBackUptoCard

/-- THE SECOND FORM's CARD OF 'rosterlaw08.EntryNil'. -/
def entryNilUptoCard : Claim7 := { stood := { row := entryNilUptoRow, standIns := [], harness := (true, "c7963da583ab182db252628fb5ee99b0c646ec446be7bd1d665f502f8cd40bf6"), looks := true }, kinds := [], alts := [], laidByText := true, laidKinds := [.data, .data, .data, .data, .sentinel, .sentinel, .data, .data, .data, .pinned], laidTests := true, laidLooks := .later }
def EntryNilUptoCardSaid : Prop := Claim7.holds Tryz.pinned (.plain (OpenSpec.upto entryNilSpec)) entryNilUptoCard
end Rows
end Go.Proofs.YtepohnlmekfnoaaGreatDoor
