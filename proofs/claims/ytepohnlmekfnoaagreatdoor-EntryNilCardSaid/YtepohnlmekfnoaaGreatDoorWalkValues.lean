/- entry.Values at a schema that is not there makes a list of nothing. -/
import Derived.Test.YtepohnlmekfnoaaGreatDoorEngD
import Derived.Test.YtepohnlmekfnoaaGreatDoorProg
import Derived.Handy
import Derived.OwnWalk
import Derived.RowKit
import Derived.KernelRfl
namespace Go.Eng
open Go Go.RowKit Go.Proofs
theorem Keeps.cell {w w' : World} (h : Keeps w w') {a : Addr} {v : Value} (e : w.cell? a = some v) : w'.cell? a = some v := by
  unfold World.cell? at e ⊢
  cases hb : w.heap[a.block]? with
  | none => rw [hb] at e; cases e
  | some o => rw [h.get hb]; rw [hb] at e; exact e
theorem Keeps.cell_lt {w w' : World} (h : Keeps w w') {a : Addr} (e : a.block < w.heap.size) : w'.cell? a = w.cell? a := by
  unfold World.cell?
  rw [h.low _ e]
theorem Keeps.frozen_lt {w w' : World} (h : Keeps w w') {a : Addr} (e : a.block < w.heap.size) : w'.frozen? a = w.frozen? a := by
  unfold World.frozen?
  rw [h.low _ e]
theorem Keeps.alloc {a w : World} (h : Keeps a w) (o : Obj) : Keeps a (w.alloc o) :=
  h.trans ⟨by simp, fun k hk => Below.heap_alloc _ _ _ (by omega), rfl, rfl, rfl⟩
theorem Keeps.setCell {a w : World} (h : Keeps a w) {p : Addr} (hp : a.heap.size ≤ p.block) (u : Value) : Keeps a (w.setCell p u) :=
  ⟨by simp [World.setCell]; exact h.size, fun k hk => (Below.heap_setCell _ _ _ _ (by omega)).trans (h.low k hk), h.os, h.output, h.tape⟩
theorem push2 (w : World) (a c : Obj) : ((w.alloc a).alloc c).heap[w.heap.size + 1]? = some c := by
  show ((w.heap.push a).push c)[w.heap.size + 1]? = _
  rw [show w.heap.size + 1 = (w.heap.push a).size from (Array.size_push ..).symm]
  exact Array.getElem?_push_size
set_option maxHeartbeats 1600000 in
set_option maxRecDepth 1000000 in
theorem values_walk (b off len cap : Nat) (ad : Option Addr) (d : ByteArray) (w : World) (hl : len ≤ maxLen) (S : Nat → ByteArray) (A : Nat → Option Addr) (L C : Nat → Nat)
    (hc : ∀ k, k < len → ad = some ⟨b, off, none⟩ ∧ w.cell? ⟨b, off + k * 2, none⟩ = some (.string (S k)) ∧ w.cell? ⟨b, off + k * 2 + 1, none⟩ = some (.slice (A k) (L k) (C k)))
    (h54 : ∀ (w1 : World) (s : ByteArray), Calls Tryz.prog 54 #[.pointer none, .string d, .string s] w1 fun e w2 => e = .returned (.bool false) ∧ Keeps w1 w2) :
    Calls Tryz.prog 26 #[.pointer none, .agg #[.slice ad len cap], .string d] w fun e w' => Keeps w w' ∧ ∃ fz ty, w'.heap[w.heap.size + 1]? = some (.cells #[.slice none 0 0] ty (fz, 0)) ∧ e = .returned (.func (.func 55) #[] #[.pointer (some ⟨w.heap.size + 1, 0, none⟩)]) := by
  unfold maxLen at hl
  go_enter Tryz.func26, Tryz.ntmps26
  go_wp2
  go_loopw [15] (fun i wr => ∃ k : Nat, k ≤ len ∧ i = .int .i64 k ∧ Keeps w wr ∧ w.heap.size + 2 ≤ wr.heap.size ∧ ∃ fz ty, wr.heap[w.heap.size + 1]? = some (.cells #[.slice none 0 0] ty (fz, 0)))
    (fun i _ => len - (intOf i).toNat)
  case atStart =>
    exact ⟨0, Nat.zero_le _, rfl, ((Keeps.refl w).alloc _).alloc _, by simp, 0, 22, push2 _ _ _⟩
  case round =>
    obtain ⟨k, hk, rfl, hK, hs, fz, ty, hcell⟩ := hrel
    by_cases hlt : k < len
    · obtain ⟨hla, hc1, hc2⟩ := hc k hlt
      have hd1 := hK.cell hc1
      have hd2 := hK.cell hc2
      subst hla
      clear hc hc1 hc2
      go_wp2_with (first
        | (go_at_call 54; refine (h54 _ _).mono ?_; rintro e w' ⟨rfl, hk'⟩)
        | go_in)
      have hK2 := (hK.alloc (.cells #[.string (S k), .slice (A k) (L k) (C k)] 42)).trans hk'
      have hs2 := hk'.size
      have hcell2 := ((Keeps.refl wr).alloc (.cells #[.string (S k), .slice (A k) (L k) (C k)] 42)).trans hk' |>.get hcell
      simp at hs2
      refine ⟨⟨k + 1, by omega, by simp, hK2, by omega, fz, ty, hcell2⟩, ?_⟩
      simp [intOf]; omega
    · clear hc h54
      have hq : wr.cell? ⟨w.heap.size + 1, 0, none⟩ = some (.slice none 0 0) := by simp [World.cell?, hcell]
      go_wp2
      go_ret
      exact ⟨hK, fz, ty, hcell, rfl⟩
end Go.Eng
