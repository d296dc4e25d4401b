/- What the row gives: the list of attributes lies in the world, the three tables lie in the world. -/
import Derived.Test.YtepohnlmekfnoaaGreatDoorNilRun
import Derived.Test.YtepohnlmekfnoaaGreatDoorEngD
import Derived.Test.YtepohnlmekfnoaaGreatDoorRows
import Derived.Below
import Derived.ProofKit
import Derived.Lay
import Derived.LaidMore
import Derived.ReadAgain
import Derived.ChangeSame
import Derived.Deep.Slices
import Derived.Stop.Joined
namespace Go.Proofs.YtepohnlmekfnoaaGreatDoor
open Go Go.Eng Go.Proofs Go.ChangeShapes Go.WideShapes Go.ChangeAt Go.RowKit Go.Deep
set_option maxRecDepth 100000
section
variable {H : Type} {enc : TypeId × Value → H} {P : Program}
theorem keeps_below {W W' : World} (k : Keeps W W') : Below W.heap.size W W' := ⟨k.os, k.tape, k.output, k.size, k.low⟩
theorem keeps_same {W W' : World} (k : Keeps W W') {p : MemPlace} (h : p.block < W.heap.size) : W.sameAt W' p := by
  cases p with
  | cell b off => exact k.cell_lt (a := ⟨b, off, none⟩) h
  | map b => exact k.low b h
theorem trodAll_carry {w w' : World} {base : Nat} {sp : Nat → Bool} {held : Bool} : ∀ {ts : List TypeId} {vs : List Value} {ds : List (DataW H)} {ps : List MemPlace}, DataW.TrodAll enc P w base sp held ts vs ds ps → (∀ p ∈ ps, w.sameAt w' p) → DataW.TrodAll enc P w' base sp held ts vs ds ps
  | [], [], [], _, h, _ => h
  | _ :: _, _ :: _, _ :: _, _, ⟨p, q, ⟨n, h1⟩, h2, e⟩, hs => ⟨p, q, ⟨n, DataW.trod_carry n _ _ _ h1 fun x hx => hs x (by rw [e]; exact List.mem_append_left _ hx)⟩, trodAll_carry h2 (fun x hx => hs x (by rw [e]; exact List.mem_append_right _ hx)), e⟩
theorem spot_none {w : World} {a : Addr} {v : Value} (h : w.cell? a = some v) : a = ⟨a.block, a.off, none⟩ := by
  obtain ⟨b, o, s⟩ := a
  cases s with
  | none => rfl
  | some x =>
    unfold World.cell? at h
    split at h <;> simp at h
theorem add_two (b o i j : Nat) : (Addr.add (Addr.add ⟨b, o, none⟩ (i * 2)) j) = ⟨b, o + i * 2 + j, none⟩ := by
  unfold Addr.add
  split <;> split <;> simp_all <;> omega
/-- an argument that is a list of attributes -/
theorem attrs_in {W : World} {fuel : Nat} {sl : Value} {x : DataW H × List MemPlace} (h : DataW.trod enc Tryz.prog W 0 (fun _ => true) true fuel 22 [sl] = some x) : AttrsIn W sl ∧ sl.oneCell' = true := by
  have hC : Tryz.prog.cellsOf 42 = 2 := by kernel_rfl
  have h9 : Tryz.prog.cellsOf 9 = 1 := by kernel_rfl
  have h40 : Tryz.prog.cellsOf 40 = 1 := by kernel_rfl
  rcases open_slice Tryz.underlying22 h with ⟨hc, _⟩ | ⟨a, len, cap, m, n, D, Pl, hc, _, hl, hm, hmm, _, hi⟩
  · obtain rfl : sl = .slice none 0 0 := by simpa using hc
    exact ⟨⟨0, 0, 0, 0, none, fun _ => ⟨#[]⟩, fun _ => none, fun _ => 0, fun _ => 0, rfl, Nat.zero_le _, fun k hk => by omega⟩, rfl⟩
  · obtain rfl : sl = .slice (some a) len cap := by simpa using hc
    refine ⟨?_, rfl⟩
    have hm' : m = cap := by simpa using hmm
    have key : ∀ i, i < len → ∃ (s : ByteArray) (A : Option Addr) (L C : Nat), W.cell? ((a.add (i * 2)).add 0) = some (.string s) ∧ W.cell? ((a.add (i * 2)).add 1) = some (.slice A L C) := by
      intro i hil
      obtain ⟨cs', hc', ht'⟩ := hi i (by omega)
      rw [hC] at hc'
      obtain ⟨_, hcl, hat⟩ := World.cells?_some hc'
      obtain ⟨y0, y1, n', _, _, t0, t1⟩ := trod_struct2 Tryz.underlying42 ht'
      simp only [h9, h40] at t0 t1
      obtain ⟨s, e0, _, _⟩ := DataW.trod_string Tryz.underlying9 t0
      have e0' := cut1 e0
      have e1' : ∃ A L C, cs'[1]? = some (.slice A L C) := by
        rcases open_slice Tryz.underlying40 t1 with ⟨hq, _⟩ | ⟨a', l', c', _, _, _, _, hq, _⟩
        · exact ⟨_, _, _, cut1 hq⟩
        · exact ⟨_, _, _, cut1 hq⟩
      obtain ⟨A, L, C, e1'⟩ := e1'
      exact ⟨s, A, L, C, (hat 0 (by omega)).trans e0', (hat 1 (by omega)).trans e1'⟩
    by_cases h0 : 0 < len
    · obtain ⟨_, _, _, _, q0, _⟩ := key 0 h0
      have ha : a = ⟨a.block, a.off, none⟩ := spot_none (by simpa [Addr.add] using q0)
      generalize a.block = b at ha
      generalize a.off = o at ha
      subst ha
      have key2 : ∀ i, i < len → ∃ (s : ByteArray) (A : Option Addr) (L C : Nat), W.cell? ⟨b, o + i * 2, none⟩ = some (.string s) ∧ W.cell? ⟨b, o + i * 2 + 1, none⟩ = some (.slice A L C) := fun i hi => by
        obtain ⟨s, A, L, C, q1, q2⟩ := key i hi
        rw [add_two] at q1 q2
        exact ⟨s, A, L, C, q1, q2⟩
      refine ⟨b, o, len, cap, some ⟨b, o, none⟩, fun i => if hi : i < len then (key2 i hi).choose else ⟨#[]⟩, fun i => if hi : i < len then (key2 i hi).choose_spec.choose else none,
        fun i => if hi : i < len then (key2 i hi).choose_spec.choose_spec.choose else 0, fun i => if hi : i < len then (key2 i hi).choose_spec.choose_spec.choose_spec.choose else 0, rfl, by omega, fun k hk => ⟨rfl, ?_⟩⟩
      have hs := (key2 k hk).choose_spec.choose_spec.choose_spec.choose_spec
      simp only [hk, dif_pos]
      exact hs
    · exact ⟨0, 0, len, cap, some a, fun _ => ⟨#[]⟩, fun _ => none, fun _ => 0, fun _ => 0, rfl, by omega, fun k hk => by omega⟩
end
/-! ### the tables -/
theorem laid_plain (W : World) : laidMetH Tryz.prog Rows.entryNilRow.laid W = laidMet Tryz.prog Rows.entryNilRow.laid W := MakeChecks.laidMetH_plain _ _ _ (by kernel_rfl)
theorem tabs_of_laid {W : World} (h : laidMetH Tryz.prog Rows.entryNilRow.laid W) : TabsIn W := by
  rw [laid_plain] at h
  obtain ⟨g0, t0, c0, f0, p0, a1, a2, a3, a4⟩ := Lib.laidMet.reads h (n := "roster/match.forms") (d := Rows.laid_roster_match_forms) (by simp [Rows.entryNilRow])
  obtain ⟨g1, t1, c1, f1, p1, b1, b2, b3, b4⟩ := Lib.laidMet.reads h (n := "roster/match.sorts") (d := Rows.laid_roster_match_sorts) (by simp [Rows.entryNilRow])
  obtain ⟨g2, t2, c2, f2, p2, d1, d2, d3, d4⟩ := Lib.laidMet.reads h (n := "roster/schema.table") (d := Rows.laid_roster_schema_table) (by simp [Rows.entryNilRow])
  obtain rfl : g0 = 0 := Option.some.inj (a1.symm.trans (show Tryz.prog.globalNamed "roster/match.forms" = some 0 by kernel_rfl))
  obtain rfl : g1 = 1 := Option.some.inj (b1.symm.trans (show Tryz.prog.globalNamed "roster/match.sorts" = some 1 by kernel_rfl))
  obtain rfl : g2 = 2 := Option.some.inj (d1.symm.trans (show Tryz.prog.globalNamed "roster/schema.table" = some 2 by kernel_rfl))
  obtain rfl : t0 = 99 := Option.some.inj (a2.symm.trans (show (Tryz.prog.globals[0]?).map (·.type) = some 99 by kernel_rfl))
  obtain rfl : t1 = 207 := Option.some.inj (b2.symm.trans (show (Tryz.prog.globals[1]?).map (·.type) = some 207 by kernel_rfl))
  obtain rfl : t2 = 236 := Option.some.inj (d2.symm.trans (show (Tryz.prog.globals[2]?).map (·.type) = some 236 by kernel_rfl))
  intro p hp
  simp only [tabsNeed, List.mem_cons, List.mem_nil_iff, or_false] at hp
  rcases hp with rfl | rfl | rfl
  · exact ⟨by decide, roAt_array a1 a3 Tryz.underlying99 (by kernel_rfl) (by kernel_rfl) a4 (by decide +kernel) (by kernel_rfl)⟩
  · exact ⟨by decide, roAt_array b1 b3 Tryz.underlying207 (by kernel_rfl) (by kernel_rfl) b4 (by decide +kernel) (by kernel_rfl)⟩
  · exact ⟨by decide, roAt_rows d1 d3 Tryz.underlying236 Tryz.underlying173 (by kernel_rfl) (by kernel_rfl) (by decide) (by kernel_rfl) d4 (by decide +kernel) (by kernel_rfl)⟩
theorem Tryz.own : ownKnob Tryz.prog.godebug = none := by kernel_rfl
theorem Tryz.kids : Kids Tryz.prog (· < Tryz.prog.types.size) := kids_rows (by kernel_rfl) (by kernel_rfl)
theorem Tryz.full : ∀ t e, t < Tryz.prog.types.size → Tryz.prog.underlying t = some (.slice e) → 0 < Tryz.prog.cellsOf e := slices_full_of Tryz.prog (by kernel_rfl)
end Go.Proofs.YtepohnlmekfnoaaGreatDoor
