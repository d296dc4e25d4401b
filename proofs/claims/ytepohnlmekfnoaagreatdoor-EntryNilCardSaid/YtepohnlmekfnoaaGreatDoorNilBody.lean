/- EntryNil returns true and its arguments read as they did, in every world that the row admits. -/
import Derived.Test.YtepohnlmekfnoaaGreatDoorNilArgs
namespace Go.Proofs.YtepohnlmekfnoaaGreatDoor
open Go Go.Eng Go.Proofs Go.ChangeShapes Go.WideShapes Go.ChangeAt Go.RowKit Go.Deep
set_option maxRecDepth 100000
theorem nil_post {H : Type} (enc : TypeId × Value → H) {W W' : World} {args : Array Value} {d0 d1 d2 : DataW H} {p : List MemPlace} (hW : DataW.Whole enc Tryz.prog Tryz.f7.params.toList Rows.entryNilSpec.vars false W args.toList [d0, d1, d2] [] (p ++ []))
    (hA : DataW.TrodAll enc Tryz.prog W 0 (fun _ => true) true Tryz.f7.params.toList args.toList [d0, d1, d2] p) (k : Keeps W W') : Rows.entryNilSpec.post enc Tryz.prog Tryz.f7 false true false false W args (.bool true) W' := by
  have hlt := DataW.TrodAll.lt hA
  refine ⟨_, _, _, [], p, [], hW, ?_, ?_, rfl, (keeps_below k).frame _, fun h => by cases h⟩
  · exact trodAll_mk1 (shut_bool Tryz.underlying4 true)
  · exact trodAll_carry (DataW.TrodAll.respare Tryz.kids Tryz.full (by rw [Tryz.params7]; decide +kernel) hA (fun x hx => by simpa using hlt x hx)) (fun x hx => keeps_same k (hlt x hx))
end Go.Proofs.YtepohnlmekfnoaaGreatDoor
namespace Go.Proofs.YtepohnlmekfnoaaGreatDoor
open Go Go.Eng Go.Proofs Go.ChangeShapes Go.WideShapes Go.ChangeAt Go.RowKit Go.Deep
set_option maxRecDepth 100000
theorem nil_body {H : Type} (enc : TypeId × Value → H) {W : World} {base : Nat} {args : Array Value} {ds gs : List (DataW H)} {before : List MemPlace}
    (hval : ∀ (j : Nat) t v, Tryz.f7.params[j]? = some t → args[j]? = some v → Value.okWide Tryz.prog W .any base t v)
    (hW : DataW.Whole enc Tryz.prog Tryz.f7.params.toList Rows.entryNilSpec.vars false W args.toList ds gs before) (hL : laidMetH Tryz.prog Rows.entryNilRow.laid W) :
    Calls Tryz.prog 7 args W fun e W' => ∃ v, e = .returned v ∧ Rows.entryNilSpec.post enc Tryz.prog Tryz.f7 false true false false W args v W' := by
  have hW' := hW
  obtain ⟨p, q, hA, hV, rfl, _, _⟩ := hW
  have hAk := hA
  rw [Tryz.params7] at hA hval
  obtain ⟨v0, v1, v2, d0, d1, d2, p0, p1, p2, rfl, rfl, rfl, h0, h1, h2⟩ := trodAll_three hA
  obtain ⟨rfl, rfl⟩ := trodVars_none hV
  have hk24 : Tryz.prog.cellsOf 24 = 1 := by kernel_rfl
  have hk22 : Tryz.prog.cellsOf 22 = 1 := by kernel_rfl
  obtain ⟨cs, rfl, hsz⟩ := okWide_struct Tryz.underlying24 (hval 0 24 v0 rfl rfl)
  obtain ⟨a1, l1, c1, rfl⟩ := okWide_slice Tryz.underlying51 (hval 1 51 v1 rfl rfl)
  obtain ⟨d, rfl⟩ := okWide_string Tryz.underlying9 (hval 2 9 v2 rfl rfl)
  obtain ⟨sl, rfl⟩ : ∃ sl, cs = #[sl] := by
    obtain ⟨l⟩ := cs
    match l, hsz.trans hk24 with
    | [sl], _ => exact ⟨sl, rfl⟩
  obtain ⟨fuel, hf⟩ := h0
  obtain ⟨y0, n, _, _, hy⟩ := trod_struct1 Tryz.underlying24 hf
  rw [hk22] at hy
  obtain ⟨hs, h1c⟩ := attrs_in (sl := sl) hy
  have hT := tabs_of_laid hL
  clear hy hf hval hV hsz
  exact (nil_any (d := d) (m := .slice a1 l1 c1) hT hs h1c rfl).mono fun e W' ⟨he, k⟩ => ⟨.bool true, he, nil_post enc hW' hAk k⟩
end Go.Proofs.YtepohnlmekfnoaaGreatDoor
