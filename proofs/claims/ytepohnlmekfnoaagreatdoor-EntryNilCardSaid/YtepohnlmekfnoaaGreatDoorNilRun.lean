/- EntryNil returns true and turns nothing that stood, in every world that holds the three tables. -/
import Derived.Test.YtepohnlmekfnoaaGreatDoorWalkValues
import Derived.Test.YtepohnlmekfnoaaGreatDoorRunD
import Derived.Test.YtepohnlmekfnoaaGreatDoorRunE
import Derived.Test.YtepohnlmekfnoaaGreatDoorRunG
namespace Go.Eng
open Go Go.Proofs
set_option maxRecDepth 100000
def roRow : AO → List AV
  | .ro l => l
  | _ => []
def tabsNeed : List (Nat × List AV) := [(0, roRow z0), (1, roRow z1), (2, roRow z2)]
/-- the three tables lie in the world -/
def TabsIn (w : World) : Prop := ∀ p ∈ tabsNeed, p.1 < 11 ∧ RoAt w p.1 p.2
theorem TabsIn.keep {w w' : World} (h : TabsIn w) (k : Keeps w w') : TabsIn w' := fun p hp => ⟨(h p hp).1, (h p hp).2.keep k⟩
theorem works_any {w : World} (h : TabsIn w) : Calls Tryz.prog 9 #[] w fun e w' => e = .returned (.bool true) ∧ Keeps w w' := by
  have := OrcOk.callsAt okW18 (w := w) (L := []) (need := tabsNeed) rfl (Nat.le_refl _) h (Args := []) trivial
  refine this.mono fun e w' ⟨ρ, V, he, hk, hv⟩ => ⟨?_, hk⟩
  rw [he, RV_bool.1 hv]
theorem covers_nil (d s : ByteArray) (w : World) : Calls Tryz.prog 54 #[.pointer none, .string d, .string s] w fun e w' => e = .returned (.bool false) ∧ Keeps w w' := by
  have := OrcOk.callsAt (okW ran54 trivial) (w := w) (L := []) (need := []) rfl (Nat.le_refl _) (fun _ h => by simp at h) (Args := [.pointer none, .string d, .string s]) ⟨RV_nilptr.2 rfl, RV_junk, RV_junk, trivial⟩
  refine this.mono fun e w' ⟨ρ, V, he, hk, hv⟩ => ⟨?_, hk⟩
  rw [he, RV_bool.1 hv]
/-- a list of attributes as it is handed in -/
def AttrsIn (w : World) (sl : Value) : Prop := ∃ (b off len cap : Nat) (ad : Option Addr) (S : Nat → ByteArray) (A : Nat → Option Addr) (L C : Nat → Nat), sl = .slice ad len cap ∧ len ≤ maxLen ∧
  ∀ k, k < len → ad = some ⟨b, off, none⟩ ∧ w.cell? ⟨b, off + k * 2, none⟩ = some (.string (S k)) ∧ w.cell? ⟨b, off + k * 2 + 1, none⟩ = some (.slice (A k) (L k) (C k))
theorem AttrsIn.keep {w w' : World} {sl : Value} (h : AttrsIn w sl) (k : Keeps w w') : AttrsIn w' sl := by
  obtain ⟨b, off, len, cap, ad, S, A, L, C, h1, h2, h3⟩ := h
  exact ⟨b, off, len, cap, ad, S, A, L, C, h1, h2, fun i hi => ⟨(h3 i hi).1, k.cell (h3 i hi).2.1, k.cell (h3 i hi).2.2⟩⟩
theorem values_nil {w : World} {sl : Value} (d : ByteArray) (h : AttrsIn w sl) :
    Calls Tryz.prog 26 #[.pointer none, .agg #[sl], .string d] w fun e w' => Keeps w w' ∧ ∃ fz ty, w'.heap[w.heap.size + 1]? = some (.cells #[.slice none 0 0] ty (fz, 0)) ∧ e = .returned (.func (.func 55) #[] #[.pointer (some ⟨w.heap.size + 1, 0, none⟩)]) := by
  obtain ⟨b, off, len, cap, ad, S, A, L, C, rfl, h2, h3⟩ := h
  exact values_walk b off len cap ad d w h2 S A L C h3 fun w1 s => covers_nil d s w1
def Psi7 (sl m : Value) (d : ByteArray) (ρ : Ren) : Prop := (∃ l, ρ 11 = some l ∧ l.val = sl) ∧ (∃ l, ρ 12 = some l ∧ l.val = m) ∧ ∃ l, ρ 13 = some l ∧ l.val = .string d
theorem Psi7.mono {sl m : Value} {d : ByteArray} {ρ ρ' : Ren} (h : ρ.le ρ') (k : Psi7 sl m d ρ) : Psi7 sl m d ρ' := by
  obtain ⟨⟨a, a1, a2⟩, ⟨b, b1, b2⟩, ⟨c, c1, c2⟩⟩ := k
  exact ⟨⟨a, h _ _ a1, a2⟩, ⟨b, h _ _ b1, b2⟩, ⟨c, h _ _ c1, c2⟩⟩
def Phi7 (W : World) (sl m : Value) (d : ByteArray) (C : Cx) : Prop := C.w0 = W ∧ ∀ ρ, C.Ψ ρ → Psi7 sl m d ρ
noncomputable abbrev T0 : Tab := tabOf Tryz.prog 11 fns xt fun _ => []
section
variable {W : World} {sl m : Value} {d : ByteArray}
theorem orc_values (hs : AttrsIn W sl) (o : Orc) (ha : o.args = [.nilptr, .agg (.cons (.opq 11) .nil), .opq 13]) (ho : o.out = o.need ++ [(o.n, .cells [.nilslc] false false)]) (hm : o.m = o.n + 1) (hv : o.v = .fn 55 .nil (.cons (.ptr o.n 0) .nil)) :
    OrcOk Tryz.prog T0 11 (Phi7 W sl m d) 26 o := by
  refine orc_new Tryz.func26 rfl (by kernel_rfl) ho hm fun C ρ w Args hng hΦ H hA => ?_
  rw [ha] at hA
  have hk : Keeps W w := hΦ.1 ▸ H.keeps0
  obtain ⟨⟨l1, e1, f1⟩, _, ⟨l3, e3, f3⟩⟩ := hΦ.2 ρ H.psi
  match Args, hA with
  | [X, Y, Z], ⟨h1, h2, h3, _⟩ =>
    obtain rfl := RV_nilptr.1 h1
    obtain ⟨cs, rfl, h4, _⟩ := RV_agg h2
    obtain ⟨l3', e3', h5, _⟩ := h3
    obtain rfl : l3 = l3' := Option.some.inj (e3.symm.trans e3')
    obtain rfl : Z = .string d := by simpa [f3] using h5
    match cs, h4 with
    | [U], h4 =>
      obtain ⟨l1', e1', h6, _⟩ := h4.1
      obtain rfl : l1 = l1' := Option.some.inj (e1.symm.trans e1')
      obtain rfl : U = sl := by simpa [f1] using h6
      refine (values_nil d (hs.keep hk)).mono fun e w' ⟨hk', fz, ty, hc, he⟩ => ⟨_, w.heap.size + 1, 1, _, he, hk', Nat.le_succ _, hc, fun ρ' hle hn => ⟨?_, ?_⟩⟩
      · refine ⟨_, ty, _, rfl, ⟨?_, ?_, ?_, ?_⟩, ?_, ?_⟩
        · intro i v hv
          match i, hv with
          | 0, hv =>
            obtain rfl := Option.some.inj hv
            exact ⟨_, rfl, RV_nilslc.2 rfl⟩
        · intro i hi
          obtain rfl : i = 0 := by simpa using hi
          exact ⟨_, rfl, rfl⟩
        · exact Nat.le_refl _
        · exact .inl rfl
        · rfl
        · exact fun _ => rfl
      · rw [hv]
        exact RV_ofL_fn (a := []) (c := [.ptr o.n 0]) (F := []) (C := [_]) trivial ⟨RV_ptr.2 ⟨_, hn, rfl⟩, trivial⟩
theorem orc_works (ht : TabsIn W) (o : Orc) (ha : o.args = []) (ho : o.out = o.need) (hm : o.m = o.n) (hv : o.v = .bool true) : OrcOk Tryz.prog T0 11 (Phi7 W sl m d) 9 o := by
  refine orc_keep Tryz.func9 rfl (by kernel_rfl) ho hm fun C ρ w Args hng hΦ H hA => ?_
  rw [ha] at hA
  have hk : Keeps W w := hΦ.1 ▸ H.keeps0
  match Args, hA with
  | [], _ =>
    refine (works_any (ht.keep hk)).mono fun e w' ⟨he, hk'⟩ => ⟨_, he, hk', ?_⟩
    rw [hv]; exact RV_bool.2 rfl
/-- EntryNil -/
theorem nil_any (ht : TabsIn W) (hs : AttrsIn W sl) (h1 : sl.oneCell' = true) (h2 : m.oneCell' = true) : Calls Tryz.prog 7 #[.agg #[sl], m, .string d] W fun e w' => e = .returned (.bool true) ∧ Keeps W w' := by
  have ok7 : OrcOk Tryz.prog T0 11 (Phi7 W sl m d) 7 v3 :=
    orc_run (l := [(26, v0), (26, v1), (9, v2)]) mixed xt_ok (fun C R h => h) ⟨orc_values hs v0 rfl rfl rfl rfl, orc_values hs v1 rfl rfl rfl rfl, orc_works ht v2 rfl rfl rfl rfl, trivial⟩ ran7
  have hpsi : Psi7 sl m d (ren0 11 [sl, m, .string d]) := ⟨⟨_, rfl, rfl⟩, ⟨_, rfl, rfl⟩, ⟨_, rfl, rfl⟩⟩
  have H : HR (cxOf Tryz.prog T0 11 W (Psi7 sl m d) Psi7.mono) (ren0 11 [sl, m, .string d]) (mkTr v3.need) v3.n W := HR.start (need := tabsNeed) (Nat.le_refl _) ht hpsi
  have hA : All2 (RV (ren0 11 [sl, m, .string d])) v3.args [.agg #[sl], m, .string d] :=
    ⟨RV_ofL_agg (l := [.opq 11]) (cs := [sl]) ⟨⟨_, rfl, rfl, h1⟩, trivial⟩ (fun U hU => by simp at hU; rw [hU]; exact h1), ⟨_, rfl, rfl, h2⟩, ⟨_, rfl, rfl, rfl⟩, trivial⟩
  refine (ok7.calls (C := cxOf Tryz.prog T0 11 W (Psi7 sl m d) Psi7.mono) rfl ⟨rfl, rfl, fun ρ h => h⟩ H hA).mono fun e w' ⟨ρ', V, he, _, H', hv⟩ => ⟨?_, H'.keeps0⟩
  rw [he, RV_bool.1 hv]
end
end Go.Eng
