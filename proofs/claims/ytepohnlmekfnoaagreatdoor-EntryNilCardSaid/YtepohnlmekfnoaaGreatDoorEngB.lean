/- The evaluator, second part: the operations that turn memory are sound. -/
import Derived.Test.YtepohnlmekfnoaaGreatDoorEngA
import Derived.Laws.MakeOwn
set_option maxRecDepth 20000
namespace Go.Eng
open Go
/-- the operation's run: a value, or none ('undef' is put) -/
def Does (P : Program) (o : Oper) (a : Act) (w : World) (V : Value) (w' : World) : Prop :=
  (execOp a.eval o).run P w = .ok (.value V) w' ∨ ((execOp a.eval o).run P w = .ok .skip w' ∧ V = undef)
noncomputable def putAll : List (Nat × AO) → Hp → Hp
  | [], h => h
  | p :: u, h => putAll u (h.put p.1 p.2)
@[simp] theorem applyU_eq {β : Type} : ∀ (u : List (Nat × AO)) (h : Hp) (k : Hp → β), applyU u h k = k (putAll u h)
  | [], _, _ => rfl
  | p :: u, h, k => by simp only [applyU, Tr.putK_eq, putAll]; exact applyU_eq u _ k
def OutR (C : Cx) (ρ ρ' : Ren) (h : Hp) (n : Nat) (V : Value) (w' : World) : AOut → Prop
  | .old v => ρ.le ρ' ∧ RV ρ' v V ∧ HR C ρ' h n w'
  | .mem v u m => ρ.le ρ' ∧ RV ρ' v V ∧ HR C ρ' (putAll u h) (n + m) w'
  | _ => False
def MSnd (P : Program) (ng : Nat) (o : Oper) (f : MF) : Prop :=
  ∀ (C : Cx), C.ng = ng → ∀ (ρ : Ren) (ts : Ts) (a : Act) (h : Hp) (n : Nat) (w : World) (r : AOut), HR C ρ h n w → (∀ x ∈ o.op.operands, RV ρ (xOf ng x ts) (a.eval x)) → f ts h n = some r →
    ∃ V w' ρ', Does P o a w V w' ∧ OutR C ρ ρ' h n V w' r

/-! ### cells set -/
theorem setCells_at {b : Nat} {e : TypeId} {fz : Nat × Nat} : ∀ (Vs : List Value) (k : Nat) (w : World) (c : Array Value), w.heap[b]? = some (.cells c e fz) → k + Vs.length ≤ c.size →
    (w.setCells b k Vs).heap[b]? = some (.cells (writeL k Vs c.toList).toArray e fz) ∧ (∀ j, j ≠ b → (w.setCells b k Vs).heap[j]? = w.heap[j]?) ∧ (w.setCells b k Vs).heap.size = w.heap.size ∧
    (w.setCells b k Vs).os = w.os ∧ (w.setCells b k Vs).output = w.output ∧ (w.setCells b k Vs).tape = w.tape
  | [], k, w, c, hW, _ => by simp [World.setCells, writeL, hW]
  | V :: Vs, k, w, c, hW, hle => by
    have hW1 : (w.setCell ⟨b, k, none⟩ V).heap[b]? = some (.cells (c.setIfInBounds k V) e fz) := by
      simp [World.setCell, Array.getElem?_modify, hW]
    obtain ⟨h1, h2, h3, h4, h5, h6⟩ := setCells_at Vs (k + 1) (w.setCell ⟨b, k, none⟩ V) _ hW1 (by simp at hle ⊢; omega)
    refine ⟨?_, fun j hj => ?_, ?_, h4, h5, h6⟩
    · rw [World.setCells, h1]
      congr 2
      simp only [Array.toList_setIfInBounds]
      congr 1
      simp at hle
      apply List.ext_getElem?
      intro i
      rw [writeL_get (by simp; omega), writeL_get (by simp; omega), List.getElem?_set]
      simp only [List.length_cons]
      by_cases h1 : k = i
      · rw [if_neg (by omega), if_pos h1, if_pos (by simp; omega), if_pos ⟨by omega, by omega⟩]
        have : i - k = 0 := by omega
        rw [this]; rfl
      · rw [if_neg h1]
        by_cases h2 : k + 1 ≤ i ∧ i < k + 1 + Vs.length
        · rw [if_pos h2, if_pos ⟨by omega, by omega⟩]
          have : i - k = (i - (k + 1)) + 1 := by omega
          rw [this]; rfl
        · rw [if_neg h2, if_neg (by omega)]
    · rw [World.setCells, h2 j hj]
      simp [World.setCell, Array.getElem?_modify, Ne.symm hj]
    · rw [World.setCells, h3]; simp [World.setCell]
section
variable {C : Cx} {ρ : Ren} {h : Hp} {n : Nat} {w : World}
/-- cells of a block written -/
theorem HR.store (H : HR C ρ h n w) {P : Program} {b off : Nat} {l vs : List AV} {opn fr : Bool} {loc : Loc} {Vs : List Value} (he : h.get b = some (.cells l opn fr)) (hb : ρ b = some loc) (hle : off + vs.length ≤ l.length)
    (hv : All2 (RV ρ) vs Vs) (h1 : ∀ U ∈ Vs, U.oneCell' = true) :
    ∃ w', (storeCells ⟨loc.blk, loc.sh + off, none⟩ Vs).run P w = .ok () w' ∧ HR C ρ (h.put b (.cells (writeL off vs l) opn fr)) n w' := by
  obtain ⟨W, hW, c, e, fz, rfl, ⟨g1, g2, g3, g4⟩, g5, g6⟩ := H.obj b _ loc he trivial hb
  have hlen := hv.length
  have hcl : ∀ i, i < l.length → loc.sh + i < c.size := fun i hi => by omega
  obtain ⟨s1, s2, s3, s4, s5, s6⟩ := setCells_at Vs (loc.sh + off) w c hW (by omega)
  refine ⟨w.setCells loc.blk (loc.sh + off) Vs, ?_, ?_⟩
  · have := run_storeCells_cells (P := P) loc.blk (loc.sh + off) Vs 0 w (fun j hj => ?_) (fun j hj => ?_) h1
    · simpa using this
    · rw [cell_at hW]
      have : loc.sh + off + j < c.size := by omega
      simp [this]
    · simp only [World.frozen?, hW]
      rcases g4 with g4 | ⟨_, g4⟩
      · simp [g4]
      · simp; omega
  · refine H.set he trivial hb ⟨_, e, fz, rfl, ⟨fun i v hi => ?_, fun i hi => ?_, by rw [writeL_length hle]; exact g3, ?_⟩, ?_, fun q => by rw [writeL_length hle]; exact g6 q⟩ s1 (fun k hk _ => s2 k hk) (by omega) s4 s5 s6
    · rw [writeL_get hle] at hi
      simp only [List.getElem?_toArray]
      rw [writeL_get (by simp; omega)]
      by_cases hin : off ≤ i ∧ i < off + vs.length
      · rw [if_pos hin] at hi
        obtain ⟨V, hV, r⟩ := hv.get _ _ hi
        refine ⟨V, ?_, r⟩
        rw [if_pos ⟨by omega, by omega⟩, show loc.sh + i - (loc.sh + off) = i - off by omega]
        exact hV
      · rw [if_neg hin] at hi
        obtain ⟨V, hV, r⟩ := g1 i v hi
        refine ⟨V, ?_, r⟩
        rw [if_neg (by omega), Array.getElem?_toList]
        exact hV
    · simp only [List.getElem?_toArray]
      rw [writeL_get (by simp; omega)]
      by_cases hin : loc.sh + off ≤ loc.sh + i ∧ loc.sh + i < loc.sh + off + Vs.length
      · rw [if_pos hin]
        have : loc.sh + i - (loc.sh + off) < Vs.length := by omega
        exact ⟨_, List.getElem?_eq_getElem this, h1 _ (List.getElem_mem this)⟩
      · rw [if_neg hin, Array.getElem?_toList]
        exact g2 i hi
    · have : (writeL (loc.sh + off) Vs c.toList).toArray.size = c.size := by simp; rw [writeL_length (by simp; omega)]; simp
      rw [this]; exact g4
    · have : (writeL (loc.sh + off) Vs c.toList).toArray.size = c.size := by simp; rw [writeL_length (by simp; omega)]; simp
      rw [this]; exact g5
/-- a new row -/
theorem HR.newCells (H : HR C ρ h n w) {P : Program} {e : TypeId} {l : List AV} {Vs : List Value} {m : Nat} (hm : n < m) (hv : All2 (RV ρ) l Vs) (h1 : ∀ U ∈ Vs, U.oneCell' = true) :
    ∃ w' ρ', (Go.newRow e Vs.toArray).run P w = .ok ⟨w.heap.size, 0, none⟩ w' ∧ w' = w.alloc (.cells Vs.toArray e) ∧ ρ.le ρ' ∧ ρ' n = some ⟨w.heap.size, 0, Vs.length, undef⟩ ∧ HR C ρ' (h.put n (.cells l false false)) m w' := by
  have hn := H.fresh n (Nat.le_refl _)
  have hle : ρ.le (ρ.with n ⟨w.heap.size, 0, Vs.length, undef⟩) := Ren.with_le hn
  obtain ⟨h2, h3⟩ := H.new (o := .cells l false false) (sz := Vs.length) (m := m) (W := .cells Vs.toArray e) hm
    ⟨Vs.toArray, e, (0, 0), rfl, ⟨fun i v hi => by
        obtain ⟨V, hV, r⟩ := hv.get i v hi
        exact ⟨V, by simpa using hV, r.mono hle⟩,
      fun i hi => by
        have hi : i < Vs.length := hi
        exact ⟨Vs[i], by simp [hi], h1 _ (List.getElem_mem hi)⟩, by rw [hv.length]; exact Nat.le_refl _, .inl rfl⟩, by simp, fun _ => hv.length.symm⟩ w.drawn
  exact ⟨_, _, by simp [Go.newRow, newObj, Sem.run], rfl, h2, by simp [Ren.with], h3⟩
end
section
variable {P : Program} {ng : Nat} {o : Oper} {t : TypeId} {x y : Operand}
theorem run_storeVar {w w' : World} {i : TypeInfo} {A : Addr} {V : Value} {Vs : List Value} (hi : P.info? t = some i) (hV : V.cells = Vs.toArray) (hsz : Vs.length = i.size) (hs : (storeCells A Vs).run P w = .ok () w') : (storeVar t A V).run P w = .ok () w' := by
  simp [storeVar, run_sizeOf hi, hV, hsz, hs]
theorem sound_store {i : TypeInfo} (hop : o.op = .store t x y) (hi : P.info? t = some i) (hz : 1 ≤ i.size) : MSnd P ng o (mStore i.size (xOf ng x) (xOf ng y)) := by
  rintro C rfl ρ ts a h n w r H hX he
  have h1 := hX x (by simp [hop, Op.operands])
  have h2 := hX y (by simp [hop, Op.operands])
  unfold mStore at he
  split at he
  · rename_i b off hx
    rw [hx] at h1
    obtain ⟨loc, hb, hV⟩ := RV_ptr.1 h1
    simp only [guardB_some, natBeq] at he
    obtain ⟨hlen, he⟩ := he
    unfold storeO at he
    split at he
    · rename_i l opn fr hg
      obtain ⟨hle, he⟩ := writeK_some he
      obtain rfl := Option.some.inj he
      obtain ⟨Vs, hVs, hr, hone⟩ := RV_cells h2 (.inl (by intro e; rw [e] at hlen; simp at hlen; omega))
      obtain ⟨w', hrun, H'⟩ := H.store (P := P) hg hb hle hr hone
      have hsv := run_storeVar (A := ⟨loc.blk, loc.sh + off, none⟩) hi hVs (by rw [← hr.length]; exact hlen) hrun
      exact ⟨undef, w', ρ, .inr ⟨by simp [execOp, hop, hV, Instr.storeAt, Instr.sureAddr, hsv], rfl⟩, Ren.le_refl _, RV_undef, H'⟩
    · cases he
  · cases he
theorem hasC_cells {v : AV} (h : hasC v = true) : v.cells ≠ [] ∨ ∃ l, v = .agg l := by
  cases v <;> first | exact .inr ⟨_, rfl⟩ | (left; simp [AV.cells]; done) | (simp [hasC] at h; done)
theorem sound_box (hop : o.op = .box t x) : MSnd P ng o (mBox (xOf ng x)) := by
  rintro C rfl ρ ts a h n w r H hX he
  have h1 := hX x (by simp [hop, Op.operands])
  simp only [guardB_some, mBox, forceL_eq, Option.some.injEq] at he
  obtain ⟨hne', rfl⟩ := he
  obtain ⟨Vs, hVs, hr, hone⟩ := RV_cells h1 (hasC_cells hne')
  obtain ⟨w', ρ', hrun, _, hle, hn, H'⟩ := H.newCells (P := P) (e := t) (m := n + 1) (by omega) hr hone
  refine ⟨.pointer (some ⟨w.heap.size, 0, none⟩), w', ρ', .inl ?_, hle, RV_ptr.2 ⟨_, hn, by simp⟩, H'⟩
  simp [execOp, hop, Instr.box, newVar, hVs, hrun]
end
end Go.Eng
namespace Go.Eng
open Go
section
variable {P : Program} {ng : Nat} {o : Oper} {t : TypeId} {x y : Operand}
/-- a fresh object that is no row -/
theorem HR.newObj {C : Cx} {ρ : Ren} {h : Hp} {n : Nat} {w : World} (H : HR C ρ h n w) {ob : AO} {W : Obj} (hO : ∀ ρ', ρ.le ρ' → ObjR C.S ρ' ob ⟨w.heap.size, 0, 0, undef⟩ W) :
    ∃ w' ρ', (Go.newObj W).run P w = .ok w.heap.size w' ∧ ρ.le ρ' ∧ ρ' n = some ⟨w.heap.size, 0, 0, undef⟩ ∧ HR C ρ' (h.put n ob) (n + 1) w' := by
  have hn := H.fresh n (Nat.le_refl _)
  have hle : ρ.le (ρ.with n ⟨w.heap.size, 0, 0, undef⟩) := Ren.with_le hn
  obtain ⟨h2, h3⟩ := H.new (o := ob) (sz := 0) (m := n + 1) (W := W) (by omega) (hO _ hle) w.drawn
  exact ⟨_, _, by simp [Go.newObj, Sem.run], h2, by simp [Ren.with], h3⟩
theorem sound_makeMap (hop : o.op = .makeMap t none) : MSnd P ng o mMap := by
  rintro C rfl ρ ts a h n w r H hX he
  obtain rfl := Option.some.inj he
  obtain ⟨w', ρ', hrun, hle, hn, H'⟩ := H.newObj (P := P) (ob := .map [] 0) (W := .map #[] 0) fun ρ' _ => ⟨#[], rfl, trivial⟩
  exact ⟨.map (some w.heap.size), w', ρ', .inl (by simp [execOp, hop, Instr.makeMap, hrun]), hle, RV_map.2 ⟨_, hn, rfl⟩, H'⟩
theorem sound_range_str (hop : o.op = .range t x) (hu : P.underlying t = some .string) : MSnd P ng o (mRange (xOf ng x)) := by
  rintro C rfl ρ ts a h n w r H hX he
  have h1 := hX x (by simp [hop, Op.operands])
  unfold mRange at he
  split at he
  · rename_i s hx
    rw [hx] at h1
    obtain ⟨S, hV, hs⟩ := RV_str.1 h1
    obtain rfl := Option.some.inj he
    obtain ⟨w', ρ', hrun, hle, hn, H'⟩ := H.newObj (P := P) (ob := .siter s 0) (W := .stringIter S 0) fun ρ' _ => ⟨rfl, S, rfl, hs⟩
    refine ⟨.pointer (some ⟨w.heap.size, 0, none⟩), w', ρ', .inl ?_, hle, RV_ptr.2 ⟨_, hn, by simp⟩, H'⟩
    simp [execOp, hop, Instr.range, run_underlying hu, hV, hrun]
  · cases he
theorem sound_range_map {kt et : TypeId} (hop : o.op = .range t x) (hu : P.underlying t = some (.map kt et)) : MSnd P ng o (mRangeM (xOf ng x)) := by
  rintro C rfl ρ ts a h n w r H hX he
  have h1 := hX x (by simp [hop, Op.operands])
  unfold mRangeM rangeM at he
  split at he
  · rename_i hx
    rw [hx] at h1
    obtain rfl := Option.some.inj he
    obtain ⟨w', ρ', hrun, hle, hn, H'⟩ := H.newObj (P := P) (ob := .miter none 0 [] 0) (W := .mapIter none 0 #[] 0) fun ρ' _ => ⟨rfl, 0, #[], 0, rfl⟩
    refine ⟨.pointer (some ⟨w.heap.size, 0, none⟩), w', ρ', .inl ?_, hle, RV_ptr.2 ⟨_, hn, by simp⟩, H'⟩
    simp [execOp, hop, Instr.range, run_underlying hu, RV_nilmap.1 h1, hrun]
  · rename_i b hx
    rw [hx] at h1
    obtain ⟨loc, hb, hV⟩ := RV_map.1 h1
    split at he
    · rename_i es clock hg
      obtain ⟨W, hW, E, rfl, hE⟩ := H.obj _ _ loc hg trivial hb
      obtain rfl := Option.some.inj he
      obtain ⟨w', ρ', hrun, hle, hn, H'⟩ := H.newObj (P := P) (ob := .miter (some b) clock [] clock) (W := .mapIter (some loc.blk) clock #[] clock) fun ρ' hle => ⟨rfl, Nat.le_refl _, loc, hle _ _ hb, rfl⟩
      refine ⟨.pointer (some ⟨w.heap.size, 0, none⟩), w', ρ', .inl ?_, hle, RV_ptr.2 ⟨_, hn, by simp⟩, H'⟩
      simp [execOp, hop, Instr.range, run_underlying hu, hV, MapKept.run_getObj_map (P := P) hW, hrun]
    · cases he
  · cases he
theorem sound_next_str (hop : o.op = .next x true) : MSnd P ng o (mNext (xOf ng x)) := by
  rintro C rfl ρ ts a h n w r H hX he
  have h1 := hX x (by simp [hop, Op.operands])
  unfold mNext at he
  split at he
  · rename_i b hx
    rw [hx] at h1
    obtain ⟨loc, hb, hV⟩ := RV_ptr.1 h1
    split at he
    · rename_i s q hg
      obtain ⟨W, hW, h0, S, rfl, rfl⟩ := H.obj _ _ loc hg trivial hb
      rw [h0] at hV
      unfold nextS at he
      split at he
      · rename_i c hc
        rw [nthN_eq] at hc
        simp only [guardB_some, natBlt, forceN_eq, Option.some.injEq] at he
        obtain ⟨hlt, rfl⟩ := he
        have hq : q < S.size := by
          have := (List.getElem?_eq_some_iff.1 hc).1
          rwa [strOf_length] at this
        have hcb : (S[q]'hq).toNat = c := by
          have h3 : (strOf S)[q]? = some (S[q]'hq).toNat := by
            simp [strOf]
            exact ⟨S[q]'hq, by rw [Array.getElem?_eq_getElem (by exact hq)]; rfl, rfl⟩
          exact Option.some.inj (h3.symm.trans hc)
        have hrun := Lib.run_next_ascii_at (P := P) w loc.blk S q o.type hW hq (by omega)
        obtain ⟨e1, e2⟩ := MapKept.heap_set (o' := Obj.stringIter S (q + 1)) hW
        refine ⟨.tuple #[.bool true, .int .i64 q, .int .i32 (S[q]'hq).toNat], w.iterAt loc.blk S (q + 1), ρ, .inl (by simp [execOp, hop, hV, hrun]), Ren.le_refl _, ?_, ?_⟩
        · exact RV_ofL_tup (l := [.bool true, .int .i64 (.ofNat q), .int .i32 (.ofNat c)]) (cs := [.bool true, .int .i64 q, .int .i32 (S[q]'hq).toNat]) ⟨RV_bool.2 rfl, RV_int.2 rfl, RV_int.2 (by rw [hcb]; rfl), trivial⟩
        · exact H.set hg trivial hb ⟨h0, S, rfl, rfl⟩ e1 (fun k hk _ => e2 k hk) (by simp [World.iterAt]) rfl rfl rfl
      · rename_i hc
        rw [nthN_eq] at hc
        obtain rfl := Option.some.inj he
        have hq : ¬ q < S.size := by
          have := List.getElem?_eq_none_iff.1 hc
          rw [strOf_length] at this
          omega
        have hrun := Lib.run_next_end_at (P := P) w loc.blk S q o.type hW hq
        exact ⟨.tuple #[.bool false], w, ρ, .inl (by simp [execOp, hop, hV, hrun]), Ren.le_refl _, RV_ofL_tup (l := [.bool false]) (cs := [.bool false]) ⟨RV_bool.2 rfl, trivial⟩, H⟩
    · cases he
  · cases he
/-- an entry laid or turned -/
theorem updA_some {ρ : Ren} {kd : Nat} {k v : AV} {K V : Value} {born : Nat} {d : TypeDesc} (hd : keyKind d = some kd) (hk : keyIs kd k = true) (hr : RV ρ k K) (hv : RV ρ v V) :
    ∀ (es : List ME) (E : List MapEntry) (j : Nat) (e : ME) (x : MapEntry), All2 (REnt ρ) es E → es[j]? = some e → E[j]? = some x → x.key = K → keyEq k e.key = some true → (∀ j', j' < j → ∀ e', es[j']? = some e' → keyEq k e'.key = some false) →
      All2 (REnt ρ) (updA k v born es) (E.modify j fun q => { q with key := K, val := V })
  | [], _, j, e, x, _, h, _, _, _, _ => by simp at h
  | a :: es, b :: E, 0, e, x, hE, h, hx, hK, he, _ => by
    simp at h hx
    subst h hx
    simp only [updA, he, List.modify_zero_cons]
    exact ⟨⟨hE.1.1, hr, hv⟩, hE.2⟩
  | a :: es, b :: E, j + 1, e, x, hE, h, hx, hK, he, hl => by
    have h0 := hl 0 (by omega) a rfl
    simp only [updA, h0, List.modify_succ_cons]
    exact ⟨hE.1, updA_some hd hk hr hv es E j e x hE.2 (by simpa using h) (by simpa using hx) hK he fun j' hj e' he' => hl (j' + 1) (by omega) e' (by simpa using he')⟩
  | _ :: _, [], _, _, _, hE, _, _, _, _, _ => hE.elim
theorem updA_none {ρ : Ren} {k v : AV} {K V : Value} {born : Nat} (hr : RV ρ k K) (hv : RV ρ v V) :
    ∀ (es : List ME) (E : List MapEntry), All2 (REnt ρ) es E → findA k es = some none → All2 (REnt ρ) (updA k v born es) (E ++ [⟨K, V, born⟩])
  | [], [], _, _ => ⟨⟨rfl, hr, hv⟩, trivial⟩
  | a :: es, b :: E, hE, h => by
    simp only [findA, bindO_eq, Option.bind_eq_some_iff] at h
    obtain ⟨c, hc, h⟩ := h
    cases c with
    | true => simp at h
    | false =>
      simp only [updA, hc]
      exact ⟨hE.1, updA_none hr hv es E hE.2 h⟩
  | [], _ :: _, hE, _ => hE.elim
  | _ :: _, [], hE, _ => hE.elim
theorem REnt_tidy {ρ : Ren} {e : ME} {E : MapEntry} (h : REnt ρ e E) : REnt ρ e.tidy E := ⟨h.1, RV_tidy h.2.1, RV_tidy h.2.2⟩
theorem All2_tidy {ρ : Ren} : ∀ {es : List ME} {E : List MapEntry}, All2 (REnt ρ) es E → All2 (REnt ρ) (es.map ME.tidy) E
  | [], [], _ => trivial
  | _ :: _, _ :: _, h => ⟨REnt_tidy h.1, All2_tidy h.2⟩
  | [], _ :: _, h => h.elim
  | _ :: _, [], h => h.elim
theorem sameBits_key {ρ : Ren} {kd : Nat} {k : AV} {K : Value} {d : TypeDesc} (hd : keyKind d = some kd) (hk : keyIs kd k = true) (hr : RV ρ k K) (n : Nat) : Instr.sameBits (n + 1) K K = true := by
  rcases isKey_of hd hk hr with ⟨_, _, q', m, _, rfl⟩ | ⟨_, rfl, l, s, _, rfl, _⟩ | ⟨_, rfl, b, _, rfl⟩
  · simp [Instr.sameBits]
  · simp [Instr.sameBits, MapKept.bytes_beq]
  · simp [Instr.sameBits]
theorem mapUpdate_run {C : Cx} {ρ : Ren} {h : Hp} {n : Nat} {w : World} (H : HR C ρ h n w) {kt et : TypeId} {d : TypeDesc} {kd : Nat} {m k v : AV} {M K V : Value} {r : AOut} (hu : P.underlying t = some (.map kt et)) (hk : P.underlying kt = some d) (hd : keyKind d = some kd)
    (hm : RV ρ m M) (hK : RV ρ k K) (hV : RV ρ v V) (he : updM kd m k v h = some r) : ∃ w', (Instr.mapUpdate t M K V).run P w = .ok () w' ∧ OutR C ρ ρ h n undef w' r := by
  unfold updM at he
  split at he
  · rename_i b
    obtain ⟨loc, hb, rfl⟩ := RV_map.1 hm
    split at he
    · rename_i es clock hg
      obtain ⟨W, hW, E, rfl, hE⟩ := H.obj _ _ loc hg trivial hb
      simp only [guardB_some, bindO_eq, Option.bind_eq_some_iff, forceE_eq, forceN_eq, Option.some.injEq] at he
      obtain ⟨hkey, q, hq, rfl⟩ := he
      have hf := findA_now hd hkey hK es E.toList 0 q hE hq
      have hck := checkKey_run (P := P) (w := w) hk hd hkey hK false 9999
      have hgo := MapKept.run_getObj_map (P := P) hW
      cases q with
      | none =>
        have hfk := MapKept.run_findKey (P := P) (w := w) hk hf
        have hso := MapKept.run_setObj_map (P := P) (.map (E.push ⟨K, V, clock⟩) (clock + 1)) hW
        obtain ⟨e1, e2⟩ := MapKept.heap_set (o' := Obj.map (E.push ⟨K, V, clock⟩) (clock + 1)) hW
        refine ⟨_, by simp [Instr.mapUpdate, run_underlying hu, hgo, hck, hfk, hso]; rfl, Ren.le_refl _, RV_undef, ?_⟩
        exact H.set hg trivial hb ⟨E.push ⟨K, V, clock⟩, rfl, by rw [Array.toList_push]; exact All2_tidy (updA_none hK hV es E.toList hE hq)⟩ e1 (fun k hk _ => e2 k hk) (by simp) rfl rfl rfl
      | some v' =>
        obtain ⟨j, U, e, x, hf, hv', g1, g2, g3, g4, g5⟩ := hf
        have hfk := MapKept.run_findKey (P := P) (w := w) hk hf
        have hx : (E[j]?).map (·.key) = some K := by rw [← Array.getElem?_toList, g2]; simp [g3]
        have hkey' : (Instr.keyThatStays (((E[0 + j]?).map (·.key)).getD K) K).run P w = .ok K w := by
          rw [Nat.zero_add, hx]
          have := sameBits_key hd hkey hK 9999
          simp [Instr.keyThatStays, this]
        have hso := MapKept.run_setObj_map (P := P) (.map (E.modify (0 + j) fun e => { e with key := K, val := V }) clock) hW
        obtain ⟨e1, e2⟩ := MapKept.heap_set (o' := Obj.map (E.modify (0 + j) fun e => { e with key := K, val := V }) clock) hW
        refine ⟨_, by simp only [Instr.mapUpdate, Sem.run_bind, run_underlying hu, hgo, hck, hfk, hkey', hso, Result.andThen_ok]; rfl, Ren.le_refl _, RV_undef, ?_⟩
        refine H.set hg trivial hb ⟨_, rfl, ?_⟩ e1 (fun k hk _ => e2 k hk) (by simp) rfl rfl rfl
        rw [Nat.zero_add, Array.toList_modify]
        exact All2_tidy (updA_some hd hkey hK hV es E.toList j e x hE g1 g2 g3 g4 g5)
    · cases he
  · cases he
theorem sound_mapUpdate {k v : Operand} {kt et : TypeId} {d : TypeDesc} {kd : Nat} (hop : o.op = .mapUpdate t x k v ∨ o.op = .insert t x k v) (hu : P.underlying t = some (.map kt et)) (hk : P.underlying kt = some d) (hd : keyKind d = some kd) :
    MSnd P ng o (mUpd kd (xOf ng x) (xOf ng k) (xOf ng v)) := by
  rintro C rfl ρ ts a h n w r H hX he
  have h1 := hX x (by rcases hop with hop | hop <;> simp [hop, Op.operands])
  have h2 := hX k (by rcases hop with hop | hop <;> simp [hop, Op.operands])
  have h3 := hX v (by rcases hop with hop | hop <;> simp [hop, Op.operands])
  obtain ⟨w', hr, ho⟩ := mapUpdate_run H hu hk hd h1 h2 h3 he
  exact ⟨undef, w', ρ, .inr ⟨by rcases hop with hop | hop <;> simp [execOp, hop, hr], rfl⟩, ho⟩
end
end Go.Eng
namespace Go.Eng
open Go
section
variable {P : Program} {ng : Nat} {o : Oper} {t : TypeId} {x y : Operand}
/-- zero cells, ready -/
def zeroAV (z : Array Value) : List AV := z.toList.map avOf
theorem all_one {l : List Value} (h : l.all Value.oneCell' = true) : ∀ U ∈ l, U.oneCell' = true := List.all_eq_true.1 h
theorem sound_alloc {i : TypeInfo} {z : Value} (hop : o.op = .alloc t) (hi : P.info? t = some i) (hz : i.zero = some z) (h1 : z.cells.toList.all Value.oneCell' = true) :
    MSnd P ng o (fun _ _ n => some (.mem (.ptr n 0) [(n, .cells (zeroAV z.cells) false false)] 1)) := by
  rintro C rfl ρ ts a h n w r H hX he
  obtain rfl := Option.some.inj he
  obtain ⟨w', ρ', hrun, _, hle, hn, H'⟩ := H.newCells (P := P) (e := t) (m := n + 1) (by omega) (All2_avOf z.cells.toList) (all_one h1)
  refine ⟨.pointer (some ⟨w.heap.size, 0, none⟩), w', ρ', .inl ?_, hle, RV_ptr.2 ⟨_, hn, by simp⟩, H'⟩
  have hrun' : (Go.newRow t z.cells).run P w = .ok ⟨w.heap.size, 0, none⟩ w' := by simpa using hrun
  simp [execOp, hop, Instr.alloc, run_zeroValue hi hz, newVar, hrun']
/-- the places of a struct's fields -/
theorem run_places {w : World} : ∀ (fs : List Field), (∀ f ∈ fs, (P.info? f.type).isSome = true) →
    (fs.mapM fun f => Prod.mk f.offset <$> sizeOf f.type : Sem (List (Nat × Nat))).run P w = .ok (fs.map fun f => (f.offset, P.cellsOf f.type)) w
  | [], _ => rfl
  | f :: fs, h => by
    obtain ⟨i, hi⟩ := Option.isSome_iff_exists.1 (h f (by simp))
    have ih := run_places (w := w) fs fun g hg => h g (by simp [hg])
    have hc : P.cellsOf f.type = i.size := by simp [Program.cellsOf, hi]
    simp [List.mapM_cons, run_sizeOf hi, ih, hc]
theorem sound_build {parts : Array (Nat × Operand)} {fields : Array Field} {i : TypeInfo} {z : Value} {at_ : Nat → Nat × Nat} (hop : o.op = .build t parts) (hu : P.underlying t = some (.struct fields)) (hi : P.info? t = some i) (hz : i.zero = some z)
    (h1 : z.cells.toList.all Value.oneCell' = true) (hfs : ∀ f ∈ fields.toList, (P.info? f.type).isSome = true) (hp : ∀ p ∈ parts.toList, (fields[p.1]?).map (fun f => (f.offset, P.cellsOf f.type)) = some (at_ p.1) ∧ 1 ≤ (at_ p.1).2) :
    PSound P ng o (pBuild (zeroAV z.cells) (parts.toList.map fun p => ((at_ p.1).1, (at_ p.1).2, xOf ng p.2))) := by
  intro ρ ts a w v hX he
  simp only [pBuild, bindO_eq, Option.bind_eq_some_iff, forceLA_eq, Option.some.injEq] at he
  obtain ⟨cs, hcs, rfl⟩ := he
  have hpl : (fields.mapM fun f => do pure (f.offset, ← sizeOf f.type) : Sem (Array (Nat × Nat))).run P w = .ok (fields.toList.map fun f => (f.offset, P.cellsOf f.type)).toArray w := by
    rw [Array.mapM_eq_mapM_toList]
    have q := run_places (P := P) (w := w) fields.toList hfs
    simp at q ⊢
    rw [q]
    simp [Result.andThen]
  obtain ⟨CS', hf, r1, r2⟩ := fill_run (ρ := ρ) (ng := ng) (ts := ts) (a := a) (place := ((fields.toList.map fun f => (f.offset, P.cellsOf f.type)).toArray[·]?)) (at_ := at_) parts.toList (zeroAV z.cells) cs z.cells.toList (All2_avOf _) (all_one h1) hcs (fun p hpm => by
    obtain ⟨e, hs⟩ := hp p hpm
    refine ⟨?_, hs, hX p.2 ?_⟩
    · simpa using e
    · simp only [hop, Op.operands]
      simp
      exact ⟨p.1, by simpa using hpm⟩)
  refine ⟨.agg CS'.toArray, ?_, RV_ofL_agg r1 r2⟩
  have hz' := run_zeroValue (P := P) (w := w) hi hz
  simp only [execOp, hop, Instr.build, Sem.run_bind, hz', Result.andThen_ok, run_underlying hu, hpl]
  have e : (parts.map fun q : Nat × Operand => (q.1, a.eval q.2)).toList = parts.toList.map fun q => (q.1, a.eval q.2) := by simp
  rw [e]
  have e2 : z.cells.toList.toArray = z.cells := by simp
  rw [e2] at hf
  rw [hf]
  simp
theorem sound_buildArr {parts : Array (Nat × Operand)} {k : Nat} {et : TypeId} {i ie : TypeInfo} {z : Value} (hop : o.op = .build t parts) (hu : P.underlying t = some (.array k et)) (hi : P.info? t = some i) (hz : i.zero = some z) (hie : P.info? et = some ie) (hsz : 1 ≤ ie.size)
    (h1 : z.cells.toList.all Value.oneCell' = true) : PSound P ng o (pBuild (zeroAV z.cells) (parts.toList.map fun p => (p.1 * ie.size, ie.size, xOf ng p.2))) := by
  intro ρ ts a w v hX he
  simp only [pBuild, bindO_eq, Option.bind_eq_some_iff, forceLA_eq, Option.some.injEq] at he
  obtain ⟨cs, hcs, rfl⟩ := he
  obtain ⟨CS', hf, r1, r2⟩ := fill_run (ρ := ρ) (ng := ng) (ts := ts) (a := a) (place := fun k => some (k * ie.size, ie.size)) (at_ := fun k => (k * ie.size, ie.size)) parts.toList (zeroAV z.cells) cs z.cells.toList (All2_avOf _) (all_one h1) hcs (fun p hpm => by
    refine ⟨rfl, hsz, hX p.2 ?_⟩
    simp only [hop, Op.operands]
    simp
    exact ⟨p.1, by simpa using hpm⟩)
  refine ⟨.agg CS'.toArray, ?_, RV_ofL_agg r1 r2⟩
  have hz' := run_zeroValue (P := P) (w := w) hi hz
  simp only [execOp, hop, Instr.build, Sem.run_bind, hz', Result.andThen_ok, run_underlying hu, run_sizeOf hie]
  have e : (parts.map fun q : Nat × Operand => (q.1, a.eval q.2)).toList = parts.toList.map fun q => (q.1, a.eval q.2) := by simp
  rw [e]
  have e2 : z.cells.toList.toArray = z.cells := by simp
  rw [e2] at hf
  rw [hf]
  simp
theorem sound_buildSlice {parts : Array (Nat × Operand)} {e : TypeId} {len : Nat} {i : TypeInfo} {z : Value} (hop : o.op = .buildSlice t len parts) (hu : P.underlying t = some (.slice e)) (hi : P.info? e = some i) (hz : i.zero = some z)
    (hle : len * i.size ≤ 2 ^ 24) (hsz : 1 ≤ i.size) (h1 : ((Array.range (len * i.size)).map (z.cells[· % z.cells.size]!)).toList.all Value.oneCell' = true) (hp : ∀ p ∈ parts.toList, p.1 * i.size = p.1 * i.size) :
    MSnd P ng o (mSlice len i.size (zeroAV ((Array.range (len * i.size)).map (z.cells[· % z.cells.size]!))) (parts.toList.map fun p => (p.1 * i.size, i.size, xOf ng p.2))) := by
  have _ := hp
  rintro C rfl ρ ts a h n w r H hX he
  simp only [mSlice, bindO_eq, Option.bind_eq_some_iff, Eng.newRow, forceN_eq, forceL_eq, Option.some.injEq] at he
  obtain ⟨cs, hcs, rfl⟩ := he
  obtain ⟨CS', hf, r1, r2⟩ := fill_run (ρ := ρ) (ng := C.ng) (ts := ts) (a := a) (place := fun k => some (k * i.size, i.size)) (at_ := fun k => (k * i.size, i.size)) parts.toList _ cs ((Array.range (len * i.size)).map (z.cells[· % z.cells.size]!)).toList (All2_avOf _) (all_one h1) hcs (fun p hpm => by
    refine ⟨rfl, hsz, hX p.2 ?_⟩
    simp only [hop, Op.operands]
    simp
    exact ⟨p.1, by simpa using hpm⟩)
  obtain ⟨w', ρ', hrun, _, hle', hn, H'⟩ := H.newCells (P := P) (e := e) (m := n + 1) (by omega) r1 r2
  have hlen : CS'.length = len * i.size := by
    rw [← r1.length]
    have : ∀ (l : List FPart) (c c' : List AV), fillA ts l c = some c' → c'.length = c.length := by
      intro l
      induction l with
      | nil => intro c c' h; obtain rfl := Option.some.inj h; rfl
      | cons p l ih =>
        intro c c' h
        simp only [fillA, guardB_some] at h
        obtain ⟨_, h⟩ := h
        obtain ⟨hle, h⟩ := writeK_some h
        rw [ih _ _ h, writeL_length hle]
    rw [this _ _ _ hcs]
    simp [zeroAV]
  refine ⟨.slice (some ⟨w.heap.size, 0, none⟩) len len, w', ρ', .inl ?_, hle', RV_slc.2 ⟨_, len, hn, by simp, Nat.le_refl _, Nat.le_refl _, fun _ => ⟨rfl, by show 0 + len * i.size ≤ CS'.length; omega⟩, fun q => by cases q⟩, H'⟩
  have hz' := run_zeroValue (P := P) (w := w) hi hz
  have e1 : (parts.map fun q : Nat × Operand => (q.1, a.eval q.2)).toList = parts.toList.map fun q => (q.1, a.eval q.2) := by simp
  have hlt : ¬ len * i.size > 2 ^ 24 := by omega
  simp only [Array.toArray_toList] at hf
  by_cases h0 : len * i.size = 0
  · have hr0 : (Array.range (len * i.size)).map (fun x => (#[] : Array Value)[x % (#[] : Array Value).size]!) = (Array.range (len * i.size)).map (fun x => z.cells[x % z.cells.size]!) := by
      rw [h0]; simp
    simp only [execOp, hop, Instr.buildSlice, Sem.run_bind, run_underlying hu, Result.andThen_ok, run_sizeOf hi, if_neg hlt, if_pos h0, e1, Sem.run_pure]
    rw [hr0]
    simp [hf, hrun]
  · simp only [execOp, hop, Instr.buildSlice, Sem.run_bind, run_underlying hu, Result.andThen_ok, run_sizeOf hi, if_neg hlt, if_neg h0, hz', e1, Sem.run_pure]
    simp [hf, hrun]
end
end Go.Eng
namespace Go.Eng
open Go
theorem repL_get (l : List AV) : ∀ (n i : Nat), (repL n l)[i]? = if i < n * l.length then l[i % l.length]? else none
  | 0, i => by simp [repL]
  | n + 1, i => by
    simp only [repL]
    by_cases h : i < l.length
    · rw [List.getElem?_append_left h, if_pos (by rw [Nat.add_mul, Nat.one_mul]; omega), Nat.mod_eq_of_lt h]
    · rw [List.getElem?_append_right (by omega), repL_get l n (i - l.length)]
      by_cases h2 : i < (n + 1) * l.length
      · rw [Nat.add_mul, Nat.one_mul] at h2
        rw [if_pos (by omega), if_pos (by rw [Nat.add_mul, Nat.one_mul]; omega)]
        congr 1
        rw [← Nat.mod_eq_sub_mod (by omega)]
      · rw [Nat.add_mul, Nat.one_mul] at h2
        rw [if_neg (by omega), if_neg (by rw [Nat.add_mul, Nat.one_mul]; omega)]
theorem repL_length (l : List AV) : ∀ n, (repL n l).length = n * l.length
  | 0 => by simp [repL]
  | n + 1 => by simp only [repL, List.length_append, repL_length l n, Nat.add_mul, Nat.one_mul]; omega
/-- zero cells, so many times over -/
theorem All2_repL {ρ : Ren} (z : Array Value) (n : Nat) : All2 (RV ρ) (repL n (zeroAV z)) ((Array.range (n * z.size)).map fun i => z[i % z.size]!).toList := by
  have hl : (zeroAV z).length = z.size := by simp [zeroAV]
  refine All2.of_get (by rw [repL_length, hl]; simp) fun i v V hv hV => ?_
  rw [repL_get, hl] at hv
  split at hv
  · rename_i hi
    have hpos : 0 < z.size := by
      rcases Nat.eq_zero_or_pos z.size with h0 | h0
      · rw [h0] at hi; simp at hi
      · exact h0
    have hm : i % z.size < z.size := Nat.mod_lt _ hpos
    simp [hi] at hV
    subst hV
    simp [zeroAV, hm] at hv
    subst hv
    rw [getElem!_pos z _ hm]
    exact RV_avOf _
  · cases hv
theorem one_zero {z : Array Value} (h : z.toList.all Value.oneCell' = true) (n : Nat) : ∀ U ∈ ((Array.range (n * z.size)).map fun i => z[i % z.size]!).toList, U.oneCell' = true := by
  intro U hU
  simp at hU
  obtain ⟨i, hi, rfl⟩ := hU
  have hpos : 0 < z.size := by
    rcases Nat.eq_zero_or_pos z.size with h0 | h0
    · rw [h0] at hi; simp at hi
    · exact h0
  have hm : i % z.size < z.size := Nat.mod_lt _ hpos
  rw [getElem!_pos z _ hm]
  exact all_one h _ (by simp)
theorem wrap_small {n : Nat} (h : n ≤ maxLenA) : IntKind.i64.wrap (Int.ofNat n) = (n : Int) := by
  unfold maxLenA at h
  simp only [IntKind.wrap, IntKind.bits, IntKind.signed, Int.ofNat_eq_natCast]
  simp
  omega
section
variable {P : Program} {ng : Nat} {o : Oper} {t : TypeId} {x y : Operand}
theorem run_askRoom {w : World} (n : Nat) : (askRoom n).run P w = .ok () w := by
  unfold askRoom
  split <;> simp [mark, Sem.run]
theorem sound_makeSlice {e : TypeId} {i : TypeInfo} {z : Value} (hop : o.op = .makeSlice t x y) (hu : P.underlying t = some (.slice e)) (hi : P.info? e = some i) (hz : i.zero = some z) (hsz : z.cells.size = i.size)
    (h1 : z.cells.toList.all Value.oneCell' = true) : MSnd P ng o (mMake i.size i.bytes (zeroAV z.cells) (xOf ng x) (xOf ng y)) := by
  rintro C rfl ρ ts a h n w r H hX he
  have h2 := hX x (by simp [hop, Op.operands])
  have h3 := hX y (by simp [hop, Op.operands])
  unfold mMake at he
  split at he
  · rename_i len hx
    split at he
    · rename_i cap hy
      rw [hx, RV_int] at h2
      rw [hy, RV_int] at h3
      simp only [guardB_some, natBle, forceL_eq, Option.some.injEq] at he
      obtain ⟨hle, hmax, hby, rfl⟩ := he
      obtain ⟨w', ρ', _, hw, hle', hn, H'⟩ := H.newCells (P := P) (e := e) (m := n + 1) (by omega) (All2_repL z.cells cap) (one_zero h1 cap)
      have hlen : ((Array.range (cap * z.cells.size)).map fun i => z.cells[i % z.cells.size]!).toList.length = cap * i.size := by simp [hsz]
      refine ⟨.slice (some ⟨w.heap.size, 0, none⟩) len cap, w', ρ', .inl ?_, hle', RV_slc.2 ⟨_, cap, hn, by simp, hle, Nat.le_refl _, fun _ => ⟨rfl, ?_⟩, fun q => by cases q⟩, H'⟩
      · have hb1 : i.bytes * cap ≤ 4096 * 100000 := Nat.mul_le_mul hby hmax
        have hb2 : (i.bytes : Int) * (cap : Int) ≤ 281474976710656 := by
          rw [← Int.natCast_mul]; omega
        have hr := run_make (P := P) w t e i z hu hi hz .i64 .i64 (Int.ofNat len) (Int.ofNat cap) (by simp) (by simpa using hle) hb2 (by unfold maxLenA at hmax; simp; omega)
        simp only [Int.ofNat_eq_natCast, Int.toNat_natCast] at hr
        have e1 : madeCells z.cells (cap * i.size) = (((Array.range (cap * z.cells.size)).map fun i => z.cells[i % z.cells.size]!).toList).toArray := by rw [Array.toArray_toList, hsz]; unfold madeCells; rw [hsz]
        rw [e1, ← hw] at hr
        simp [execOp, hop, h2, h3, hr]
      · show 0 + cap * i.size ≤ (((Array.range (cap * z.cells.size)).map fun i => z.cells[i % z.cells.size]!).toList).length
        rw [hlen]; omega
    · cases he
  · cases he
theorem zeroCells_eq (z : Array Value) (n : Nat) : (Builtin.zeroCells z n).toList = ((Array.range (n * z.size)).map fun i => z[i % z.size]!).toList := rfl
theorem sound_clear {args : Array Operand} {ats : Array TypeId} {aT e : TypeId} {i : TypeInfo} {z : Value} (hop : o.op = .call { callee := .builtin .clear, args, argTypes := ats }) (ha : args = #[x]) (ht : ats[0]? = some aT) (hu : P.underlying aT = some (.slice e))
    (hi : P.info? e = some i) (hz : i.zero = some z) (h1 : z.cells.toList.all Value.oneCell' = true) : MSnd P ng o (mClear i.size (zeroAV z.cells) (xOf ng x)) := by
  rintro C rfl ρ ts a h n w r H hX he
  subst ha
  have h2 := hX x (by simp [hop, Op.operands, Call.operands])
  unfold mClear clearA at he
  have hzv := run_zeroValue (P := P) (w := w) hi hz
  split at he
  · rename_i hx
    rw [hx] at h2
    obtain rfl := Option.some.inj he
    refine ⟨.tuple #[], w, ρ, .inl ?_, Ren.le_refl _, RV_undef, H⟩
    rw [run_call_builtin hop]
    simp [builtin, Builtin.clear_, ht, run_underlying hu, RV_nilslc.1 h2]
  · rename_i hx
    rw [hx] at h2
    obtain ⟨b, c, hV⟩ := RV_emp.1 h2
    obtain rfl := Option.some.inj he
    refine ⟨.tuple #[], w, ρ, .inl ?_, Ren.le_refl _, RV_undef, H⟩
    rw [run_call_builtin hop]
    simp [builtin, Builtin.clear_, ht, run_underlying hu, hV]
  · rename_i b off len cap q opn hx
    rw [hx] at h2
    obtain ⟨loc, cap', hb, hV, _⟩ := RV_slc.1 h2
    simp only [guardB_some, natBeq, natBle] at he
    obtain ⟨rfl, _, he⟩ := he
    unfold storeO at he
    split at he
    · rename_i l opn' fr hg
      obtain ⟨hle, he⟩ := writeK_some he
      obtain rfl := Option.some.inj he
      obtain ⟨w', hrun, H'⟩ := H.store (P := P) hg hb hle (All2_repL z.cells len) (one_zero h1 len)
      refine ⟨.tuple #[], w', ρ, .inl ?_, Ren.le_refl _, RV_undef, H'⟩
      rw [run_call_builtin hop]
      cases len with
      | zero =>
        obtain rfl : w' = w := by
          simp [storeCells] at hrun
          exact hrun.symm
        simp [builtin, Builtin.clear_, ht, run_underlying hu, hV]
      | succ k =>
        rw [← zeroCells_eq] at hrun
        simp [builtin, Builtin.clear_, ht, run_underlying hu, hV, hzv, hrun]
    · cases he
  · cases he
end
end Go.Eng
namespace Go.Eng
open Go
theorem bytesL_eq : ∀ l : List Nat, bytesL l = l.map fun c => AV.int .u8 (.ofNat c)
  | [] => rfl
  | c :: l => by simp [bytesL, bytesL_eq l]
section
variable {C : Cx} {ρ : Ren} {h : Hp} {n : Nat} {w : World}
theorem HR.elems (H : HR C ρ h n w) {P : Program} {esz xl : Nat} {v : AV} {V : Value} {l : List AV} (he : elemsA h esz v = some l) (hl : lenA v = some xl) (hv : RV ρ v V) :
    (Builtin.lenOf V).run P w = .ok xl w ∧ l.length = xl * esz ∧ ∀ k, k ≤ xl → ∃ Vs : List Value, (Builtin.firstCells esz k V).run P w = .ok Vs.toArray w ∧ All2 (RV ρ) (l.take (k * esz)) Vs ∧ ∀ U ∈ Vs, U.oneCell' = true := by
  unfold elemsA at he
  split at he
  · obtain rfl := Option.some.inj he
    obtain rfl : 0 = xl := Option.some.inj hl
    obtain rfl := RV_nilslc.1 hv
    refine ⟨by simp [Builtin.lenOf], by simp, fun k hk => ⟨[], by simp [Builtin.firstCells], by simp [All2], by simp⟩⟩
  · obtain rfl := Option.some.inj he
    obtain rfl : 0 = xl := Option.some.inj hl
    obtain ⟨a, c, rfl⟩ := RV_emp.1 hv
    refine ⟨by simp [Builtin.lenOf], by simp, fun k hk => ⟨[], ?_, by simp [All2], by simp⟩⟩
    obtain rfl : k = 0 := by omega
    simp [Builtin.firstCells, loadCells, loadCellsFrom]
  · rename_i b off len cap z opn
    obtain rfl : len = xl := Option.some.inj hl
    obtain ⟨loc, cap', hb, rfl, _⟩ := RV_slc.1 hv
    simp only [guardB_some, natBeq, cellsAt, bindO_eq, Option.bind_eq_some_iff] at he
    obtain ⟨rfl, r, hr, ht⟩ := he
    obtain ⟨rfl, hle⟩ := takeAt_some ht
    have hle' : off + len * z ≤ r.length := hle
    refine ⟨by simp [Builtin.lenOf], by simp; omega, fun k hk => ?_⟩
    have hkz : k * z ≤ len * z := Nat.mul_le_mul_right _ hk
    obtain ⟨Vs, g1, g2, g3, g4⟩ := H.cells (off := off) (k := k * z) hr hb (by omega)
    have hrun := run_firstCells_some (P := P) w z k ⟨loc.blk, loc.sh + off, none⟩ len cap' Vs g3 g4
    refine ⟨Vs, hrun, ?_, g2⟩
    rw [List.take_take, Nat.min_eq_left (by exact hkz)]
    exact g1
  · rename_i s
    obtain rfl : s.length = xl := Option.some.inj hl
    obtain ⟨S, rfl, rfl⟩ := RV_str.1 hv
    simp only [guardB_some, natBeq, Option.some.injEq] at he
    obtain ⟨rfl, rfl⟩ := he
    refine ⟨by simp [Builtin.lenOf, strOf_length], by simp [bytesL_eq], fun k hk => ⟨(S.data.toList.take k).map fun b => Value.int .u8 b.toNat, ?_, ?_, ?_⟩⟩
    · have e : (S.extract 0 k).data.map (fun b => Value.int .u8 b.toNat) = ((S.data.toList.take k).map fun b => Value.int .u8 b.toNat).toArray := by
        apply Array.toList_inj.1
        simp only [Array.toList_map, ByteArray.data_extract, Array.toList_extract, List.extract_eq_take_drop, List.drop_zero, Nat.sub_zero]
      rw [← e]
      simp [Builtin.firstCells]
    · rw [Nat.mul_one, bytesL_eq, strOf, List.map_map, ← List.map_take]
      refine All2.of_get (by simp) fun i a b ha hb => ?_
      simp only [List.getElem?_map, Option.map_eq_some_iff] at ha hb
      obtain ⟨c, hc, rfl⟩ := ha
      obtain ⟨c', hc', rfl⟩ := hb
      rw [hc] at hc'
      cases hc'
      exact RV_int.2 rfl
    · intro U hU
      obtain ⟨c, _, rfl⟩ := List.mem_map.1 hU
      rfl
  · cases he
end
section
variable {P : Program} {ng : Nat} {o : Oper} {t : TypeId} {x y : Operand}
theorem sound_copy {args : Array Operand} {ats : Array TypeId} {aT e : TypeId} {i : TypeInfo} (hop : o.op = .call { callee := .builtin .copy, args, argTypes := ats }) (ha : args = #[x, y]) (ht : ats[0]? = some aT) (hu : P.underlying aT = some (.slice e))
    (hi : P.info? e = some i) : MSnd P ng o (mCopy i.size (xOf ng x) (xOf ng y)) := by
  rintro C rfl ρ ts a h n w r H hX he
  subst ha
  have h1 := hX x (by simp [hop, Op.operands, Call.operands])
  have h2 := hX y (by simp [hop, Op.operands, Call.operands])
  unfold mCopy at he
  simp only [bindO_eq, Option.bind_eq_some_iff] at he
  obtain ⟨l, hl, xl, hxl, he⟩ := he
  obtain ⟨hlen, hll, hfirst⟩ := H.elems (P := P) hl hxl h2
  split at he
  · rename_i hx
    rw [hx] at h1
    obtain rfl := Option.some.inj he
    obtain ⟨Vs, hf, _⟩ := hfirst 0 (by omega)
    refine ⟨goInt 0, w, ρ, .inl ?_, Ren.le_refl _, RV_int.2 rfl, H⟩
    rw [run_call_builtin hop]
    simp [builtin, Builtin.copy_, ht, run_underlying hu, RV_nilslc.1 h1, hlen, run_sizeOf hi, hf]
  · rename_i b off dl cap z opn hx
    rw [hx] at h1
    obtain ⟨loc, cap', hb, hV, _⟩ := RV_slc.1 h1
    simp only [guardB_some, natBeq, forceN_eq] at he
    obtain ⟨rfl, he⟩ := he
    obtain ⟨Vs, hf, hr, h1c⟩ := hfirst (min xl dl) (by omega)
    unfold storeO at he
    split at he
    · rename_i r' opn' fr hg
      obtain ⟨hle, he⟩ := writeK_some he
      obtain rfl := Option.some.inj he
      obtain ⟨w', hrun, H'⟩ := H.store (P := P) hg hb hle hr h1c
      refine ⟨goInt (min xl dl : Nat), w', ρ, .inl ?_, Ren.le_refl _, RV_int.2 rfl, H'⟩
      rw [run_call_builtin hop]
      have e1 : Nat.min xl dl = min xl dl := rfl
      simp [builtin, Builtin.copy_, ht, run_underlying hu, hV, hlen, run_sizeOf hi, e1, hf, hrun]
    · cases he
  · cases he
end
end Go.Eng
namespace Go.Eng
open Go
section
variable {P : Program} {ng : Nat} {o : Oper} {t u e ty : TypeId} {x y : Operand} {i : TypeInfo} {z : Value} {d : TypeDesc}
/-- append, with room -/
theorem run_append_fit {w w' : World} {base : Option Addr} {sLen sCap n : Nat} {X : Value} {news : List Value} (hd : d = .string ∨ ∃ e', d = .slice e') (hu : P.underlying u = some d) (ht : P.underlying t = some (.slice e)) (hi : P.info? e = some i)
    (hlen : (Builtin.lenOf X).run P w = .ok n w) (hnew : (Builtin.firstCells i.size n X).run P w = .ok news.toArray w) (hn : sLen + n ≤ sCap)
    (hst : ∀ a, base = some a → (storeCells (a.add (sLen * i.size)) news).run P w = .ok () w') (hbase : base = none → w' = w) :
    (Builtin.append_ #[t, u] ty #[.slice base sLen sCap, X]).run P w = .ok (.slice base (sLen + n) sCap) w' := by
  cases base with
  | none =>
    obtain rfl := hbase rfl
    rcases hd with rfl | ⟨e', rfl⟩ <;> simp [Builtin.append_, run_underlying ht, run_underlying hu, sizeOf, typeInfo, hi, hlen, hn, hnew]
  | some a =>
    have := hst a rfl
    rcases hd with rfl | ⟨e', rfl⟩ <;> simp [Builtin.append_, run_underlying ht, run_underlying hu, sizeOf, typeInfo, hi, hlen, hn, hnew, this]
/-- append, without -/
theorem run_append_big {w : World} {base : Option Addr} {sLen sCap n : Nat} {X : Value} {olds news : List Value} (hd : d = .string ∨ ∃ e', d = .slice e') (hu : P.underlying u = some d) (ht : P.underlying t = some (.slice e)) (hi : P.info? e = some i) (hz : i.zero = some z)
    (hlen : (Builtin.lenOf X).run P w = .ok n w) (hold : (Builtin.firstCells i.size sLen (.slice base sLen sCap)).run P w.drew = .ok olds.toArray w.drew) (hnew : (Builtin.firstCells i.size n X).run P w.drew = .ok news.toArray w.drew)
    (hg : sCap < sLen + n) (h63 : sLen + n ≤ maxLenA) (hby : i.bytes ≤ 4096) :
    (Builtin.append_ #[t, u] ty #[.slice base sLen sCap, X]).run P w = .ok (.slice (some ⟨w.heap.size, 0, none⟩) (sLen + n) (grownCap w (sLen + n) sCap e))
      (w.drew.alloc (.cells (olds ++ news ++ (Builtin.zeroCells z.cells (grownCap w (sLen + n) sCap e - (sLen + n))).toList).toArray e)) := by
  have hm : (sLen + n) * i.bytes ≤ 100000 * 4096 := Nat.mul_le_mul h63 hby
  have hfit := growslice_fits (bytes := i.bytes) hg (by omega)
  have hn : ¬ (sLen + n ≤ sCap) := by omega
  have h63' : ¬ (9223372036854775807 < ((sLen : Int) + (n : Int))) := by unfold maxLenA at h63; omega
  have h48' : ¬ (281474976710656 < Builtin.nextslicecap (sLen + n) sCap * i.bytes) := by omega
  rcases hd with rfl | ⟨e', rfl⟩
  · simp [Builtin.append_, run_underlying ht, run_underlying hu, sizeOf, typeInfo, zeroValue, hi, hz, hlen, hn, h63', h48', Question.forced, hold, hnew, Go.newRow, grownCap]
    congr 2; apply Array.ext'; simp
  · simp [Builtin.append_, run_underlying ht, run_underlying hu, sizeOf, typeInfo, zeroValue, hi, hz, hlen, hn, h63', h48', Question.forced, hold, hnew, Go.newRow, grownCap]
    congr 2; apply Array.ext'; simp
/-- what is appended: its number m; its cells; how append runs with it, with room and without -/
structure AppSrc (P : Program) (t u ty e : TypeId) (i : TypeInfo) (z X : Value) (m : Nat) (news0 news : List Value) (w : World) : Prop where
  fit : ∀ {w' : World} {base : Option Addr} {sLen sCap : Nat}, sLen + m ≤ sCap → (∀ a, base = some a → (storeCells (a.add (sLen * i.size)) news0).run P w = .ok () w') → (base = none → w' = w) →
    (Builtin.append_ #[t, u] ty #[.slice base sLen sCap, X]).run P w = .ok (.slice base (sLen + m) sCap) w'
  big : ∀ {base : Option Addr} {sLen sCap : Nat} {olds : List Value}, (Builtin.firstCells i.size sLen (.slice base sLen sCap)).run P w.drew = .ok olds.toArray w.drew → sCap < sLen + m → sLen + m ≤ maxLenA →
    (Builtin.append_ #[t, u] ty #[.slice base sLen sCap, X]).run P w = .ok (.slice (some ⟨w.heap.size, 0, none⟩) (sLen + m) (grownCap w (sLen + m) sCap e))
      (w.drew.alloc (.cells (olds ++ news ++ (Builtin.zeroCells z.cells (grownCap w (sLen + m) sCap e - (sLen + m))).toList).toArray e))
theorem appSrc_of {w : World} {n : Nat} {X : Value} {news0 news : List Value} (hd : d = .string ∨ ∃ e', d = .slice e') (hu : P.underlying u = some d) (ht : P.underlying t = some (.slice e)) (hi : P.info? e = some i) (hz : i.zero = some z) (hby : i.bytes ≤ 4096)
    (hlen : (Builtin.lenOf X).run P w = .ok n w) (hnew0 : (Builtin.firstCells i.size n X).run P w = .ok news0.toArray w) (hnew : (Builtin.firstCells i.size n X).run P w.drew = .ok news.toArray w.drew) : AppSrc P t u ty e i z X n news0 news w :=
  ⟨fun hn hst hbase => run_append_fit hd hu ht hi hlen hnew0 hn hst hbase, fun hold hg h63 => run_append_big hd hu ht hi hz hlen hold hnew hg h63 hby⟩
end
end Go.Eng
namespace Go.Eng
open Go
theorem Ren.with_self (ρ : Ren) (n : Nat) (loc : Loc) : (ρ.with n loc) n = some loc := if_pos rfl
section
variable {C : Cx} {ρ : Ren} {h : Hp} {n : Nat} {w : World}
/-- a new row that is longer than is known -/
theorem HR.newOpen (H : HR C ρ h n w) {e : TypeId} {l : List AV} {Vs rest : List Value} {m : Nat} (fr : Bool) (hm : n < m) (hv : All2 (RV ρ) l Vs) (h1 : ∀ U ∈ Vs ++ rest, U.oneCell' = true) :
    ρ.le (ρ.with n ⟨w.heap.size, 0, (Vs ++ rest).length, undef⟩) ∧ HR C (ρ.with n ⟨w.heap.size, 0, (Vs ++ rest).length, undef⟩) (h.put n (.cells l true fr)) m (w.drew.alloc (.cells (Vs ++ rest).toArray e)) := by
  have hn := H.fresh n (Nat.le_refl _)
  have hle : ρ.le (ρ.with n ⟨w.heap.size, 0, (Vs ++ rest).length, undef⟩) := Ren.with_le hn
  exact H.new (o := .cells l true fr) (sz := (Vs ++ rest).length) (m := m) (W := .cells (Vs ++ rest).toArray e) hm
    ⟨_, e, (0, 0), rfl, ⟨fun i v hi => by
        obtain ⟨V, hV, r⟩ := hv.get i v hi
        refine ⟨V, ?_, r.mono hle⟩
        have hlt : i < Vs.length := (List.getElem?_eq_some_iff.1 hV).1
        simp only [Nat.zero_add, List.getElem?_toArray]
        rw [List.getElem?_append_left hlt]; exact hV,
      fun i hi => by
        have hi : i < (Vs ++ rest).length := hi
        exact ⟨(Vs ++ rest)[i], by simp only [Nat.zero_add, List.getElem?_toArray]; exact List.getElem?_eq_getElem hi, h1 _ (List.getElem_mem hi)⟩,
      by rw [hv.length]; simp, .inl rfl⟩, by simp, fun q => by cases q⟩ _
end
section
variable {P : Program} {ng : Nat} {o : Oper} {t u e ty : TypeId} {x y : Operand} {i : TypeInfo} {z : Value} {d : TypeDesc}
theorem one_zeroCells {z : Array Value} (h : z.toList.all Value.oneCell' = true) (n : Nat) : ∀ U ∈ (Builtin.zeroCells z n).toList, U.oneCell' = true := by
  rw [zeroCells_eq]; exact one_zero h n
theorem zeroCells_length (z : Array Value) (n : Nat) : (Builtin.zeroCells z n).toList.length = n * z.size := by simp [Builtin.zeroCells]
/-- the arm that lays a new row -/
theorem append_new {C : Cx} {ρ : Ren} {h : Hp} {n : Nat} {w : World} (H : HR C ρ h n w) (fr : Bool) {base : Option Addr} {sLen sCap m : Nat} {X : Value} {lo ln : List AV} {olds news0 news : List Value} (A : AppSrc P t u ty e i z X m news0 news w) (hsz : z.cells.size = i.size)
    (h1 : z.cells.toList.all Value.oneCell' = true)
    (hold : (Builtin.firstCells i.size sLen (.slice base sLen sCap)).run P w.drew = .ok olds.toArray w.drew)
    (ho : All2 (RV ρ) lo olds) (hn : All2 (RV ρ) ln news) (ho1 : ∀ U ∈ olds, U.oneCell' = true) (hn1 : ∀ U ∈ news, U.oneCell' = true) (hlo : lo.length = sLen * i.size) (hln : ln.length = m * i.size)
    (hg : sCap < sLen + m) (h63 : sLen + m ≤ maxLenA) :
    ∃ V w' ρ', (Builtin.append_ #[t, u] ty #[.slice base sLen sCap, X]).run P w = .ok V w' ∧ OutR C ρ ρ' h n V w' (.mem (.slc n 0 (sLen + m) (sLen + m) i.size true) [(n, .cells (lo ++ ln) true fr)] 1) := by
  have hr := A.big hold hg h63
  have hge := grownCap_ge w (sLen + m) sCap e
  obtain ⟨h2, h3⟩ := H.newOpen (e := e) (fr := fr) (m := n + 1) (l := lo ++ ln) (Vs := olds ++ news) (rest := (Builtin.zeroCells z.cells (grownCap w (sLen + m) sCap e - (sLen + m))).toList) (by omega) (All2.append ho hn) (fun U hU => by
    simp only [List.mem_append] at hU
    rcases hU with (hU | hU) | hU
    · exact ho1 U hU
    · exact hn1 U hU
    · exact one_zeroCells h1 _ U hU)
  refine ⟨_, _, _, hr, h2, RV_slc.2 ⟨_, grownCap w (sLen + m) sCap e, Ren.with_self _ _ _, by simp, Nat.le_refl _, hge, (fun q => by cases q), fun _ => ?_⟩, h3⟩
  have e1 : olds.length = sLen * i.size := by rw [← ho.length, hlo]
  have e2 : news.length = m * i.size := by rw [← hn.length, hln]
  show 0 + grownCap w (sLen + m) sCap e * i.size = ((olds ++ news) ++ (Builtin.zeroCells z.cells (grownCap w (sLen + m) sCap e - (sLen + m))).toList).length
  rw [List.length_append, List.length_append, zeroCells_length, hsz, e1, e2, Nat.zero_add, ← Nat.add_mul, ← Nat.add_mul]
  congr 1
  omega
/-- the arm that goes on in the old row, of which the known part is taken over -/
theorem append_on {C : Cx} {ρ : Ren} {h : Hp} {n : Nat} {w : World} (H : HR C ρ h n w) {b off len cap' m : Nat} {loc : Loc} {l ln : List AV} {opn' fr : Bool} {X : Value} {news news1 : List Value} (A : AppSrc P t u ty e i z X m news news1 w)
    (hg : h.get b = some (.cells l opn' fr)) (hb : ρ b = some loc) (hend : off + cap' * i.size = loc.size) (hroom : len + m ≤ cap') (hle : off + len * i.size ≤ l.length)
    (hn : All2 (RV ρ) ln news) (hn1 : ∀ U ∈ news, U.oneCell' = true) (hln : ln.length = m * i.size) :
    ∃ V w' ρ', (Builtin.append_ #[t, u] ty #[.slice (some ⟨loc.blk, loc.sh + off, none⟩) len cap', X]).run P w = .ok V w' ∧
      OutR C ρ ρ' h n V w' (.mem (.slc n 0 (len + m) (len + m) i.size true) [(b, .dead), (n, .cells ((l.drop off).take (len * i.size) ++ ln) true true)] 1) := by
  obtain ⟨W, hW, c, ce, fz, rfl, ⟨g1, g2, g3, g4⟩, g5, g6⟩ := H.obj b _ loc hg trivial hb
  have hnl : news.length = m * i.size := by rw [← hn.length, hln]
  have hcap : len * i.size + m * i.size ≤ cap' * i.size := by rw [← Nat.add_mul]; exact Nat.mul_le_mul_right _ hroom
  have hin : loc.sh + (off + len * i.size) + news.length ≤ c.size := by omega
  obtain ⟨s1, s2, s3, s4, s5, s6⟩ := setCells_at news (loc.sh + (off + len * i.size)) w c hW hin
  have hst : (storeCells ((⟨loc.blk, loc.sh + off, none⟩ : Addr).add (len * i.size)) news).run P w = .ok () (w.setCells loc.blk (loc.sh + (off + len * i.size)) news) := by
    rw [Addr.add_lit, Nat.add_assoc]
    have := run_storeCells_cells (P := P) loc.blk (loc.sh + (off + len * i.size)) news 0 w (fun j hj => by
      rw [cell_at hW]
      have : loc.sh + (off + len * i.size) + j < c.size := by omega
      simp [this]) (fun j hj => by
      simp only [World.frozen?, hW]
      rcases g4 with g4 | ⟨_, g4⟩
      · simp [g4]
      · simp; omega) hn1
    simpa using this
  have hrun := A.fit (base := some ⟨loc.blk, loc.sh + off, none⟩) (sLen := len) (sCap := cap') hroom (fun a ea => by cases ea; exact hst) (fun q => by cases q)
  have hnn := H.fresh n (Nat.le_refl _)
  have hle' : ρ.le (ρ.with n ⟨loc.blk, loc.sh + off, loc.size - off, undef⟩) := Ren.with_le hnn
  have hsz : (writeL (loc.sh + (off + len * i.size)) news c.toList).length = c.size := by rw [writeL_length (by simpa using hin)]; simp
  have hO : ObjR C.S (ρ.with n ⟨loc.blk, loc.sh + off, loc.size - off, undef⟩) (.cells ((l.drop off).take (len * i.size) ++ ln) true true) ⟨loc.blk, loc.sh + off, loc.size - off, undef⟩ (.cells (writeL (loc.sh + (off + len * i.size)) news c.toList).toArray ce fz) := by
    refine ⟨_, ce, fz, rfl, ⟨fun j v hj => ?_, fun j hj => ?_, ?_, ?_⟩, ?_, fun q => by cases q⟩
    · simp only [List.getElem?_toArray]
      rw [writeL_get (by simpa using hin)]
      have hol : ((l.drop off).take (len * i.size)).length = len * i.size := by simp; omega
      by_cases hj1 : j < len * i.size
      · rw [List.getElem?_append_left (by omega), List.getElem?_take, if_pos hj1, List.getElem?_drop] at hj
        obtain ⟨V, hV, r⟩ := g1 _ v hj
        refine ⟨V, ?_, r.mono hle'⟩
        rw [if_neg (by omega), Array.getElem?_toList, Nat.add_assoc]
        exact hV
      · rw [List.getElem?_append_right (by omega), hol] at hj
        obtain ⟨V, hV, r⟩ := hn.get _ v hj
        have hlt : j - len * i.size < news.length := (List.getElem?_eq_some_iff.1 hV).1
        refine ⟨V, ?_, r.mono hle'⟩
        rw [if_pos ⟨by omega, by omega⟩, show loc.sh + off + j - (loc.sh + (off + len * i.size)) = j - len * i.size by omega]
        exact hV
    · have hj : j < loc.size - off := hj
      simp only [List.getElem?_toArray]
      rw [writeL_get (by simpa using hin)]
      by_cases hin2 : loc.sh + (off + len * i.size) ≤ loc.sh + off + j ∧ loc.sh + off + j < loc.sh + (off + len * i.size) + news.length
      · rw [if_pos hin2]
        have : loc.sh + off + j - (loc.sh + (off + len * i.size)) < news.length := by omega
        exact ⟨_, List.getElem?_eq_getElem this, hn1 _ (List.getElem_mem this)⟩
      · rw [if_neg hin2, Array.getElem?_toList, Nat.add_assoc]
        exact g2 (off + j) (by omega)
    · show ((l.drop off).take (len * i.size) ++ ln).length ≤ loc.size - off
      simp
      omega
    · rcases g4 with g4 | ⟨_, g4⟩
      · exact .inl g4
      · refine .inr ⟨rfl, ?_⟩
        rw [List.size_toArray, hsz]; exact g4
    · show loc.sh + off + (loc.size - off) = _
      rw [List.size_toArray, hsz]
      omega
  obtain ⟨m1, m2⟩ := H.move (b := b) (k := off) (m := n + 1) hg trivial hb (by omega) hO s1 (fun k hk _ => s2 k hk) (by omega) s4 s5 s6
  refine ⟨_, _, _, hrun, m1, RV_slc.2 ⟨_, cap', Ren.with_self _ _ _, by simp, Nat.le_refl _, hroom, (fun q => by cases q), fun _ => ?_⟩, m2⟩
  show 0 + cap' * i.size = loc.size - off
  omega
end
end Go.Eng
namespace Go.Eng
open Go
section
variable {P : Program} {ng : Nat} {o : Oper} {t u e ty : TypeId} {x y : Operand} {i : TypeInfo} {z : Value} {d : TypeDesc}
theorem appendA_run {C : Cx} {ρ : Ren} {h : Hp} {n : Nat} {w : World} (H : HR C ρ h n w) {s : AV} {S X : Value} {l : List AV} {m : Nat} {r : AOut} {Vs Vs' : List Value} (A : AppSrc P t u ty e i z X m Vs Vs' w) (hsz : z.cells.size = i.size)
    (h1 : z.cells.toList.all Value.oneCell' = true) (hs : RV ρ s S) (hll : l.length = m * i.size) (hr : All2 (RV ρ) l Vs) (hone : ∀ U ∈ Vs, U.oneCell' = true) (hr' : All2 (RV ρ) l Vs') (hone' : ∀ U ∈ Vs', U.oneCell' = true) (he : appendA h n i.size s l m = some r) :
    ∃ V w' ρ', (Builtin.append_ #[t, u] ty #[S, X]).run P w = .ok V w' ∧ OutR C ρ ρ' h n V w' r := by
  unfold appendA at he
  split at he
  · obtain rfl := RV_nilslc.1 hs
    cases hb : Nat.beq m 0 with
    | true =>
      obtain rfl := natBeq.1 hb
      rw [hb, cond_true, Option.some.injEq] at he
      subst he
      have := A.fit (w' := w) (base := none) (sLen := 0) (sCap := 0) (by omega) (fun a ea => by cases ea) (fun _ => rfl)
      exact ⟨_, w, ρ, this, Ren.le_refl _, RV_nilslc.2 rfl, H⟩
    | false =>
      rw [hb, cond_false] at he
      simp only [guardB_some, natBle, Eng.newRow, forceN_eq, forceL_eq, Option.some.injEq] at he
      obtain ⟨hmax, rfl⟩ := he
      have hm0 : m ≠ 0 := fun q => by rw [natBeq.2 q] at hb; cases hb
      have := append_new (ty := ty) (lo := []) (olds := []) (base := none) (sLen := 0) (sCap := 0) H false A hsz h1 (by simp [Builtin.firstCells]) trivial hr' (by simp) hone' (by simp) hll (by omega) (by omega)
      simpa using this
  · obtain ⟨a, c, rfl⟩ := RV_emp.1 hs
    simp only [guardB_some, natBeq, Option.some.injEq] at he
    obtain ⟨rfl, rfl⟩ := he
    have hnil : Vs = [] := List.eq_nil_of_length_eq_zero (by rw [← hr.length, hll]; simp)
    subst hnil
    have := A.fit (w' := w) (base := some a) (sLen := 0) (sCap := c) (by omega) (fun a ea => by simp [storeCells]) (fun q => by cases q)
    exact ⟨_, w, ρ, this, Ren.le_refl _, RV_emp.2 ⟨_, _, rfl⟩, H⟩
  · rename_i b off len cap q opn
    obtain ⟨loc, cap', hb, rfl, hlc, hcc, h0, ho⟩ := RV_slc.1 hs
    simp only [guardB_some, natBeq] at he
    obtain ⟨rfl, he⟩ := he
    cases hfit : Nat.ble (Nat.add len m) cap with
    | true =>
      rw [hfit, cond_true] at he
      have hfit' : len + m ≤ cap := natBle.1 hfit
      simp only [forceN_eq] at he
      unfold storeO at he
      split at he
      · rename_i row opn' fr hg
        obtain ⟨hle, he⟩ := writeK_some he
        obtain rfl := Option.some.inj he
        obtain ⟨w', hst, H'⟩ := H.store (P := P) hg hb hle hr hone
        have := A.fit (w' := w') (base := some ⟨loc.blk, loc.sh + off, none⟩) (sLen := len) (sCap := cap') (by omega) (fun a ea => by cases ea; rw [Addr.add_lit, Nat.add_assoc]; exact hst) (fun q => by cases q)
        exact ⟨_, w', ρ, this, Ren.le_refl _, RV_slc.2 ⟨loc, cap', hb, rfl, hfit', hcc, h0, ho⟩, H'⟩
      · cases he
    | false =>
      rw [hfit, cond_false] at he
      have hbig : cap < len + m := by
        rcases Nat.lt_or_ge cap (len + m) with q | q
        · exact q
        · have q' : Nat.ble (Nat.add len m) cap = true := natBle.2 q
          rw [q'] at hfit; cases hfit
      simp only [guardB_some, natBle] at he
      obtain ⟨hmax, he⟩ := he
      unfold growA cellsAt at he
      simp only [bindO_eq, Option.bind_eq_some_iff, forceN_eq, forceL_eq] at he
      obtain ⟨old, ⟨row, hrow, htk⟩, he⟩ := he
      obtain ⟨rfl, hle⟩ := takeAt_some htk
      have hle' : off + len * i.size ≤ row.length := hle
      obtain ⟨Os, g1, g2, g3, g4⟩ := (H.drew (w.drawn + 1)).cells hrow hb hle'
      have hold := run_firstCells_some (P := P) w.drew i.size len ⟨loc.blk, loc.sh + off, none⟩ len cap' Os g3 g4
      have hlo : ((row.drop off).take (len * i.size)).length = len * i.size := by simp; omega
      have big : cap' < len + m → ∀ (h2 : Hp) (fr : Bool), HR C ρ h2 n w → ∃ V w' ρ', (Builtin.append_ #[t, u] ty #[.slice (some ⟨loc.blk, loc.sh + off, none⟩) len cap', X]).run P w = .ok V w' ∧
          OutR C ρ ρ' h2 n V w' (.mem (.slc n 0 (len + m) (len + m) i.size true) [(n, .cells ((row.drop off).take (len * i.size) ++ l) true fr)] 1) := fun hc h2 fr H2 =>
        append_new (ty := ty) (sCap := cap') H2 fr A hsz h1 hold g1 hr' g2 hone' hlo hll hc hmax
      cases hk : cond opn (shutAt h b (Nat.add off (Nat.mul (Nat.add len m) i.size))) true with
      | true =>
        rw [hk, cond_true, Option.some.injEq] at he
        subst he
        refine big ?_ h false H
        cases opn with
        | false => rw [(h0 rfl).1]; exact hbig
        | true =>
          rw [cond_true] at hk
          unfold shutAt at hk
          split at hk
          · rename_i row' o' fr' hg
            cases o' with
            | true => cases hk
            | false =>
              rw [cond_false] at hk
              have hlt : row'.length < off + (len + m) * i.size := natBlt.1 hk
              obtain ⟨W, hW, c, ce, fz, rfl, hra, g5, g6⟩ := H.obj b _ loc hg trivial hb
              have e1 := g6 rfl
              have e2 := ho rfl
              have : cap' * i.size < (len + m) * i.size := by omega
              exact Nat.lt_of_mul_lt_mul_right this
          · cases hk
      | false =>
        rw [hk, cond_false] at he
        simp only [guardB_some, Option.some.injEq] at he
        obtain ⟨hic, rfl⟩ := he
        have hopn : opn = true := by
          cases opn with
          | true => rfl
          | false => cases hk
        unfold isCells at hic
        split at hic
        · rename_i row' o' fr' hg
          have hrr : row' = row := by
            unfold rowAt at hrow
            rw [hg] at hrow
            exact Option.some.inj hrow
          subst hrr
          by_cases hc : cap' < len + m
          · exact big hc (h.put b .dead) true (H.kill b)
          · exact append_on (ty := ty) H A hg hb (ho hopn) (by omega) hle' hr hone hll
        · cases hic
  · cases he
end
end Go.Eng
namespace Go.Eng
open Go
section
variable {P : Program} {ng : Nat} {o : Oper} {t u e : TypeId} {x y : Operand} {i : TypeInfo} {z : Value} {d : TypeDesc}
theorem sound_append {args : Array Operand} (hop : o.op = .call { callee := .builtin .append, args, argTypes := #[t, u] }) (ha : args = #[x, y]) (hd : d = .string ∨ ∃ e', d = .slice e') (hu : P.underlying u = some d) (ht : P.underlying t = some (.slice e)) (hi : P.info? e = some i) (hz : i.zero = some z) (hsz : z.cells.size = i.size)
    (h1 : z.cells.toList.all Value.oneCell' = true) (hby : i.bytes ≤ 4096) : MSnd P ng o (mApp i.size (xOf ng x) (xOf ng y)) := by
  rintro C rfl ρ ts a h n w r H hX he
  subst ha
  have h2 := hX x (by simp [hop, Op.operands, Call.operands])
  have h3 := hX y (by simp [hop, Op.operands, Call.operands])
  unfold mApp at he
  simp only [bindO_eq, Option.bind_eq_some_iff] at he
  obtain ⟨l, hl, m, hm, he⟩ := he
  obtain ⟨hlen, hll, hfirst⟩ := H.elems (P := P) hl hm h3
  obtain ⟨_, _, hfirst'⟩ := (H.drew (w.drawn + 1)).elems (P := P) hl hm h3
  obtain ⟨Vs, hf, hr, hone⟩ := hfirst m (Nat.le_refl _)
  obtain ⟨Vs', hf', hr', hone'⟩ := hfirst' m (Nat.le_refl _)
  rw [← hll, List.take_length] at hr hr'
  obtain ⟨V, w', ρ', hr, ho⟩ := appendA_run (ty := o.type) H (appSrc_of hd hu ht hi hz hby hlen hf hf') hsz h1 h2 hll hr hone hr' hone' he
  refine ⟨V, w', ρ', .inl ?_, ho⟩
  rw [run_call_builtin hop]
  simp [builtin, hr]
end
end Go.Eng
namespace Go.Eng
open Go
theorem modify_push {α : Type} (xs : Array α) (a : α) (f : α → α) : (xs.push a).modify xs.size f = xs.push (f a) := by
  apply Array.ext
  · simp
  · intro i h1 h2
    rw [Array.getElem_modify]
    simp only [Array.getElem_push]
    simp at h1
    by_cases hi : i < xs.size
    · simp [hi]; omega
    · have : xs.size = i := by omega
      simp [this]
section
variable {P : Program} {ng : Nat} {o : Oper} {t u e : TypeId} {x y : Operand}
theorem sound_convB {src dst : TypeId} (hop : o.op = .convert src dst x) (hs : P.underlying src = some .string) (hd : P.underlying dst = some (.slice e)) (he' : P.underlying e = some (.int .u8)) : MSnd P ng o (mConvB (xOf ng x)) := by
  rintro C rfl ρ ts a h n w r H hX he
  have h1 := hX x (by simp [hop, Op.operands])
  unfold mConvB at he
  split at he
  · rename_i s hx
    rw [hx] at h1
    obtain ⟨S, hV, rfl⟩ := RV_str.1 h1
    simp only [Eng.newRow, forceN_eq, forceL_eq, Option.some.injEq] at he
    subst he
    have hge := grownCap_ge w S.size 0 e
    have hn := H.fresh n (Nat.le_refl _)
    let cs : Array Value := S.data.map (fun b => Value.int .u8 b.toNat) ++ Array.replicate (grownCap w S.size 0 e - S.size) (.int .u8 0)
    have hcs : cs.size = grownCap w S.size 0 e := by
      simp [cs]
      omega
    have hrun : (Conv.stringToBytes e S).run P w = .ok (.slice (some ⟨w.heap.size, 0, none⟩) S.size (grownCap w S.size 0 e)) { w with heap := w.heap.push (.cells cs e (cs.size, cs.size + 1)), drawn := w.drawn + 1 } := by
      have r1 : (choose (.appendCap S.size 0 e)).run P w = .ok (grownCap w S.size 0 e) w.drew := rfl
      have r2 : (Go.newRow e cs).run P w.drew = .ok ⟨w.heap.size, 0, none⟩ (w.drew.alloc (.cells cs e)) := rfl
      have hb : (w.drew.alloc (.cells cs e)).heap[w.heap.size]? = some (.cells cs e) := by
        show (w.heap.push (.cells cs e))[w.heap.size]? = _
        simp
      have r3 : (shape w.heap.size).run P (w.drew.alloc (.cells cs e)) = .ok (some (e, cs.size)) (w.drew.alloc (.cells cs e)) := by
        show Result.ok ((w.drew.alloc (.cells cs e)).shape? w.heap.size) _ = _
        rw [World.shape?, hb]
      have r4 : (markStringish ⟨w.heap.size, 0, none⟩).run P (w.drew.alloc (.cells cs e)) = .ok () ((w.drew.alloc (.cells cs e)).freeze ⟨w.heap.size, cs.size, none⟩ 1) := by
        unfold markStringish
        simp only [Sem.run_bind, r3, Result.andThen_ok]
        rfl
      simp only [Conv.stringToBytes, Sem.run_bind, r1, Result.andThen_ok, Sem.run_pure]
      rw [r2, Result.andThen_ok, r4, Result.andThen_ok]
      congr 1
      unfold World.freeze
      rw [if_neg (by decide)]
      show ({ w with heap := (w.heap.push (.cells cs e)).modify w.heap.size _, drawn := w.drawn + 1 } : World) = _
      rw [modify_push]
      rfl
    have hle : ρ.le (ρ.with n ⟨w.heap.size, 0, cs.size, undef⟩) := Ren.with_le hn
    have hbl : (bytesL (strOf S)).length = S.size := by rw [bytesL_eq]; simp [strOf_length]
    have hO : ObjR C.S (ρ.with n ⟨w.heap.size, 0, cs.size, undef⟩) (.cells (bytesL (strOf S)) true true) ⟨w.heap.size, 0, cs.size, undef⟩ (.cells cs e (cs.size, cs.size + 1)) := by
      refine ⟨cs, e, _, rfl, ⟨fun i v hi => ?_, fun i hi => ?_, ?_, .inr ⟨rfl, Nat.le_refl _⟩⟩, by simp, fun q => by cases q⟩
      · rw [bytesL_eq, strOf, List.map_map, List.getElem?_map, Option.map_eq_some_iff] at hi
        obtain ⟨b, hb, rfl⟩ := hi
        have hlt : i < S.data.size := by have := (List.getElem?_eq_some_iff.1 hb).1; simpa using this
        refine ⟨.int .u8 b.toNat, ?_, RV_int.2 rfl⟩
        simp only [Nat.zero_add, cs]
        rw [Array.getElem?_append_left (by simpa using hlt), Array.getElem?_map, ← Array.getElem?_toList, hb]
        rfl
      · have hi : i < cs.size := hi
        refine ⟨cs[i], by simp [hi], ?_⟩
        have hm : cs[i] ∈ cs := Array.getElem_mem hi
        simp only [cs, Array.mem_append, Array.mem_map, Array.mem_replicate] at hm
        rcases hm with ⟨b, _, hb⟩ | ⟨_, hb⟩
        · exact (congrArg Value.oneCell' hb).symm
        · exact (congrArg Value.oneCell' hb)
      · rw [hbl, hcs]; exact hge
    obtain ⟨h2, h3⟩ := H.new (m := n + 1) (by omega) hO (w.drawn + 1)
    refine ⟨.slice (some ⟨w.heap.size, 0, none⟩) S.size (grownCap w S.size 0 e), _, _, .inl ?_, h2, RV_slc.2 ⟨_, grownCap w S.size 0 e, Ren.with_self _ _ _, by rw [strOf_length], Nat.le_refl _, by rw [strOf_length]; exact hge, (fun q => by cases q), fun _ => ?_⟩, h3⟩
    · simp [execOp, hop, hV, convert, run_underlying hs, run_underlying hd, run_underlying he', hrun]
    · show 0 + grownCap w S.size 0 e * 1 = cs.size
      omega
  · cases he
end
end Go.Eng
namespace Go.Eng
open Go
section
variable {P : Program} {ng : Nat} {o : Oper} {t e : TypeId} {x y : Operand} {i : TypeInfo}
theorem sound_slice_mem {lo hi mx : Option Operand} (hop : o.op = .slice t x lo hi mx) (hu : P.underlying t = some (.slice e)) (hi' : P.info? e = some i) (hmh : mx.isSome = true → hi.isSome = true) (hno : mx = none) (hz1 : 1 ≤ i.size) :
    MSnd P ng o (mSlcL i.size (xOf ng x) (lo.map (xOf ng)) (hi.map (xOf ng)) (mx.map (xOf ng))) := by
  subst hno
  rintro C rfl ρ ts a h n w r H hX he
  simp only [mSlcL, bindO_eq, Option.bind_eq_some_iff] at he
  obtain ⟨l, hl, hh, hhh, m, hm, he⟩ := he
  obtain rfl : none = m := Option.some.inj hm
  have h1 := hX x (by simp [hop, Op.operands])
  have hL := optA_some (a := a) hl fun y hy => hX y (by subst hy; simp [hop, Op.operands])
  have hH := optA_some (a := a) hhh fun y hy => hX y (by subst hy; simp [hop, Op.operands])
  have plain : ∀ v, sliceA i.size (xOf C.ng x ts) (orN l 0) hh none = some v → ∃ V w' ρ', Does P o a w V w' ∧ OutR C ρ ρ' h n V w' (.old v.tidy) := fun v hv => by
    obtain ⟨V, hr, hvv⟩ := sliceA_run (w := w) (high := hi.map a.eval) (low := lo.map a.eval) (max := none) hu hi' hv h1 hL hH trivial (by simp)
    exact ⟨V, w, ρ, .inl (by simp [execOp, hop, Instr.sliceAt, run_underlying hu, hr]), Ren.le_refl _, RV_tidy hvv, H⟩
  have plain' : bindO (readyO (sliceA i.size (xOf C.ng x ts) (orN l 0) hh none)) (fun v => some (AOut.old v)) = some r → ∃ V w' ρ', Does P o a w V w' ∧ OutR C ρ ρ' h n V w' r := fun q => by
    simp only [readyO, bindO_eq, Option.bind_eq_some_iff, forceV_eq, Option.some.injEq] at q
    obtain ⟨_, ⟨v, hv, rfl⟩, rfl⟩ := q
    exact plain v hv
  unfold cutM at he
  split at he
  · rename_i b off len cap z hx
    simp only at he
    rw [hx] at h1
    obtain ⟨loc, cap', hb, hV, hlc, hcc, _, ho⟩ := RV_slc.1 h1
    have ho := ho rfl
    cases hfit : Nat.ble (orN hh len) cap with
    | true =>
      rw [hfit, cond_true] at he
      exact plain' he
    | false =>
      rw [hfit, cond_false] at he
      simp only [guardB_some, natBeq] at he
      obtain ⟨rfl, he⟩ := he
      unfold recutA at he
      split at he
      · rename_i row o' fr hg
        simp only [guardB_some, natBlt, natBle, forceL_eq, forceN_eq, Option.some.injEq] at he
        obtain ⟨hlt, hle, rfl⟩ := he
        rw [orN_eq, orN_eq] at hlt
        rw [orN_eq] at hle
        have hle : off + hh.getD len * i.size ≤ row.length := hle
        obtain ⟨W, hW, c, ce, fz, rfl, ⟨g1, g2, g3, g4⟩, g5, g6⟩ := H.obj b _ loc hg trivial hb
        have hO : ObjR C.S (ρ.with n ⟨loc.blk, loc.sh + off, loc.size - off, undef⟩) (.cells (row.drop off) o' fr) ⟨loc.blk, loc.sh + off, loc.size - off, undef⟩ (.cells c ce fz) := by
          have hle2 : ρ.le (ρ.with n ⟨loc.blk, loc.sh + off, loc.size - off, undef⟩) := Ren.with_le (H.fresh n (Nat.le_refl _))
          refine ⟨c, ce, fz, rfl, ⟨fun j v hj => ?_, fun j hj => ?_, ?_, g4⟩, ?_, fun q => ?_⟩
          · rw [List.getElem?_drop] at hj
            obtain ⟨V, hV, rr⟩ := g1 _ v hj
            exact ⟨V, by rw [Nat.add_assoc]; exact hV, rr.mono hle2⟩
          · have hj : j < loc.size - off := hj
            obtain ⟨V, hV, rr⟩ := g2 (off + j) (by omega)
            exact ⟨V, by rw [Nat.add_assoc]; exact hV, rr⟩
          · show (row.drop off).length ≤ loc.size - off
            simp; omega
          · show loc.sh + off + (loc.size - off) = _
            omega
          · show loc.size - off = (row.drop off).length
            have := g6 q
            simp; omega
        obtain ⟨m1, m2⟩ := H.move (b := b) (k := off) (m := n + 1) (w' := w) hg trivial hb (by omega) hO hW (fun _ _ _ => rfl) (Nat.le_refl _) rfl rfl rfl
        have hzc : hh.getD len * i.size ≤ cap' * i.size := by omega
        have hpos : hh.getD len ≤ cap' := Nat.le_of_mul_le_mul_right hzc hz1
        have hbd := run_sliceBounds (P := P) (w := w) (isS := true) (len := len) (cap := cap') (m := none) (max := none) hL hH trivial (by omega) (by simpa using hpos) (by simp) (by simp)
        refine ⟨.slice (some ⟨loc.blk, loc.sh + off + l.getD 0 * i.size, none⟩) (hh.getD len - l.getD 0) (cap' - l.getD 0), w, _, .inl ?_, m1, RV_slc.2 ⟨_, cap' - l.getD 0, Ren.with_self _ _ _, ?_, Nat.le_refl _, ?_, (fun q => by cases q), fun _ => ?_⟩, m2⟩
        · have hne : ¬ cap' = l.getD 0 := by omega
          simp [execOp, hop, Instr.sliceAt, run_underlying hu, hV, Instr.slice, hbd, run_sizeOf hi', hne, Addr.add_lit]
        · simp [orN_eq]
        · rw [orN_eq, orN_eq]; show hh.getD len - l.getD 0 ≤ _; omega
        · rw [orN_eq]
          show l.getD 0 * i.size + (cap' - l.getD 0) * i.size = loc.size - off
          rw [← Nat.add_mul, show l.getD 0 + (cap' - l.getD 0) = cap' by omega]
          omega
      · cases he
  · exact plain' he
end
end Go.Eng
namespace Go.Eng
open Go
section
variable {P : Program} {ng : Nat} {o : Oper} {t u e ty : TypeId} {x y : Operand} {i : TypeInfo} {z : Value} {k : IntKind}
theorem run_append_fit_m {w w' : World} {base : Option Addr} {sLen sCap m : Nat} {kd : IntKind} (hu : P.underlying u = some (.int k)) (ht : P.underlying t = some (.slice e)) (hi : P.info? e = some i) (hz : i.zero = some z) (hsz : z.cells.size = i.size)
    (hm : m ≤ maxLenA) (hby : i.bytes ≤ 4096) (hn : sLen + m ≤ sCap)
    (hst : ∀ a, base = some a → (storeCells (a.add (sLen * i.size)) (Builtin.zeroCells z.cells m).toList).run P w = .ok () w') (hbase : base = none → w' = w) :
    (Builtin.append_ #[t, u] ty #[.slice base sLen sCap, .int kd (Int.ofNat m)]).run P w = .ok (.slice base (sLen + m) sCap) w' := by
  have wm : IntKind.i64.wrap (m : Int) = (m : Int) := wrap_small hm
  have hmul : m * i.bytes ≤ 100000 * 4096 := Nat.mul_le_mul hm hby
  have hnot : ¬ ((281474976710656 : Int) < (m : Int) * (i.bytes : Int)) := by rw [← Int.natCast_mul]; omega
  have hneg : ¬ ((m : Int) < 0) := by omega
  have hz0 : m * i.size = 0 → (Builtin.zeroCells z.cells m).toList = [] := fun q => List.eq_nil_of_length_eq_zero (by rw [zeroCells_length, hsz]; exact q)
  cases base with
  | none =>
    obtain rfl := hbase rfl
    by_cases h0 : m * i.size = 0
    · simp [Builtin.append_, run_underlying ht, run_underlying hu, sizeOf, typeInfo, hi, asInt, asIntOf, wm, hneg, hnot, hn, h0]
    · simp [Builtin.append_, run_underlying ht, run_underlying hu, sizeOf, typeInfo, zeroValue, hz, hi, asInt, asIntOf, wm, hneg, hnot, hn]
  | some a =>
    have hs := hst a rfl
    by_cases h0 : m * i.size = 0
    · rw [hz0 h0] at hs
      simp [Builtin.append_, run_underlying ht, run_underlying hu, sizeOf, typeInfo, hi, asInt, asIntOf, wm, hneg, hnot, hn, h0, hs]
    · simp [Builtin.append_, run_underlying ht, run_underlying hu, sizeOf, typeInfo, zeroValue, hz, hi, asInt, asIntOf, wm, hneg, hnot, hn, h0, hs]
theorem run_append_big_m {w : World} {base : Option Addr} {sLen sCap m : Nat} {kd : IntKind} {olds : List Value} (hu : P.underlying u = some (.int k)) (ht : P.underlying t = some (.slice e)) (hi : P.info? e = some i) (hz : i.zero = some z) (hsz : z.cells.size = i.size)
    (hm : m ≤ maxLenA) (hby : i.bytes ≤ 4096) (hold : (Builtin.firstCells i.size sLen (.slice base sLen sCap)).run P w.drew = .ok olds.toArray w.drew) (hg : sCap < sLen + m) (h63 : sLen + m ≤ maxLenA) :
    (Builtin.append_ #[t, u] ty #[.slice base sLen sCap, .int kd (Int.ofNat m)]).run P w = .ok (.slice (some ⟨w.heap.size, 0, none⟩) (sLen + m) (grownCap w (sLen + m) sCap e))
      (w.drew.alloc (.cells (olds ++ (Builtin.zeroCells z.cells m).toList ++ (Builtin.zeroCells z.cells (grownCap w (sLen + m) sCap e - (sLen + m))).toList).toArray e)) := by
  have wm : IntKind.i64.wrap (m : Int) = (m : Int) := wrap_small hm
  have hmul : m * i.bytes ≤ 100000 * 4096 := Nat.mul_le_mul hm hby
  have hnot : ¬ ((281474976710656 : Int) < (m : Int) * (i.bytes : Int)) := by rw [← Int.natCast_mul]; omega
  have hneg : ¬ ((m : Int) < 0) := by omega
  have hm2 : (sLen + m) * i.bytes ≤ 100000 * 4096 := Nat.mul_le_mul h63 hby
  have hfit := growslice_fits (bytes := i.bytes) hg (by omega)
  have hn : ¬ (sLen + m ≤ sCap) := by omega
  have h63' : ¬ (9223372036854775807 < ((sLen : Int) + (m : Int))) := by unfold maxLenA at h63; omega
  have h48' : ¬ (281474976710656 < Builtin.nextslicecap (sLen + m) sCap * i.bytes) := by omega
  have hz0 : m * i.size = 0 → (Builtin.zeroCells z.cells m) = #[] := fun q => Array.ext' (List.eq_nil_of_length_eq_zero (by rw [zeroCells_length, hsz]; exact q))
  by_cases h0 : m * i.size = 0
  · rw [hz0 h0]
    simp [Builtin.append_, run_underlying ht, run_underlying hu, sizeOf, typeInfo, zeroValue, hi, hz, asInt, asIntOf, wm, hneg, hnot, hn, h63', h48', h0, Question.forced, hold, Go.newRow, grownCap]
    congr 2; apply Array.ext'; simp
  · simp [Builtin.append_, run_underlying ht, run_underlying hu, sizeOf, typeInfo, zeroValue, hi, hz, asInt, asIntOf, wm, hneg, hnot, hn, h63', h48', h0, Question.forced, hold, Go.newRow, grownCap]
    congr 2; apply Array.ext'; simp
theorem appSrc_make {w : World} {m : Nat} {kd : IntKind} (hu : P.underlying u = some (.int k)) (ht : P.underlying t = some (.slice e)) (hi : P.info? e = some i) (hz : i.zero = some z) (hsz : z.cells.size = i.size) (hm : m ≤ maxLenA) (hby : i.bytes ≤ 4096) :
    AppSrc P t u ty e i z (.int kd (Int.ofNat m)) m (Builtin.zeroCells z.cells m).toList (Builtin.zeroCells z.cells m).toList w :=
  ⟨fun hn hst hbase => run_append_fit_m hu ht hi hz hsz hm hby hn hst hbase, fun hold hg h63 => run_append_big_m hu ht hi hz hsz hm hby hold hg h63⟩
theorem sound_appendM {args : Array Operand} (hop : o.op = .call { callee := .builtin .append, args, argTypes := #[t, u] }) (ha : args = #[x, y]) (hu : P.underlying u = some (.int k)) (ht : P.underlying t = some (.slice e)) (hi : P.info? e = some i) (hz : i.zero = some z) (hsz : z.cells.size = i.size)
    (h1 : z.cells.toList.all Value.oneCell' = true) (hby : i.bytes ≤ 4096) : MSnd P ng o (mAppM i.size (zeroAV z.cells) (xOf ng x) (xOf ng y)) := by
  rintro C rfl ρ ts a h n w r H hX he
  subst ha
  have h2 := hX x (by simp [hop, Op.operands, Call.operands])
  have h3 := hX y (by simp [hop, Op.operands, Call.operands])
  unfold mAppM at he
  split at he
  · rename_i kd m hy
    rw [hy, RV_int] at h3
    simp only [guardB_some, natBle] at he
    obtain ⟨hm, he⟩ := he
    have hlen : (repL m (zeroAV z.cells)).length = m * i.size := by rw [repL_length]; simp [zeroAV, hsz]
    have hr : All2 (RV ρ) (repL m (zeroAV z.cells)) (Builtin.zeroCells z.cells m).toList := All2_repL z.cells m
    have A : AppSrc P t u o.type e i z (a.eval y) m (Builtin.zeroCells z.cells m).toList (Builtin.zeroCells z.cells m).toList w := by
      rw [h3]; exact appSrc_make hu ht hi hz hsz hm hby
    obtain ⟨V, w', ρ', hrun, ho⟩ := appendA_run (ty := o.type) H A hsz h1 h2 hlen hr (one_zeroCells h1 m) hr (one_zeroCells h1 m) he
    refine ⟨V, w', ρ', .inl ?_, ho⟩
    rw [run_call_builtin hop]
    simp [builtin, hrun]
  · cases he
end
end Go.Eng
