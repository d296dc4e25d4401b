/- The evaluator, fourth part: the code prepared; functions without a body; proved calls; contracts. -/
import Derived.Test.YtepohnlmekfnoaaGreatDoorEngC
import Derived.Lib.Bytealg
import Derived.Lib.Overlaps
import Derived.Lib.LaidU8
import Derived.OpenShut
import Derived.Deep.Fields
set_option maxRecDepth 20000
namespace Go.Eng
open Go
section
variable {P : Program} {ng nt : Nat}
/-- made for an operation's destination -/
noncomputable def fin (nt : Nat) (o : Oper) (k : Option Pa → FO) : Option FO := match o.dst with
  | none => some (k none)
  | some t => cond (Nat.blt t nt) (some (k (some (pa t)))) none
theorem fin_some {o : Oper} {k : Option Pa → FO} {f : FO} (h : fin nt o k = some f) : ∃ d, dstR nt d o ∧ f = k d := by
  unfold fin at h
  split at h
  · rename_i hd
    exact ⟨none, ⟨by rw [hd]; rfl, fun t ht => by rw [hd] at ht; cases ht⟩, (Option.some.inj h).symm⟩
  · rename_i t hd
    cases hb : Nat.blt t nt with
    | false => rw [hb] at h; cases h
    | true =>
      rw [hb] at h
      exact ⟨some (pa t), ⟨by rw [hd]; rfl, fun t' ht => by rw [hd] at ht; cases ht; exact natBlt.1 hb⟩, (Option.some.inj h).symm⟩

/-! ### what neither reads nor turns memory -/
noncomputable def compConv (ng : Nat) (s d : Option TypeDesc) (x : Operand) : Option PF := match s with
  | none => none
  | some s => match d with
    | some (.int k) => some (pConvI k (xOf ng x))
    | some .string => match s with
      | .string => some (pConvS (xOf ng x))
      | _ => none
    | _ => none
noncomputable def compFad (P : Program) (ng : Nat) (s : TypeId) (x : Operand) (f : Nat) : Option PF := match P.underlying s with
  | some (.struct fields) => match fields[f]? with
    | some fd => match P.info? fd.type with
      | some i => cond (Nat.beq i.size 0) none (some (pFad fd.offset (xOf ng x)))
      | none => none
    | none => none
  | _ => none
noncomputable def compFld (P : Program) (ng : Nat) (s : TypeId) (x : Operand) (f : Nat) : Option PF := match P.underlying s with
  | some (.struct fields) => match fields[f]? with
    | some fd => match P.underlying fd.type with
      | some d => match P.info? fd.type with
        | some i => some (pFld (aggD d) i.size fd.offset (xOf ng x))
        | none => none
      | none => none
    | none => none
  | _ => none
noncomputable def compIad (P : Program) (ng : Nat) (t : TypeId) (x y : Operand) : Option PF := match P.underlying t with
  | some (.slice e) => match P.info? e with
    | some i => some (pIadS i.size (xOf ng x) (xOf ng y))
    | none => none
  | some (.array n e) => match P.info? e with
    | some i => some (pIadA n i.size (xOf ng x) (xOf ng y))
    | none => none
  | _ => none
noncomputable def compIdx (P : Program) (ng : Nat) (t : TypeId) (x y : Operand) : Option PF := match P.underlying t with
  | some .string => some (pIdx (xOf ng x) (xOf ng y))
  | some (.array n e) => match P.underlying e with
    | some d => match P.info? e with
      | some i => some (pIdxA n (aggD d) i.size (xOf ng x) (xOf ng y))
      | none => none
    | none => none
  | _ => none
noncomputable def compLen (P : Program) (ng : Nat) (args : Array Operand) (ats : Array TypeId) : Option PF := match args.toList with
  | [x] => match ats[0]? with
    | some aT => match P.underlying aT with
      | some .string => some (pLenS (xOf ng x))
      | some (.slice _) => some (pLenL (xOf ng x))
      | some (.array n _) => some (pConst (.int .i64 (Int.ofNat n)))
      | _ => none
    | none => none
  | _ => none
noncomputable def compCap (P : Program) (ng : Nat) (args : Array Operand) (ats : Array TypeId) : Option PF := match args.toList with
  | [x] => match ats[0]? with
    | some aT => match P.underlying aT with
      | some (.slice _) => some (pCap (xOf ng x))
      | _ => none
    | none => none
  | _ => none
noncomputable def compSlc (P : Program) (ng : Nat) (t : TypeId) (x : Operand) (lo hi mx : Option Operand) : Option PF := match P.underlying t with
  | some .string => match mx with
    | none => some (pSlcS (xOf ng x) (lo.map (xOf ng)) (hi.map (xOf ng)))
    | some _ => none
  | some (.slice e) => match P.info? e with
    | some i => cond (mx.isSome && !hi.isSome) none (some (pSlcL i.size (xOf ng x) (lo.map (xOf ng)) (hi.map (xOf ng)) (mx.map (xOf ng))))
    | none => none
  | _ => none
/-- a struct's parts: where they go -/
def placeIn (P : Program) (fields : Array Field) (k : Nat) : Option (Nat × Nat) := (fields[k]?).map fun f => (f.offset, P.cellsOf f.type)
def atIn (P : Program) (fields : Array Field) (k : Nat) : Nat × Nat := match placeIn P fields k with
  | some p => p
  | none => (0, 0)
def partsOk (P : Program) (fields : Array Field) : List (Nat × Operand) → Bool
  | [] => true
  | p :: l => match placeIn P fields p.1 with
    | some q => cond (Nat.ble 1 q.2) (partsOk P fields l) false
    | none => false
def allInfo (P : Program) : List Field → Bool
  | [] => true
  | f :: l => match P.info? f.type with
    | some _ => allInfo P l
    | none => false
noncomputable def compBuild (P : Program) (ng : Nat) (t : TypeId) (parts : Array (Nat × Operand)) : Option PF := match P.underlying t with
  | some (.struct fields) => match P.info? t with
    | some i => match i.zero with
      | some z => cond (z.cells.toList.all Value.oneCell' && allInfo P fields.toList && partsOk P fields parts.toList)
          (some (pBuild (zeroAV z.cells) (parts.toList.map fun p => ((atIn P fields p.1).1, (atIn P fields p.1).2, xOf ng p.2)))) none
      | none => none
    | none => none
  | some (.array _ et) => match P.info? t with
    | some i => match i.zero with
      | some z => match P.info? et with
        | some ie => cond (Nat.ble 1 ie.size && z.cells.toList.all Value.oneCell') (some (pBuild (zeroAV z.cells) (parts.toList.map fun p => (p.1 * ie.size, ie.size, xOf ng p.2)))) none
        | none => none
      | none => none
    | none => none
  | _ => none
noncomputable def compP (P : Program) (ng : Nat) (op : Op) : Option PF := match op with
  | .binOp op t x y _ => compBin (P.underlying t) op (xOf ng x) (xOf ng y)
  | .unOp .not _ x => some (pNot (xOf ng x))
  | .unOp .neg _ x => some (pNeg (xOf ng x))
  | .nilCheck x => some (pNil (xOf ng x))
  | .pick c x y => some (pPick (xOf ng c) (xOf ng x) (xOf ng y))
  | .convert s d x => compConv ng (P.underlying s) (P.underlying d) x
  | .extract x i => some (pExt i (xOf ng x))
  | .fieldAddr s x f => compFad P ng s x f
  | .field s x f => compFld P ng s x f
  | .indexAddr t x y => compIad P ng t x y
  | .index t x y => compIdx P ng t x y
  | .makeFunc (.func f) first captured => some (pMkF f (first.toList.map (xOf ng)) (captured.toList.map (xOf ng)))
  | .slice t x lo hi mx => compSlc P ng t x lo hi mx
  | .build t parts => compBuild P ng t parts
  | .call ⟨.builtin .len, args, ats⟩ => compLen P ng args ats
  | .call ⟨.builtin .cap, args, ats⟩ => compCap P ng args ats
  | .call ⟨.builtin .min, args, _⟩ => some (pMin (args.toList.map (xOf ng)))
  | .call ⟨.builtin .max, args, _⟩ => some (pMax (args.toList.map (xOf ng)))
  | _ => none
theorem arr_one {args : Array Operand} {x : Operand} (h : args.toList = [x]) : args = #[x] := Array.ext' h
theorem arr_two {args : Array Operand} {x y : Operand} (h : args.toList = [x, y]) : args = #[x, y] := Array.ext' h
theorem allInfo_ok : ∀ {l : List Field}, allInfo P l = true → ∀ f ∈ l, (P.info? f.type).isSome = true
  | [], _, _, h => by simp at h
  | x :: l, h, f, hf => by
    simp only [allInfo] at h
    split at h
    · rename_i i hi
      simp only [List.mem_cons] at hf
      rcases hf with rfl | hf
      · rw [hi]; rfl
      · exact allInfo_ok h f hf
    · cases h
theorem partsOk_ok {fields : Array Field} : ∀ {l : List (Nat × Operand)}, partsOk P fields l = true → ∀ p ∈ l, (fields[p.1]?).map (fun f => (f.offset, P.cellsOf f.type)) = some (atIn P fields p.1) ∧ 1 ≤ (atIn P fields p.1).2
  | [], _, _, h => by simp at h
  | x :: l, h, p, hp => by
    simp only [partsOk] at h
    split at h
    · rename_i q hq
      cases hb : Nat.ble 1 q.2 with
      | false => rw [hb] at h; cases h
      | true =>
        rw [hb] at h
        simp only [List.mem_cons] at hp
        rcases hp with rfl | hp
        · have e : atIn P fields p.1 = q := by unfold atIn; rw [hq]
          rw [e]
          exact ⟨hq, natBle.1 hb⟩
        · exact partsOk_ok h p hp
    · cases h
theorem compP_sound {o : Oper} {f : PF} (h : compP P ng o.op = some f) : PSound P ng o f := by
  unfold compP at h
  split at h
  · rename_i hop; exact compBin_sound hop h
  · rename_i hop; obtain rfl := Option.some.inj h; exact sound_not hop
  · rename_i hop; obtain rfl := Option.some.inj h; exact sound_neg hop
  · rename_i hop; obtain rfl := Option.some.inj h; exact sound_nilCheck hop
  · rename_i hop; obtain rfl := Option.some.inj h; exact sound_pick hop
  · rename_i hop
    unfold compConv at h
    split at h
    · cases h
    · rename_i s hs
      split at h
      · rename_i k hd; obtain rfl := Option.some.inj h; exact sound_convI hop hs hd
      · rename_i hd
        split at h
        · obtain rfl := Option.some.inj h; exact sound_convS hop hs hd
        · cases h
      · cases h
  · rename_i hop; obtain rfl := Option.some.inj h; exact sound_extract hop
  · rename_i hop
    unfold compFad at h
    split at h
    · rename_i fields hu
      split at h
      · rename_i fd hf
        split at h
        · rename_i i hi
          cases hb : Nat.beq i.size 0 with
          | true => rw [hb] at h; cases h
          | false =>
            rw [hb] at h
            obtain rfl := Option.some.inj h
            exact sound_fieldAddr hop hu hf hi fun e => by rw [natBeq.2 e] at hb; cases hb
        · cases h
      · cases h
    · cases h
  · rename_i hop
    unfold compFld at h
    split at h
    · rename_i fields hu
      split at h
      · rename_i fd hf
        split at h
        · rename_i d hd
          split at h
          · rename_i i hi
            obtain rfl := Option.some.inj h
            exact sound_field hop hu hf hd hi
          · cases h
        · cases h
      · cases h
    · cases h
  · rename_i hop
    unfold compIad at h
    split at h
    · rename_i e hu
      split at h
      · rename_i i hi; obtain rfl := Option.some.inj h; exact sound_indexAddr_slice hop hu hi
      · cases h
    · rename_i n e hu
      split at h
      · rename_i i hi; obtain rfl := Option.some.inj h; exact sound_indexAddr_array hop hu hi
      · cases h
    · cases h
  · rename_i hop
    unfold compIdx at h
    split at h
    · rename_i hu; obtain rfl := Option.some.inj h; exact sound_index_str hop hu
    · rename_i n e hu
      split at h
      · rename_i d hd
        split at h
        · rename_i i hi; obtain rfl := Option.some.inj h; exact sound_index_array hop hu hd hi
        · cases h
      · cases h
    · cases h
  · rename_i hop; obtain rfl := Option.some.inj h; exact sound_makeFunc hop
  · rename_i hop
    unfold compSlc at h
    split at h
    · rename_i hu
      split at h
      · obtain rfl := Option.some.inj h; exact sound_slice_str hop hu
      · cases h
    · rename_i e hu
      split at h
      · rename_i i hi
        cases hb : _ && _ with
        | true => rw [hb] at h; cases h
        | false =>
          rw [hb] at h
          obtain rfl := Option.some.inj h
          refine sound_slice_slc hop hu hi fun hm => ?_
          rw [hm] at hb
          simpa using hb
      · cases h
    · cases h
  · rename_i hop
    unfold compBuild at h
    split at h
    · rename_i fields hu
      split at h
      · rename_i i hi
        split at h
        · rename_i z hz
          cases hb : _ && _ with
          | false => rw [hb] at h; cases h
          | true =>
            rw [hb] at h
            obtain rfl := Option.some.inj h
            simp only [Bool.and_eq_true] at hb
            obtain ⟨⟨h1, h2⟩, h3⟩ := hb
            exact sound_build (at_ := atIn P fields) hop hu hi hz h1 (allInfo_ok h2) (partsOk_ok h3)
        · cases h
      · cases h
    · rename_i k et hu
      split at h
      · rename_i i hi
        split at h
        · rename_i z hz
          split at h
          · rename_i ie hie
            cases hb : _ && _ with
            | false => rw [hb] at h; cases h
            | true =>
              rw [hb] at h
              obtain rfl := Option.some.inj h
              simp only [Bool.and_eq_true] at hb
              exact sound_buildArr hop hu hi hz hie (natBle.1 hb.1) hb.2
          · cases h
        · cases h
      · cases h
    · cases h
  · rename_i hop
    unfold compLen at h
    split at h
    · rename_i x ha
      split at h
      · rename_i aT ht
        split at h
        · rename_i hu; obtain rfl := Option.some.inj h; exact sound_lenS hop (arr_one ha) ht hu
        · rename_i hu; obtain rfl := Option.some.inj h; exact sound_lenL hop (arr_one ha) ht hu
        · rename_i hu; obtain rfl := Option.some.inj h; exact sound_lenA hop (arr_one ha) ht hu
        · cases h
      · cases h
    · cases h
  · rename_i hop
    unfold compCap at h
    split at h
    · rename_i x ha
      split at h
      · rename_i aT ht
        split at h
        · rename_i hu; obtain rfl := Option.some.inj h; exact sound_cap hop (arr_one ha) ht hu
        · cases h
      · cases h
    · cases h
  · rename_i hop; obtain rfl := Option.some.inj h; exact sound_min hop
  · rename_i hop; obtain rfl := Option.some.inj h; exact sound_max hop
  · cases h

/-! ### what reads memory -/
noncomputable def compR (P : Program) (ng : Nat) (op : Op) : Option RF := match op with
  | .load t x => match P.underlying t with
    | some d => match P.info? t with
      | some i => some (rLoad (aggD d) i.size (xOf ng x))
      | none => none
    | none => none
  | .lookup t x y ok => match P.underlying t with
    | some (.map kt et) => match P.underlying kt with
      | some d => match keyKind d with
        | some kd => match P.info? et with
          | some i => match i.zero with
            | some z => some (rLook kd (avZ z) ok (xOf ng x) (xOf ng y))
            | none => none
          | none => none
        | none => none
      | none => none
    | _ => none
  | .entry x => some (rEntry (xOf ng x))
  | .convert s d x => match P.underlying s with
    | some (.slice e) => match P.underlying e with
      | some (.int .u8) => match P.underlying d with
        | some .string => some (rConvT (xOf ng x))
        | _ => none
      | _ => none
    | _ => none
  | .slice t x lo hi mx => match P.underlying t with
    | some (.array k e) => match P.info? e with
      | some i => cond (mx.isSome && !hi.isSome) none (some (rSlcA k i.size (xOf ng x) (lo.map (xOf ng)) (hi.map (xOf ng)) (mx.map (xOf ng))))
      | none => none
    | _ => none
  | .call ⟨.builtin .len, args, ats⟩ => match args.toList with
    | [x] => match ats[0]? with
      | some aT => match P.underlying aT with
        | some (.map _ _) => some (rLenM (xOf ng x))
        | _ => none
      | none => none
    | _ => none
  | _ => none
theorem compR_sound {o : Oper} {f : RF} (h : compR P ng o.op = some f) : RSnd P ng o f := by
  unfold compR at h
  split at h
  · rename_i hop
    split at h
    · rename_i d hu
      split at h
      · rename_i i hi
        obtain rfl := Option.some.inj h
        intro C hC
        subst hC
        exact sound_load hop hu hi C rfl
      · cases h
    · cases h
  · rename_i hop
    split at h
    · rename_i hu
      split at h
      · rename_i hk
        split at h
        · rename_i hd
          split at h
          · rename_i hi
            split at h
            · rename_i hz; obtain rfl := Option.some.inj h; exact sound_lookup hop hu hk hd hi hz
            · cases h
          · cases h
        · cases h
      · cases h
    · cases h
  · rename_i hop; obtain rfl := Option.some.inj h; exact sound_entry hop
  · rename_i hop
    split at h
    · rename_i hs
      split at h
      · rename_i he
        split at h
        · rename_i hd; obtain rfl := Option.some.inj h; exact sound_convT hop hs he hd
        · cases h
      · cases h
    · cases h
  · rename_i hop
    split at h
    · rename_i hu
      split at h
      · rename_i i hi
        cases hb : _ && _ with
        | true => rw [hb] at h; cases h
        | false =>
          rw [hb] at h
          obtain rfl := Option.some.inj h
          refine sound_slice_arr hop hu hi fun hm => ?_
          rw [hm] at hb
          simpa using hb
      · cases h
    · cases h
  · rename_i hop
    split at h
    · rename_i x ha
      split at h
      · rename_i aT ht
        split at h
        · rename_i hu; obtain rfl := Option.some.inj h; exact sound_lenM hop (arr_one ha) ht hu
        · cases h
      · cases h
    · cases h
  · cases h

/-! ### what turns memory -/
noncomputable def compMake (P : Program) (ng : Nat) (t : TypeId) (x y : Operand) : Option MF := match P.underlying t with
  | some (.slice e) => match P.info? e with
    | some i => match i.zero with
      | some z => cond (Nat.beq z.cells.size i.size && z.cells.toList.all Value.oneCell') (some (mMake i.size i.bytes (zeroAV z.cells) (xOf ng x) (xOf ng y))) none
      | none => none
    | none => none
  | _ => none
noncomputable def compBS (P : Program) (ng : Nat) (t : TypeId) (len : Nat) (parts : Array (Nat × Operand)) : Option MF := match P.underlying t with
  | some (.slice e) => match P.info? e with
    | some i => match i.zero with
      | some z => cond (Nat.ble (len * i.size) 16777216 && Nat.ble 1 i.size && ((Array.range (len * i.size)).map (z.cells[· % z.cells.size]!)).toList.all Value.oneCell')
          (some (mSlice len i.size (zeroAV ((Array.range (len * i.size)).map (z.cells[· % z.cells.size]!))) (parts.toList.map fun p => (p.1 * i.size, i.size, xOf ng p.2)))) none
      | none => none
    | none => none
  | _ => none
noncomputable def compUpd (P : Program) (ng : Nat) (t : TypeId) (x k v : Operand) : Option MF := match P.underlying t with
  | some (.map kt _) => match P.underlying kt with
    | some d => match keyKind d with
      | some kd => some (mUpd kd (xOf ng x) (xOf ng k) (xOf ng v))
      | none => none
    | none => none
  | _ => none
noncomputable def compApp (P : Program) (ng : Nat) (args : Array Operand) (ats : Array TypeId) : Option MF := match args.toList with
  | [x, y] => match ats.toList with
    | [t, u] => match P.underlying u with
      | some d => match P.underlying t with
        | some (.slice e) => match P.info? e with
          | some i => match i.zero with
            | some z => cond (Nat.beq z.cells.size i.size && z.cells.toList.all Value.oneCell' && Nat.ble i.bytes 4096) (match d with
              | .string => some (mApp i.size (xOf ng x) (xOf ng y))
              | .slice _ => some (mApp i.size (xOf ng x) (xOf ng y))
              | .int _ => some (mAppM i.size (zeroAV z.cells) (xOf ng x) (xOf ng y))
              | _ => none) none
            | none => none
          | none => none
        | _ => none
      | none => none
    | _ => none
  | _ => none
noncomputable def compCopy (P : Program) (ng : Nat) (args : Array Operand) (ats : Array TypeId) : Option MF := match args.toList with
  | [x, y] => match ats[0]? with
    | some aT => match P.underlying aT with
      | some (.slice e) => match P.info? e with
        | some i => some (mCopy i.size (xOf ng x) (xOf ng y))
        | none => none
      | _ => none
    | none => none
  | _ => none
noncomputable def compClear (P : Program) (ng : Nat) (args : Array Operand) (ats : Array TypeId) : Option MF := match args.toList with
  | [x] => match ats[0]? with
    | some aT => match P.underlying aT with
      | some (.slice e) => match P.info? e with
        | some i => match i.zero with
          | some z => cond (z.cells.toList.all Value.oneCell') (some (mClear i.size (zeroAV z.cells) (xOf ng x))) none
          | none => none
        | none => none
      | _ => none
    | none => none
  | _ => none
noncomputable def compM (P : Program) (ng : Nat) (op : Op) : Option MF := match op with
  | .store t x y => match P.info? t with
    | some i => cond (Nat.ble 1 i.size) (some (mStore i.size (xOf ng x) (xOf ng y))) none
    | none => none
  | .box _ x => some (mBox (xOf ng x))
  | .makeMap _ none => some mMap
  | .range t x => match P.underlying t with
    | some .string => some (mRange (xOf ng x))
    | some (.map _ _) => some (mRangeM (xOf ng x))
    | _ => none
  | .next x true => some (mNext (xOf ng x))
  | .mapUpdate t x k v => compUpd P ng t x k v
  | .insert t x k v => compUpd P ng t x k v
  | .buildSlice t len parts => compBS P ng t len parts
  | .makeSlice t x y => compMake P ng t x y
  | .convert s d x => match P.underlying s with
    | some .string => match P.underlying d with
      | some (.slice e) => match P.underlying e with
        | some (.int .u8) => some (mConvB (xOf ng x))
        | _ => none
      | _ => none
    | _ => none
  | .call ⟨.builtin .append, args, ats⟩ => compApp P ng args ats
  | .call ⟨.builtin .copy, args, ats⟩ => compCopy P ng args ats
  | .call ⟨.builtin .clear, args, ats⟩ => compClear P ng args ats
  | _ => none
theorem compUpd_sound {o : Oper} {t : TypeId} {x k v : Operand} {f : MF} (hop : o.op = .mapUpdate t x k v ∨ o.op = .insert t x k v) (h : compUpd P ng t x k v = some f) : MSnd P ng o f := by
  unfold compUpd at h
  split at h
  · rename_i hu
    split at h
    · rename_i hk
      split at h
      · rename_i hd; obtain rfl := Option.some.inj h; exact sound_mapUpdate hop hu hk hd
      · cases h
    · cases h
  · cases h
theorem compM_sound {o : Oper} {f : MF} (h : compM P ng o.op = some f) : MSnd P ng o f := by
  unfold compM at h
  split at h
  · rename_i hop
    split at h
    · rename_i i hi
      cases hb : Nat.ble 1 i.size with
      | false => rw [hb] at h; cases h
      | true => rw [hb] at h; obtain rfl := Option.some.inj h; exact sound_store hop hi (natBle.1 hb)
    · cases h
  · rename_i hop; obtain rfl := Option.some.inj h; exact sound_box hop
  · rename_i hop; obtain rfl := Option.some.inj h; exact sound_makeMap hop
  · rename_i hop
    split at h
    · rename_i hu; obtain rfl := Option.some.inj h; exact sound_range_str hop hu
    · rename_i hu; obtain rfl := Option.some.inj h; exact sound_range_map hop hu
    · cases h
  · rename_i hop; obtain rfl := Option.some.inj h; exact sound_next_str hop
  · rename_i hop; exact compUpd_sound (.inl hop) h
  · rename_i hop; exact compUpd_sound (.inr hop) h
  · rename_i hop
    unfold compBS at h
    split at h
    · rename_i hu
      split at h
      · rename_i hi
        split at h
        · rename_i hz
          cases hb : _ && _ with
          | false => rw [hb] at h; cases h
          | true =>
            rw [hb] at h
            obtain rfl := Option.some.inj h
            simp only [Bool.and_eq_true] at hb
            obtain ⟨⟨h1, h2⟩, h4⟩ := hb
            exact sound_buildSlice hop hu hi hz (natBle.1 h1) (natBle.1 h2) h4 (fun _ _ => rfl)
        · cases h
      · cases h
    · cases h
  · rename_i hop
    unfold compMake at h
    split at h
    · rename_i hu
      split at h
      · rename_i hi
        split at h
        · rename_i hz
          cases hb : _ && _ with
          | false => rw [hb] at h; cases h
          | true =>
            rw [hb] at h
            obtain rfl := Option.some.inj h
            simp only [Bool.and_eq_true] at hb
            exact sound_makeSlice hop hu hi hz (natBeq.1 hb.1) hb.2
        · cases h
      · cases h
    · cases h
  · rename_i hop
    split at h
    · rename_i hs
      split at h
      · rename_i hd
        split at h
        · rename_i he; obtain rfl := Option.some.inj h; exact sound_convB hop hs hd he
        · cases h
      · cases h
    · cases h
  · rename_i hop
    unfold compApp at h
    split at h
    · rename_i ha
      split at h
      · rename_i t u hats
        split at h
        · rename_i d hu
          split at h
          · rename_i ht
            split at h
            · rename_i hi
              split at h
              · rename_i hz
                cases hb : _ && _ with
                | false => rw [hb] at h; cases h
                | true =>
                  rw [hb] at h
                  simp only [cond_true] at h
                  simp only [Bool.and_eq_true] at hb
                  obtain ⟨⟨h1, h2⟩, h3⟩ := hb
                  rw [show _ = #[t, u] from Array.ext' hats] at hop
                  split at h
                  · obtain rfl := Option.some.inj h; exact sound_append hop (arr_two ha) (.inl rfl) hu ht hi hz (natBeq.1 h1) h2 (natBle.1 h3)
                  · obtain rfl := Option.some.inj h; exact sound_append hop (arr_two ha) (.inr ⟨_, rfl⟩) hu ht hi hz (natBeq.1 h1) h2 (natBle.1 h3)
                  · obtain rfl := Option.some.inj h; exact sound_appendM hop (arr_two ha) hu ht hi hz (natBeq.1 h1) h2 (natBle.1 h3)
                  · cases h
              · cases h
            · cases h
          · cases h
        · cases h
      · cases h
    · cases h
  · rename_i hop
    unfold compCopy at h
    split at h
    · rename_i ha
      split at h
      · rename_i ht
        split at h
        · rename_i hu
          split at h
          · rename_i hi; obtain rfl := Option.some.inj h; exact sound_copy hop (arr_two ha) ht hu hi
          · cases h
        · cases h
      · cases h
    · cases h
  · rename_i hop
    unfold compClear at h
    split at h
    · rename_i ha
      split at h
      · rename_i ht
        split at h
        · rename_i hu
          split at h
          · rename_i hi
            split at h
            · rename_i z hz
              cases hb : z.cells.toList.all Value.oneCell' with
              | false => rw [hb] at h; cases h
              | true => rw [hb] at h; obtain rfl := Option.some.inj h; exact sound_clear hop (arr_one ha) ht hu hi hz hb
            · cases h
          · cases h
        · cases h
      · cases h
    · cases h
  · cases h
end
end Go.Eng
namespace Go.Eng
open Go
section
variable {P : Program} {T : Tab} {Φ : Cx → Prop} {ng nt : Nat}
/-- a moved value: of a temporary, or a constant -/
noncomputable def compMove (ng : Nat) (x : Operand) (t : Nat) : FO := match x with
  | .tmp s => .mv (pa t) (pa s)
  | .const v => .mc (pa t) (avOf v)
  | .global g => .mc (pa t) (cond (Nat.blt g ng) (.ptr g 0) .junk)
  | .func f => .mc (pa t) (.fn f .nil .nil)
noncomputable def compMv (ng nt : Nat) (x : Operand) (o : Oper) : Option FO := match o.dst with
  | some t => cond (Nat.blt t nt) (some (compMove ng x t)) none
  | none => none
noncomputable def compAl (P : Program) (nt : Nat) (t : TypeId) (o : Oper) : Option FO := match P.info? t with
  | some i => match i.zero with
    | some z => cond (z.cells.toList.all Value.oneCell') (fin nt o fun d => .al d (zeroAV z.cells)) none
    | none => none
  | none => none
noncomputable def compPu (P : Program) (ng nt : Nat) (o : Oper) : Option FO := match compP P ng o.op with
  | some f => fin nt o fun d => .pu d f
  | none => match compR P ng o.op with
    | some f => fin nt o fun d => .rd d f
    | none => match compM P ng o.op with
      | some f => fin nt o fun d => .me d f
      | none => none
/-- a slice cut in memory: where its block's end is not known -/
noncomputable def compCut (P : Program) (ng nt : Nat) (t : TypeId) (x : Operand) (lo hi : Option Operand) (o : Oper) : Option FO := match P.underlying t with
  | some (.slice e) => match P.info? e with
    | some i => cond (Nat.ble 1 i.size) (fin nt o fun d => .me d (mSlcL i.size (xOf ng x) (lo.map (xOf ng)) (hi.map (xOf ng)) none)) none
    | none => none
  | _ => compPu P ng nt o
noncomputable def compGt (P : Program) (ng nt : Nat) (t : TypeId) (x y : Operand) (o : Oper) : Option FO := match P.underlying t with
  | some (.int _) => fin nt o fun d => .br d (xOf ng x) (xOf ng y)
  | _ => compPu P ng nt o
/-- free: in a region that does not draw -/
noncomputable def compOp (P : Program) (ng nt : Nat) (free : Bool) (o : Oper) : Option FO := match o.op with
  | .move x => compMv ng nt x o
  | .assign x => compMv ng nt x o
  | .alloc t => compAl P nt t o
  | .call ⟨.value (.func f), args, _⟩ => fin nt o fun d => .ca d f (argsX ng args)
  | .call ⟨.value x, args, _⟩ => fin nt o fun d => .cf d (xOf ng x) (argsX ng args)
  | .next x false => fin nt o fun d => .nx d (xOf ng x)
  | .binOp .gtr t x y _ => cond free (compGt P ng nt t x y o) (compPu P ng nt o)
  | .slice t x lo hi none => cond free (compCut P ng nt t x lo hi o) (compPu P ng nt o)
  | _ => compPu P ng nt o
theorem compMv_sound {x : Operand} {o : Oper} {f : FO} (hop : o.op = .move x ∨ o.op = .assign x) (h : compMv ng nt x o = some f) : OpR P ng nt f o := by
  unfold compMv at h
  split at h
  · rename_i t hd
    cases hb : Nat.blt t nt with
    | false => rw [hb] at h; cases h
    | true =>
      rw [hb] at h
      obtain rfl := Option.some.inj h
      have hlt := natBlt.1 hb
      unfold compMove
      cases x with
      | tmp s => exact .mv hop hd hlt
      | const v => exact .mc hop rfl hd hlt
      | global g => exact .mc hop rfl hd hlt
      | func g => exact .mc hop rfl hd hlt
  · cases h
theorem compPu_sound {o : Oper} {f : FO} (h : compPu P ng nt o = some f) : OpR P ng nt f o := by
  unfold compPu at h
  split at h
  · rename_i g hg
    obtain ⟨d, hd, rfl⟩ := fin_some h
    exact .pu (compP_sound hg) hd
  · split at h
    · rename_i g hg
      obtain ⟨d, hd, rfl⟩ := fin_some h
      exact .rd (compR_sound hg) hd
    · split at h
      · rename_i g hg
        obtain ⟨d, hd, rfl⟩ := fin_some h
        exact .me (compM_sound hg) hd
      · cases h
theorem compOp_sound {free : Bool} {o : Oper} {f : FO} (h : compOp P ng nt free o = some f) : OpR P ng nt f o := by
  unfold compOp at h
  split at h
  · rename_i hop; exact compMv_sound (.inl hop) h
  · rename_i hop; exact compMv_sound (.inr hop) h
  · rename_i t hop
    unfold compAl at h
    split at h
    · rename_i i hi
      split at h
      · rename_i z hz
        cases hb : z.cells.toList.all Value.oneCell' with
        | false => rw [hb] at h; cases h
        | true =>
          rw [hb] at h
          simp only [cond_true] at h
          obtain ⟨d, hd, rfl⟩ := fin_some h
          exact .al hop hi hz hb rfl hd
      · cases h
    · cases h
  · rename_i hop
    obtain ⟨d, hd, rfl⟩ := fin_some h
    exact .ca hop hd
  · rename_i hop
    obtain ⟨d, hd, rfl⟩ := fin_some h
    exact .cf hop hd
  · rename_i hop
    obtain ⟨d, hd, rfl⟩ := fin_some h
    exact .nx hop hd
  · rename_i hop
    cases free with
    | false => exact compPu_sound h
    | true =>
      have h' : compGt P ng nt _ _ _ o = some f := h
      unfold compGt at h'
      split at h'
      · obtain ⟨d, hd, rfl⟩ := fin_some h'
        exact .br hop hd
      · exact compPu_sound h'
  · rename_i hop
    cases free with
    | false => exact compPu_sound h
    | true =>
      have h' : compCut P ng nt _ _ _ _ o = some f := h
      unfold compCut at h'
      split at h'
      · rename_i e hu
        split at h'
        · rename_i i hi
          cases hb : Nat.ble 1 i.size with
          | false => rw [hb] at h'; cases h'
          | true =>
            rw [hb] at h'
            simp only [cond_true] at h'
            obtain ⟨d, hd, rfl⟩ := fin_some h'
            exact .me (sound_slice_mem hop hu hi (fun x => by cases x) rfl (natBle.1 hb)) hd
        · cases h'
      · exact compPu_sound h'
  · exact compPu_sound h

/-! ### regions -/
noncomputable def compGd (nt : Nat) (os : Array Oper) (o : Oper) (f : FO) : Option FO := match o.guard with
  | none => some f
  | some (j, want) => match os[j]? with
    | some g => match g.dst with
      | some q => cond (Nat.blt q nt) (fin nt o fun d => .gd (pa q) want d f) none
      | none => none
    | none => none
noncomputable def orBad (nt : Nat) (o : Oper) (x : Option FO) : Option FO := match x with
  | some f => some f
  | none => fin nt o fun _ => .bad
noncomputable def compOps (P : Program) (ng nt : Nat) (free : Bool) (os : Array Oper) : List Oper → Option (List FO)
  | [] => some []
  | o :: l => bindO (orBad nt o (compOp P ng nt free o)) fun f => bindO (compGd nt os o f) fun f => bindO (compOps P ng nt free os l) fun fs => some (f :: fs)
theorem compOps_sound {free : Bool} {os : Array Oper} : ∀ {l : List Oper} {fs : List FO}, compOps P ng nt free os l = some fs → All2 (GOpR P ng nt os) fs l
  | [], fs, h => by obtain rfl := Option.some.inj h; trivial
  | o :: l, fs, h => by
    simp only [compOps, bindO_eq, Option.bind_eq_some_iff] at h
    obtain ⟨f, hf, g, hg, gs, hgs, h⟩ := h
    obtain rfl := Option.some.inj h
    refine ⟨?_, compOps_sound hgs⟩
    have hop : OpR P ng nt f o := by
      unfold orBad at hf
      split at hf
      · rename_i g0 hg0
        obtain rfl := Option.some.inj hf
        exact compOp_sound hg0
      · obtain ⟨d, hd, rfl⟩ := fin_some hf
        exact .bad hd
    unfold compGd at hg
    split at hg
    · rename_i hn
      obtain rfl := Option.some.inj hg
      exact .plain hn hop
    · rename_i j want hn
      split at hg
      · rename_i go hj
        split at hg
        · rename_i q hq
          cases hb : Nat.blt q nt with
          | false => rw [hb] at hg; cases hg
          | true =>
            rw [hb] at hg
            simp only [cond_true] at hg
            obtain ⟨d, hd, rfl⟩ := fin_some hg
            exact .gd hn hj hq (natBlt.1 hb) hd hop
        · cases hg
      · cases hg

/-! ### a region that draws -/
def maskOf (bm : List Nat) (o : Oper) : Nat := o.after.toList.foldl (fun s e => cond (Region.binds .any e) (Nat.lor (Nat.lor s (Nat.pow 2 e.on)) (nthD bm e.on)) s) 0
def masksOf : List Oper → List Nat → List Nat
  | [], bm => bm
  | o :: l, bm => masksOf l (bm ++ [maskOf bm o])
/-- each mask is what its edges make; each edge comes from ahead -/
def masksOk (bm : List Nat) : Nat → List Oper → Bool
  | _, [] => true
  | i, o :: l => Nat.beq (nthD bm i) (maskOf bm o) && o.after.toList.all (fun e => !Region.binds .any e || Nat.blt e.on i) && masksOk bm (i + 1) l
noncomputable def heavies : Nat → List FO → List Nat
  | _, [] => []
  | i, f :: l => cond (heavyO f) (i :: heavies (i + 1) l) (heavies (i + 1) l)
def chainOk (bm : List Nat) : List Nat → Bool
  | [] => true
  | i :: l => l.all (fun j => isBefore bm i j) && chainOk bm l
/-- a temporary's writers -/
def writersOf (t : Nat) : Nat → List Oper → List Nat
  | _, [] => []
  | i, o :: l => match o.dst with
    | some d => cond (Nat.beq d t) (i :: writersOf t (i + 1) l) (writersOf t (i + 1) l)
    | none => writersOf t (i + 1) l
def ordered (bm : List Nat) (i : Nat) (j : Nat) : Bool := cond (Nat.blt j i) (isBefore bm j i) (cond (Nat.blt i j) (isBefore bm i j) true)
def tmpsOf : List Operand → List Nat
  | [] => []
  | .tmp t :: l => t :: tmpsOf l
  | _ :: l => tmpsOf l
/-- one writer each; who reads is ordered with who writes -/
def readsOk (bm : List Nat) (all : List Oper) : Nat → List Oper → Bool
  | _, [] => true
  | i, o :: l => (match o.dst with
      | some t => Nat.beq (writersOf t 0 all).length 1
      | none => true) &&
    (tmpsOf o.op.operands.toList).all (fun t => (writersOf t 0 all).all fun j => ordered bm i j) &&
    (match o.guard with
      | some (g, _) => ordered bm i g
      | none => true) && readsOk bm all (i + 1) l
noncomputable def compDraw (P : Program) (ng nt : Nat) (os : Array Oper) : Option FC :=
  bindO (compOps P ng nt false os os.toList) fun fs => forceNs (masksOf os.toList []) fun bm => forceNs (heavies 0 fs) fun hv =>
    cond (Nat.beq bm.length os.size && masksOk bm 0 os.toList && chainOk bm hv && readsOk bm os.toList 0 os.toList) (some (.draw fs bm hv)) none
theorem bit_eq (bm : List Nat) (j i : Nat) : isBefore bm j i = (nthD bm i).testBit j := by
  rw [Nat.testBit_eq_decide_div_mod_eq]
  show Nat.beq (nthD bm i / 2 ^ j % 2) 1 = _
  by_cases h : nthD bm i / 2 ^ j % 2 = 1
  · rw [decide_eq_true h]; exact natBeq.2 h
  · rw [decide_eq_false h]
    cases hb : Nat.beq (nthD bm i / 2 ^ j % 2) 1 with
    | false => rfl
    | true => exact absurd (natBeq.1 hb) h
theorem foldl_bit {bm : List Nat} {j : Nat} : ∀ (l : List Edge) (s : Nat), (l.foldl (fun s e => cond (Region.binds .any e) (Nat.lor (Nat.lor s (Nat.pow 2 e.on)) (nthD bm e.on)) s) s).testBit j = true →
    s.testBit j = true ∨ ∃ e ∈ l, Region.binds .any e = true ∧ (e.on = j ∨ (nthD bm e.on).testBit j = true)
  | [], s, h => .inl h
  | e :: l, s, h => by
    simp only [List.foldl_cons] at h
    rcases foldl_bit l _ h with h | ⟨e', h1, h2, h3⟩
    · cases hb : Region.binds .any e with
      | false => rw [hb] at h; exact .inl h
      | true =>
        rw [hb] at h
        have h' : ((s ||| 2 ^ e.on) ||| nthD bm e.on).testBit j = true := h
        rw [Nat.testBit_or, Nat.testBit_or, Nat.testBit_two_pow] at h'
        simp only [Bool.or_eq_true, decide_eq_true_eq] at h'
        rcases h' with (h' | h') | h'
        · exact .inl h'
        · exact .inr ⟨e, by simp, hb, .inl h'⟩
        · exact .inr ⟨e, by simp, hb, .inr h'⟩
    · exact .inr ⟨e', by simp [h1], h2, h3⟩
theorem masksOk_at {bm : List Nat} : ∀ (l : List Oper) (k : Nat), masksOk bm k l = true → ∀ i o, l[i]? = some o → nthD bm (k + i) = maskOf bm o ∧ ∀ e ∈ o.after, Region.binds .any e = true → e.on < k + i
  | [], _, _, i, o, h => by simp at h
  | x :: l, k, h, i, o, hi => by
    simp only [masksOk, Bool.and_eq_true] at h
    obtain ⟨⟨h1, h2⟩, h3⟩ := h
    cases i with
    | zero =>
      simp at hi
      subst hi
      refine ⟨natBeq.1 h1, fun e he hb => ?_⟩
      have := List.all_eq_true.1 h2 e (Array.mem_toList_iff.2 he)
      rw [hb] at this
      exact natBlt.1 (by simpa using this)
    | succ i =>
      obtain ⟨g1, g2⟩ := masksOk_at l (k + 1) h3 i o (by simpa using hi)
      rw [show k + (i + 1) = k + 1 + i by omega]
      exact ⟨g1, g2⟩
theorem heavies_eq : ∀ (fs : List FO) (k : Nat), heavies k fs = ((List.range fs.length).filter fun i => heavyO (fs.getD i .bad)).map (k + ·)
  | [], _ => rfl
  | f :: fs, k => by
    have ih := heavies_eq fs (k + 1)
    rw [List.length_cons, List.range_succ_eq_map, List.filter_cons]
    have hf : ((List.map Nat.succ (List.range fs.length)).filter fun i => heavyO ((f :: fs).getD i .bad)) = ((List.range fs.length).filter fun i => heavyO (fs.getD i .bad)).map Nat.succ := by
      rw [List.filter_map]
      rfl
    rw [hf]
    have hm : (((List.range fs.length).filter fun i => heavyO (fs.getD i .bad)).map Nat.succ).map (k + ·) = heavies (k + 1) fs := by
      rw [ih, List.map_map]
      congr 1
      funext i
      show k + (i + 1) = k + 1 + i
      omega
    cases hb : heavyO f with
    | false =>
      simp only [heavies, hb, cond_false]
      have : heavyO ((f :: fs).getD 0 .bad) = false := hb
      rw [this]
      simp only [Bool.false_eq_true, if_false]
      rw [hm]
    | true =>
      simp only [heavies, hb, cond_true]
      have : heavyO ((f :: fs).getD 0 .bad) = true := hb
      rw [this]
      simp only [if_true, List.map_cons, Nat.add_zero]
      rw [hm]
theorem chainOk_at {bm : List Nat} : ∀ {l : List Nat}, chainOk bm l = true → l.Pairwise (· < ·) → ∀ i j, i < j → i ∈ l → j ∈ l → isBefore bm i j = true
  | [], _, _, _, _, _, h, _ => by simp at h
  | x :: l, h, hp, i, j, hij, hi, hj => by
    simp only [chainOk, Bool.and_eq_true] at h
    rw [List.pairwise_cons] at hp
    rw [List.mem_cons] at hi hj
    rcases hi with rfl | hi
    · rcases hj with rfl | hj
      · omega
      · exact List.all_eq_true.1 h.1 j hj
    · rcases hj with rfl | hj
      · have := hp.1 i hi; omega
      · exact chainOk_at h.2 hp.2 i j hij hi hj
theorem mem_writersOf {t : Nat} : ∀ (l : List Oper) (k i : Nat) (o : Oper), l[i]? = some o → o.dst = some t → k + i ∈ writersOf t k l
  | [], _, i, o, h, _ => by simp at h
  | x :: l, k, i, o, h, hd => by
    cases i with
    | zero =>
      simp at h
      subst h
      unfold writersOf
      rw [hd]
      simp only [show Nat.beq t t = true from natBeq.2 rfl, cond_true]
      simp
    | succ i =>
      have := mem_writersOf l (k + 1) i o (by simpa using h) hd
      rw [show k + (i + 1) = k + 1 + i by omega]
      unfold writersOf
      split
      · cases Nat.beq _ t <;> simp [this]
      · exact this
theorem mem_tmpsOf {t : Nat} : ∀ {l : List Operand}, Operand.tmp t ∈ l → t ∈ tmpsOf l
  | [], h => by simp at h
  | x :: l, h => by
    rw [List.mem_cons] at h
    rcases h with h | h
    · subst h; simp [tmpsOf]
    · have := mem_tmpsOf h
      cases x <;> simp [tmpsOf, this]
theorem readsOk_at {bm : List Nat} {all : List Oper} : ∀ (l : List Oper) (k : Nat), readsOk bm all k l = true → ∀ i o, l[i]? = some o →
    (∀ t, o.dst = some t → (writersOf t 0 all).length = 1) ∧ (∀ t, Operand.tmp t ∈ o.op.operands → ∀ j ∈ writersOf t 0 all, ordered bm (k + i) j = true) ∧ (∀ g w, o.guard = some (g, w) → ordered bm (k + i) g = true)
  | [], _, _, i, o, h => by simp at h
  | x :: l, k, h, i, o, hi => by
    simp only [readsOk, Bool.and_eq_true] at h
    obtain ⟨⟨⟨h1, h2⟩, h3⟩, h4⟩ := h
    cases i with
    | zero =>
      simp at hi
      subst hi
      refine ⟨fun t ht => ?_, fun t ht j hj => ?_, fun g w hg => ?_⟩
      · rw [ht] at h1; exact natBeq.1 h1
      · exact List.all_eq_true.1 (List.all_eq_true.1 h2 t (mem_tmpsOf (Array.mem_toList_iff.2 ht))) j hj
      · rw [hg] at h3; exact h3
    | succ i =>
      have := readsOk_at l (k + 1) h4 i o (by simpa using hi)
      rw [show k + (i + 1) = k + 1 + i by omega]
      exact this
theorem ordered_lt {bm : List Nat} {i j : Nat} (h : ordered bm i j = true) : (j < i → isBefore bm j i = true) ∧ (i < j → isBefore bm i j = true) := by
  unfold ordered at h
  refine ⟨fun hj => ?_, fun hj => ?_⟩
  · rw [show Nat.blt j i = true from natBlt.2 hj] at h; exact h
  · have h1 : Nat.blt j i = false := by
      cases hb : Nat.blt j i with
      | false => rfl
      | true => have := natBlt.1 hb; omega
    rw [h1, show Nat.blt i j = true from natBlt.2 hj] at h
    exact h
theorem one_of_length {α : Type} {l : List α} (h : l.length = 1) {x y : α} (hx : x ∈ l) (hy : y ∈ l) : x = y := by
  match l, h with
  | [z], _ => simp at hx hy; rw [hx, hy]
theorem compDraw_sound {os : Array Oper} {f : FC} (h : compDraw P ng nt os = some f) : ∃ fs bm hv, f = .draw fs bm hv ∧ DrawR P ng nt fs bm hv os := by
  simp only [compDraw, bindO_eq, Option.bind_eq_some_iff, forceNs_eq] at h
  obtain ⟨fs, hfs, h⟩ := h
  cases hb : _ && _ with
  | false => rw [hb] at h; cases h
  | true =>
    rw [hb] at h
    obtain rfl := Option.some.inj h
    simp only [Bool.and_eq_true] at hb
    obtain ⟨⟨⟨_, h2⟩, h3⟩, h4⟩ := hb
    have hops := compOps_sound hfs
    have hlen : fs.length = os.size := by simpa using hops.length
    have hmask := masksOk_at _ _ h2
    have hread := readsOk_at _ _ h4
    have hve : heavies 0 fs = (List.range os.size).filter fun i => heavyO (fs.getD i .bad) := by
      rw [heavies_eq, hlen]
      simp
    have hl : ∀ {i : Nat} {o : Oper}, os[i]? = some o → os.toList[i]? = some o := fun hi => by simpa using hi
    have hone : ∀ (i j : Nat) (o o' : Oper) (t : Nat), os[i]? = some o → os[j]? = some o' → o.dst = some t → o'.dst = some t → i = j := fun i j o o' t hi hj hd hd' => by
      have h1 := (hread i o (hl hi)).1 t hd
      have m1 := mem_writersOf os.toList 0 i o (hl hi) hd
      have m2 := mem_writersOf os.toList 0 j o' (hl hj) hd'
      rw [Nat.zero_add] at m1 m2
      exact one_of_length h1 m1 m2
    refine ⟨fs, _, _, rfl, hops, fun i o hi e he hbd => ?_, fun E hE i o hi hr j hj => ?_, hve, fun i j hij hi hj => ?_, hone, fun i j o o' t hi hj hd hr => ?_⟩
    · have := (hmask i o (hl hi)).2 e he hbd
      omega
    · have key : ∀ (m i : Nat) (o : Oper), i ≤ m → os[i]? = some o → (∀ e ∈ o.after, Region.binds .any e = true → E e.on) → ∀ j, bitOf (masksOf os.toList []) j i → E j := by
        intro m
        induction m using Nat.strongRecOn with
        | _ m ih =>
          intro i o hle hi hr j hj
          have hj' : isBefore (masksOf os.toList []) j i = true := hj
          obtain ⟨g1, g2⟩ := hmask i o (hl hi)
          rw [Nat.zero_add] at g1
          rw [bit_eq, g1] at hj'
          rcases foldl_bit _ _ hj' with h0 | ⟨e, he, hbd, hx⟩
          · simp at h0
          · have he' := Array.mem_toList_iff.1 he
            have hEe := hr e he' hbd
            rcases hx with hx | hx
            · rw [← hx]; exact hEe
            · have hlt := g2 e he' hbd
              have hsz : i < os.size := (Array.getElem?_eq_some_iff.1 hi).1
              have hlt' : e.on < os.size := by omega
              refine ih e.on (by omega) e.on os[e.on] (Nat.le_refl _) (by simp [hlt']) (fun e' he'' hb' => hE e.on os[e.on] (by simp [hlt']) hEe e' he'' hb') j ?_
              show isBefore _ _ _ = true
              rw [bit_eq]; exact hx
      exact key i i o (Nat.le_refl _) hi hr j hj
    · have hpw : (heavies 0 fs).Pairwise (· < ·) := by
        rw [hve]
        exact List.Pairwise.filter _ List.pairwise_lt_range
      exact chainOk_at h3 hpw i j hij hi hj
    · obtain ⟨_, r2, r3⟩ := hread i o (hl hi)
      have m := mem_writersOf os.toList 0 j o' (hl hj) hd
      rcases hr with hr | ⟨g, wv, hg, rfl⟩
      · have := r2 t hr (0 + j) m
        rw [Nat.zero_add, Nat.zero_add] at this
        exact ordered_lt this
      · have := r3 _ _ hg
        rw [Nat.zero_add] at this
        exact ordered_lt this
end
end Go.Eng
namespace Go.Eng
open Go
structure CR where
  c : FC
  k : Nat
  l : List (Nat × FC × FC)
/-- does code step an iterator over a map? does it append? -/
def hasNext : Code → Bool
  | .region _ os _ => os.toList.any fun o => match o.op with | .next _ false => true | _ => false
  | .seq a b => hasNext a || hasNext b
  | .cond _ a b => hasNext a || hasNext b
  | .block _ a => hasNext a
  | _ => false
def hasApp : Code → Bool
  | .region _ os _ => os.toList.any fun o => match o.op with | .call ⟨.builtin .append, _, _⟩ => true | _ => false
  | .seq a b => hasApp a || hasApp b
  | .cond _ a b => hasApp a || hasApp b
  | .block _ a => hasApp a
  | .loop a => hasApp a
  | .rangeFunc _ _ a b => hasApp a || hasApp b
  | .scope a => hasApp a
  | _ => false
noncomputable def compRange (ng nt k : Nat) (g : Operand) (ps : Array Tmp) (ra rb : CR) : Option CR :=
  cond (ps.toList.all fun p => Nat.blt p nt) (some ⟨.range (xOf ng g) (ps.toList.map pa) k, rb.k, (k, ra.c, rb.c) :: (ra.l ++ rb.l)⟩) none
noncomputable def orBadC (x : Option FC) : Option FC := match x with
  | some f => some f
  | none => some .bad
noncomputable def compC (P : Program) (ng nt : Nat) : Nat → Code → Option CR
  | k, .skip => some ⟨.skip, k, []⟩
  | k, .region _ os draw => cond draw (bindO (orBadC (compDraw P ng nt os)) fun f => some ⟨f, k, []⟩) (bindO (compOps P ng nt true os os.toList) fun fs => some ⟨.region fs, k, []⟩)
  | k, .seq a b => bindO (compC P ng nt k a) fun ra => bindO (compC P ng nt ra.k b) fun rb => some ⟨.seq ra.c rb.c, rb.k, ra.l ++ rb.l⟩
  | k, .cond c a b => bindO (compC P ng nt k a) fun ra => bindO (compC P ng nt ra.k b) fun rb => some ⟨.cond (xOf ng c) ra.c rb.c, rb.k, ra.l ++ rb.l⟩
  | k, .block id a => bindO (compC P ng nt k a) fun ra => some ⟨.block id ra.c, ra.k, ra.l⟩
  | k, .loop a => bindO (compC P ng nt k a) fun ra => some ⟨cond (hasNext a && !hasApp a) (.mrg (.loop ra.c)) (.loop ra.c), ra.k, ra.l⟩
  | k, .rangeFunc g ps x y => bindO (compC P ng nt (k + 1) x) fun ra => bindO (compC P ng nt ra.k y) fun rb => compRange ng nt k g ps ra rb
  | k, .exit id => some ⟨.jmp (.exit id), k, []⟩
  | k, .ret => some ⟨.jmp .ret, k, []⟩
  | k, .scope a => bindO (compC P ng nt k a) fun ra => some ⟨.seq ra.c .skip, ra.k, ra.l⟩
  | k, .label _ => some ⟨.skip, k, []⟩
  | k, .goto _ => some ⟨.bad, k, []⟩
  | k, .refuse _ => some ⟨.bad, k, []⟩
theorem compC_sound {P : Program} {S : Tr (FC × FC)} {ng nt : Nat} : ∀ (c : Code) (k : Nat) (r : CR), compC P ng nt k c = some r → (∀ s ∈ r.l, S.get s.1 = some s.2) → CodeR P S ng nt r.c c := by
  intro c
  induction c with
  | skip => intro k r h _; obtain rfl := Option.some.inj h; exact .skip
  | region id os draw =>
    intro k r h _
    unfold compC at h
    cases draw with
    | true =>
      simp only [cond_true, bindO_eq, Option.bind_eq_some_iff] at h
      obtain ⟨f, hf, h⟩ := h
      obtain rfl := Option.some.inj h
      unfold orBadC at hf
      split at hf
      · rename_i g hg
        obtain rfl := Option.some.inj hf
        obtain ⟨fs, bm, hv, rfl, hd⟩ := compDraw_sound hg
        exact .draw hd
      · obtain rfl := Option.some.inj hf
        exact .bad
    | false =>
      simp only [cond_false, bindO_eq, Option.bind_eq_some_iff] at h
      obtain ⟨fs, hf, h⟩ := h
      obtain rfl := Option.some.inj h
      exact .region (compOps_sound hf)
  | seq a b iha ihb =>
    intro k r h hs
    simp only [compC, bindO_eq, Option.bind_eq_some_iff] at h
    obtain ⟨ra, ha, rb, hb, h⟩ := h
    obtain rfl := Option.some.inj h
    exact .seq (iha k ra ha fun s m => hs s (by simp [m])) (ihb ra.k rb hb fun s m => hs s (by simp [m]))
  | cond x a b iha ihb =>
    intro k r h hs
    simp only [compC, bindO_eq, Option.bind_eq_some_iff] at h
    obtain ⟨ra, ha, rb, hb, h⟩ := h
    obtain rfl := Option.some.inj h
    exact .cond (iha k ra ha fun s m => hs s (by simp [m])) (ihb ra.k rb hb fun s m => hs s (by simp [m]))
  | block id a ih =>
    intro k r h hs
    simp only [compC, bindO_eq, Option.bind_eq_some_iff] at h
    obtain ⟨ra, ha, h⟩ := h
    obtain rfl := Option.some.inj h
    exact .block (ih k ra ha hs)
  | loop a ih =>
    intro k r h hs
    simp only [compC, bindO_eq, Option.bind_eq_some_iff] at h
    obtain ⟨ra, ha, h⟩ := h
    obtain rfl := Option.some.inj h
    have h1 := CodeR.loop (ih k ra ha hs)
    show CodeR P S ng nt (cond (hasNext a && !hasApp a) (.mrg (.loop ra.c)) (.loop ra.c)) _
    cases hasNext a && !hasApp a with
    | true => exact .mrg h1
    | false => exact h1
  | rangeFunc g ps x y ihx ihy =>
    intro k r h hs
    simp only [compC, bindO_eq, Option.bind_eq_some_iff, compRange] at h
    obtain ⟨ra, ha, rb, hb, h⟩ := h
    cases hq : ps.toList.all fun p => Nat.blt p nt with
    | false => rw [hq] at h; cases h
    | true =>
      rw [hq] at h
      obtain rfl := Option.some.inj h
      exact .range (hs (k, ra.c, rb.c) (by simp)) (fun p hp => natBlt.1 (List.all_eq_true.1 hq p hp)) (ihx (k + 1) ra ha fun s m => hs s (by simp [m])) (ihy ra.k rb hb fun s m => hs s (by simp [m]))
  | exit id => intro k r h _; obtain rfl := Option.some.inj h; exact .exit
  | ret => intro k r h _; obtain rfl := Option.some.inj h; exact .ret
  | scope a ih =>
    intro k r h hs
    simp only [compC, bindO_eq, Option.bind_eq_some_iff] at h
    obtain ⟨ra, ha, h⟩ := h
    obtain rfl := Option.some.inj h
    exact .scope (ih k ra ha hs)
  | label _ => intro k r h _; obtain rfl := Option.some.inj h; exact .label
  | goto _ => intro k r h _; obtain rfl := Option.some.inj h; exact .bad
  | refuse _ => intro k r h _; obtain rfl := Option.some.inj h; exact .bad

/-! ### functions, tables -/
noncomputable def compRes (P : Program) : List ResultVar → Option (List (Pa × Option (Bool × Nat)))
  | [] => some []
  | r :: l => bindO (match r with
      | .tmp t => some (pa t, none)
      | .cell t ty => match P.underlying ty with
        | some d => match P.info? ty with
          | some i => some (pa t, some (aggD d, i.size))
          | none => none
        | none => none) fun x => bindO (compRes P l) fun m => some (x :: m)
theorem compRes_sound {P : Program} : ∀ {l : List ResultVar} {m : List (Pa × Option (Bool × Nat))}, compRes P l = some m → All2 (ResR P) m l
  | [], m, h => by obtain rfl := Option.some.inj h; trivial
  | r :: l, m, h => by
    simp only [compRes, bindO_eq, Option.bind_eq_some_iff] at h
    obtain ⟨x, hx, m', hm, h⟩ := h
    obtain rfl := Option.some.inj h
    refine ⟨?_, compRes_sound hm⟩
    cases r with
    | tmp t => obtain rfl := Option.some.inj hx; exact .tmp
    | cell t ty =>
      simp only at hx
      split at hx
      · rename_i d hu
        split at hx
        · rename_i i hi; obtain rfl := Option.some.inj hx; exact .cell hu hi
        · cases hx
      · cases hx
structure FR where
  ff : FF
  k : Nat
  l : List (Nat × FC × FC)
noncomputable def compFn (P : Program) (ng k : Nat) (fn : Func) : Option FR := match fn.body with
  | some c => cond (fn.name == "runtime.NumGoroutine") none (bindO (compC P ng fn.ntmps k c) fun r => bindO (compRes P fn.results.toList) fun res => some ⟨⟨r.c, fn.ntmps, res⟩, r.k, r.l⟩)
  | none => none
structure TR where
  fs : List (Nat × FF)
  l : List (Nat × FC × FC)
/-- the functions of a list of numbers, prepared -/
noncomputable def compAll (P : Program) (ng : Nat) : Nat → List Nat → Option TR
  | _, [] => some ⟨[], []⟩
  | k, f :: fs => match P.funcs[f]? with
    | some fn => bindO (compFn P ng k fn) fun r => bindO (compAll P ng r.k fs) fun t => some ⟨(f, r.ff) :: t.fs, r.l ++ t.l⟩
    | none => none
/-- Every number stands once. -/
def onceN : List Nat → Bool
  | [] => true
  | a :: l => !mem a l && onceN l
noncomputable def mkTr' {α : Type} : List (Nat × α) → Tr α → Tr α
  | [], t => t
  | p :: l, t => mkTr' l (t.put p.1 p.2)
theorem mkTr'_eq {α : Type} : ∀ (l : List (Nat × α)) (t : Tr α), List.foldl (fun t p => t.put p.1 p.2) t l = mkTr' l t
  | [], _ => rfl
  | _ :: l, _ => mkTr'_eq l _
theorem mkTr_mk' {α : Type} (l : List (Nat × α)) : mkTr l = mkTr' l .nil := (mkTr_fold l).trans (mkTr'_eq l .nil)
theorem mkTr'_get {α : Type} : ∀ (l : List (Nat × α)) (t : Tr α) (n : Nat) (x : α), (mkTr' l t).get n = some x → t.get n = some x ∨ (n, x) ∈ l
  | [], _, _, _, h => .inl h
  | p :: l, t, n, x, h => by
    rcases mkTr'_get l _ n x h with h | h
    · rw [Tr.get_put] at h
      split at h
      · rename_i e
        have := Option.some.inj h
        exact .inr (by rw [e, ← this]; simp)
      · exact .inl h
    · exact .inr (by simp [h])
theorem mem_eq_true {n : Nat} {l : List Nat} : mem n l = true ↔ n ∈ l := by rw [mem_iff]; simp
theorem mkTr'_keep {α : Type} : ∀ (l : List (Nat × α)) (t : Tr α) (n : Nat), n ∉ l.map (·.1) → (mkTr' l t).get n = t.get n
  | [], _, _, _ => rfl
  | p :: l, t, n, h => by
    simp only [List.map_cons, List.mem_cons, not_or] at h
    show (mkTr' l (t.put p.1 p.2)).get n = _
    rw [mkTr'_keep l _ n h.2, Tr.get_put, if_neg h.1]
theorem mkTr'_mem {α : Type} : ∀ (l : List (Nat × α)) (t : Tr α), onceN (l.map (·.1)) = true → ∀ p ∈ l, (mkTr' l t).get p.1 = some p.2
  | [], _, _, _, h => by simp at h
  | q :: l, t, h, p, hp => by
    simp only [List.map_cons, onceN, Bool.and_eq_true, Bool.not_eq_true'] at h
    show (mkTr' l (t.put q.1 q.2)).get p.1 = _
    rw [List.mem_cons] at hp
    rcases hp with rfl | hp
    · have hn : p.1 ∉ l.map (·.1) := fun hm => by rw [mem_eq_true.2 hm] at h; exact absurd h.1 (by simp)
      rw [mkTr'_keep l _ _ hn, Tr.get_put, if_pos rfl]
    · exact mkTr'_mem l _ h.2 p hp
noncomputable def fnOf (P : Program) (ng : Nat) (fs : List Nat) : Tr FF := match compAll P ng 0 fs with
  | some t => cond (onceN (t.l.map (·.1))) (mkTr t.fs) .nil
  | none => .nil
noncomputable def siteOf (P : Program) (ng : Nat) (fs : List Nat) : Tr (FC × FC) := match compAll P ng 0 fs with
  | some t => cond (onceN (t.l.map (·.1))) (mkTr t.l) .nil
  | none => .nil
noncomputable def tabOf (P : Program) (ng : Nat) (fs : List Nat) (ext : Nat → Option (List AV → Hp → Option AV)) (orc : Nat → List Orc) : Tab := ⟨fnOf P ng fs, siteOf P ng fs, ext, orc⟩
theorem compAll_sound {P : Program} {ng : Nat} {S : Tr (FC × FC)} : ∀ (fs : List Nat) (k : Nat) (t : TR), compAll P ng k fs = some t → (∀ s ∈ t.l, S.get s.1 = some s.2) → ∀ f ff, (f, ff) ∈ t.fs →
    ∃ fn c, P.funcs[f]? = some fn ∧ fn.body = some c ∧ (fn.name == "runtime.NumGoroutine") = false ∧ ff.ntmps = fn.ntmps ∧ CodeR P S ng fn.ntmps ff.code c ∧ All2 (ResR P) ff.res fn.results.toList
  | [], k, t, h, _, f, ff, hm => by obtain rfl := Option.some.inj h; simp at hm
  | g :: fs, k, t, h, hs, f, ff, hm => by
    unfold compAll at h
    split at h
    · rename_i fn hfn
      simp only [bindO_eq, Option.bind_eq_some_iff] at h
      obtain ⟨r, hr, t', ht', h⟩ := h
      obtain rfl := Option.some.inj h
      simp only [List.mem_cons, Prod.mk.injEq] at hm
      rcases hm with ⟨rfl, rfl⟩ | hm
      · unfold compFn at hr
        split at hr
        · rename_i c hc
          cases hname : fn.name == "runtime.NumGoroutine" with
          | true => rw [hname] at hr; cases hr
          | false =>
            rw [hname] at hr
            simp only [cond_false, bindO_eq, Option.bind_eq_some_iff] at hr
            obtain ⟨rc, hrc, res, hres, hr⟩ := hr
            obtain rfl := Option.some.inj hr
            exact ⟨fn, c, hfn, hc, hname, rfl, compC_sound c k rc hrc fun s m => hs s (by simp [m]), compRes_sound hres⟩
        · cases hr
      · exact compAll_sound fs r.k t' ht' (fun s m => hs s (by simp [m])) f ff hm
    · cases h
theorem tabOf_ok {P : Program} {ng : Nat} {Φ : Cx → Prop} {fs : List Nat} {ext : Nat → Option (List AV → Hp → Option AV)} {orc : Nat → List Orc} (hmix : P.follows .mixedOrders = true)
    (hext : ∀ f g, ext f = some g → ∀ (C : Cx) (ρ : Ren) (h : Hp) (n : Nat) (w : World) (args : List AV) (Args : List Value) (v : AV), HR C ρ h n w → All2 (RV ρ) args Args → g args h = some v →
      ∃ V, (callFunc f Args.toArray).run P w = .ok (.value V) w ∧ RV ρ v V) (horc : ∀ f o, o ∈ orc f → OrcOk P (tabOf P ng fs ext orc) ng Φ f o) (hkeep : ∀ (C : Cx) (R : Nat → Prop), Φ C → Φ (C.keep R)) : TabOk P (tabOf P ng fs ext orc) ng Φ := by
  refine ⟨fun f ff h => ?_, hext, hmix, horc, hkeep⟩
  have h' : (fnOf P ng fs).get f = some ff := h
  show ∃ fn c, P.funcs[f]? = some fn ∧ fn.body = some c ∧ (fn.name == "runtime.NumGoroutine") = false ∧ ff.ntmps = fn.ntmps ∧ CodeR P (siteOf P ng fs) ng fn.ntmps ff.code c ∧ All2 (ResR P) ff.res fn.results.toList
  unfold fnOf at h'
  unfold siteOf
  split at h'
  · rename_i t ht
    cases ho : onceN (t.l.map (·.1)) with
    | false => rw [ho] at h'; cases h'
    | true =>
      rw [ho] at h'
      have h2 : (mkTr t.fs).get f = some ff := h'
      rw [mkTr_mk'] at h2
      have hm := (mkTr'_get _ _ _ _ h2).resolve_left (by simp [Tr.get_nil])
      refine compAll_sound (S := mkTr t.l) fs 0 t ht (fun s hs => ?_) f ff hm
      rw [mkTr_mk']
      exact mkTr'_mem t.l .nil ho s hs
  · cases h'
end Go.Eng
namespace Go.Eng
open Go
def cntN (c : Nat) : List Nat → Nat
  | [] => 0
  | a :: l => cond (Nat.beq a c) (Nat.succ (cntN c l)) (cntN c l)
def idxN (c : Nat) : Nat → List Nat → Option Nat
  | _, [] => none
  | i, a :: l => cond (Nat.beq a c) (some i) (idxN c (Nat.succ i) l)
noncomputable def xCount (args : List AV) : Option AV := match args with
  | [.str s, .int .u8 (.ofNat c)] => guardB (Nat.blt c 256) (forceN (cntN c s) fun n => some (.int .i64 (.ofNat n)))
  | _ => none
noncomputable def xIndex (args : List AV) : Option AV := match args with
  | [.str s, .int .u8 (.ofNat c)] => guardB (Nat.blt c 256) (match idxN c 0 s with
    | some i => forceN i fun n => some (.int .i64 (.ofNat n))
    | none => some (.int .i64 (.negSucc 0)))
  | _ => none
noncomputable def xCmp (args : List AV) : Option AV := match args with
  | [.str s, .str t] => cond (eqNats s t) (some (.int .i64 (.ofNat 0))) (cond (ltNats s t) (some (.int .i64 (.negSucc 0))) (some (.int .i64 (.ofNat 1))))
  | _ => none
noncomputable def plainCells (h : Hp) (b : Nat) : Bool := match h.get b with
  | some (.cells _ _ false) => true
  | _ => false
noncomputable def xOver (args : List AV) (h : Hp) : Option AV := match args with
  | [.slc b _ _ _ _ _, .slc b' _ l' _ z' _] => cond (Nat.beq b b' || (Nat.beq l' 0 || Nat.beq z' 0)) none (guardB (plainCells h b) (guardB (isCells h b') (some (.bool false))))
  | _ => none
theorem All2_two {α β : Type} {R : α → β → Prop} {x y : α} {L : List β} (h : All2 R [x, y] L) : ∃ X Y, L = [X, Y] ∧ R x X ∧ R y Y := by
  match L, h with
  | [X, Y], h => exact ⟨X, Y, rfl, h.1, h.2.1⟩
theorem byte_eq {x : UInt8} {c : Nat} (h : c < 256) : (x == (Int.ofNat c).toNat.toUInt8) = Nat.beq x.toNat c := by
  have hc : ((Int.ofNat c).toNat.toUInt8).toNat = c := by simp [Nat.mod_eq_of_lt h]
  by_cases e : x = (Int.ofNat c).toNat.toUInt8
  · rw [e, hc]; simp
  · have : x.toNat ≠ c := fun q => e (UInt8.toNat_inj.1 (by rw [hc]; exact q))
    have h1 : Nat.beq x.toNat c = false := by
      cases hb : Nat.beq x.toNat c with
      | false => rfl
      | true => exact absurd (natBeq.1 hb) this
    rw [h1]; simpa using e
theorem cnt_eq {c : Nat} (h : c < 256) : ∀ (l : List UInt8), Lib.countByte l (Int.ofNat c).toNat.toUInt8 = cntN c (l.map UInt8.toNat)
  | [] => rfl
  | x :: l => by
    have ih := cnt_eq h l
    unfold Lib.countByte at ih ⊢
    rw [List.count_cons, ih, byte_eq h]
    simp only [List.map_cons, cntN]
    cases Nat.beq x.toNat c <;> rfl
theorem idx_eq {c : Nat} (h : c < 256) : ∀ (l : List UInt8) (i : Nat), idxN c i (l.map UInt8.toNat) = if Lib.indexByte l (Int.ofNat c).toNat.toUInt8 = -1 then none else some (i + (Lib.indexByte l (Int.ofNat c).toNat.toUInt8).toNat)
  | [], i => rfl
  | x :: l, i => by
    have ih := idx_eq h l (i + 1)
    have hge := Lib.indexByte_ge l (Int.ofNat c).toNat.toUInt8
    simp only [List.map_cons, idxN, Lib.indexByte, byte_eq h]
    cases hb : Nat.beq x.toNat c with
    | true => simp
    | false =>
      simp only [cond_false]
      rw [show Nat.succ i = i + 1 from rfl, ih]
      generalize Lib.indexByte l (Int.ofNat c).toNat.toUInt8 = q at hge ⊢
      by_cases e : q = -1
      · subst e; rfl
      · have e' : ¬ q + 1 = -1 := by omega
        have e2 : (q == -1) = false := by simpa using e
        rw [if_neg e, e2]
        simp only [Bool.false_eq_true, if_false, e']
        congr 1
        omega
theorem cmp_eqN : ∀ (a b : List UInt8), Lib.compareBytes a b = if eqNats (a.map UInt8.toNat) (b.map UInt8.toNat) then 0 else if ltNats (a.map UInt8.toNat) (b.map UInt8.toNat) then -1 else 1
  | [], [] => rfl
  | [], _ :: _ => rfl
  | _ :: _, [] => rfl
  | x :: a, y :: b => by
    have ih := cmp_eqN a b
    simp only [Lib.compareBytes, List.map_cons, eqNats, ltNats]
    rcases Nat.lt_trichotomy x.toNat y.toNat with h | h | h
    · have hlt : x < y := h
      have h1 : Nat.beq x.toNat y.toNat = false := by cases hb : Nat.beq x.toNat y.toNat with | false => rfl | true => have := natBeq.1 hb; omega
      rw [if_pos hlt, h1, show Nat.blt x.toNat y.toNat = true from natBlt.2 h]
      rfl
    · have h0 : x = y := UInt8.toNat_inj.1 h
      subst h0
      have hn : ¬ x < x := Nat.lt_irrefl _
      have h2 : Nat.blt x.toNat x.toNat = false := by cases hb : Nat.blt x.toNat x.toNat with | false => rfl | true => exact absurd (natBlt.1 hb) (Nat.lt_irrefl _)
      rw [if_neg hn, if_neg hn, ih, h2, show Nat.beq x.toNat x.toNat = true from natBeq.2 rfl]
      rfl
    · have hn : ¬ x < y := Nat.not_lt.2 (Nat.le_of_lt h)
      have hgt : y < x := h
      have h1 : Nat.beq x.toNat y.toNat = false := by cases hb : Nat.beq x.toNat y.toNat with | false => rfl | true => have := natBeq.1 hb; omega
      have h2 : Nat.blt x.toNat y.toNat = false := by cases hb : Nat.blt x.toNat y.toNat with | false => rfl | true => have := natBlt.1 hb; omega
      rw [if_neg hn, if_pos hgt, h1, h2]
      rfl
/-- what is said of a function without a body -/
def ExtOk (P : Program) (f : Nat) (g : List AV → Hp → Option AV) : Prop :=
  ∀ (C : Cx) (ρ : Ren) (h : Hp) (n : Nat) (w : World) (args : List AV) (Args : List Value) (v : AV), HR C ρ h n w → All2 (RV ρ) args Args → g args h = some v → ∃ V, (callFunc f Args.toArray).run P w = .ok (.value V) w ∧ RV ρ v V
section
variable {P : Program} {f : Nat} {fn : Func} (hf : P.funcs[f]? = some fn) (hname : (fn.name == "runtime.NumGoroutine") = false) (hb : fn.body.isNone = true) (hn : Extern.findNext fn = none)
include hf hname hb hn
theorem ext_count (he : Extern.find fn = some Extern.BytealgCount.count) : ExtOk P f fun a _ => xCount a := by
  intro C ρ h n w args Args v _ hA hv0
  have hv : xCount args = some v := hv0
  clear hv0
  unfold xCount at hv
  split at hv
  · rename_i s c
    obtain ⟨X, Y, rfl, h1, h2⟩ := All2_two hA
    obtain ⟨S, rfl, rfl⟩ := RV_str.1 h1
    obtain rfl := RV_int.1 h2
    simp only [guardB_some, forceN_eq] at hv
    obtain ⟨hc, hv⟩ := hv
    obtain rfl := Option.some.inj hv
    refine ⟨_, by rw [run_callFunc_extern hf hname hb hn he, Lib.run_countString]; rfl, RV_int.2 ?_⟩
    rw [cnt_eq (natBlt.1 hc)]; rfl
  · cases hv
theorem ext_index (he : Extern.find fn = some Extern.BytealgIndexByte.indexByte) : ExtOk P f fun a _ => xIndex a := by
  intro C ρ h n w args Args v _ hA hv0
  have hv : xIndex args = some v := hv0
  clear hv0
  unfold xIndex at hv
  split at hv
  · rename_i s c
    obtain ⟨X, Y, rfl, h1, h2⟩ := All2_two hA
    obtain ⟨S, rfl, rfl⟩ := RV_str.1 h1
    obtain rfl := RV_int.1 h2
    rw [guardB_some] at hv
    obtain ⟨hc, hv⟩ := hv
    have hi := idx_eq (natBlt.1 hc) S.data.toList 0
    have hge := Lib.indexByte_ge S.data.toList (Int.ofNat c).toNat.toUInt8
    refine ⟨_, by rw [run_callFunc_extern hf hname hb hn he, Lib.run_indexByteString]; rfl, ?_⟩
    unfold strOf at hv
    rw [hi] at hv
    split at hv
    · rename_i i hx
      rw [forceN_eq] at hv
      obtain rfl := Option.some.inj hv
      split at hx
      · cases hx
      · have := Option.some.inj hx
        refine RV_int.2 ?_
        congr 1
        have h3 : ((Lib.indexByte S.data.toList (Int.ofNat c).toNat.toUInt8).toNat : Int) = Lib.indexByte S.data.toList (Int.ofNat c).toNat.toUInt8 := Int.toNat_of_nonneg (by omega)
        rw [← h3, ← this]
        simp
    · rename_i hx
      obtain rfl := Option.some.inj hv
      split at hx
      · rename_i e; rw [e]; exact RV_int.2 rfl
      · cases hx
  · cases hv
theorem ext_cmp (he : Extern.find fn = some Extern.BytealgCompare.compare) : ExtOk P f fun a _ => xCmp a := by
  intro C ρ h n w args Args v _ hA hv0
  have hv : xCmp args = some v := hv0
  clear hv0
  unfold xCmp at hv
  split at hv
  · rename_i s t
    obtain ⟨X, Y, rfl, h1, h2⟩ := All2_two hA
    obtain ⟨S, rfl, rfl⟩ := RV_str.1 h1
    obtain ⟨S', rfl, rfl⟩ := RV_str.1 h2
    refine ⟨_, by rw [run_callFunc_extern hf hname hb hn he, Lib.run_compareString]; rfl, ?_⟩
    rw [cmp_eqN]
    unfold strOf at hv
    cases e1 : eqNats (S.data.toList.map UInt8.toNat) (S'.data.toList.map UInt8.toNat) with
    | true => rw [e1] at hv; obtain rfl := Option.some.inj hv; exact RV_int.2 rfl
    | false =>
      rw [e1] at hv
      simp only [cond_false] at hv
      cases e2 : ltNats (S.data.toList.map UInt8.toNat) (S'.data.toList.map UInt8.toNat) with
      | true => rw [e2] at hv; obtain rfl := Option.some.inj hv; exact RV_int.2 rfl
      | false => rw [e2] at hv; obtain rfl := Option.some.inj hv; exact RV_int.2 rfl
  · cases hv
end
end Go.Eng
namespace Go.Eng
open Go
section
variable {P : Program} {f : Nat} {fn : Func}
theorem frozen_plain {w : World} {b k : Nat} {c : Array Value} {e : TypeId} {fz : Nat × Nat} (h : w.heap[b]? = some (.cells c e fz)) (hz : fz.2 = 0) : w.frozen? ⟨b, k, none⟩ = false := by
  simp only [World.frozen?, h]
  simp [hz]
theorem shape_cells {w : World} {b : Nat} {c : Array Value} {e : TypeId} {fz : Nat × Nat} (h : w.heap[b]? = some (.cells c e fz)) : w.shape? b = some (e, c.size) := by
  simp only [World.shape?, h]
theorem ext_over {tS tR e : TypeId} {sz : Nat} (hf : P.funcs[f]? = some fn) (hname : (fn.name == "runtime.NumGoroutine") = false) (hb : fn.body.isNone = true) (hn : Extern.findNext fn = none)
    (he : Extern.find fn = some (Extern.SlicesOverlaps.overlaps #[tS, tS] #[tR])) (ht : P.underlying tS = some (.slice e)) (hz : ∀ w, (Go.sizeOf e).run P w = .ok sz w) : ExtOk P f xOver := by
  intro C ρ h n w args Args v H hA hv
  unfold xOver at hv
  split at hv
  · rename_i b o l cp z q b' o' l' cp' z' q'
    obtain ⟨X, Y, rfl, h1, h2⟩ := All2_two hA
    obtain ⟨loc, cap, hb1, rfl, hl1, hc1, g1, g2⟩ := RV_slc.1 h1
    obtain ⟨loc', cap', hb2, rfl, hl2, hc2, g3, g4⟩ := RV_slc.1 h2
    have hcall : ∀ w, (callFunc f [Value.slice (some ⟨loc.blk, loc.sh + o, none⟩) l cap, Value.slice (some ⟨loc'.blk, loc'.sh + o', none⟩) l' cap'].toArray).run P w =
        ((Extern.SlicesOverlaps.overlaps #[tS, tS] #[tR] #[.slice (some ⟨loc.blk, loc.sh + o, none⟩) l cap, .slice (some ⟨loc'.blk, loc'.sh + o', none⟩) l' cap']).run P w).andThen fun v w' => .ok (.value v) w' := fun w => run_callFunc_extern hf hname hb hn he _ w
    cases hz' : Nat.beq b b' || (Nat.beq l' 0 || Nat.beq z' 0) with
    | true => rw [hz'] at hv; cases hv
    | false =>
        rw [hz'] at hv
        simp only [cond_false, guardB_some] at hv
        obtain ⟨p1, p2, hv⟩ := hv
        obtain rfl := Option.some.inj hv
        unfold plainCells at p1
        unfold isCells at p2
        split at p1
        · rename_i r1 o1 hg1
          split at p2
          · rename_i r2 o2 fr2 hg2
            obtain ⟨W, hW, c, ce, fz, rfl, ⟨_, _, _, a4⟩, a5, a6⟩ := H.obj b _ loc hg1 trivial hb1
            obtain ⟨W', hW', c', ce', fz', rfl, ⟨y1, y2, y3, y4⟩, y5, y6⟩ := H.obj b' _ loc' hg2 trivial hb2
            rw [Bool.or_eq_false_iff, Bool.or_eq_false_iff] at hz'
            have hne : b ≠ b' := fun e => by rw [natBeq.2 e] at hz'; exact absurd hz'.1 (by simp)
            have hl0 : l' ≠ 0 := fun e => by rw [natBeq.2 e] at hz'; exact absurd hz'.2.1 (by simp)
            have hz0 : z' ≠ 0 := fun e => by rw [natBeq.2 e] at hz'; exact absurd hz'.2.2 (by simp)
            have hblk := H.inj b b' _ _ loc loc' hg1 trivial hb1 hg2 trivial hb2 hne
            have hfz : fz.2 = 0 := a4.resolve_right fun x => by cases x.1
            have hsz : c'.size ≠ 0 := by
              have hcz : 1 ≤ cap' * z' := by
                have h1 : 1 ≤ cap' := by omega
                have h2 : 1 ≤ z' := by omega
                exact Nat.mul_le_mul h1 h2
              cases q' with
              | false => have := (g3 rfl).2; omega
              | true => have := g4 rfl; omega
            refine ⟨.bool false, ?_, RV_bool.2 rfl⟩
            rw [hcall, Lib.run_overlaps_apart w tS tR e ht sz hz _ _ l cap l' cap' hblk _ _ _ _ (shape_cells hW) (shape_cells hW') hsz (frozen_plain hW hfz) (frozen_plain hW hfz)]
            rfl
          · cases p2
        · cases p1
  · cases hv
end
end Go.Eng
namespace Go.Eng
open Go
/-- nothing that stood is turned -/
structure Keeps (w w' : World) : Prop where
  size : w.heap.size ≤ w'.heap.size
  low : ∀ k, k < w.heap.size → w'.heap[k]? = w.heap[k]?
  os : w'.os = w.os
  output : w'.output = w.output
  tape : w'.tape = w.tape
theorem Keeps.refl (w : World) : Keeps w w := ⟨Nat.le_refl _, fun _ _ => rfl, rfl, rfl, rfl⟩
theorem Keeps.trans {a b c : World} (h : Keeps a b) (h' : Keeps b c) : Keeps a c :=
  ⟨Nat.le_trans h.size h'.size, fun k hk => (h'.low k (Nat.lt_of_lt_of_le hk h.size)).trans (h.low k hk), h'.os.trans h.os, h'.output.trans h.output, h'.tape.trans h.tape⟩
theorem Keeps.get {a b : World} (h : Keeps a b) {k : Nat} {o : Obj} (e : a.heap[k]? = some o) : b.heap[k]? = some o := (h.low k (Array.getElem?_eq_some_iff.1 e).1).trans e
theorem HR.keeps0 {C : Cx} {ρ : Ren} {h : Hp} {n : Nat} {w : World} (H : HR C ρ h n w) : Keeps C.w0 w := ⟨H.size, H.low, H.os, H.output, H.tape⟩
theorem HR.keepsW {C : Cx} {ρ : Ren} {h : Hp} {n : Nat} {w w' : World} (H : HR C ρ h n w) (k : Keeps w w') : HR C ρ h n w' := by
  have K := H.keeps0.trans k
  refine ⟨fun b o loc e hl hρ => ?_, H.inj, H.own, K.low, K.size, H.fresh, H.glob, K.os, K.output, K.tape, H.res, H.psi⟩
  obtain ⟨W, hW, hO⟩ := H.obj b o loc e hl hρ
  exact ⟨W, k.get hW, hO⟩
theorem mkTr_mem {l : List (Nat × AO)} {b : Nat} {o : AO} (h : (mkTr l).get b = some o) : (b, o) ∈ l := by
  rw [mkTr_mk'] at h
  exact (mkTr'_get _ _ _ _ h).resolve_left (by simp [Tr.get_nil])
theorem mkTr_snoc (l : List (Nat × AO)) (b : Nat) (o : AO) : mkTr (l ++ [(b, o)]) = (mkTr l).put b o := by
  rw [mkTr_fold, mkTr_fold, List.foldl_append]; rfl
/-- a context that begins at a world -/
def cxOf (P : Program) (T : Tab) (ng : Nat) (w : World) (Ψ : Ren → Prop) (h : ∀ {ρ ρ' : Ren}, ρ.le ρ' → Ψ ρ → Ψ ρ') : Cx := ⟨siteR P T.site ng, w, ng, fun _ => False, Ψ, h⟩
/-- the globals' names, behind them names of values -/
def ren0 (ng : Nat) (L : List Value) : Ren := fun b => if b < ng then some ⟨b, 0, 1000000, undef⟩ else (L[b - ng]?).map fun v => ⟨0, 0, 0, v⟩
theorem globR_ren0 (ng : Nat) (L : List Value) : globR ng (ren0 ng L) := fun g hg => ⟨1000000, by simp [ren0, hg]⟩
theorem ren0_fresh {ng : Nat} {L : List Value} {b : Nat} (h : ng + L.length ≤ b) : ren0 ng L b = none := by
  unfold ren0
  rw [if_neg (by omega), List.getElem?_eq_none (by omega)]
  rfl
/-- a row that is only read -/
structure RoAt (w : World) (g : Nat) (l : List AV) : Prop where
  is : ∃ c e fz, w.heap[g]? = some (.cells c e fz) ∧ ∀ (i : Nat) (v : AV), l[i]? = some v → ∃ V, c[i]? = some V ∧ (∀ ρ, RV ρ v V) ∧ V.oneCell' = true
  len : l.length ≤ 1000000
theorem RoAt.keep {w w' : World} {g : Nat} {l : List AV} (h : RoAt w g l) (k : Keeps w w') : RoAt w' g l := by
  obtain ⟨c, e, fz, h1, h2⟩ := h.is
  exact ⟨⟨c, e, fz, k.get h1, h2⟩, h.len⟩
theorem HR.start {P : Program} {T : Tab} {ng n : Nat} {w : World} {Ψ : Ren → Prop} {hΨ : ∀ {ρ ρ' : Ren}, ρ.le ρ' → Ψ ρ → Ψ ρ'} {L : List Value} {need : List (Nat × List AV)} (hn : ng + L.length ≤ n) (hneed : ∀ p ∈ need, p.1 < ng ∧ RoAt w p.1 p.2) (hpsi : Ψ (ren0 ng L)) :
    HR (cxOf P T ng w Ψ hΨ) (ren0 ng L) (mkTr (need.map fun p => (p.1, AO.ro p.2))) n w := by
  have key : ∀ b o, (mkTr (need.map fun p => (p.1, AO.ro p.2))).get b = some o → ∃ l, o = .ro l ∧ b < ng ∧ RoAt w b l := fun b o h => by
    have hm := mkTr_mem h
    rw [List.mem_map] at hm
    obtain ⟨⟨g, l⟩, hp, he⟩ := hm
    obtain ⟨rfl, rfl⟩ := he
    exact ⟨l, rfl, hneed _ hp⟩
  have hb : ∀ b loc, b < ng → ren0 ng L b = some loc → loc = ⟨b, 0, 1000000, undef⟩ := fun b loc h e => by
    rw [ren0, if_pos h] at e; exact (Option.some.inj e).symm
  refine ⟨fun b o loc e hl hρ => ?_, fun b b' o o' loc loc' e hl hρ e' hl' hρ' hne => ?_, fun b o loc e hl hρ => ?_, fun _ _ => rfl, Nat.le_refl _, fun b hb => ren0_fresh (by omega), globR_ren0 ng L, rfl, rfl, rfl, fun b hb => False.elim hb, hpsi⟩
  · obtain ⟨l, rfl, hlt, hr⟩ := key b o e
    obtain rfl := hb b loc hlt hρ
    obtain ⟨c, ty, fz, h1, h2⟩ := hr.is
    refine ⟨_, h1, c, ty, fz, rfl, hr.len, fun i v hv => ?_⟩
    obtain ⟨V, q1, q2, q3⟩ := h2 i v hv
    exact ⟨V, by simpa using q1, q2 _, q3⟩
  · obtain ⟨l, rfl, hlt, hr⟩ := key b o e
    obtain ⟨l', rfl, hlt', hr'⟩ := key b' o' e'
    obtain rfl := hb b loc hlt hρ
    obtain rfl := hb b' loc' hlt' hρ'
    exact hne
  · obtain ⟨l, rfl, hlt, hr⟩ := key b o e
    exact False.elim hl
section
variable {P : Program} {T : Tab} {Φ : Cx → Prop} {ng : Nat} {f : Nat} {o : Orc}
theorem OrcOk.calls (h : OrcOk P T ng Φ f o) {C : Cx} (hng : C.ng = ng) (hC : CxOk P T ng Φ C) {ρ : Ren} {w : World} {Args : List Value} (H : HR C ρ (mkTr o.need) o.n w) (hA : All2 (RV ρ) o.args Args) :
    Calls P f Args.toArray w fun e w' => ∃ ρ' V, e = .returned V ∧ ρ.le ρ' ∧ HR C ρ' (mkTr o.out) o.m w' ∧ RV ρ' o.v V := fun cs => by
  obtain ⟨ρ', w', V, fr, h1, h2, h3, h4, h5, h6, _⟩ := h C hng hC ρ w Args cs H hA
  exact ⟨.returned V, w', fr, ⟨ρ', V, rfl, h1, h2, h3⟩, h4, h5, h6⟩
/-- a closed call, or one with values into which nobody looks -/
theorem OrcOk.callsAt (h : OrcOk P T ng (fun _ => True) f o) {w : World} {L : List Value} {need : List (Nat × List AV)} (hneed : o.need = need.map fun p => (p.1, AO.ro p.2)) (hn : ng + L.length ≤ o.n) (hro : ∀ p ∈ need, p.1 < ng ∧ RoAt w p.1 p.2) {Args : List Value}
    (hA : All2 (RV (ren0 ng L)) o.args Args) : Calls P f Args.toArray w fun e w' => ∃ ρ V, e = .returned V ∧ Keeps w w' ∧ RV ρ o.v V := by
  have H : HR (cxOf P T ng w (fun _ => True) (fun _ _ => trivial)) (ren0 ng L) (mkTr o.need) o.n w := by rw [hneed]; exact HR.start hn hro trivial
  refine (h.calls (C := cxOf P T ng w (fun _ => True) (fun _ _ => trivial)) rfl ⟨rfl, trivial⟩ H hA).mono fun e w' ⟨ρ', V, he, _, H', hv⟩ => ⟨ρ', V, he, H'.keeps0, hv⟩
/-- a contract under which nothing that stood is turned is a proved call -/
theorem orc_keep {fn : Func} {c : Code} (hf : P.funcs[f]? = some fn) (hb : fn.body = some c) (hn : (fn.name == "runtime.NumGoroutine") = false) (ho : o.out = o.need) (hm : o.m = o.n)
    (hc : ∀ (C : Cx) (ρ : Ren) (w : World) (Args : List Value), C.ng = ng → Φ C → HR C ρ (mkTr o.need) o.n w → All2 (RV ρ) o.args Args → Calls P f Args.toArray w fun e w' => ∃ V, e = .returned V ∧ Keeps w w' ∧ RV ρ o.v V) : OrcOk P T ng Φ f o := by
  intro C hng hC ρ w Args cs H hA
  obtain ⟨e, w', fr, ⟨V, rfl, hk, hv⟩, h1, h2, h3⟩ := hc C ρ w Args hng hC.phi H hA cs
  refine ⟨ρ, w', V, fr, Ren.le_refl _, ?_, hv, h1, h2, h3, fun w => run_callFunc_enter hf hb hn⟩
  rw [ho, hm]
  exact H.keepsW hk
/-- the same, with one new block -/
theorem orc_new {fn : Func} {c : Code} {ob : AO} (hf : P.funcs[f]? = some fn) (hb : fn.body = some c) (hn : (fn.name == "runtime.NumGoroutine") = false) (ho : o.out = o.need ++ [(o.n, ob)]) (hm : o.m = o.n + 1)
    (hc : ∀ (C : Cx) (ρ : Ren) (w : World) (Args : List Value), C.ng = ng → Φ C → HR C ρ (mkTr o.need) o.n w → All2 (RV ρ) o.args Args →
      Calls P f Args.toArray w fun e w' => ∃ V k sz W, e = .returned V ∧ Keeps w w' ∧ w.heap.size ≤ k ∧ w'.heap[k]? = some W ∧ ∀ ρ', ρ.le ρ' → ρ' o.n = some ⟨k, 0, sz, undef⟩ → ObjR C.S ρ' ob ⟨k, 0, sz, undef⟩ W ∧ RV ρ' o.v V) : OrcOk P T ng Φ f o := by
  intro C hng hC ρ w Args cs H hA
  obtain ⟨e, w', fr, ⟨V, k, sz, W, rfl, hk, hge, hW, hr⟩, h1, h2, h3⟩ := hc C ρ w Args hng hC.phi H hA cs
  have hfr := H.fresh o.n (Nat.le_refl _)
  have hle : ρ.le (ρ.with o.n ⟨k, 0, sz, undef⟩) := Ren.with_le hfr
  obtain ⟨r1, r2⟩ := hr _ hle (Ren.with_self _ _ _)
  refine ⟨ρ.with o.n ⟨k, 0, sz, undef⟩, w', V, fr, hle, ?_, r2, h1, h2, h3, fun w => run_callFunc_enter hf hb hn⟩
  rw [ho, hm, mkTr_snoc]
  have H' := H.keepsW hk
  refine H'.turn (loc := ⟨k, 0, sz, undef⟩) hle (Ren.with_self _ _ _) (fun b' hb => by simp [Ren.with, hb]) (fun b' hb' => ?_) hW r1 (Nat.le_trans H.size hge) (fun _ _ _ => rfl) (fun b' o' loc' hne e hl hρ => ?_) (Nat.le_refl _) rfl rfl rfl (by omega) (fun hres => ?_)
  · unfold Ren.with
    rw [if_neg (by omega)]
    exact H.fresh b' (by omega)
  · obtain ⟨W', hW', _⟩ := H.obj b' o' loc' e hl hρ
    have := (Array.getElem?_eq_some_iff.1 hW').1
    show loc'.blk ≠ k
    omega
  · have := (H.res o.n hres).1
    omega
end
end Go.Eng
namespace Go.Eng
open Go
noncomputable def orcL : List (Nat × Orc) → Nat → List Orc
  | [], _ => []
  | p :: l, f => cond (Nat.beq p.1 f) (p.2 :: orcL l f) (orcL l f)
def AllOrc (P : Program) (T : Tab) (ng : Nat) (Φ : Cx → Prop) : List (Nat × Orc) → Prop
  | [] => True
  | p :: l => OrcOk P T ng Φ p.1 p.2 ∧ AllOrc P T ng Φ l
section
variable {P : Program} {ng : Nat} {Φ : Cx → Prop} {fs : List Nat} {ext : Nat → Option (List AV → Hp → Option AV)}
theorem AllOrc.all {T : Tab} : ∀ {l : List (Nat × Orc)}, AllOrc P T ng Φ l → ∀ f o, o ∈ orcL l f → OrcOk P T ng Φ f o
  | [], _, _, _, h => by simp [orcL] at h
  | p :: l, hl, f, o, h => by
    unfold orcL at h
    cases hb : Nat.beq p.1 f with
    | true =>
      rw [hb] at h
      rcases List.mem_cons.1 h with h | h
      · rw [h, ← natBeq.1 hb]; exact hl.1
      · exact hl.2.all f o h
    | false => rw [hb] at h; exact hl.2.all f o h
/-- nothing is asked of a table but its sites -/
theorem OrcOk.tab {o1 o2 : Nat → List Orc} {f : Nat} {o : Orc} (h : OrcOk P (tabOf P ng fs ext o1) ng Φ f o) : OrcOk P (tabOf P ng fs ext o2) ng Φ f o := fun C hng hC => h C hng ⟨hC.S, hC.phi⟩
theorem OrcOk.any {T : Tab} {f : Nat} {o : Orc} (h : OrcOk P T ng (fun _ => True) f o) : OrcOk P T ng Φ f o := fun C hng hC => h C hng ⟨hC.S, trivial⟩
theorem AllOrc.tab {o1 o2 : Nat → List Orc} : ∀ {l : List (Nat × Orc)}, AllOrc P (tabOf P ng fs ext o1) ng Φ l → AllOrc P (tabOf P ng fs ext o2) ng Φ l
  | [], _ => trivial
  | _ :: _, h => ⟨h.1.tab, h.2.tab⟩
/-- a call that has been run with proved calls in it -/
theorem orc_run {l : List (Nat × Orc)} {f n : Nat} {o : Orc} (hmix : P.follows .mixedOrders = true) (hext : ∀ f g, ext f = some g → ExtOk P f g) (hkeep : ∀ (C : Cx) (R : Nat → Prop), Φ C → Φ (C.keep R)) (hl : AllOrc P (tabOf P ng fs ext fun _ => []) ng Φ l)
    (h : chkO (tabOf P ng fs ext (orcL l)) (exec (tabOf P ng fs ext (orcL l)) n) f o = true) : OrcOk P (tabOf P ng fs ext fun _ => []) ng Φ f o := by
  have TO : TabOk P (tabOf P ng fs ext (orcL l)) ng Φ := tabOf_ok hmix (fun f g e => hext f g e) (hl.tab (o2 := orcL l)).all hkeep
  exact (chkO_ok (exec_ok TO n) TO h).tab
end
end Go.Eng
namespace Go.Eng
open Go Go.ChangeShapes Go.WideShapes Go.Deep
noncomputable def avD : DataW Unit → Option AV
  | .lit (.int k n) => some (.int k n)
  | .lit (.string b) => some (.str (b.map UInt8.toNat))
  | _ => none
noncomputable def litTy (P : Program) (e : TypeId) : Bool := match P.underlying e with
  | some (.int _) => true
  | some .string => true
  | _ => false
section
variable {H : Type} {enc : TypeId × Value → Unit} {P : Program} {w : World} {base : Nat} {sp : Nat → Bool} {held : Bool}
theorem lit1 {e : TypeId} {m : Nat} {cs : List Value} {x : DataW Unit × List MemPlace} {a : AV} (he : litTy P e = true) (h : DataW.trod enc P w base sp held m e cs = some x) (ha : avD x.1 = some a) :
    ∃ V, cs = [V] ∧ (∀ ρ, RV ρ a V) ∧ V.oneCell' = true := by
  unfold litTy at he
  split at he
  · rename_i k hk
    obtain ⟨n, rfl, rfl, _⟩ := DataW.trod_int hk h
    obtain rfl := Option.some.inj ha
    exact ⟨_, rfl, fun ρ => RV_int.2 rfl, rfl⟩
  · rename_i hk
    obtain ⟨s, rfl, rfl, _⟩ := DataW.trod_string hk h
    obtain rfl := Option.some.inj ha
    exact ⟨_, rfl, fun ρ => RV_str.2 ⟨s, rfl, rfl⟩, rfl⟩
  · cases he
noncomputable def isAt (d : Option (DataW Unit)) (v : Option AV) : Bool := match d, v with
  | some d, some v => (match avD d with
    | some a => eqAV a v
    | none => false)
  | _, _ => false
theorem isAt_some {d : Option (DataW Unit)} {v : AV} (h : isAt d (some v) = true) : ∃ x, d = some x ∧ avD x = some v := by
  unfold isAt at h
  split at h
  · rename_i x v' e
    obtain rfl := Option.some.inj e
    split at h
    · rename_i a ha; exact ⟨x, rfl, by rw [ha, eqAV_eq h]⟩
    · cases h
  · cases h
noncomputable def chkLits (ds : List (DataW Unit)) (l : List AV) : Bool := (List.range l.length).all fun i => isAt ds[i]? l[i]?
noncomputable def cellD (m : Nat) (ds : List (DataW Unit)) (i : Nat) : Option (DataW Unit) := match ds[i / m]? with
  | some (.agg fs) => fs[i % m]?
  | _ => none
noncomputable def chkRows (m : Nat) (ds : List (DataW Unit)) (l : List AV) : Bool := (List.range l.length).all fun i => isAt (cellD m ds i) l[i]?
theorem var_heap {nm : String} {g : Nat} {cs : Array Value} (hg : P.globalNamed nm = some g) (h : w.var? P nm = some cs) : ∃ e fz, w.heap[g]? = some (.cells cs e fz) := by
  simp only [World.var?, hg, Option.bind_some] at h
  split at h
  · rename_i c e fz he
    obtain rfl := Option.some.inj h
    exact ⟨e, fz, he⟩
  · cases h
theorem cut1 {cs : List Value} {i : Nat} {V : Value} (h : (cs.drop i).take 1 = [V]) : cs[i]? = some V := by
  cases hd : cs.drop i with
  | nil => rw [hd] at h; simp at h
  | cons a r =>
    rw [hd] at h
    have : a = V := by simpa using h
    rw [← List.head?_drop, hd, this]; rfl
theorem roAt_array {nm : String} {g : Nat} {t e : TypeId} {n fuel : Nat} {cs : Array Value} {ds : List (DataW Unit)} {p : List MemPlace} {l : List AV} (hg : P.globalNamed nm = some g) (hv : w.var? P nm = some cs)
    (ht : P.underlying t = some (.array n e)) (he : litTy P e = true) (hC : P.cellsOf e = 1) (h : DataW.trod enc P w base sp held fuel t cs.toList = some (.agg ds, p)) (hl : l.length ≤ 1000000) (hchk : chkLits ds l = true) : RoAt w g l := by
  obtain ⟨ty, fz, hh⟩ := var_heap hg hv
  obtain ⟨xs, m, _, hx, hlen, hxn, hel⟩ := DataW.trod_array ht h
  simp only [Prod.mk.injEq, DataW.agg.injEq] at hx
  refine ⟨⟨cs, ty, fz, hh, fun i v hi => ?_⟩, hl⟩
  have hil : i < l.length := (List.getElem?_eq_some_iff.1 hi).1
  have hc := List.all_eq_true.1 hchk i (List.mem_range.2 hil)
  rw [hi] at hc
  obtain ⟨d, hd, ha⟩ := isAt_some hc
  rw [hx.1, List.getElem?_map] at hd
  cases hxi : xs[i]? with
  | none => rw [hxi] at hd; cases hd
  | some y =>
    rw [hxi] at hd
    obtain rfl := Option.some.inj hd
    have hin : i < n := by rw [← hxn]; exact (List.getElem?_eq_some_iff.1 hxi).1
    have h2 := hel i hin
    rw [hxi, hC, Nat.mul_one] at h2
    obtain ⟨V, hV, h3, h4⟩ := lit1 he h2 ha
    refine ⟨V, ?_, h3, h4⟩
    have := cut1 hV
    simpa using this
theorem roAt_rows {nm : String} {g : Nat} {t e : TypeId} {n fuel : Nat} {fs : Array Field} {cs : Array Value} {ds : List (DataW Unit)} {p : List MemPlace} {l : List AV} (hg : P.globalNamed nm = some g) (hv : w.var? P nm = some cs)
    (ht : P.underlying t = some (.array n e)) (he : P.underlying e = some (.struct fs)) (hone : oneCellFields P fs = true) (hC : P.cellsOf e = fs.size) (hm : 0 < fs.size) (hlit : (fs.toList.all fun f => litTy P f.type) = true)
    (h : DataW.trod enc P w base sp held fuel t cs.toList = some (.agg ds, p)) (hl : l.length ≤ 1000000) (hchk : chkRows fs.size ds l = true) : RoAt w g l := by
  obtain ⟨ty, fz, hh⟩ := var_heap hg hv
  obtain ⟨xs, m, _, hx, hlen, hxn, hel⟩ := DataW.trod_array ht h
  simp only [Prod.mk.injEq, DataW.agg.injEq] at hx
  refine ⟨⟨cs, ty, fz, hh, fun i v hi => ?_⟩, hl⟩
  have hil : i < l.length := (List.getElem?_eq_some_iff.1 hi).1
  have hc := List.all_eq_true.1 hchk i (List.mem_range.2 hil)
  rw [hi] at hc
  obtain ⟨d, hd, ha⟩ := isAt_some hc
  unfold cellD at hd
  rw [hx.1, List.getElem?_map] at hd
  cases hxi : xs[i / fs.size]? with
  | none => rw [hxi] at hd; cases hd
  | some y =>
    rw [hxi] at hd
    have hin : i / fs.size < n := by rw [← hxn]; exact (List.getElem?_eq_some_iff.1 hxi).1
    have h2 := hel _ hin
    rw [hxi, hC] at h2
    obtain ⟨zs, m', _, hz, hzl, hzn, hzf⟩ := DataW.trod_struct he h2
    rw [hz] at hd
    simp only [Option.map_some, List.getElem?_map] at hd
    have hj : i % fs.size < fs.size := Nat.mod_lt _ hm
    have hfj : fs[i % fs.size]? = some fs[i % fs.size] := Array.getElem?_eq_getElem hj
    obtain ⟨ho, hk⟩ := hone_of hone _ _ hfj
    have h5 := hzf _ _ hfj
    rw [ho, hk] at h5
    cases hzi : zs[i % fs.size]? with
    | none => rw [hzi] at hd; cases hd
    | some z =>
      rw [hzi] at hd h5
      obtain rfl := Option.some.inj hd
      have hty : litTy P fs[i % fs.size].type = true := List.all_eq_true.1 hlit _ (by simp)
      obtain ⟨V, hV, h3, h4⟩ := lit1 hty h5 ha
      refine ⟨V, ?_, h3, h4⟩
      have h6 := cut1 hV
      rw [List.getElem?_take, if_pos hj, List.getElem?_drop] at h6
      rw [Nat.mul_comm, Nat.div_add_mod] at h6
      simpa using h6
end
end Go.Eng
