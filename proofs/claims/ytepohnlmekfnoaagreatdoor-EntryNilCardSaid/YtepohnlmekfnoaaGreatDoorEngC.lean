/- The evaluator, third part: a whole run goes as the machine goes. -/
import Derived.Test.YtepohnlmekfnoaaGreatDoorEngB
import Derived.RangeFuncNested
import Derived.Orders
set_option maxRecDepth 20000
namespace Go.Eng
open Go

/-! ### prepared operations and the program's -/
def dstR (nt : Nat) (d : Option Pa) (o : Oper) : Prop := d = o.dst.map pa ∧ ∀ t, o.dst = some t → t < nt
/-- A call's arguments. -/
noncomputable abbrev argsX (ng : Nat) (args : Array Operand) : List X := args.toList.map (xOf ng)
inductive OpR (P : Program) (ng nt : Nat) : FO → Oper → Prop
  | mv {s d : Nat} {o : Oper} : (o.op = .move (.tmp s) ∨ o.op = .assign (.tmp s)) → o.dst = some d → d < nt → OpR P ng nt (.mv (pa d) (pa s)) o
  | mc {x : Operand} {v : AV} {d : Nat} {o : Oper} : (o.op = .move x ∨ o.op = .assign x) → xOf ng x = cv v → o.dst = some d → d < nt → OpR P ng nt (.mc (pa d) v) o
  | pu {f : PF} {d : Option Pa} {o : Oper} : PSound P ng o f → dstR nt d o → OpR P ng nt (.pu d f) o
  | rd {f : RF} {d : Option Pa} {o : Oper} : RSnd P ng o f → dstR nt d o → OpR P ng nt (.rd d f) o
  | me {f : MF} {d : Option Pa} {o : Oper} : MSnd P ng o f → dstR nt d o → OpR P ng nt (.me d f) o
  | ca {f : Nat} {args : Array Operand} {ats : Array TypeId} {d : Option Pa} {o : Oper} : o.op = .call { callee := .value (.func f), args, argTypes := ats } → dstR nt d o → OpR P ng nt (.ca d f (argsX ng args)) o
  | cf {x : Operand} {args : Array Operand} {ats : Array TypeId} {d : Option Pa} {o : Oper} : o.op = .call { callee := .value x, args, argTypes := ats } → dstR nt d o → OpR P ng nt (.cf d (xOf ng x) (argsX ng args)) o
  | al {t : TypeId} {i : TypeInfo} {z : Value} {l : List AV} {d : Option Pa} {o : Oper} : o.op = .alloc t → P.info? t = some i → i.zero = some z → z.cells.toList.all Value.oneCell' = true → l = zeroAV z.cells → dstR nt d o → OpR P ng nt (.al d l) o
  | nx {x : Operand} {d : Option Pa} {o : Oper} : o.op = .next x false → dstR nt d o → OpR P ng nt (.nx d (xOf ng x)) o
  | br {x y : Operand} {t yt : TypeId} {d : Option Pa} {o : Oper} : o.op = .binOp .gtr t x y yt → dstR nt d o → OpR P ng nt (.br d (xOf ng x) (xOf ng y)) o
  | bad {d : Option Pa} {o : Oper} : dstR nt d o → OpR P ng nt .bad o
/-- an operation of a region, guarded or not -/
inductive GOpR (P : Program) (ng nt : Nat) (os : Array Oper) : FO → Oper → Prop
  | plain {f : FO} {o : Oper} : o.guard = none → OpR P ng nt f o → GOpR P ng nt os f o
  | gd {f : FO} {o : Oper} {j q : Nat} {want : Bool} {g : Oper} {d : Option Pa} : o.guard = some (j, want) → os[j]? = some g → g.dst = some q → q < nt → dstR nt d o → OpR P ng nt f o → GOpR P ng nt os (.gd (pa q) want d f) o

/-- What a region that draws is asked to be: its operations one by one; the masks say what comes ahead in each order; the heavy ones are a chain; no temporary has two writers; who reads a temporary is ordered with its writer. -/
def bitOf (b : List Nat) (j i : Nat) : Prop := isBefore b j i = true
structure DrawR (P : Program) (ng nt : Nat) (fs : List FO) (b hv : List Nat) (os : Array Oper) : Prop where
  ops : All2 (GOpR P ng nt os) fs os.toList
  /-- every edge that binds comes from ahead -/
  edges : ∀ (i : Nat) (o : Oper), os[i]? = some o → ∀ e ∈ o.after, Region.binds .any e = true → e.on < i
  /-- whoever is done, what is ahead of it is done -/
  masks : ∀ E : Nat → Prop, (∀ (i : Nat) (o : Oper), os[i]? = some o → E i → ∀ e ∈ o.after, Region.binds .any e = true → E e.on) → ∀ (i : Nat) (o : Oper), os[i]? = some o → (∀ e ∈ o.after, Region.binds .any e = true → E e.on) → ∀ j, bitOf b j i → E j
  heavy : hv = (List.range os.size).filter fun i => heavyO (fs.getD i .bad)
  chain : ∀ (i j : Nat), i < j → i ∈ hv → j ∈ hv → bitOf b i j
  one : ∀ (i j : Nat) (o o' : Oper) (t : Nat), os[i]? = some o → os[j]? = some o' → o.dst = some t → o'.dst = some t → i = j
  reads : ∀ (i j : Nat) (o o' : Oper) (t : Nat), os[i]? = some o → os[j]? = some o' → o'.dst = some t → (Operand.tmp t ∈ o.op.operands ∨ ∃ g w, o.guard = some (g, w) ∧ j = g) → (j < i → bitOf b j i) ∧ (i < j → bitOf b i j)

inductive CodeR (P : Program) (S : Tr (FC × FC)) (ng nt : Nat) : FC → Code → Prop
  | region {fs : List FO} {id : Nat} {os : Array Oper} : All2 (GOpR P ng nt os) fs os.toList → CodeR P S ng nt (.region fs) (.region id os false)
  | draw {fs : List FO} {b hv : List Nat} {id : Nat} {os : Array Oper} : DrawR P ng nt fs b hv os → CodeR P S ng nt (.draw fs b hv) (.region id os true)
  | seq {a b : FC} {x y : Code} : CodeR P S ng nt a x → CodeR P S ng nt b y → CodeR P S ng nt (.seq a b) (.seq x y)
  | cond {c : Operand} {a b : FC} {x y : Code} : CodeR P S ng nt a x → CodeR P S ng nt b y → CodeR P S ng nt (.cond (xOf ng c) a b) (.cond c x y)
  | block {id : Nat} {a : FC} {x : Code} : CodeR P S ng nt a x → CodeR P S ng nt (.block id a) (.block id x)
  | loop {a : FC} {x : Code} : CodeR P S ng nt a x → CodeR P S ng nt (.loop a) (.loop x)
  | ret : CodeR P S ng nt (.jmp .ret) .ret
  | exit {id : Nat} : CodeR P S ng nt (.jmp (.exit id)) (.exit id)
  | skip : CodeR P S ng nt .skip .skip
  | range {g : Operand} {ps : Array Tmp} {site : Nat} {fa fb : FC} {x y : Code} : S.get site = some (fa, fb) → (∀ p ∈ ps.toList, p < nt) → CodeR P S ng nt fa x → CodeR P S ng nt fb y → CodeR P S ng nt (.range (xOf ng g) (ps.toList.map pa) site) (.rangeFunc g ps x y)
  | scope {a : FC} {x : Code} : CodeR P S ng nt a x → CodeR P S ng nt (.seq a .skip) (.scope x)
  | label {l : Nat} : CodeR P S ng nt .skip (.label l)
  | bad {x : Code} : CodeR P S ng nt .bad x
  | mrg {a : FC} {x : Code} : CodeR P S ng nt a x → CodeR P S ng nt (.mrg a) x

/-- the sites of ranges over functions -/
def siteR (P : Program) (S : Tr (FC × FC)) (ng : Nat) : Nat → Nat → Code → Code → Prop := fun nt site x y => ∃ fa fb, S.get site = some (fa, fb) ∧ CodeR P S ng nt fa x ∧ CodeR P S ng nt fb y

/-! ### items that are to be done -/
inductive ItemR (P : Program) (T : Tab) (ng nt : Nat) (ρ : Ren) : TI → Item → Prop
  | code {c : FC} {x : Code} : CodeR P T.site ng nt c x → ItemR P T ng nt ρ (.code c) (.code x)
  | blk {id : Nat} : ItemR P T ng nt ρ (.blk id) (.inBlock id)
  | scp {x : Code} : ItemR P T ng nt ρ (.code .skip) (.inScope x)
  | lp {c : FC} {x : Code} : CodeR P T.site ng nt c x → ItemR P T ng nt ρ (.lp c) (.inLoop x)
  | ops {fs : List FO} {os : Array Oper} {l : List Nat} : All2 (fun f i => ∃ o, os[i]? = some o ∧ GOpR P ng nt os f o) fs l → ItemR P T ng nt ρ (.ops fs) (.inRegion os l)
  | erf {l : Nat} {loc : Loc} : ρ l = some loc → ItemR P T ng nt ρ (.erf l) (.endRangeFunc loc.blk)
  | begin : ItemR P T ng nt ρ .begin .beginRound
theorem ItemR.mono {P : Program} {T : Tab} {ng nt : Nat} {ρ ρ' : Ren} (h : ρ.le ρ') {i : TI} {I : Item} (r : ItemR P T ng nt ρ i I) : ItemR P T ng nt ρ' i I := by
  cases r with
  | code h => exact .code h
  | blk => exact .blk
  | scp => exact .scp
  | lp h => exact .lp h
  | ops h => exact .ops h
  | erf e => exact .erf (h _ _ e)
  | begin => exact .begin
abbrev TodoR (P : Program) (T : Tab) (ng nt : Nat) (ρ : Ren) : List TI → List Item → Prop := All2 (ItemR P T ng nt ρ)
theorem TodoR.mono {P : Program} {T : Tab} {ng nt : Nat} {ρ ρ' : Ren} (h : ρ.le ρ') {l : List TI} {L : List Item} (r : TodoR P T ng nt ρ l L) : TodoR P T ng nt ρ' l L := All2.mono (fun _ _ => ItemR.mono h) r

def roR (ρ : Ren) (ro : Option Nat) (b : Frame) : Prop := match ro with | none => b.roundOf = none | some l => ∃ loc, ρ l = some loc ∧ b.roundOf = some loc.blk
/-- the frame and its activation -/
structure St (C : Cx) (nt : Nat) (ρ : Ren) (ro : Option Nat) (ts : Ts) (ds : List Nat) (h : Hp) (n : Nat) (b : Frame) (a : Act) (w : World) : Prop where
  H : HR C ρ h n w
  tmps : tmpR ρ ts a.tmps
  size : a.tmps.size = nt
  ds : All2 (fun l (d : Deferred) => ∃ loc, ρ l = some loc ∧ d = { target := .collected loc.blk, args := #[] }) ds a.defers
  kind : b.kind = .normal
  ro : roR ρ ro b

/-- where a run ends -/
def Ends (P : Program) (m : Machine) (b : Frame) (K : List Item) (cs : List Frame) (a : Act) (w : World) : Option FJ → Prop
  | none => Steps P m (lone (b.atR a K) cs w)
  | some .ret => ∃ D, Steps P m (lone (b.atR a (.code .ret :: D)) cs w)
  | some (.exit id) => ∃ D, exitTo id D = exitTo id K ∧ Steps P m (lone (b.atR a (.code (.exit id) :: D)) cs w)
theorem Ends.of_steps {P : Program} {m m' : Machine} {b : Frame} {K : List Item} {cs : List Frame} {a : Act} {w : World} {j : Option FJ} (s : Steps P m m') (h : Ends P m' b K cs a w j) : Ends P m b K cs a w j := by
  cases j with
  | none => exact Steps.trans s h
  | some j =>
    cases j with
    | ret => obtain ⟨D, h⟩ := h; exact ⟨D, Steps.trans s h⟩
    | exit id => obtain ⟨D, e, h⟩ := h; exact ⟨D, e, Steps.trans s h⟩

/-- what a run is asked to be: it goes as the machine goes -/
structure CxOk (P : Program) (T : Tab) (ng : Nat) (Φ : Cx → Prop) (C : Cx) : Prop where
  S : C.S = siteR P T.site ng
  phi : Φ C
def RunOk (P : Program) (T : Tab) (ng : Nat) (Φ : Cx → Prop) (run : Rec) : Prop :=
  ∀ (C : Cx), C.ng = ng → CxOk P T ng Φ C → ∀ (ro : Option Nat) (ts : Ts) (todo : List TI) (ds : List Nat) (h : Hp) (n : Nat) (r : XR), run ro ts todo ds h n = some r →
    ∀ (nt : Nat) (ρ : Ren) (b : Frame) (a : Act) (w : World) (TODO K : List Item) (cs : List Frame), St C nt ρ ro ts ds h n b a w → TodoR P T ng nt ρ todo TODO →
      ∃ ρ' a' w', ρ.le ρ' ∧ St C nt ρ' ro r.ts r.ds r.h r.n b a' w' ∧ Ends P (lone (b.atR a (TODO ++ K)) cs w) b K cs a' w' r.jump

/-- the rest of a run, from a machine on -/
def Goes (P : Program) (C : Cx) (nt : Nat) (ρ : Ren) (ro : Option Nat) (b : Frame) (K : List Item) (cs : List Frame) (r : XR) (m : Machine) : Prop :=
  ∃ ρ' a' w', ρ.le ρ' ∧ St C nt ρ' ro r.ts r.ds r.h r.n b a' w' ∧ Ends P m b K cs a' w' r.jump
theorem Goes.steps {P : Program} {C : Cx} {nt : Nat} {ρ ρ' : Ren} {ro : Option Nat} {b : Frame} {K : List Item} {cs : List Frame} {r : XR} {m m' : Machine} (hle : ρ.le ρ') (hs : Steps P m m') (h : Goes P C nt ρ' ro b K cs r m') : Goes P C nt ρ ro b K cs r m := by
  obtain ⟨ρ'', a'', w'', h1, h2, h3⟩ := h
  exact ⟨ρ'', a'', w'', Ren.le_trans hle h1, h2, .of_steps hs h3⟩
theorem Goes.step {P : Program} {C : Cx} {nt : Nat} {ρ : Ren} {ro : Option Nat} {b : Frame} {K : List Item} {cs : List Frame} {r : XR} {m m' : Machine} (hs : step P m = .next m') (h : Goes P C nt ρ ro b K cs r m') : Goes P C nt ρ ro b K cs r m :=
  h.steps (Ren.le_refl _) (.one hs)

section
variable {P : Program} {T : Tab} {Φ : Cx → Prop} {ng nt : Nat} {C : Cx} {ρ : Ren} {ro : Option Nat} {ts : Ts} {ds : List Nat} {h : Hp} {n : Nat} {b : Frame} {a : Act} {w : World} {TODO TODO' K : List Item} {cs : List Frame} {r : XR}

theorem St.mono_ro {ρ ρ' : Ren} (hle : ρ.le ρ') {ro : Option Nat} {b : Frame} (h : roR ρ ro b) : roR ρ' ro b := by
  cases ro with
  | none => exact h
  | some l => obtain ⟨loc, e, hb⟩ := h; exact ⟨loc, hle _ _ e, hb⟩
theorem ds_mono {ρ ρ' : Ren} (hle : ρ.le ρ') {ds : List Nat} {L : List Deferred} (h : All2 (fun l (d : Deferred) => ∃ loc, ρ l = some loc ∧ d = { target := .collected loc.blk, args := #[] }) ds L) :
    All2 (fun l (d : Deferred) => ∃ loc, ρ' l = some loc ∧ d = { target := .collected loc.blk, args := #[] }) ds L :=
  All2.mono (fun _ _ ⟨loc, e, hd⟩ => ⟨loc, hle _ _ e, hd⟩) h
/-- memory turns -/
theorem St.world (s : St C nt ρ ro ts ds h n b a w) {ρ' : Ren} (hle : ρ.le ρ') {h' : Hp} {n' : Nat} {w' : World} (H' : HR C ρ' h' n' w') : St C nt ρ' ro ts ds h' n' b a w' :=
  ⟨H', s.tmps.mono hle, s.size, ds_mono hle s.ds, s.kind, St.mono_ro hle s.ro⟩
theorem getD_set {tmps : Array Value} {d t : Nat} {V : Value} (hd : d < tmps.size) : (tmps.setIfInBounds d V).getD t undef = if t = d then V else tmps.getD t undef := by
  simp only [Array.getD_eq_getD_getElem?, Array.getElem?_setIfInBounds]
  by_cases e : d = t
  · subst e; simp [hd]
  · simp [e, Ne.symm e]
theorem tmpR_put {tmps : Array Value} {d : Nat} {v : AV} {V : Value} (ht : tmpR ρ ts tmps) (hd : d < tmps.size) (hv : RV ρ v V) : tmpR ρ (Tr.to (pa d) ts v) (tmps.setIfInBounds d V) := by
  intro t
  rw [tmpA_to, getD_set hd]
  by_cases e : t = d
  · subst e; simpa using hv
  · rw [if_neg (fun x => e (pa_inj x)), if_neg e]; exact ht t
/-- what 'putD' makes -/
noncomputable def putT (ts : Ts) (d : Option Pa) (v : AV) : Ts := putD ts d v id
theorem putD_eq {β : Type} (ts : Ts) (d : Option Pa) (v : AV) (k : Ts → β) : putD ts d v k = k (putT ts d v) := by
  cases d with
  | none => rfl
  | some p => show Tr.toK p ts v k = k (Tr.toK p ts v id); rw [Tr.toK_eq, Tr.toK_eq]; rfl
theorem St.put (s : St C nt ρ ro ts ds h n b a w) {o : Oper} {d : Option Pa} (hd : dstR nt d o) {v : AV} {V : Value} (hv : RV ρ v V) : St C nt ρ ro (putT ts d v) ds h n b (a.put o.dst V) w := by
  obtain ⟨e, hlt⟩ := hd
  cases ho : o.dst with
  | none =>
    rw [ho] at e
    subst e
    exact s
  | some t =>
    rw [ho] at e
    subst e
    refine ⟨s.H, ?_, ?_, s.ds, s.kind, s.ro⟩
    · show tmpR ρ (Tr.toK (pa t) ts v id) (a.tmps.setIfInBounds t V)
      rw [Tr.toK_eq]
      exact tmpR_put s.tmps (by rw [s.size]; exact hlt t ho) hv
    · show (a.tmps.setIfInBounds t V).size = nt
      rw [Array.size_setIfInBounds]; exact s.size
/-- the operands' values -/
theorem St.opers (s : St C nt ρ ro ts ds h n b a w) (hng : C.ng = ng) (x : Operand) : RV ρ (xOf ng x ts) (a.eval x) := RV_xOf (hng ▸ s.H.glob) x fun t _ => s.tmps t

/-! ### exits -/
theorem exitTo_todo {id : Nat} {ρ : Ren} : ∀ {todo : List TI} {TODO : List Item}, TodoR P T ng nt ρ todo TODO →
    match exitA id todo with
    | some k => ∃ TODO', TodoR P T ng nt ρ k TODO' ∧ ∀ K, exitTo id (TODO ++ K) = some (TODO' ++ K)
    | none => ∀ K, exitTo id (TODO ++ K) = exitTo id K
  | [], [], _ => fun _ => rfl
  | i :: l, I :: L, h => by
    have ih := exitTo_todo (id := id) (todo := l) (TODO := L) h.2
    have h1 := h.1
    cases h1 with
    | blk =>
      rename_i j
      unfold exitA
      by_cases e : j = id
      · subst e
        simp only [show Nat.beq j j = true from natBeq.2 rfl, cond_true]
        exact ⟨L, h.2, fun K => by simp [exitTo]⟩
      · have hb : Nat.beq j id = false := by
          cases hb : Nat.beq j id with
          | false => rfl
          | true => exact absurd (natBeq.1 hb) e
        simp only [hb, cond_false]
        have hx : ∀ K, exitTo id ((Item.inBlock j :: L) ++ K) = exitTo id (L ++ K) := fun K => by simp [exitTo, e]
        simp only [hx]
        exact ih
    | _ => exact ih
  | [], _ :: _, h => h.elim
  | _ :: _, [], h => h.elim
end
end Go.Eng
namespace Go.Eng
open Go

/-! ### equal by test -/
theorem eqAV_eq : ∀ {a b : AV}, eqAV a b = true → a = b := by
  intro a
  induction a with
  | fn f x y ihx ihy => intro b h; cases b <;> simp only [eqAV, Bool.false_eq_true, Bool.and_eq_true] at h; rw [natBeq.1 h.1.1, ihx h.1.2, ihy h.2]
  | iface t v ih => intro b h; cases b <;> simp only [eqAV, Bool.false_eq_true, Bool.and_eq_true] at h; rw [natBeq.1 h.1, ih h.2]
  | agg l ih => intro b h; cases b <;> simp only [eqAV, Bool.false_eq_true] at h; rw [ih h]
  | tup l ih => intro b h; cases b <;> simp only [eqAV, Bool.false_eq_true] at h; rw [ih h]
  | cons x y ihx ihy => intro b h; cases b <;> simp only [eqAV, Bool.false_eq_true, Bool.and_eq_true] at h; rw [ihx h.1, ihy h.2]
  | int k n => intro b h; cases b <;> simp only [eqAV, Bool.false_eq_true, Bool.and_eq_true, decide_eq_true_eq] at h; rw [h.1, eqI_iff.1 h.2]
  | bool x => intro b h; cases b <;> simp only [eqAV, Bool.false_eq_true, beq_iff_eq] at h; rw [h]
  | str l => intro b h; cases b <;> simp only [eqAV, Bool.false_eq_true] at h; rw [eqNats_iff.1 h]
  | ptr x y => intro b h; cases b <;> simp only [eqAV, Bool.false_eq_true, Bool.and_eq_true] at h; rw [natBeq.1 h.1, natBeq.1 h.2]
  | slc x y z u v q => intro b h; cases b <;> simp only [eqAV, Bool.false_eq_true, Bool.and_eq_true, beq_iff_eq] at h; obtain ⟨⟨⟨⟨⟨h1, h2⟩, h3⟩, h4⟩, h5⟩, h6⟩ := h; rw [natBeq.1 h1, natBeq.1 h2, natBeq.1 h3, natBeq.1 h4, natBeq.1 h5, h6]
  | capv x y z => intro b h; cases b <;> simp only [eqAV, Bool.false_eq_true, Bool.and_eq_true] at h; rw [natBeq.1 h.1.1, natBeq.1 h.1.2, natBeq.1 h.2]
  | map x => intro b h; cases b <;> simp only [eqAV, Bool.false_eq_true] at h; rw [natBeq.1 h]
  | opq x => intro b h; cases b <;> simp only [eqAV, Bool.false_eq_true] at h; rw [natBeq.1 h]
  | yield x => intro b h; cases b <;> simp only [eqAV, Bool.false_eq_true] at h; rw [natBeq.1 h]
  | _ => intro b h; cases b <;> simp only [eqAV, Bool.false_eq_true] at h <;> rfl
theorem eqLs_eq : ∀ {a b : List AV}, eqLs a b = true → a = b
  | [], [], _ => rfl
  | x :: l, y :: m, h => by
    simp only [eqLs, Bool.and_eq_true] at h
    rw [eqAV_eq h.1, eqLs_eq h.2]
  | [], _ :: _, h => by cases h
  | _ :: _, [], h => by cases h
theorem eqT_eq : ∀ {a b : Ts}, eqT a b = true → a = b
  | .nil, .nil, _ => rfl
  | .node l o r, .node l' o' r', h => by
    simp only [eqT, Bool.and_eq_true] at h
    obtain ⟨⟨h1, h2⟩, h3⟩ := h
    rw [eqT_eq h1, eqT_eq h2]
    cases o <;> cases o' <;> simp at h3
    · rfl
    · rw [eqAV_eq h3]
  | .nil, .node _ _ _, h => by cases h
  | .node _ _ _, .nil, h => by cases h
theorem eqPas_eq : ∀ {a b : List Pa}, eqPas a b = true → a = b
  | [], [], _ => rfl
  | x :: l, y :: m, h => by
    simp only [eqPas, Bool.and_eq_true, decide_eq_true_eq] at h
    rw [h.1, eqPas_eq h.2]
  | [], _ :: _, h => by cases h
  | _ :: _, [], h => by cases h
theorem eqFJ_eq : ∀ {a b : Option FJ}, eqFJ a b = true → a = b
  | none, none, _ => rfl
  | some .ret, some .ret, _ => rfl
  | some (.exit a), some (.exit b), h => by rw [show a = b from natBeq.1 h]
  | none, some _, h => by cases h
  | some .ret, none, h => by cases h
  | some (.exit _), none, h => by cases h
  | some .ret, some (.exit _), h => by cases h
  | some (.exit _), some .ret, h => by cases h
theorem eqSt_eq {a b : LoopState} (h : eqSt a b = true) : a = b := by cases a <;> cases b <;> first | rfl | cases h
theorem eqNO_eq : ∀ {a b : Option Nat}, eqNO a b = true → a = b
  | none, none, _ => rfl
  | some a, some b, h => by rw [show a = b from natBeq.1 h]
  | none, some _, h => by cases h
  | some _, none, h => by cases h
theorem eqMEs_eq : ∀ {a b : List ME}, eqMEs a b = true → a = b
  | [], [], _ => rfl
  | x :: l, y :: m, h => by
    simp only [eqMEs, Bool.and_eq_true] at h
    obtain ⟨⟨⟨h1, h2⟩, h3⟩, h4⟩ := h
    rw [eqMEs_eq h4]
    cases x; cases y
    simp at h1 h2 h3
    rw [h1, eqAV_eq h2, eqAV_eq h3]
  | [], _ :: _, h => by cases h
  | _ :: _, [], h => by cases h
theorem eqB_eq {a b : Bool} (h : eqB a b = true) : a = b := by cases a <;> cases b <;> first | rfl | cases h
theorem eqAO_eq {a b : AO} (h : eqAO a b = true) : a = b := by
  cases a <;> cases b <;> simp only [eqAO, Bool.false_eq_true, Bool.and_eq_true] at h
  · rfl
  · rw [eqLs_eq h]
  · rw [eqB_eq h.1.1, eqB_eq h.1.2, eqLs_eq h.2]
  · rw [natBeq.1 h.1, eqMEs_eq h.2]
  · rw [natBeq.1 h.1, eqNats_iff.1 h.2]
  · rw [eqNO_eq h.1.1.1, natBeq.1 h.1.1.2, eqNats_iff.1 h.1.2, natBeq.1 h.2]
  · rename_i l m
    obtain ⟨⟨⟨⟨⟨h1, h2⟩, h3⟩, h4⟩, h5⟩, h6⟩ := h
    cases l; cases m
    simp at h1 h2 h3 h4 h5 h6
    rw [eqSt_eq h1, eqFJ_eq h2, eqT_eq h3, eqPas_eq h4, h5, h6]
  · rw [eqB_eq h]

section
variable {C : Cx} {ρ : Ren} {h h' : Hp} {n : Nat} {w : World}
theorem HR.less (H : HR C ρ h n w) (hh : ∀ b, h'.get b = h.get b ∨ ∀ o, h'.get b = some o → ¬ o.live) : HR C ρ h' n w := by
  have key : ∀ b o, h'.get b = some o → o.live → h.get b = some o := fun b o e hl => by
    rcases hh b with x | x
    · rw [← x]; exact e
    · exact absurd hl (x o e)
  exact ⟨fun b o loc e hl hρ => H.obj b o loc (key b o e hl) hl hρ,
    fun b b' o o' loc loc' e hl hρ e' hl' hρ' hne => H.inj b b' o o' loc loc' (key b o e hl) hl hρ (key b' o' e' hl') hl' hρ' hne,
    fun b o loc e hl hρ => H.own b o loc (key b o e hl.live) hl hρ, H.low, H.size, H.fresh, H.glob, H.os, H.output, H.tape, H.res, H.psi⟩
theorem HR.up {n' : Nat} (H : HR C ρ h n w) (hn : n ≤ n') : HR C ρ h n' w :=
  ⟨H.obj, H.inj, H.own, H.low, H.size, fun b hb => H.fresh b (by omega), H.glob, H.os, H.output, H.tape, fun b hb => ⟨by have := (H.res b hb).1; omega, (H.res b hb).2⟩, H.psi⟩
end
inductive ResR (P : Program) : Pa × Option (Bool × Nat) → ResultVar → Prop
  | tmp {t : Nat} : ResR P (pa t, none) (.tmp t)
  | cell {t : Nat} {ty : TypeId} {d : TypeDesc} {i : TypeInfo} : P.underlying ty = some d → P.info? ty = some i → ResR P (pa t, some (aggD d, i.size)) (.cell t ty)
/-- a proved call says what the machine does -/
def OrcOk (P : Program) (T : Tab) (ng : Nat) (Φ : Cx → Prop) (f : Nat) (o : Orc) : Prop :=
  ∀ (C : Cx), C.ng = ng → CxOk P T ng Φ C → ∀ (ρ : Ren) (w : World) (Args : List Value) (cs : List Frame), HR C ρ (mkTr o.need) o.n w → All2 (RV ρ) o.args Args →
    ∃ ρ' w' V fr, ρ.le ρ' ∧ HR C ρ' (mkTr o.out) o.m w' ∧ RV ρ' o.v V ∧ Steps P (lone (Frame.enter P f Args.toArray .normal) cs w) (lone fr cs w') ∧ fr.fn = f ∧ fr.leaving P w' (.returned V) ∧ (∀ w, (callFunc f Args.toArray).run P w = .ok (.enter f Args.toArray) w)
structure TabOk (P : Program) (T : Tab) (ng : Nat) (Φ : Cx → Prop) : Prop where
  fn : ∀ f ff, T.fn.get f = some ff → ∃ fn c, P.funcs[f]? = some fn ∧ fn.body = some c ∧ (fn.name == "runtime.NumGoroutine") = false ∧ ff.ntmps = fn.ntmps ∧ CodeR P T.site ng fn.ntmps ff.code c ∧ All2 (ResR P) ff.res fn.results.toList
  ext : ∀ f g, T.ext f = some g → ∀ (C : Cx) (ρ : Ren) (h : Hp) (n : Nat) (w : World) (args : List AV) (Args : List Value) (v : AV), HR C ρ h n w → All2 (RV ρ) args Args → g args h = some v →
    ∃ V, (callFunc f Args.toArray).run P w = .ok (.value V) w ∧ RV ρ v V
  mixed : P.follows .mixedOrders = true
  orc : ∀ f o, o ∈ T.orc f → OrcOk P T ng Φ f o
  keep : ∀ (C : Cx) (R : Nat → Prop), Φ C → Φ (C.keep R)
theorem CxOk.keep {P : Program} {T : Tab} {ng : Nat} {Φ : Cx → Prop} {C : Cx} (TO : TabOk P T ng Φ) (h : CxOk P T ng Φ C) (R : Nat → Prop) : CxOk P T ng Φ (C.keep R) := ⟨h.S, TO.keep C R h.phi⟩

section
variable {P : Program} {T : Tab} {Φ : Cx → Prop} {ng : Nat} {C : Cx} {run : Rec}

theorem run_callFunc_enter {f : FuncId} {fn : Func} {c : Code} {args : Array Value} {w : World} (hf : P.funcs[f]? = some fn) (hb : fn.body = some c) (hn : (fn.name == "runtime.NumGoroutine") = false) :
    (callFunc f args).run P w = .ok (.enter f args) w := by
  have hn' : ¬ fn.name = "runtime.NumGoroutine" := fun e => by rw [e] at hn; simp at hn
  simp [callFunc, program, Sem.run, hf, hn', hb]

/-! ### a call's temporaries -/
noncomputable def argsM : List AV → Nat → Ts → Ts
  | [], _, ts => ts
  | a :: l, i, ts => argsM l (i + 1) (Tr.to (pa i) ts a.tidy)
theorem argsT_eq {β : Type} : ∀ (l : List AV) (i : Nat) (ts : Ts) (k : Ts → β), argsT l i ts k = k (argsM l i ts)
  | [], _, _, _ => rfl
  | a :: l, i, ts, k => by
    simp only [argsT, forceV_eq, Tr.toK_eq, argsM]
    exact argsT_eq l (i + 1) _ k
theorem argsM_ok {ρ : Ren} {tmps : Array Value} : ∀ (l : List AV) (L : List Value) (i : Nat) (ts : Ts), All2 (RV ρ) l L →
    (∀ t, t < i ∨ i + l.length ≤ t → RV ρ (tmpA ts (pa t)) (tmps.getD t undef)) → (∀ j A, L[j]? = some A → tmps.getD (i + j) undef = A) → tmpR ρ (argsM l i ts) tmps
  | [], [], i, ts, _, h1, _ => fun t => h1 t (by simp; omega)
  | a :: l, A :: L, i, ts, h, h1, h2 => by
    refine argsM_ok l L (i + 1) _ h.2 (fun t ht => ?_) (fun j B hB => ?_)
    · rw [tmpA_to]
      by_cases e : t = i
      · subst e
        have := h2 0 A rfl
        simp at this
        simp [this]
        exact RV_tidy h.1
      · rw [if_neg (fun x => e (pa_inj x))]
        exact h1 t (by simp at ht ⊢; omega)
    · have := h2 (j + 1) B (by simpa using hB)
      rw [← this]
      congr 1
      omega
  | [], _ :: _, _, _, h, _, _ => h.elim
  | _ :: _, [], _, _, h, _, _ => h.elim

/-! ### marks -/
theorem takeDefs_sound {k : Hp → Option (AV × Hp × Nat)} {x : AV × Hp × Nat} {cs : List Frame} : ∀ (ds : List Nat) (L : List Deferred) (ρ : Ren) (h : Hp) (n : Nat) (w : World) (fr : Frame), fr.mode = .returning → fr.defers = L → HR C ρ h n w →
    All2 (fun l (d : Deferred) => ∃ loc, ρ l = some loc ∧ d = { target := .collected loc.blk, args := #[] }) ds L → takeDefs k ds h = some x →
    ∃ h' w', HR C ρ h' n w' ∧ k h' = some x ∧ Steps P (lone fr cs w) (lone { fr with defers := [] } cs w')
  | [], [], ρ, h, n, w, fr, hm, hd, H, _, e => ⟨h, w, H, e, by
    have : { fr with defers := [] } = fr := by cases fr; simp at hd; subst hd; rfl
    rw [this]; exact Steps.refl _ _⟩
  | d :: ds, D :: L, ρ, h, n, w, fr, hm, hd, H, hR, e => by
    obtain ⟨⟨loc, hl, hD⟩, hR⟩ := hR
    unfold takeDefs at e
    split at e
    · rename_i hg
      rw [Tr.putK_eq] at e
      obtain ⟨W, hW, hO⟩ := H.obj d _ loc hg trivial hl
      have hO' : W = .deferred (some []) := hO
      subst hO'
      have hlt := (Array.getElem?_eq_some_iff.1 hW).1
      have H' : HR C ρ (h.put d (.deferred false)) n (w.putObj loc.blk (.deferred none)) :=
        H.set (o := .deferred true) (W' := .deferred none) hg trivial hl rfl (World.putObj_heap_same hlt) (fun k hk _ => World.putObj_heap_other hk) (by simp) rfl rfl rfl
      have st : step P (lone fr cs w) = .next (lone { fr with defers := [] ++ L } cs (w.putObj loc.blk (.deferred none))) :=
        step_collected (by rw [hm]; simp) hd (by rw [hD]) (run_takeDeferred hW)
      obtain ⟨h', w', H'', hk, hs⟩ := takeDefs_sound ds L ρ _ n _ { fr with defers := [] ++ L } hm rfl H' hR e
      exact ⟨h', w', H'', hk, .head st hs⟩
    · cases e
  | [], _ :: _, _, _, _, _, _, _, _, _, h, _ => h.elim
  | _ :: _, [], _, _, _, _, _, _, _, _, h, _ => h.elim

/-! ### results -/
theorem forceT_eq {β : Type} : ∀ (l : List AV) (k : AV → β), forceT l k = k (AV.ofL (l.map AV.tidy))
  | [], _ => rfl
  | a :: l, k => by
    simp only [forceT, forceV_eq]
    rw [forceT_eq l]
    rfl
theorem All2_tidyV {ρ : Ren} : ∀ {l : List AV} {L : List Value}, All2 (RV ρ) l L → All2 (RV ρ) (l.map AV.tidy) L
  | [], [], _ => trivial
  | _ :: _, _ :: _, h => ⟨RV_tidy h.1, All2_tidyV h.2⟩
  | [], _ :: _, h => h.elim
  | _ :: _, [], h => h.elim
abbrev resGo (tmps : Array Value) : ResultVar → Sem Value := fun
    | .tmp t => pure (tmps.getD t undef)
    | .cell a t => do loadVar t (← asAddr (tmps.getD a undef))
theorem resA_sound {ρ : Ren} {h : Hp} {n : Nat} {w : World} {ts : Ts} {tmps : Array Value} (H : HR C ρ h n w) (ht : tmpR ρ ts tmps) : ∀ {res : List (Pa × Option (Bool × Nat))} {RES : List ResultVar} {l : List AV}, All2 (ResR P) res RES → resA h ts res = some l →
    ∃ Vs, (RES.mapM (resGo tmps)).run P w = .ok Vs w ∧ All2 (RV ρ) l Vs
  | [], [], l, _, e => by obtain rfl := Option.some.inj e; exact ⟨[], rfl, trivial⟩
  | r :: res, R :: RES, l, hR, e => by
    simp only [resA, bindO_eq, Option.bind_eq_some_iff] at e
    obtain ⟨a, ha, m, hm, e⟩ := e
    obtain rfl := Option.some.inj e
    obtain ⟨Vs, h1, h2⟩ := resA_sound H ht hR.2 hm
    obtain ⟨V, h3, h4⟩ : ∃ V, (resGo tmps R).run P w = .ok V w ∧ RV ρ a V := by
      have hr := hR.1
      cases hr with
      | tmp =>
        rename_i t
        obtain rfl := Option.some.inj ha
        exact ⟨_, rfl, ht t⟩
      | cell hu hi =>
        rename_i t ty d i
        simp only [resOne] at ha
        have h5 := ht t
        split at ha
        · rename_i b off hx
          rw [hx] at h5
          obtain ⟨loc, hb, hV⟩ := RV_ptr.1 h5
          simp only [bindO_eq, Option.bind_eq_some_iff] at ha
          obtain ⟨l', hl', ha⟩ := ha
          obtain ⟨V, hrun, hv⟩ := H.loadVar hu hi hl' hb ha
          exact ⟨V, by simp [resGo, hV, asAddr, hrun], hv⟩
        · cases ha
    refine ⟨V :: Vs, ?_, h4, h2⟩
    rw [List.mapM_cons]
    simp [Sem.run_bind, h3, h1, Result.andThen]
  | [], _ :: _, _, h, _ => h.elim
  | _ :: _, [], _, h, _ => h.elim

theorem results_sound {ρ : Ren} {h : Hp} {n : Nat} {w : World} {ts : Ts} {tmps : Array Value} {fn : Func} {res : List (Pa × Option (Bool × Nat))} {l : List AV} {v : AV} (H : HR C ρ h n w) (ht : tmpR ρ ts tmps) (hR : All2 (ResR P) res fn.results.toList)
    (e : resA h ts res = some l) (hv : oneOf l (fun v => some v) = some v) : ∃ V, (results fn tmps).run P w = .ok V w ∧ RV ρ v V := by
  obtain ⟨Vs, h1, h2⟩ := resA_sound H ht hR e
  have hrun : (fn.results.mapM (resGo tmps)).run P w = .ok Vs.toArray w := by
    rw [Array.mapM_eq_mapM_toList]
    simp [h1]
  have hres : (results fn tmps).run P w = .ok (if h : Vs.toArray.size = 1 then Vs.toArray[0] else .tuple Vs.toArray) w := by
    have : results fn tmps = (do let vs ← fn.results.mapM (resGo tmps); pure (if h : vs.size = 1 then vs[0] else .tuple vs)) := rfl
    rw [this]
    simp [hrun, Result.andThen]
  refine ⟨_, hres, ?_⟩
  unfold oneOf at hv
  split at hv
  · rename_i a
    rw [forceV_eq] at hv
    obtain rfl := Option.some.inj hv
    match Vs, h2 with
    | [V], h2 => exact RV_tidy h2.1
  · rename_i hne
    rw [forceT_eq] at hv
    obtain rfl := Option.some.inj hv
    have hlen := h2.length
    have hn1 : ¬ Vs.toArray.size = 1 := by
      intro e1
      match l, hne with
      | [], _ => simp at hlen e1; omega
      | [a], hne => exact hne a rfl
      | _ :: _ :: _, _ => simp at hlen e1; omega
    rw [dif_neg hn1]
    exact RV_ofL_tup (All2_tidyV h2)

/-! ### a call -/
theorem oneOf_bind {l : List AV} {β : Type} {k : AV → Option β} {x : β} (h : oneOf l k = some x) : ∃ v, oneOf l (fun v => some v) = some v ∧ k v = some x := by
  unfold oneOf at h ⊢
  split at h
  · rw [forceV_eq] at h ⊢; exact ⟨_, rfl, h⟩
  · rename_i hne
    rw [forceT_eq] at h
    refine ⟨_, ?_, h⟩
    first
      | (rw [forceT_eq])
      | (split
         · exact absurd rfl (hne _)
         · rw [forceT_eq])

theorem callN_sound (IH : RunOk P T ng Φ run) (TO : TabOk P T ng Φ) (hng : C.ng = ng) (hS : CxOk P T ng Φ C) {f : Nat} {args : List AV} {h h' : Hp} {n n' : Nat} {v : AV} {ρ : Ren} {w : World} {Args : List Value} (cs : List Frame)
    (e : callN T run f args h n = some (v, h', n')) (H : HR C ρ h n w) (hA : All2 (RV ρ) args Args) :
    ∃ ρ' w' V fr, ρ.le ρ' ∧ HR C ρ' h' n' w' ∧ RV ρ' v V ∧ Steps P (lone (Frame.enter P f Args.toArray .normal) cs w) (lone fr cs w') ∧ fr.fn = f ∧ fr.leaving P w' (.returned V) ∧ (∀ w, (callFunc f Args.toArray).run P w = .ok (.enter f Args.toArray) w) := by
  simp only [callN, bindO_eq, Option.bind_eq_some_iff, guardB_some] at e
  obtain ⟨ff, hff, hle, e⟩ := e
  obtain ⟨fn, c, hf, hb, hname, hnt, hcode, hres⟩ := TO.fn f ff hff
  rw [natBle] at hle
  unfold callBody at e
  rw [argsT_eq] at e
  simp only [bindO_eq, Option.bind_eq_some_iff] at e
  obtain ⟨r, hr, e⟩ := e
  let b : Frame := { (default : Frame) with fn := f, kind := .normal, roundOf := none }
  have hlen := hA.length
  let tmps : Array Value := Args.toArray ++ Array.replicate (fn.ntmps - Args.toArray.size) undef
  have henter : Frame.enter P f Args.toArray .normal = b.atR { tmps, defers := [] } ([.code c] ++ []) := by
    simp [Frame.enter, Frame.atR, hf, hb, b, tmps]
  have hsize : tmps.size = fn.ntmps := by
    simp only [tmps, Array.size_append, Array.size_replicate, List.size_toArray]
    omega
  have htm : tmpR ρ (argsM args 0 .nil) tmps := by
    refine argsM_ok args Args 0 .nil hA (fun t ht => ?_) (fun j A hj => ?_)
    · have hu : tmps.getD t undef = undef := by
        simp only [Array.getD_eq_getD_getElem?]
        rcases Nat.lt_or_ge t tmps.size with hlt | hge
        · rw [Array.getElem?_append_right (by simp; omega)]
          simp [Array.getElem?_replicate]
          split <;> rfl
        · rw [Array.getElem?_eq_none hge]; rfl
      rw [hu]
      have : tmpA (Tr.nil : Ts) (pa t) = .tup .nil := by unfold tmpA; rw [Tr.at_nil]
      rw [this]
      exact RV_undef
    · have hj' : j < Args.length := (List.getElem?_eq_some_iff.1 hj).1
      simp only [Nat.zero_add, Array.getD_eq_getD_getElem?]
      rw [Array.getElem?_append_left (by simpa using hj')]
      simp [hj]
  have s : St C fn.ntmps ρ none (argsM args 0 .nil) [] h n b { tmps, defers := [] } w := ⟨H, htm, hsize, trivial, rfl, rfl⟩
  obtain ⟨ρ', a', w', hle', s', hend⟩ := IH C hng hS none _ _ _ _ _ r hr fn.ntmps ρ b _ w [.code c] [] cs s ⟨.code hcode, trivial⟩
  rw [← henter] at hend
  unfold resOut at e
  rw [guardB_some] at e
  obtain ⟨hlv, e⟩ := e
  have hret : ∃ D, Steps P (lone (Frame.enter P f Args.toArray .normal) cs w) (lone { b.atR a' D with mode := .returning } cs w') := by
    cases hj : r.jump with
    | none => rw [hj] at hend; exact ⟨_, Steps.trans hend (.one (stepR_end rfl))⟩
    | some j =>
      cases j with
      | ret => rw [hj] at hend; obtain ⟨D, hD⟩ := hend; exact ⟨_, Steps.trans hD (.one (stepR_ret rfl))⟩
      | exit id => rw [hj] at hlv; cases hlv
  obtain ⟨D, hD⟩ := hret
  obtain ⟨h2, w2, H2, hk, hs2⟩ := takeDefs_sound (P := P) (cs := cs) r.ds a'.defers ρ' r.h r.n w' { b.atR a' D with mode := .returning } rfl rfl s'.H s'.ds e
  simp only [bindO_eq, Option.bind_eq_some_iff] at hk
  obtain ⟨l, hl, hk⟩ := hk
  obtain ⟨v', hv', hk⟩ := oneOf_bind hk
  obtain ⟨V, hV, hRV⟩ := results_sound H2 s'.tmps hres hl hv'
  obtain ⟨rfl, rfl, rfl⟩ : v' = v ∧ h2 = h' ∧ r.n = n' := by
    have := Option.some.inj hk
    simp only [Prod.mk.injEq] at this
    exact this
  exact ⟨ρ', w2, V, _, hle', H2, hRV, Steps.trans hD hs2, rfl, ⟨rfl, rfl, rfl, fn, hf, hV⟩, fun w => run_callFunc_enter hf hb hname⟩

theorem mkTr_eq {α : Type} : ∀ (l : List (Nat × α)) (t : Tr α), List.rec (motive := fun _ => Tr α → Tr α) (fun t => t) (fun p _ ih t => Tr.putK t p.1 p.2 ih) l t = List.foldl (fun t p => t.put p.1 p.2) t l
  | [], _ => rfl
  | p :: l, t => by
    show Tr.putK t p.1 p.2 (fun t => List.rec (motive := fun _ => Tr α → Tr α) (fun t => t) (fun p _ ih t => Tr.putK t p.1 p.2 ih) l t) = _
    rw [Tr.putK_eq]
    exact mkTr_eq l _
theorem mkTr_fold {α : Type} (l : List (Nat × α)) : mkTr l = List.foldl (fun t p => t.put p.1 p.2) .nil l := mkTr_eq l .nil
theorem fold_get {α : Type} : ∀ (l : List (Nat × α)) (t : Tr α) (n : Nat) (x : α), (List.foldl (fun t p => t.put p.1 p.2) t l).get n = some x → t.get n = some x ∨ (n, x) ∈ l
  | [], _, _, _, h => .inl h
  | p :: l, t, n, x, h => by
    rcases fold_get l _ n x h with h | h
    · rw [Tr.get_put] at h
      split at h
      · rename_i e
        have := Option.some.inj h
        exact .inr (by rw [e, ← this]; simp)
      · exact .inl h
    · exact .inr (by simp [h])
theorem subH_mem {h : Hp} : ∀ {l : List (Nat × AO)}, subH h l = true → ∀ p ∈ l, h.get p.1 = some p.2
  | [], _, _, hp => by simp at hp
  | q :: l, e, p, hp => by
    unfold subH at e
    split at e
    · rename_i o ho
      cases hb : eqAO q.2 o with
      | false => rw [hb] at e; cases e
      | true =>
        rw [hb] at e
        simp only [List.mem_cons] at hp
        rcases hp with rfl | hp
        · rw [ho, eqAO_eq hb]
        · exact subH_mem e p hp
    · cases e
/-- memory, cut down to what is listed -/
theorem HR.cut {ρ : Ren} {h : Hp} {n m : Nat} {w : World} {l : List (Nat × AO)} (H : HR C ρ h n w) (hl : subH h l = true) (hn : n ≤ m) : HR C ρ (mkTr l) m w := by
  refine (H.less fun b => ?_).up hn
  cases hb : (mkTr l).get b with
  | none => exact .inr fun o ho => by cases ho
  | some x =>
    rw [mkTr_fold] at hb
    have hm := (fold_get l _ b x hb).resolve_left (by simp [Tr.get_nil])
    exact .inl (subH_mem hl _ hm).symm
theorem pickO_some {args : List AV} {h : Hp} {n : Nat} {o : Orc} : ∀ {l : List Orc}, pickO args h n l = some o → o ∈ l ∧ o.args = args ∧ n ≤ o.n ∧ subH h o.need = true
  | [], e => by cases e
  | x :: l, e => by
    unfold pickO at e
    cases h1 : eqLs x.args args with
    | false => rw [h1] at e; obtain ⟨g1, g2⟩ := pickO_some (l := l) e; exact ⟨by simp [g1], g2⟩
    | true =>
      rw [h1] at e
      cases h2 : Nat.ble n x.n with
      | false => rw [h2] at e; obtain ⟨g1, g2⟩ := pickO_some (l := l) e; exact ⟨by simp [g1], g2⟩
      | true =>
        rw [h2] at e
        cases h3 : subH h x.need with
        | false => rw [h3] at e; obtain ⟨g1, g2⟩ := pickO_some (l := l) e; exact ⟨by simp [g1], g2⟩
        | true =>
          rw [h3] at e
          have := Option.some.inj e
          subst this
          exact ⟨by simp, eqLs_eq h1, natBle.1 h2, h3⟩
theorem callF_sound (IH : RunOk P T ng Φ run) (TO : TabOk P T ng Φ) (hng : C.ng = ng) (hS : CxOk P T ng Φ C) {f : Nat} {args : List AV} {h h' : Hp} {n n' : Nat} {v : AV} {ρ : Ren} {w : World} {Args : List Value} (cs : List Frame)
    (e : callF T run f args h n = some (v, h', n')) (H : HR C ρ h n w) (hA : All2 (RV ρ) args Args) :
    ∃ ρ' w' V fr, ρ.le ρ' ∧ HR C ρ' h' n' w' ∧ RV ρ' v V ∧ Steps P (lone (Frame.enter P f Args.toArray .normal) cs w) (lone fr cs w') ∧ fr.fn = f ∧ fr.leaving P w' (.returned V) ∧ (∀ w, (callFunc f Args.toArray).run P w = .ok (.enter f Args.toArray) w) := by
  unfold callF at e
  split at e
  · rename_i o ho
    obtain ⟨hm, ha, hn, hsub⟩ := pickO_some ho
    have := Option.some.inj e
    simp only [Prod.mk.injEq] at this
    obtain ⟨rfl, rfl, rfl⟩ := this
    subst ha
    exact TO.orc f o hm C hng hS ρ w Args cs (H.cut hsub hn) hA
  · exact callN_sound IH TO hng hS cs e H hA
/-- a call that has been run is a proved call -/
noncomputable def chkO (T : Tab) (run : Rec) (f : Nat) (o : Orc) : Bool := match callN T run f o.args (mkTr o.need) o.n with
  | some r => cond (eqAV r.1 o.v) (cond (Nat.ble r.2.2 o.m) (subH r.2.1 o.out) false) false
  | none => false
theorem chkO_ok (IH : RunOk P T ng Φ run) (TO : TabOk P T ng Φ) {f : Nat} {o : Orc} (h : chkO T run f o = true) : OrcOk P T ng Φ f o := by
  intro C hng hS ρ w Args cs H hA
  unfold chkO at h
  split at h
  · rename_i r hr
    obtain ⟨v, h', n'⟩ := r
    obtain ⟨ρ', w', V, fr, h1, h2, h3, h4⟩ := callN_sound IH TO hng hS cs hr H hA
    cases e1 : eqAV v o.v with
    | false => rw [e1] at h; cases h
    | true =>
      rw [e1] at h
      cases e2 : Nat.ble n' o.m with
      | false => rw [e2] at h; cases h
      | true =>
        rw [e2] at h
        have h' : subH _ o.out = true := h
        exact ⟨ρ', w', V, fr, h1, h2.cut h' (natBle.1 e2), eqAV_eq e1 ▸ h3, h4⟩
  · cases h

/-! ### a round -/
noncomputable def setM : List Pa → List AV → Ts → Ts
  | p :: ps, a :: as, ts => setM ps as (Tr.to p ts a.tidy)
  | _, _, ts => ts
theorem setAll_some {β : Type} {x : β} : ∀ (ps : List Pa) (as : List AV) (ts : Ts) (k : Ts → Option β), setAll ps as ts k = some x → ps.length = as.length ∧ k (setM ps as ts) = some x
  | [], [], _, _, h => ⟨rfl, h⟩
  | p :: ps, a :: as, ts, k, h => by
    simp only [setAll, forceV_eq, Tr.toK_eq] at h
    obtain ⟨h1, h2⟩ := setAll_some ps as _ k h
    exact ⟨by simp [h1], h2⟩
  | [], _ :: _, _, _, h => by cases h
  | _ :: _, [], _, _, h => by cases h
theorem setM_ok {ρ : Ren} : ∀ (ps : List Nat) (as : List AV) (As : List Value) (ts : Ts) (tmps : Array Value), All2 (RV ρ) as As → tmpR ρ ts tmps → (∀ p ∈ ps, p < tmps.size) →
    tmpR ρ (setM (ps.map pa) as ts) ((ps.zip As).foldl (fun tmps (x : Nat × Value) => tmps.setIfInBounds x.1 x.2) tmps) ∧ ((ps.zip As).foldl (fun tmps (x : Nat × Value) => tmps.setIfInBounds x.1 x.2) tmps).size = tmps.size
  | [], _, _, ts, tmps, _, ht, _ => ⟨by simpa [setM] using ht, by simp⟩
  | p :: ps, [], [], ts, tmps, _, ht, _ => ⟨by simpa [setM] using ht, by simp⟩
  | p :: ps, a :: as, A :: As, ts, tmps, h, ht, hp => by
    obtain ⟨h1, h2⟩ := setM_ok ps as As (Tr.to (pa p) ts a.tidy) (tmps.setIfInBounds p A) h.2 (tmpR_put ht (hp p (by simp)) (RV_tidy h.1)) (fun q hq => by
      rw [Array.size_setIfInBounds]; exact hp q (by simp [hq]))
    refine ⟨h1, ?_⟩
    simp only [List.zip_cons_cons, List.foldl_cons]
    rw [h2, Array.size_setIfInBounds]
  | _ :: _, [], _ :: _, _, _, h, _, _ => h.elim
  | _ :: _, _ :: _, [], _, _, h, _, _ => h.elim

theorem roundF_sound (IH : RunOk P T ng Φ run) (hng : C.ng = ng) (hS : CxOk P T ng Φ C) {l : Nat} {args : List AV} {h h' : Hp} {n n' : Nat} {v : AV} {ρ : Ren} {w : World} {Args : List Value} {loc : Loc} (c : Frame) (cs : List Frame)
    (e : roundF T run l args h n = some (v, h', n')) (H : HR C ρ h n w) (hl : ρ l = some loc) (hA : All2 (RV ρ) args Args) :
    ∃ rl : Loop, w.heap[loc.blk]? = some (.loop rl) ∧ Args.toArray.size = rl.params.size ∧ ∃ ρ' w' V, ρ.le ρ' ∧ HR C ρ' h' n' w' ∧ RV ρ' v V ∧
      Steps P (lone (Frame.round loc.blk rl.fn ((rl.params.zip Args.toArray).foldl (fun tmps (t, a) => tmps.setIfInBounds t a) rl.tmps) rl.assign rl.body .normal) (c :: cs) w) (lone (c.finish V) cs w') := by
  unfold roundF at e
  split at e
  · rename_i L hg
    simp only [bindO_eq, Option.bind_eq_some_iff] at e
    obtain ⟨s, hs, e⟩ := e
    obtain ⟨r, hr, e⟩ := e
    obtain ⟨W, hW, rl, rfl, hL⟩ := H.obj l _ loc hg trivial hl
    obtain ⟨hst, hpend, htm, hpar, hpin, hsite, hdef⟩ := hL
    rw [hS.S] at hsite
    obtain ⟨fa, fb, hget, hca, hcb⟩ := hsite
    rw [hs] at hget
    obtain rfl := Option.some.inj hget
    obtain ⟨hlen, hr⟩ := setAll_some _ _ _ _ hr
    refine ⟨rl, hW, ?_, ?_⟩
    · have := hA.length
      rw [← hpar] at hlen
      simp at hlen ⊢
      omega
    obtain ⟨htm', hsz'⟩ := setM_ok rl.params.toList args Args L.tmps rl.tmps hA htm hpin
    have hfold : (rl.params.zip Args.toArray).foldl (fun tmps (x : Nat × Value) => tmps.setIfInBounds x.1 x.2) rl.tmps = (rl.params.toList.zip Args).foldl (fun tmps (x : Nat × Value) => tmps.setIfInBounds x.1 x.2) rl.tmps := by
      rw [← Array.foldl_toList]
      simp
    rw [hpar] at htm'
    let tmps : Array Value := (rl.params.toList.zip Args).foldl (fun tmps (x : Nat × Value) => tmps.setIfInBounds x.1 x.2) rl.tmps
    let b : Frame := { (default : Frame) with fn := rl.fn, kind := .normal, roundOf := some loc.blk }
    have hb0 : Frame.round loc.blk rl.fn ((rl.params.zip Args.toArray).foldl (fun tmps (t, a) => tmps.setIfInBounds t a) rl.tmps) rl.assign rl.body .normal = b.atR { tmps, defers := [] } ([.code rl.assign, .beginRound, .code rl.body] ++ []) := by
      show Frame.round loc.blk rl.fn ((rl.params.zip Args.toArray).foldl (fun tmps (x : Nat × Value) => tmps.setIfInBounds x.1 x.2) rl.tmps) rl.assign rl.body .normal = _
      rw [hfold]
      simp [Frame.round, Frame.atR, b, tmps]
    rw [hb0]
    have st : St C rl.tmps.size ρ (some l) (setM L.params args L.tmps) [] h n b { tmps, defers := [] } w := ⟨H, htm', hsz', trivial, rfl, loc, hl, rfl⟩
    obtain ⟨ρ', a', w', hle', s', hend⟩ := IH C hng hS (some l) _ _ _ _ _ r hr rl.tmps.size ρ b _ w [.code rl.assign, .beginRound, .code rl.body] [] (c :: cs) st ⟨.code hca, .begin, .code hcb, trivial⟩
    unfold endRound at e
    split at e
    · rename_i hds
      split at e
      · rename_i L' hg'
        rw [Tr.putK_eq, forceB_eq] at e
        have hl' := hle' _ _ hl
        obtain ⟨W', hW', rl', rfl, hL'⟩ := s'.H.obj l _ loc hg' trivial hl'
        have hlt := (Array.getElem?_eq_some_iff.1 hW').1
        have hrunE := run_endRound (P := P) (w := w') (r.jump.map jumpOf) hW'
        obtain ⟨hst', hpend', htm', hpar', hpin', hsite', hdef'⟩ := hL'
        have hisn : (r.jump.map jumpOf).isNone = isNone r.jump := by cases r.jump <;> rfl
        have H' : HR C ρ' (r.h.put l (.loop { L' with st := endState r.jump, pending := r.jump })) r.n (w'.putObj loc.blk (.loop { rl' with state := if (r.jump.map jumpOf).isNone then .ready else .done, pending := r.jump.map jumpOf })) := by
          refine s'.H.set (W' := .loop { rl' with state := if (r.jump.map jumpOf).isNone then .ready else .done, pending := r.jump.map jumpOf }) hg' trivial hl' ⟨_, rfl, ?_, rfl, htm', hpar', hpin', hsite', hdef'⟩ (World.putObj_heap_same hlt) (fun k hk _ => World.putObj_heap_other hk) (by simp) rfl rfl rfl
          cases r.jump <;> rfl
        obtain ⟨rfl, rfl, rfl⟩ : AV.bool (isNone r.jump) = v ∧ r.h.put l (.loop { L' with st := endState r.jump, pending := r.jump }) = h' ∧ r.n = n' := by
          have := Option.some.inj e
          simp only [Prod.mk.injEq] at this
          exact this
        refine ⟨ρ', _, .bool (r.jump.map jumpOf).isNone, hle', H', RV_bool.2 (by rw [hisn]), ?_⟩
        cases hj : r.jump with
        | none =>
          rw [hj] at hend hrunE
          exact Steps.trans hend (.one (stepR_round_end rfl rfl hrunE))
        | some j =>
          rw [hj] at hend hrunE
          cases j with
          | ret =>
            obtain ⟨D, hD⟩ := hend
            exact Steps.trans hD (.one (stepR_round_ret rfl rfl hrunE))
          | exit id =>
            obtain ⟨D, hx, hD⟩ := hend
            exact Steps.trans hD (.one (stepR_round_exit rfl rfl (by rw [hx]; rfl) hrunE))
      · cases e
    · cases e
  · cases e
end
end Go.Eng
namespace Go.Eng
open Go
section
variable {P : Program} {T : Tab} {Φ : Cx → Prop} {ng nt : Nat} {C : Cx} {run : Rec} {ρ : Ren} {ts : Ts} {h : Hp} {n : Nat} {b : Frame} {a : Act} {w w' : World} {os : Array Oper} {o : Oper} {i : Nat} {l : List Nat} {k : List Item} {cs : List Frame}

theorem no_defer {x : Next} (hrun : (execOp a.eval o).run P w = .ok x w') (hx : ∀ d, x ≠ .defer d) : ∀ c, o.op ≠ .defer c := by
  intro c hc
  simp only [execOp, hc, Sem.run_bind] at hrun
  cases hr : (resolve a.eval c o.type).run P w with
  | ok d w1 =>
    rw [hr] at hrun
    simp [Result.andThen] at hrun
    exact hx d hrun.1.symm
  | halt y w1 =>
    rw [hr] at hrun
    simp [Result.andThen] at hrun

variable (ho : os[i]? = some o) (hw : Region.wanted o (yielded os a.tmps) = true)
include ho
omit hw
theorem finish_here (V : Value) : (b.atR a (.inRegion os (i :: l) :: k)).finish V = b.atR (a.put o.dst V) (.inRegion os l :: k) := by
  rw [Frame.finish_atR, ho]; rfl
include hw
theorem step_value {V : Value} (hrun : (execOp a.eval o).run P w = .ok (.value V) w') :
    step P (lone (b.atR a (.inRegion os (i :: l) :: k)) cs w) = .next (lone (b.atR (a.put o.dst V) (.inRegion os l :: k)) cs w') := by
  rw [← finish_here ho V]
  refine step_lone_go ?_
  rw [stepGR_op ho hw, Oper.semAt_eq _ _ _ (no_defer hrun (by simp))]
  simp [stepG.apply, hrun]
theorem step_skipped (hrun : (execOp a.eval o).run P w = .ok .skip w') :
    step P (lone (b.atR a (.inRegion os (i :: l) :: k)) cs w) = .next (lone (b.atR (a.put o.dst undef) (.inRegion os l :: k)) cs w') := by
  rw [← finish_here ho undef]
  refine step_lone_go ?_
  rw [stepGR_op ho hw, Oper.semAt_eq _ _ _ (no_defer hrun (by simp))]
  simp [stepG.apply, hrun]
theorem step_enter {f : FuncId} {args : Array Value} (hrun : (execOp a.eval o).run P w = .ok (.enter f args) w') :
    step P (lone (b.atR a (.inRegion os (i :: l) :: k)) cs w) = .next (lone (Frame.enter P f args .normal) (b.atR a (.inRegion os (i :: l) :: k) :: cs) w') := by
  refine step_lone_go ?_
  rw [stepGR_op ho hw, Oper.semAt_eq _ _ _ (no_defer hrun (by simp))]
  simp [stepG.apply, hrun, Frame.atR]
theorem step_round {lp : Nat} {f : FuncId} {tmps : Array Value} {x y : Code} (hrun : (execOp a.eval o).run P w = .ok (.round lp f tmps x y) w') :
    step P (lone (b.atR a (.inRegion os (i :: l) :: k)) cs w) = .next (lone (Frame.round lp f tmps x y .normal) (b.atR a (.inRegion os (i :: l) :: k) :: cs) w') := by
  refine step_lone_go ?_
  rw [stepGR_op ho hw, Oper.semAt_eq _ _ _ (no_defer hrun (by simp))]
  simp [stepG.apply, hrun]
theorem step_does {V : Value} (hrun : Does P o a w V w') :
    step P (lone (b.atR a (.inRegion os (i :: l) :: k)) cs w) = .next (lone (b.atR (a.put o.dst V) (.inRegion os l :: k)) cs w') := by
  rcases hrun with h | ⟨h, rfl⟩
  · exact step_value ho hw h
  · exact step_skipped ho hw h
omit ho hw
/-- the operation is done, with all that it calls -/
def Done (P : Program) (C : Cx) (ρ : Ren) (b : Frame) (a : Act) (w : World) (os : Array Oper) (i : Nat) (o : Oper) (l : List Nat) (k : List Item) (cs : List Frame) (v : AV) (h' : Hp) (n' : Nat) : Prop :=
  ∃ ρ' w' V, ρ.le ρ' ∧ RV ρ' v V ∧ HR C ρ' h' n' w' ∧ Steps P (lone (b.atR a (.inRegion os (i :: l) :: k)) cs w) (lone (b.atR (a.put o.dst V) (.inRegion os l :: k)) cs w')
include ho hw
theorem pu_done {f : PF} {v : AV} (hs : PSound P ng o f) (H : HR C ρ h n w) (hX : ∀ x ∈ o.op.operands, RV ρ (xOf ng x ts) (a.eval x)) (e : f ts = some v) : Done P C ρ b a w os i o l k cs v h n := by
  obtain ⟨V, hrun, hv⟩ := hs ρ ts a w v hX e
  exact ⟨ρ, w, V, Ren.le_refl _, hv, H, .one (step_value ho hw hrun)⟩
theorem rd_done {f : RF} {v : AV} (hng : C.ng = ng) (hs : RSnd P ng o f) (H : HR C ρ h n w) (hX : ∀ x ∈ o.op.operands, RV ρ (xOf ng x ts) (a.eval x)) (e : f ts h = some v) : Done P C ρ b a w os i o l k cs v h n := by
  obtain ⟨V, hrun, hv⟩ := hs C hng ρ ts a h n w v H hX e
  exact ⟨ρ, w, V, Ren.le_refl _, hv, H, .one (step_value ho hw hrun)⟩
theorem me_done {f : MF} {r : AOut} {v : AV} {h' : Hp} {n' : Nat} (hng : C.ng = ng) (hs : MSnd P ng o f) (H : HR C ρ h n w) (hX : ∀ x ∈ o.op.operands, RV ρ (xOf ng x ts) (a.eval x)) (e : f ts h n = some r) (hf : finF T run h n r = some (v, h', n')) :
    Done P C ρ b a w os i o l k cs v h' n' := by
  obtain ⟨V, w', ρ', hd, hr⟩ := hs C hng ρ ts a h n w r H hX e
  cases r with
  | old u =>
    obtain ⟨hle, hv, H'⟩ := hr
    have := Option.some.inj hf
    simp only [Prod.mk.injEq] at this
    obtain ⟨rfl, rfl, rfl⟩ := this
    exact ⟨ρ', w', V, hle, hv, H', .one (step_does ho hw hd)⟩
  | mem u ups m =>
    obtain ⟨hle, hv, H'⟩ := hr
    simp only [finF, applyU_eq, forceN_eq] at hf
    have := Option.some.inj hf
    simp only [Prod.mk.injEq] at this
    obtain ⟨rfl, rfl, rfl⟩ := this
    exact ⟨ρ', w', V, hle, hv, H', .one (step_does ho hw hd)⟩
  | enter f args => exact hr.elim
  | round l args => exact hr.elim
omit ho hw
theorem All2_args (hX : ∀ x ∈ o.op.operands, RV ρ (xOf ng x ts) (a.eval x)) : ∀ (l : List Operand), (∀ x ∈ l, x ∈ o.op.operands) → All2 (RV ρ) (xsA ts (l.map (xOf ng))) (l.map a.eval)
  | [], _ => trivial
  | x :: l, h => ⟨hX x (h x (by simp)), All2_args hX l fun y hy => h y (by simp [hy])⟩
theorem run_call {x : Operand} {args : Array Operand} {ats : Array TypeId} (hop : o.op = .call { callee := .value x, args, argTypes := ats }) {g : Fn} {F Cp : List Value} (hx : a.eval x = .func g F.toArray Cp.toArray) :
    (execOp a.eval o).run P w = (invoke (.fn g Cp.toArray) (F ++ args.toList.map a.eval).toArray).run P w := by
  have hargs : F.toArray ++ args.map a.eval = (F ++ args.toList.map a.eval).toArray := by
    apply Array.ext'
    simp
  simp only [execOp, hop, resolve, hx, Deferred.ofValue, Sem.run_bind, Sem.run_pure, Result.andThen]
  rw [hargs]
theorem mem_call {x : Operand} {args : Array Operand} {ats : Array TypeId} (hop : o.op = .call { callee := .value x, args, argTypes := ats }) : x ∈ o.op.operands ∧ ∀ y ∈ args.toList, y ∈ o.op.operands := by
  refine ⟨by simp [hop, Op.operands, Call.operands], fun y hy => ?_⟩
  simp only [hop, Op.operands, Call.operands, Array.mem_append]
  exact .inr (Array.mem_toList_iff.1 hy)
include ho hw
theorem invoked_done (IH : RunOk P T ng Φ run) (TO : TabOk P T ng Φ) (hng : C.ng = ng) (hS : CxOk P T ng Φ C) {f : Nat} {args : List AV} {Args : List Value} {r : AOut} {v : AV} {h' : Hp} {n' : Nat} (H : HR C ρ h n w)
    (hrun : (execOp a.eval o).run P w = (callFunc f Args.toArray).run P w) (hA : All2 (RV ρ) args Args) (e : invokeA T f args h = some r) (hf : finF T run h n r = some (v, h', n')) : Done P C ρ b a w os i o l k cs v h' n' := by
  unfold invokeA at e
  split at e
  · rename_i g hg
    simp only [bindO_eq, Option.bind_eq_some_iff] at e
    obtain ⟨u, hu, e⟩ := e
    obtain rfl := Option.some.inj e
    obtain ⟨V, hr, hv⟩ := TO.ext f g hg C ρ h n w args Args u H hA hu
    have := Option.some.inj hf
    simp only [Prod.mk.injEq] at this
    obtain ⟨rfl, rfl, rfl⟩ := this
    exact ⟨ρ, w, V, Ren.le_refl _, hv, H, .one (step_value ho hw (hrun.trans hr))⟩
  · obtain rfl := Option.some.inj e
    obtain ⟨ρ', w', V, fr, hle, H', hv, hst, _, hleave, henter⟩ := callF_sound IH TO hng hS (b.atR a (.inRegion os (i :: l) :: k) :: cs) hf H hA
    refine ⟨ρ', w', V, hle, hv, H', .head (step_enter ho hw (hrun.trans (henter w))) (Steps.trans hst (.one ?_))⟩
    rw [← finish_here ho V]
    exact step_leave_returned hleave
theorem ca_done (IH : RunOk P T ng Φ run) (TO : TabOk P T ng Φ) (hng : C.ng = ng) (hS : CxOk P T ng Φ C) {f : Nat} {args : Array Operand} {ats : Array TypeId} {r : AOut} {v : AV} {h' : Hp} {n' : Nat} (H : HR C ρ h n w) (hX : ∀ x ∈ o.op.operands, RV ρ (xOf ng x ts) (a.eval x))
    (hop : o.op = .call { callee := .value (.func f), args, argTypes := ats }) (e : invokeA T f (xsA ts (argsX ng args)) h = some r) (hf : finF T run h n r = some (v, h', n')) : Done P C ρ b a w os i o l k cs v h' n' := by
  have hx : a.eval (.func f) = .func (.func f) ([] : List Value).toArray ([] : List Value).toArray := rfl
  have hrun := run_call (P := P) (w := w) hop hx
  refine invoked_done ho hw IH TO hng hS H (Args := args.toList.map a.eval) (hrun.trans ?_) (All2_args hX _ (mem_call hop).2) e hf
  simp [invoke]
theorem cf_done (IH : RunOk P T ng Φ run) (TO : TabOk P T ng Φ) (hng : C.ng = ng) (hS : CxOk P T ng Φ C) {x : Operand} {args : Array Operand} {ats : Array TypeId} {r : AOut} {v : AV} {h' : Hp} {n' : Nat} (H : HR C ρ h n w) (hX : ∀ x ∈ o.op.operands, RV ρ (xOf ng x ts) (a.eval x))
    (hop : o.op = .call { callee := .value x, args, argTypes := ats }) (e : callVA T (xOf ng x ts) (xsA ts (argsX ng args)) h = some r) (hf : finF T run h n r = some (v, h', n')) : Done P C ρ b a w os i o l k cs v h' n' := by
  have hx := hX x (mem_call hop).1
  have hA := All2_args hX _ (mem_call hop).2
  unfold callVA at e
  split at e
  · rename_i g first captured hg
    rw [hg] at hx
    obtain ⟨F, Cp, hV, h1, h2⟩ := RV_fn hx
    have hrun := run_call (P := P) (w := w) hop hV
    refine invoked_done ho hw IH TO hng hS H (Args := F ++ args.toList.map a.eval ++ Cp) (hrun.trans ?_) ((h1.append hA).append h2) e hf
    simp [invoke]
  · rename_i lp hg
    rw [hg] at hx
    obtain ⟨loc, hl, hV⟩ := RV_yield.1 hx
    obtain rfl := Option.some.inj e
    obtain ⟨rl, hW, hsz, ρ', w', V, hle, H', hv, hst⟩ := roundF_sound IH hng hS (b.atR a (.inRegion os (i :: l) :: k)) cs hf H hl hA
    have hrun := run_call (P := P) (w := w) hop (F := []) (Cp := []) hV
    have hy := run_yield (P := P) hW hsz
    refine ⟨ρ', w', V, hle, hv, H', .head (step_round ho hw (hrun.trans hy)) ?_⟩
    rw [← finish_here ho V]
    exact hst
  · cases e
theorem al_done {t : TypeId} {ti : TypeInfo} {z : Value} (hop : o.op = .alloc t) (hi : P.info? t = some ti) (hz : ti.zero = some z) (h1 : z.cells.toList.all Value.oneCell' = true) (H : HR C ρ h n w) :
    Done P C ρ b a w os i o l k cs (.ptr n 0) (h.put n (.cells (zeroAV z.cells) false false)) (n + 1) := by
  obtain ⟨V, w', ρ', hd, hr⟩ := sound_alloc (ng := C.ng) hop hi hz h1 C rfl ρ Tr.nil a h n w _ H (fun x hx => by simp [hop, Op.operands] at hx) rfl
  obtain ⟨hle, hv, H'⟩ := hr
  exact ⟨ρ', w', V, hle, hv, H', .one (step_does ho hw hd)⟩
omit ho hw
/-- a guarded operation that is not carried out -/
theorem skip_op (ho : os[i]? = some o) (hw : Region.wanted o (yielded os a.tmps) = false) :
    step P (lone (b.atR a (.inRegion os (i :: l) :: k)) cs w) = .next (lone (b.atR (a.put o.dst undef) (.inRegion os l :: k)) cs w) := by
  have := stepR_op_skip (P := P) (b := b) (a := a) (k := k) (cs := cs) (w := w) (ops := os) (i := i) (rest := l) (by simp [ho, hw])
  rw [ho] at this
  exact this
/-- is it asked for? -/
theorem askB_wanted {j q : Nat} {want t : Bool} {g : Oper} (hgd : o.guard = some (j, want)) (hg : os[j]? = some g) (hq : g.dst = some q) (hr : RV ρ (tmpA ts (pa q)) (a.tmps.getD q undef)) (hlt : q < a.tmps.size) (e : askB (tmpA ts (pa q)) want = some t) :
    Region.wanted o (yielded os a.tmps) = t := by
  have hget : a.tmps[q]? = some (a.tmps.getD q undef) := by
    rw [Array.getD_eq_getD_getElem?, Array.getElem?_eq_getElem hlt]; rfl
  unfold askB at e
  split at e
  · rename_i x hx
    rw [hx] at hr
    have hV := RV_bool.1 hr
    obtain rfl := Option.some.inj e
    simp only [Region.wanted, hgd, yielded, hg, Option.bind_some, hq, hget, hV]
    cases x <;> cases want <;> rfl
  · rename_i hx
    rw [hx] at hr
    obtain ⟨Cs, hV, hl⟩ := RV_tup hr
    have : Cs = [] := by cases Cs with
      | nil => rfl
      | cons _ _ => exact hl.elim
    subst this
    obtain rfl := Option.some.inj e
    simp only [Region.wanted, hgd, yielded, hg, Option.bind_some, hq, hget, hV]
    rfl
  · cases e
end
end Go.Eng
namespace Go.Eng
open Go

/-! ### what two maps share -/
theorem forceTr_eq {α β : Type} : ∀ (t : Tr α) (k : Tr α → β), forceTr t k = k t
  | .nil, _ => rfl
  | .node l o r, k => by
    have hl := forceTr_eq (β := β) l
    have hr := forceTr_eq (β := β) r
    show forceTr l (fun l => Option.rec (motive := fun _ => β) (forceTr r fun r => k (.node l none r)) (fun a => forceTr r fun r => k (.node l (some a) r)) o) = _
    rw [hl]
    cases o with
    | none => show forceTr r (fun r => k (.node l none r)) = _; rw [hr]
    | some a => show forceTr r (fun r => k (.node l (some a) r)) = _; rw [hr]
section
variable {α : Type} {eq : α → α → Bool} {w : α}
theorem mT0_get : ∀ (t : Tr α) (n : Nat), (mT0 w t).get n = (t.get n).map fun _ => w
  | .nil, _ => rfl
  | .node l o r, 0 => by cases o <;> rfl
  | .node l o r, n + 1 => by
    simp only [mT0, Tr.get_node_succ]
    split
    · exact mT0_get l _
    · exact mT0_get r _
theorem mT_get : ∀ (s t : Tr α) (n : Nat), (mT eq w s t).get n = mO eq w (s.get n) (t.get n)
  | .nil, t, n => by
    simp only [mT, mT0_get, Tr.get_nil]
    cases t.get n <;> rfl
  | .node l o r, .nil, n => by
    simp only [mT, mT0_get, Tr.get_nil]
    cases (Tr.node l o r).get n <;> rfl
  | .node l o r, .node l' o' r', 0 => rfl
  | .node l o r, .node l' o' r', n + 1 => by
    simp only [mT, Tr.get_node_succ]
    split
    · exact mT_get l l' _
    · exact mT_get r r' _
theorem mT0_at : ∀ (t : Tr α) (p : Pa), (mT0 w t).at p = (t.at p).map fun _ => w
  | .nil, p => by simp [mT0, Tr.at_nil]
  | .node l o r, .o => by cases o <;> rfl
  | .node l o r, .l p => mT0_at l p
  | .node l o r, .r p => mT0_at r p
theorem mT_at : ∀ (s t : Tr α) (p : Pa), (mT eq w s t).at p = mO eq w (s.at p) (t.at p)
  | .nil, t, p => by
    simp only [mT, mT0_at, Tr.at_nil]
    cases t.at p <;> rfl
  | .node l o r, .nil, p => by
    simp only [mT, mT0_at, Tr.at_nil]
    cases (Tr.node l o r).at p <;> rfl
  | .node l o r, .node l' o' r', .o => rfl
  | .node l o r, .node l' o' r', .l p => mT_at l l' p
  | .node l o r, .node l' o' r', .r p => mT_at r r' p
end
section
variable {P : Program} {T : Tab} {ng nt : Nat} {C : Cx} {ρ : Ren} {ro : Option Nat} {h h' : Hp} {n : Nat} {b : Frame} {a : Act} {w : World}
/-- r asks no more than r' does, whatever names it gives to what was made since n1 -/
def Under (n1 : Nat) (r' r : XR) : Prop := r'.jump = r.jump ∧ ∀ (C : Cx) (nt : Nat) (ρ1 ρ : Ren) (ro : Option Nat) (b : Frame) (a : Act) (w : World), ρ1.le ρ → (∀ x, n1 ≤ x → ρ1 x = none) → globR C.ng ρ1 → roR ρ1 ro b → (∀ q, C.res q → q < n1) → C.Ψ ρ1 →
  St C nt ρ ro r'.ts r'.ds r'.h r'.n b a w → ∃ ρ', ρ1.le ρ' ∧ St C nt ρ' ro r.ts r.ds r.h r.n b a w
theorem Under.refl (n1 : Nat) (r : XR) : Under n1 r r := ⟨rfl, fun _ _ _ ρ _ _ _ _ hle _ _ _ _ _ s => ⟨ρ, hle, s⟩⟩
theorem Under.trans {n1 : Nat} {x y z : XR} (h : Under n1 x y) (h' : Under n1 y z) : Under n1 x z := ⟨h.1.trans h'.1, fun C nt ρ1 ρ ro b a w h1 h2 h3 h4 h5 h6 s => by
  obtain ⟨ρ', g1, g2⟩ := h.2 C nt ρ1 ρ ro b a w h1 h2 h3 h4 h5 h6 s
  exact h'.2 C nt ρ1 ρ' ro b a w g1 h2 h3 h4 h5 h6 g2⟩
theorem St.less {r' : XR} {ts : Ts} {h' : Hp} (s : St C nt ρ ro r'.ts r'.ds r'.h r'.n b a w) (ht : ∀ p, ts.at p = r'.ts.at p ∨ ts.at p = some .junk) (hh : ∀ b, h'.get b = r'.h.get b ∨ h'.get b = some .dead) : St C nt ρ ro ts r'.ds h' r'.n b a w := by
  refine ⟨s.H.less fun b => ?_, fun t => ?_, s.size, s.ds, s.kind, s.ro⟩
  · rcases hh b with x | x
    · exact .inl x
    · exact .inr fun o e hl => by rw [x] at e; cases e; exact hl
  · rcases ht (pa t) with x | x
    · have := s.tmps t
      unfold tmpA at this ⊢
      rw [x]; exact this
    · unfold tmpA; rw [x]; exact RV_junk
theorem mO_left {α : Type} {eq : α → α → Bool} {w : α} (x y : Option α) : mO eq w x y = x ∨ mO eq w x y = some w := by
  cases x <;> cases y
  · exact .inl rfl
  · exact .inr rfl
  · exact .inr rfl
  · rename_i a b
    simp only [mO]
    cases eq a b
    · exact .inr rfl
    · exact .inl rfl
theorem mO_right {α : Type} {eq : α → α → Bool} {w : α} (heq : ∀ a b, eq a b = true → a = b) (x y : Option α) : mO eq w x y = y ∨ mO eq w x y = some w := by
  cases x <;> cases y
  · exact .inl rfl
  · exact .inr rfl
  · exact .inr rfl
  · rename_i a b
    simp only [mO]
    cases hb : eq a b
    · exact .inr rfl
    · rw [heq _ _ hb]; exact .inl rfl
theorem St.up {ts : Ts} {ds : List Nat} {n' : Nat} (s : St C nt ρ ro ts ds h n b a w) (hn : n ≤ n') : St C nt ρ ro ts ds h n' b a w := ⟨s.H.up hn, s.tmps, s.size, s.ds, s.kind, s.ro⟩
theorem mergeX_under {x y r : XR} (n1 : Nat) (e : mergeX x y = some r) : Under n1 x r ∧ Under n1 y r := by
  unfold mergeX at e
  simp only [guardB_some, forceTr_eq, forceN_eq] at e
  obtain ⟨h1, h2, e⟩ := e
  have e1 := eqFJ_eq h1
  have e2 := eqNats_iff.1 h2
  obtain rfl := Option.some.inj e
  have hx : x.n ≤ cond (Nat.ble x.n y.n) y.n x.n := by
    cases hb : Nat.ble x.n y.n with
    | true => exact natBle.1 hb
    | false => exact Nat.le_refl _
  have hy : y.n ≤ cond (Nat.ble x.n y.n) y.n x.n := by
    cases hb : Nat.ble x.n y.n with
    | true => exact Nat.le_refl _
    | false =>
      show y.n ≤ x.n
      rcases Nat.lt_or_ge x.n y.n with q | q
      · rw [natBle.2 (Nat.le_of_lt q)] at hb; cases hb
      · exact q
  refine ⟨⟨rfl, fun C nt ρ1 ρ ro b a w hle _ _ _ _ _ s => ⟨ρ, hle, (s.less (fun p => ?_) (fun b => ?_)).up hx⟩⟩, ⟨e1.symm, fun C nt ρ1 ρ ro b a w hle _ _ _ _ _ s => ⟨ρ, hle, ?_⟩⟩⟩
  · rw [mT_at]; exact mO_left _ _
  · rw [mT_get]; exact mO_left _ _
  · show St C nt ρ ro (mT eqAV .junk x.ts y.ts) x.ds (mT eqAO .dead x.h y.h) _ b a w
    rw [e2]
    refine (s.less (fun p => ?_) (fun b => ?_)).up hy
    · rw [mT_at]; exact mO_right (fun _ _ => eqAV_eq) _ _
    · rw [mT_get]; exact mO_right (fun _ _ => eqAO_eq) _ _

/-! ### other names -/
def Good (n1 : Nat) : List (Nat × Nat) → Prop
  | [] => True
  | p :: L => p.2 = n1 + L.length ∧ n1 ≤ p.1 ∧ lookN p.1 L = none ∧ Good n1 L
def invN (x : Nat) : List (Nat × Nat) → Option Nat
  | [] => none
  | p :: l => if p.2 = x then some p.1 else invN x l
theorem lookN_cons {b : Nat} {p : Nat × Nat} {l : List (Nat × Nat)} : lookN b (p :: l) = if p.1 = b then some p.2 else lookN b l := by
  unfold lookN
  by_cases h : p.1 = b
  · rw [if_pos h, natBeq.2 h]; rfl
  · have : Nat.beq p.1 b = false := by
      cases hb : Nat.beq p.1 b with
      | false => rfl
      | true => exact absurd (natBeq.1 hb) h
    rw [if_neg h, this]; cases l <;> rfl
theorem Good.look {n1 : Nat} : ∀ {L : List (Nat × Nat)}, Good n1 L → ∀ {b c : Nat}, lookN b L = some c → n1 ≤ b ∧ n1 ≤ c ∧ c < n1 + L.length ∧ invN c L = some b
  | [], _, b, c, h => by cases h
  | p :: L, g, b, c, h => by
    obtain ⟨g1, g2, g3, g4⟩ := g
    rw [lookN_cons] at h
    split at h
    · rename_i e
      have := Option.some.inj h
      subst this
      refine ⟨e ▸ g2, by omega, by simp; omega, ?_⟩
      unfold invN
      rw [if_pos rfl, e]
    · obtain ⟨h1, h2, h3, h4⟩ := Good.look g4 h
      refine ⟨h1, h2, by simp; omega, ?_⟩
      unfold invN
      rw [if_neg (by omega)]
      exact h4
theorem Good.inv {n1 : Nat} : ∀ {L : List (Nat × Nat)}, Good n1 L → ∀ {b x : Nat}, invN x L = some b → lookN b L = some x
  | [], _, b, x, h => by cases h
  | p :: L, g, b, x, h => by
    obtain ⟨g1, g2, g3, g4⟩ := g
    unfold invN at h
    rw [lookN_cons]
    split at h
    · rename_i e
      have := Option.some.inj h
      rw [if_pos this, e]
    · have := Good.inv g4 h
      rw [if_neg]
      · exact this
      · intro e
        rw [e, this] at g3; cases g3
theorem collect_good {h : Hp} {n1 : Nat} : ∀ (f : Nat) (l : List Nat) (L : List (Nat × Nat)), Good n1 L → Good n1 (collect h n1 f l L)
  | 0, _, L, g => g
  | f + 1, [], L, g => g
  | f + 1, b :: r, L, g => by
    unfold collect
    cases hb : Nat.blt b n1 with
    | true => exact collect_good f r L g
    | false =>
      simp only [cond_false]
      cases hl : lookN b L with
      | some c => exact collect_good f r L g
      | none =>
        simp only [forceN_eq]
        refine collect_good f _ _ ⟨rfl, ?_, hl, g⟩
        rcases Nat.lt_or_ge b n1 with q | q
        · rw [natBlt.2 q] at hb; cases hb
        · exact q
theorem forceP_eq {β : Type} : ∀ (l : List (Nat × Nat)) (k : List (Nat × Nat) → β), forceP l k = k l
  | [], _ => rfl
  | p :: l, k => by
    show forceN p.1 (fun a => forceN p.2 fun b => forceP l fun l => k ((a, b) :: l)) = _
    rw [forceN_eq, forceN_eq, forceP_eq l]
def Ren.inv (ρ : Ren) (n1 : Nat) (L : List (Nat × Nat)) : Ren := fun x => if x < n1 then ρ x else (invN x L).bind ρ
/-- π says of each name what it is called in ρ' -/
def Names (π : Nat → Option Nat) (ρ ρ' : Ren) : Prop := ∀ b c loc, π b = some c → ρ b = some loc → ρ' c = some loc
theorem names_of {n1 : Nat} {L : List (Nat × Nat)} {ρ : Ren} (g : Good n1 L) : Names (nameOf n1 L) ρ (ρ.inv n1 L) := by
  intro b c loc h hb
  unfold nameOf at h
  unfold Ren.inv
  cases hx : Nat.blt b n1 with
  | true =>
    rw [hx] at h
    obtain rfl := Option.some.inj h
    rw [if_pos (natBlt.1 hx)]; exact hb
  | false =>
    rw [hx] at h
    obtain ⟨h1, h2, h3, h4⟩ := g.look h
    rw [if_neg (by omega), h4]
    exact hb
theorem isRow_renA {π : Nat → Option Nat} {v : AV} (h : isRow v = true) : isRow (renA π v) = true := by cases v <;> first | rfl | cases h
theorem renA_R {π : Nat → Option Nat} {ρ ρ' : Ren} (hπ : Names π ρ ρ') : ∀ (v : AV) (L : List Value), RR ρ v L → RR ρ' (renA π v) L := by
  intro v
  induction v with
  | ptr b off =>
    rintro L ⟨loc, e, hL⟩
    show RR ρ' (onName (π b) fun c => .ptr c off) L
    cases hb : π b with
    | none => subst hL; exact ⟨_, rfl⟩
    | some c => exact ⟨loc, hπ _ _ _ hb e, hL⟩
  | slc b off len cap esz opn =>
    rintro L ⟨loc, c', e, hL, r⟩
    show RR ρ' (onName (π b) fun b => .slc b off len cap esz opn) L
    cases hb : π b with
    | none => subst hL; exact ⟨_, rfl⟩
    | some c => exact ⟨loc, c', hπ _ _ _ hb e, hL, r⟩
  | capv b off esz =>
    rintro L ⟨loc, c', e, hL, r⟩
    show RR ρ' (onName (π b) fun b => .capv b off esz) L
    cases hb : π b with
    | none => subst hL; exact ⟨_, rfl⟩
    | some c => exact ⟨loc, c', hπ _ _ _ hb e, hL, r⟩
  | map b =>
    rintro L ⟨loc, e, hL⟩
    show RR ρ' (onName (π b) fun b => .map b) L
    cases hb : π b with
    | none => subst hL; exact ⟨_, rfl⟩
    | some c => exact ⟨loc, hπ _ _ _ hb e, hL⟩
  | yield b =>
    rintro L ⟨loc, e, hL⟩
    show RR ρ' (onName (π b) fun b => .yield b) L
    cases hb : π b with
    | none => subst hL; exact ⟨_, rfl⟩
    | some c => exact ⟨loc, hπ _ _ _ hb e, hL⟩
  | opq b =>
    rintro L ⟨loc, e, hL, h1⟩
    show RR ρ' (onName (π b) fun b => .opq b) L
    cases hb : π b with
    | none => subst hL; exact ⟨_, rfl⟩
    | some c => exact ⟨loc, hπ _ _ _ hb e, hL, h1⟩
  | fn f a c iha ihc => rintro L ⟨F, Cc, e, h1, h2, h3, h4⟩; exact ⟨F, Cc, e, isRow_renA h1, isRow_renA h2, iha _ h3, ihc _ h4⟩
  | iface t v ih => rintro L ⟨V, e, r⟩; exact ⟨V, e, ih _ r⟩
  | agg l ih => rintro L ⟨cs, e, h1, r, o⟩; exact ⟨cs, e, isRow_renA h1, ih _ r, o⟩
  | tup l ih => rintro L ⟨cs, e, h1, r⟩; exact ⟨cs, e, isRow_renA h1, ih _ r⟩
  | cons a l iha ihl => rintro L ⟨V, Vs, e, h1, h2, h3⟩; exact ⟨V, Vs, e, isRow_renA h1, iha _ h2, ihl _ h3⟩
  | _ => exact fun L r => r
theorem renA_V {π : Nat → Option Nat} {ρ ρ' : Ren} (hπ : Names π ρ ρ') {v : AV} {V : Value} (h : RV ρ v V) : RV ρ' (renA π v) V := renA_R hπ v _ h
noncomputable def renT (π : Nat → Option Nat) (t : Ts) : Ts := renTK π t id
theorem renTK_node {β : Type} (π : Nat → Option Nat) (l r : Ts) (o : Option AV) (k : Ts → β) :
    renTK π (.node l o r) k = renTK π l fun l => Option.rec (motive := fun _ => β) (renTK π r fun r => k (.node l none r)) (fun a => forceV (renA π a) fun a => renTK π r fun r => k (.node l (some a) r)) o := rfl
theorem renTK_eq {β : Type} (π : Nat → Option Nat) : ∀ (t : Ts) (k : Ts → β), renTK π t k = k (renT π t) := by
  intro t
  induction t generalizing β with
  | nil => intro k; rfl
  | node l o r ihl ihr =>
    intro k
    unfold renT
    rw [renTK_node, renTK_node, ihl, ihl]
    cases o with
    | none => show renTK π r _ = k (renTK π r _); rw [ihr, ihr]; rfl
    | some a => show forceV _ _ = k (forceV _ _); rw [forceV_eq, forceV_eq, ihr, ihr]; rfl
theorem renT_node (π : Nat → Option Nat) (l r : Ts) (o : Option AV) : renT π (.node l o r) = .node (renT π l) (o.map fun v => (renA π v).tidy) (renT π r) := by
  show renTK π (.node l o r) id = _
  rw [renTK_node, renTK_eq]
  cases o with
  | none => show renTK π r _ = _; rw [renTK_eq]; rfl
  | some a => show forceV _ _ = _; rw [forceV_eq, renTK_eq]; rfl
theorem renT_at (π : Nat → Option Nat) : ∀ (t : Ts) (p : Pa), (renT π t).at p = (t.at p).map fun v => (renA π v).tidy
  | .nil, p => by rw [Tr.at_nil]; show Tr.at Tr.nil p = _; rw [Tr.at_nil]; rfl
  | .node l o r, .o => by rw [renT_node]; rfl
  | .node l o r, .l p => by rw [renT_node]; exact renT_at π l p
  | .node l o r, .r p => by rw [renT_node]; exact renT_at π r p
theorem renT_R {π : Nat → Option Nat} {ρ ρ' : Ren} (hπ : Names π ρ ρ') {ts : Ts} {tmps : Array Value} (h : tmpR ρ ts tmps) : tmpR ρ' (renT π ts) tmps := by
  intro t
  have := h t
  unfold tmpA at this ⊢
  rw [renT_at]
  cases hx : ts.at (pa t) with
  | none => rw [hx] at this; exact renA_V hπ (v := .tup .nil) this
  | some v => rw [hx] at this; exact RV_tidy (renA_V hπ this)
noncomputable def renO (π : Nat → Option Nat) (o : AO) : AO := renOK π o id
theorem renOK_eq {β : Type} (π : Nat → Option Nat) (o : AO) (k : AO → β) : renOK π o k = k (renO π o) := by
  cases o with
  | miter m a b c =>
    cases m with
    | none => rfl
    | some m => simp only [renO, renOK]; cases π m <;> rfl
  | loop L => simp only [renO, renOK]; cases π L.defers <;> simp [renTK_eq]
  | _ => simp [renO, renOK]
theorem renL_R {π : Nat → Option Nat} : ∀ {l : List AV} {i : Nat} {v : AV}, (renL π l)[i]? = some v → ∃ u, l[i]? = some u ∧ v = renA π u
  | [], i, v, h => by simp [renL] at h
  | a :: l, 0, v, h => by simp [renL] at h; exact ⟨a, rfl, h.symm⟩
  | a :: l, i + 1, v, h => by simpa using renL_R (l := l) (i := i) (v := v) (by simpa [renL] using h)
theorem renL_length {π : Nat → Option Nat} : ∀ (l : List AV), (renL π l).length = l.length
  | [] => rfl
  | a :: l => by simp [renL, renL_length l]
theorem renE_R {π : Nat → Option Nat} {ρ ρ' : Ren} (hπ : Names π ρ ρ') : ∀ {es : List ME} {E : List MapEntry}, All2 (REnt ρ) es E → All2 (REnt ρ') ((renE π es).map ME.tidy) E
  | [], [], _ => trivial
  | _ :: _, _ :: _, h => ⟨⟨h.1.1, RV_tidy (renA_V hπ h.1.2.1), RV_tidy (renA_V hπ h.1.2.2)⟩, renE_R hπ h.2⟩
  | [], _ :: _, h => h.elim
  | _ :: _, [], h => h.elim
theorem renO_live {π : Nat → Option Nat} {o : AO} (h : (renO π o).live) : o.live := by cases o <;> first | trivial | exact h
theorem renO_own {π : Nat → Option Nat} {o : AO} (h : (renO π o).own) : o.own := by
  cases o with
  | ro l => simp only [renO, renOK, forceL_eq, id] at h; exact h
  | dead => exact h
  | _ => trivial
theorem renO_R {S : Nat → Nat → Code → Code → Prop} {π : Nat → Option Nat} {ρ ρ' : Ren} (hπ : Names π ρ ρ') {o : AO} {loc : Loc} {W : Obj} (h : ObjR S ρ o loc W) : ObjR S ρ' (renO π o) loc W := by
  cases o with
  | dead => trivial
  | ro l =>
    obtain ⟨c, e, fz, hW, hl, hc⟩ := h
    simp only [renO, renOK, forceL_eq, id]
    refine ⟨c, e, fz, hW, by rw [renL_length]; exact hl, fun i v hi => ?_⟩
    obtain ⟨u, hu, rfl⟩ := renL_R hi
    obtain ⟨V, a, b, d⟩ := hc i u hu
    exact ⟨V, a, renA_V hπ b, d⟩
  | cells l opn fr =>
    obtain ⟨c, e, fz, hW, ⟨h1, h2, h3, h4⟩, h5, h6⟩ := h
    simp only [renO, renOK, forceL_eq, id]
    refine ⟨c, e, fz, hW, ⟨fun i v hi => ?_, h2, by rw [renL_length]; exact h3, h4⟩, h5, by rw [renL_length]; exact h6⟩
    obtain ⟨u, hu, rfl⟩ := renL_R hi
    obtain ⟨V, a, b⟩ := h1 i u hu
    exact ⟨V, a, renA_V hπ b⟩
  | map es clock =>
    obtain ⟨E, hW, hE⟩ := h
    simp only [renO, renOK, forceE_eq, id]
    exact ⟨E, hW, renE_R hπ hE⟩
  | siter l pos => exact h
  | miter m a b c =>
    cases m with
    | none => exact h
    | some m =>
      obtain ⟨h0, hs, loc', e, hW⟩ := h
      simp only [renO, renOK]
      cases hm : π m with
      | none => trivial
      | some m' => exact ⟨h0, hs, loc', hπ _ _ _ hm e, hW⟩
  | loop L =>
    obtain ⟨l, hW, h1, h2, h3, h4, h5, h6, ⟨loc', e, h7⟩⟩ := h
    simp only [renO, renOK]
    cases hd : π L.defers with
    | none => trivial
    | some d =>
      simp only [renTK_eq, id]
      exact ⟨l, hW, h1, h2, renT_R hπ h3, h4, h5, h6, ⟨loc', hπ _ _ _ hd e, h7⟩⟩
  | deferred d => exact h
theorem lowT_node {β : Type} (π : Nat → Option Nat) (n1 : Nat) (l r : Hp) (o : Option AO) (a b : Nat) (k : Hp → β) :
    lowT π n1 (.node l o r) a b k = cond (Nat.blt b n1) (forceN (Nat.add a b) fun ab => forceN (Nat.add a a) fun a2 => forceN (Nat.add a2 b) fun a2b => lowT π n1 l a2 ab fun l => lowT π n1 r a2 a2b fun r =>
      Option.rec (motive := fun _ => β) (k (.node l none r)) (fun o => renOK π o fun o => k (.node l (some o) r)) o) (k .nil) := rfl
theorem lowT_eq {β : Type} (π : Nat → Option Nat) (n1 : Nat) : ∀ (t : Hp) (a b : Nat) (k : Hp → β), lowT π n1 t a b k = k (lowT π n1 t a b id) := by
  intro t
  induction t generalizing β with
  | nil => intro a b k; rfl
  | node l o r ihl ihr =>
    intro a b k
    rw [lowT_node, lowT_node]
    cases Nat.blt b n1 with
    | false => rfl
    | true =>
      simp only [cond_true, forceN_eq]
      rw [ihl, ihl (k := fun l => lowT π n1 r (Nat.add a a) (Nat.add (Nat.add a a) b) fun r => Option.rec (motive := fun _ => Hp) (id (.node l none r)) (fun o => renOK π o fun o => id (.node l (some o) r)) o)]
      rw [ihr, ihr (k := fun r => Option.rec (motive := fun _ => Hp) (id (.node _ none r)) (fun o => renOK π o fun o => id (.node _ (some o) r)) o)]
      cases o with
      | none => rfl
      | some o => show renOK π o _ = k (renOK π o _); rw [renOK_eq, renOK_eq]; rfl
theorem lowT_get (π : Nat → Option Nat) (n1 : Nat) : ∀ (t : Hp) (a b j : Nat), (lowT π n1 t a b id).get j = if a * j + b < n1 then (t.get j).map (renO π) else none := by
  intro t
  induction t with
  | nil => intro a b j; show Tr.get Tr.nil j = _; rw [Tr.get_nil]; split <;> rfl
  | node l o r ihl ihr =>
    intro a b j
    rw [lowT_node]
    cases hb : Nat.blt b n1 with
    | false =>
      have hge : ¬ b < n1 := fun q => by rw [natBlt.2 q] at hb; cases hb
      show Tr.get Tr.nil j = _
      rw [Tr.get_nil, if_neg]
      have : b ≤ a * j + b := Nat.le_add_left _ _
      omega
    | true =>
      have hlt := natBlt.1 hb
      simp only [cond_true, forceN_eq]
      rw [lowT_eq, lowT_eq π n1 r]
      have key : ∀ (l' r' : Hp), (Option.rec (motive := fun _ => Hp) (id (Tr.node l' none r')) (fun o => renOK π o fun o => id (Tr.node l' (some o) r')) o) = Tr.node l' (o.map (renO π)) r' := fun l' r' => by
        cases o with
        | none => rfl
        | some o => show renOK π o _ = _; rw [renOK_eq]; rfl
      rw [key]
      cases j with
      | zero =>
        rw [Tr.get_node_zero, Tr.get_node_zero, Nat.mul_zero, Nat.zero_add, if_pos hlt]
      | succ m =>
        rw [Tr.get_node_succ, Tr.get_node_succ]
        split
        · rename_i hm
          rw [ihl]
          have e : Nat.add a a * (m / 2) + Nat.add a b = a * (m + 1) + b := by
            have h2 : m = 2 * (m / 2) := by omega
            show (a + a) * (m / 2) + (a + b) = _
            calc (a + a) * (m / 2) + (a + b) = a * (2 * (m / 2)) + (a + b) := by rw [← Nat.two_mul, Nat.mul_comm 2 a, Nat.mul_assoc]
              _ = a * m + (a + b) := by rw [← h2]
              _ = a * (m + 1) + b := by rw [Nat.mul_succ, Nat.add_assoc]
          rw [e]
        · rename_i hm
          rw [ihr]
          have e : Nat.add a a * (m / 2) + Nat.add (Nat.add a a) b = a * (m + 1) + b := by
            have h2 : m = 2 * (m / 2) + 1 := by omega
            show (a + a) * (m / 2) + (a + a + b) = _
            calc (a + a) * (m / 2) + (a + a + b) = a * (2 * (m / 2)) + (a + a + b) := by rw [← Nat.two_mul, Nat.mul_comm 2 a, Nat.mul_assoc]
              _ = a * (2 * (m / 2) + 1) + (a + b) := by rw [Nat.mul_succ]; omega
              _ = a * m + (a + b) := by rw [← h2]
              _ = a * (m + 1) + b := by rw [Nat.mul_succ, Nat.add_assoc]
          rw [e]
theorem addT_eq {β : Type} (π : Nat → Option Nat) (h : Hp) : ∀ (L : List (Nat × Nat)) (t : Hp) (k : Hp → β), addT π h L t k = k (addT π h L t id) := by
  intro L
  induction L generalizing β with
  | nil => intro t k; rfl
  | cons p L ih =>
    intro t k
    show addT π h L t (fun t => Option.rec (motive := fun _ => β) (k t) (fun o => renOK π o fun o => t.putK p.2 o k) (h.get p.1)) = k (addT π h L t fun t => Option.rec (motive := fun _ => Hp) (id t) (fun o => renOK π o fun o => t.putK p.2 o id) (h.get p.1))
    rw [ih, ih (k := fun t => Option.rec (motive := fun _ => Hp) (id t) (fun o => renOK π o fun o => t.putK p.2 o id) (h.get p.1))]
    cases h.get p.1 with
    | none => rfl
    | some o => show renOK π o _ = k (renOK π o _); rw [renOK_eq, renOK_eq, Tr.putK_eq, Tr.putK_eq]; rfl
theorem addT_get (π : Nat → Option Nat) (h : Hp) {n1 : Nat} : ∀ (L : List (Nat × Nat)) (t : Hp) (x : Nat), Good n1 L →
    (addT π h L t id).get x = match (invN x L).bind h.get with | some o => some (renO π o) | none => t.get x := by
  intro L
  induction L with
  | nil => intro t x _; rfl
  | cons p L ih =>
    intro t x g
    obtain ⟨g1, g2, g3, g4⟩ := g
    have hstep : addT π h (p :: L) t id = Option.rec (motive := fun _ => Hp) (addT π h L t id) (fun o => (addT π h L t id).put p.2 (renO π o)) (h.get p.1) := by
      show addT π h L t (fun t => Option.rec (motive := fun _ => Hp) (id t) (fun o => renOK π o fun o => t.putK p.2 o id) (h.get p.1)) = _
      rw [addT_eq]
      cases h.get p.1 with
      | none => rfl
      | some o => show renOK π o _ = _; rw [renOK_eq, Tr.putK_eq]; rfl
    rw [hstep]
    unfold invN
    by_cases e : p.2 = x
    · rw [if_pos e]
      have hnone : invN x L = none := by
        cases hi : invN x L with
        | none => rfl
        | some b =>
          have := (Good.look g4 (Good.inv g4 hi)).2.2.1
          omega
      cases ho : h.get p.1 with
      | none =>
        show (addT π h L t id).get x = _
        rw [ih t x g4, hnone]
        simp [ho]
      | some o =>
        show ((addT π h L t id).put p.2 (renO π o)).get x = _
        rw [Tr.get_put, if_pos e.symm]
        simp [ho]
    · rw [if_neg e]
      cases ho : h.get p.1 with
      | none => exact ih t x g4
      | some o =>
        show ((addT π h L t id).put p.2 (renO π o)).get x = _
        rw [Tr.get_put, if_neg (Ne.symm e)]
        exact ih t x g4
theorem renDs_R {π : Nat → Option Nat} {ρ ρ' : Ren} (hπ : Names π ρ ρ') : ∀ {ds ds' : List Nat} {L : List Deferred}, renDs π ds = some ds' → All2 (fun l (d : Deferred) => ∃ loc, ρ l = some loc ∧ d = { target := .collected loc.blk, args := #[] }) ds L →
    All2 (fun l (d : Deferred) => ∃ loc, ρ' l = some loc ∧ d = { target := .collected loc.blk, args := #[] }) ds' L
  | [], ds', [], h, _ => by obtain rfl := Option.some.inj h; trivial
  | d :: ds, ds', x :: L, h, r => by
    simp only [renDs, bindO_eq, Option.bind_eq_some_iff] at h
    obtain ⟨c, hc, m, hm, h⟩ := h
    obtain rfl := Option.some.inj h
    obtain ⟨⟨loc, hl, hd⟩, r⟩ := r
    exact ⟨⟨loc, hπ _ _ _ hc hl, hd⟩, renDs_R hπ hm r⟩
  | [], _, _ :: _, _, r => r.elim
  | _ :: _, _, [], _, r => r.elim
theorem canonX_under {n1 : Nat} {r' r : XR} (e : canonX n1 r' = some r) : Under n1 r' r := by
  unfold canonX at e
  rw [forceP_eq] at e
  have g := collect_good (h := r'.h) (n1 := n1) 4000 (rootsT r'.ts 48 0) [] trivial
  generalize collect r'.h n1 4000 (rootsT r'.ts 48 0) [] = L at e g
  simp only [bindO_eq, Option.bind_eq_some_iff, renTK_eq] at e
  obtain ⟨ds, hds, e⟩ := e
  rw [lowT_eq, addT_eq] at e
  simp only [forceN_eq] at e
  obtain rfl := Option.some.inj e
  refine ⟨rfl, fun C nt ρ1 ρ ro b a w hle hn hgl hro hres hpsi s => ⟨ρ.inv n1 L, fun x l hx => ?_, ?_⟩⟩
  · have hlt : x < n1 := by
      rcases Nat.lt_or_ge x n1 with q | q
      · exact q
      · rw [hn x q] at hx; cases hx
    unfold Ren.inv
    rw [if_pos hlt]
    exact hle x l hx
  · have hπ := names_of (ρ := ρ) g
    have hle' : ρ1.le (ρ.inv n1 L) := fun x l hx => by
      have hlt : x < n1 := by
        rcases Nat.lt_or_ge x n1 with q | q
        · exact q
        · rw [hn x q] at hx; cases hx
      unfold Ren.inv
      rw [if_pos hlt]
      exact hle x l hx
    -- an object of the new memory, and whose it was
    have back : ∀ x o loc, (addT (nameOf n1 L) r'.h L (lowT (nameOf n1 L) n1 r'.h 1 0 id) id).get x = some o → o.live → ρ.inv n1 L x = some loc →
        ∃ y o0, r'.h.get y = some o0 ∧ o = renO (nameOf n1 L) o0 ∧ ρ y = some loc ∧ (if x < n1 then some x else invN x L) = some y := fun x o loc hx hl hρ => by
      rw [addT_get _ _ L _ x g, lowT_get] at hx
      unfold Ren.inv at hρ
      by_cases hlt : x < n1
      · have hnone : invN x L = none := by
          cases hi : invN x L with
          | none => rfl
          | some q => have := (g.look (g.inv hi)).2.1; omega
        rw [hnone] at hx
        simp only [Option.bind_none, Nat.one_mul, Nat.add_zero, if_pos hlt, Option.map_eq_some_iff] at hx
        obtain ⟨o0, h0, h1⟩ := hx
        rw [if_pos hlt] at hρ
        exact ⟨x, o0, h0, h1.symm, hρ, by rw [if_pos hlt]⟩
      · rw [if_neg hlt] at hρ
        simp only [Nat.one_mul, Nat.add_zero, if_neg hlt] at hx
        cases hi : invN x L with
        | none => rw [hi] at hρ; cases hρ
        | some y =>
          rw [hi] at hρ hx
          have hρ' : ρ y = some loc := hρ
          simp only [Option.bind_some] at hx
          cases h0 : r'.h.get y with
          | none => rw [h0] at hx; cases hx
          | some o0 =>
            rw [h0] at hx
            have := Option.some.inj hx
            exact ⟨y, o0, h0, this.symm, hρ', by rw [if_neg hlt]⟩
    refine ⟨⟨fun x o loc hx hl hρ => ?_, fun x x' o o' loc loc' hx hl hρ hx' hl' hρ' hne => ?_, fun x o loc hx hl hρ => ?_, s.H.low, s.H.size, fun x hx => ?_, fun q hq => ?_, s.H.os, s.H.output, s.H.tape, fun q hq => ?_, C.hΨ hle' hpsi⟩, renT_R hπ s.tmps, s.size, renDs_R hπ hds s.ds, s.kind, St.mono_ro hle' hro⟩
    · obtain ⟨y, o0, h0, rfl, hy, _⟩ := back x o loc hx hl hρ
      obtain ⟨W, hW, hO⟩ := s.H.obj y o0 loc h0 (renO_live hl) hy
      exact ⟨W, hW, renO_R hπ hO⟩
    · obtain ⟨y, o0, h0, rfl, hy, h1⟩ := back x o loc hx hl hρ
      obtain ⟨y', o0', h0', rfl, hy', h1'⟩ := back x' o' loc' hx' hl' hρ'
      refine s.H.inj y y' o0 o0' loc loc' h0 (renO_live hl) hy h0' (renO_live hl') hy' fun hyy => hne ?_
      subst hyy
      split at h1 <;> split at h1'
      · exact (Option.some.inj h1).trans (Option.some.inj h1').symm
      · have a1 := Option.some.inj h1
        have a2 := (g.look (g.inv h1')).1
        omega
      · have a1 := Option.some.inj h1'
        have a2 := (g.look (g.inv h1)).1
        omega
      · have a1 := g.inv h1
        have a2 := g.inv h1'
        rw [a1] at a2
        exact Option.some.inj a2
    · obtain ⟨y, o0, h0, rfl, hy, _⟩ := back x o loc hx hl.live hρ
      exact s.H.own y o0 loc h0 (renO_own hl) hy
    · unfold Ren.inv
      have hx' : n1 + L.length ≤ x := hx
      rw [if_neg (by omega)]
      cases hi : invN x L with
      | none => rfl
      | some y => have := (g.look (g.inv hi)).2.2.1; omega
    · obtain ⟨sz, hq⟩ := hgl q hq
      exact ⟨sz, hle' _ _ hq⟩
    · have hlt := hres q hq
      refine ⟨by show q < n1 + L.length; omega, ?_⟩
      unfold Ren.inv
      rw [if_pos hlt]
      exact (s.H.res q hq).2
theorem joinX_under {n1 : Nat} {x y r : XR} (e : joinX n1 x y = some r) : Under n1 x r ∧ Under n1 y r := by
  simp only [joinX, bindO_eq, Option.bind_eq_some_iff] at e
  obtain ⟨a, ha, b, hb, e⟩ := e
  obtain ⟨u1, u2⟩ := mergeX_under n1 e
  exact ⟨(canonX_under ha).trans u1, (canonX_under hb).trans u2⟩

/-! ### an iterator over a map -/
theorem eachLeft_some {n1 : Nat} {go : AV → Hp → Option XR} {h : Hp} {it m since : Nat} {seen : List Nat} {clock : Nat} : ∀ (es : List ME) (r : XR), eachLeft n1 go h it m since seen clock es = some r → ∀ e ∈ es,
    ∃ r', go (.tup (.cons (.bool true) (.cons e.key (.cons e.val .nil)))) (h.put it (.miter (some m) since (seen ++ [e.born]) clock)) = some r' ∧ Under n1 r' r
  | [], _, e, _, _ => by cases e
  | x :: es, r, e, y, hy => by
    simp only [eachLeft, bindO_eq, Tr.putK_eq, Option.bind_eq_some_iff] at e
    obtain ⟨r1, h1, e⟩ := e
    cases es with
    | nil =>
      obtain rfl := Option.some.inj e
      simp at hy
      subst hy
      exact ⟨r1, h1, Under.refl _ _⟩
    | cons x' es' =>
      have e' : ((eachLeft n1 go h it m since seen clock (x' :: es')).bind fun b => joinX n1 r1 b) = some r := e
      simp only [Option.bind_eq_some_iff] at e'
      obtain ⟨r2, h2, h3⟩ := e'
      obtain ⟨u1, u2⟩ := joinX_under h3
      simp only [List.mem_cons] at hy
      rcases hy with rfl | hy
      · exact ⟨r1, h1, u1⟩
      · obtain ⟨r', h4, u4⟩ := eachLeft_some (x' :: es') r2 h2 y (by simpa using hy)
        exact ⟨r', h4, u4.trans u2⟩
theorem allOld_lt {since : Nat} : ∀ {es : List ME}, allOld since es = true → ∀ e ∈ es, e.born < since
  | [], _, _, h => by simp at h
  | x :: es, h, e, he => by
    simp only [allOld] at h
    cases hb : Nat.blt x.born since with
    | false => rw [hb] at h; cases h
    | true =>
      rw [hb] at h
      simp only [List.mem_cons] at he
      rcases he with rfl | he
      · exact natBlt.1 hb
      · exact allOld_lt h e he
theorem mem_iff {n : Nat} : ∀ {l : List Nat}, mem n l = l.contains n
  | [] => rfl
  | a :: l => by
    simp only [mem, List.contains_cons]
    cases hb : Nat.beq a n with
    | true => have := natBeq.1 hb; subst this; simp
    | false =>
      have : ¬ a = n := fun e => by rw [natBeq.2 e] at hb; cases hb
      have h2 : (n == a) = false := by simp; exact fun e => this e.symm
      simp only [cond_false, h2, Bool.false_or]
      exact mem_iff
theorem All2_left {ρ : Ren} {seen : List Nat} : ∀ {es : List ME} {E : List MapEntry}, All2 (REnt ρ) es E → All2 (REnt ρ) (leftOf seen es) (E.filter fun x => !seen.contains x.born)
  | [], [], _ => trivial
  | e :: es, x :: E, h => by
    simp only [Eng.leftOf, List.filter_cons, h.1.1]
    rw [mem_iff]
    cases hc : seen.contains e.born with
    | true => simp only [cond_true, Bool.not_true, Bool.false_eq_true, if_false]; exact All2_left h.2
    | false => simp only [cond_false, Bool.not_false, if_true]; exact ⟨h.1, All2_left h.2⟩
  | [], _ :: _, h => h.elim
  | _ :: _, [], h => h.elim
theorem All2.mem_right {α β : Type} {R : α → β → Prop} : ∀ {l : List α} {m : List β}, All2 R l m → ∀ y ∈ m, ∃ x ∈ l, R x y
  | [], [], _, _, h => by simp at h
  | x :: l, z :: m, h, y, hy => by
    simp only [List.mem_cons] at hy
    rcases hy with rfl | hy
    · exact ⟨x, by simp, h.1⟩
    · obtain ⟨x', h1, h2⟩ := All2.mem_right h.2 y hy
      exact ⟨x', by simp [h1], h2⟩
  | [], _ :: _, h, _, _ => h.elim
  | _ :: _, [], h, _, _ => h.elim

/-- the rest of a run, from each of its ways on -/
theorem goNext_sound {n1 : Nat} {go : AV → Hp → Option XR} {x : AV} {X : Value} {r : XR} (H : HR C ρ h n w) (hx : RV ρ x X) (e : goNext n1 go h x = some r) (ty : TypeId) :
    ∃ v V h' w' r', (Instr.next X false ty).run P w = .ok V w' ∧ RV ρ v V ∧ HR C ρ h' n w' ∧ go v h' = some r' ∧ Under n1 r' r := by
  unfold goNext at e
  split at e
  · rename_i b
    obtain ⟨loc, hb, rfl⟩ := RV_ptr.1 hx
    split at e
    · rename_i hg
      obtain ⟨W, hW, hsh, a1, a2, a3, rfl⟩ := H.obj b _ loc hg trivial hb
      refine ⟨.tup (.cons (.bool false) .nil), .tuple #[.bool false], h, w, r, ?_, RV_ofL_tup (l := [.bool false]) (cs := [.bool false]) ⟨RV_bool.2 rfl, trivial⟩, H, e, Under.refl _ _⟩
      rw [hsh]
      simp [Instr.next, getObj, Sem.run_bind, Sem.run, hW, Result.andThen]
    · rename_i m since seen stepped hg
      obtain ⟨W, hW, hsh, hle, loc', hm, rfl⟩ := H.obj b _ loc hg trivial hb
      unfold nextMap at e
      split at e
      · rename_i es clock hgm
        obtain ⟨W', hW', E, rfl, hE⟩ := H.obj m _ loc' hgm trivial hm
        simp only [guardB_some] at e
        obtain ⟨hold, hsc, e⟩ := e
        rw [natBle] at hsc
        have hold' : ∀ x ∈ E.toList, x.born < since := fun x hx => by
          obtain ⟨y, hy, hr⟩ := hE.mem_right x hx
          rw [hr.1]; exact allOld_lt hold y hy
        have hL := All2_left (seen := seen) hE
        have hfil : (Go.leftOf E seen.toArray).toList = E.toList.filter fun x => !seen.contains x.born := by
          simp [Go.leftOf]
        rcases Go.run_next_at (P := P) w ty loc.blk loc'.blk since stepped seen.toArray E clock (by rw [hW]) hW' hold' hle with ⟨h0, hrun⟩ | ⟨x, hx', w1, hw1, hrun⟩
        · have hnil : leftOf seen es = [] := by
            have h1 := hL.length
            rw [← hfil] at h1
            have h2 : (Go.leftOf E seen.toArray).toList.length = 0 := by simpa using h0
            exact List.eq_nil_of_length_eq_zero (h1.trans h2)
          rw [hnil] at e
          refine ⟨.tup (.cons (.bool false) .nil), .tuple #[.bool false], h, w, r, ?_, RV_ofL_tup (l := [.bool false]) (cs := [.bool false]) ⟨RV_bool.2 rfl, trivial⟩, H, e, Under.refl _ _⟩
          rw [hsh]; simpa using hrun
        · rw [hfil] at hx'
          obtain ⟨y, hy, hr⟩ := hL.mem_right x hx'
          cases hle' : leftOf seen es with
          | nil => rw [hle'] at hy; simp at hy
          | cons e0 es0 =>
            rw [hle'] at e hy
            obtain ⟨r', hgo, hu⟩ := eachLeft_some _ r e y hy
            have H1 : HR C ρ h n w1 := by
              rcases hw1 with rfl | rfl
              · exact H
              · exact H.drew _
            have hW1 : w1.heap[loc.blk]? = some (.mapIter (some loc'.blk) since seen.toArray stepped) := by
              rcases hw1 with rfl | rfl
              · exact hW
              · exact hW
            have hlt := (Array.getElem?_eq_some_iff.1 hW1).1
            refine ⟨.tup (.cons (.bool true) (.cons y.key (.cons y.val .nil))), .tuple #[.bool true, x.key, x.val], _, _, r', by rw [hsh]; simpa using hrun, RV_ofL_tup (l := [.bool true, y.key, y.val]) (cs := [.bool true, x.key, x.val]) ⟨RV_bool.2 rfl, hr.2.1, hr.2.2, trivial⟩, ?_, hgo, hu⟩
            refine H1.set (W' := .mapIter (some loc'.blk) since (seen.toArray.push x.born) clock) hg trivial hb ⟨hsh, ?_, loc', hm, ?_⟩ (by simp [Go.ChangeMaps.setBlock, hlt]) (fun k hk _ => by simp [Go.ChangeMaps.setBlock, Array.getElem?_setIfInBounds_ne (Ne.symm hk)]) (by simp [Go.ChangeMaps.setBlock]) rfl rfl rfl
            · exact hsc
            · rw [hr.1]; simp
      · cases e
    · cases e
  · cases e
end
end Go.Eng
namespace Go.Eng
open Go
section
variable {P : Program} {T : Tab} {Φ : Cx → Prop} {ng nt : Nat} {C : Cx} {run : Rec} {ρ : Ren} {ro : Option Nat} {ts : Ts} {ds : List Nat} {h : Hp} {n : Nat} {b : Frame} {a : Act} {w : World} {os : Array Oper} {o : Oper} {i : Nat} {l : List Nat} {k : List TI} {L K : List Item} {cs : List Frame} {r : XR}

/-! ### N > a capacity -/
theorem HR.recast (H : HR C ρ h n w) {b : Nat} {o o' : AO} {loc : Loc} (he : h.get b = some o) (ho : o.own) (hb : ρ b = some loc) (hO : ∀ W, w.heap[loc.blk]? = some W → ObjR C.S ρ o loc W → ObjR C.S ρ o' loc W) : HR C ρ (h.put b o') n w := by
  obtain ⟨W, hW, hOb⟩ := H.obj b o loc he ho.live hb
  exact H.set he ho hb (hO W hW hOb) hW (fun _ _ _ => rfl) (Nat.le_refl _) rfl rfl rfl
theorem repL_one (z : Nat) : repL z [AV.junk] = List.replicate z .junk := by
  induction z with
  | zero => rfl
  | succ z ih => simp [repL, ih, List.replicate_succ]
theorem capGt_sound {n1 : Nat} {go : AV → Hp → Option XR} {N bk off z c : Nat} {loc : Loc} (H : HR C ρ h n w) (hb : ρ bk = some loc) (hc : off + c * z = loc.size) (hz : 0 < z) (e : capGt n1 go h N bk off z = some r) :
    ∃ h' r', HR C ρ h' n w ∧ go (.bool (decide (c < N))) h' = some r' ∧ Under n1 r' r := by
  unfold capGt at e
  split at e
  · rename_i rw_ op fr hg
    obtain ⟨W, hW, cc, el, fz, hWe, ⟨h1, h2, h3, h4⟩, h5, h6⟩ := H.obj bk _ loc hg trivial hb
    cases hle : Nat.ble (Nat.add off (Nat.mul N z)) rw_.length with
    | true =>
      rw [hle] at e
      have hle' : off + N * z ≤ rw_.length := natBle.1 hle
      have : ¬ c < N := fun hlt => by
        have : (c + 1) * z ≤ N * z := Nat.mul_le_mul_right z hlt
        rw [Nat.succ_mul] at this
        omega
      exact ⟨h, r, H, by simpa [this] using e, Under.refl _ _⟩
    | false =>
      rw [hle] at e
      have hgt : ¬ off + N * z ≤ rw_.length := fun x => by rw [show Nat.ble (Nat.add off (Nat.mul N z)) rw_.length = true from natBle.2 x] at hle; cases hle
      cases op with
      | false =>
        simp only [cond_false] at e
        have hs := h6 rfl
        have : c < N := by
          rcases Nat.lt_or_ge c N with x | x
          · exact x
          · have : N * z ≤ c * z := Nat.mul_le_mul_right z x
            omega
        exact ⟨h, r, H, by simpa [this] using e, Under.refl _ _⟩
      | true =>
        simp only [cond_false, cond_true, guardB_some, bindO_eq, Tr.putK_eq, forceL_eq, Option.bind_eq_some_iff] at e
        obtain ⟨hN, hN0, r1, he1, r2, he2, hm⟩ := e
        have hN' : off + N * z = rw_.length + z := natBeq.1 hN
        obtain ⟨u1, u2⟩ := joinX_under hm
        by_cases hs : loc.size = rw_.length
        · have : c < N := by
            rcases Nat.lt_or_ge c N with x | x
            · exact x
            · have : N * z ≤ c * z := Nat.mul_le_mul_right z x
              omega
          refine ⟨_, r1, H.recast (o' := .cells rw_ false fr) hg trivial hb (fun W hW hO => ?_), by simpa [this] using he1, u1⟩
          obtain ⟨cc, el, fz, hWe, hr, h5, h6⟩ := hO
          exact ⟨cc, el, fz, hWe, hr, h5, fun _ => hs⟩
        · have hNc : N ≤ c := by
            rcases Nat.lt_or_ge c N with x | x
            · exfalso
              have : (c + 1) * z ≤ N * z := Nat.mul_le_mul_right z x
              rw [Nat.succ_mul] at this
              omega
            · exact x
          have : ¬ c < N := by omega
          have hmul : N * z ≤ c * z := Nat.mul_le_mul_right z hNc
          refine ⟨_, r2, H.recast (o' := .cells (rw_ ++ repL z [.junk]) true fr) hg trivial hb (fun W hW hO => ?_), by simpa [this] using he2, u2⟩
          obtain ⟨cc, el, fz, hWe, ⟨g1, g2, g3, g4⟩, h5, h6⟩ := hO
          refine ⟨cc, el, fz, hWe, ⟨fun i v hi => ?_, g2, ?_, g4⟩, h5, fun x => by cases x⟩
          · rcases Nat.lt_or_ge i rw_.length with hlt | hge
            · rw [List.getElem?_append_left hlt] at hi; exact g1 i v hi
            · rw [List.getElem?_append_right hge, repL_one] at hi
              have hi' := List.getElem?_eq_some_iff.1 hi
              obtain ⟨hlt, hv⟩ := hi'
              simp only [List.length_replicate] at hlt
              simp only [List.getElem_replicate] at hv
              subst hv
              obtain ⟨V, hV, _⟩ := g2 i (by omega)
              exact ⟨V, hV, RV_junk⟩
          · rw [List.length_append, repL_one, List.length_replicate]; omega
  · cases e
theorem goBr_sound {n1 : Nat} {go : AV → Hp → Option XR} {x y : Operand} {t yt : TypeId} (hop : o.op = .binOp .gtr t x y yt) (H : HR C ρ h n w) (hX : ∀ x ∈ o.op.operands, RV ρ (xOf ng x ts) (a.eval x)) (e : goBr n1 go h (xOf ng x ts) (xOf ng y ts) = some r) :
    ∃ v V h' r', (execOp a.eval o).run P w = .ok (.value V) w ∧ RV ρ v V ∧ HR C ρ h' n w ∧ go v h' = some r' ∧ Under n1 r' r := by
  have h1 := hX x (by simp [hop, Op.operands])
  have h2 := hX y (by simp [hop, Op.operands])
  unfold goBr at e
  split at e
  · rename_i bk off z hy
    rw [hy] at h2
    obtain ⟨loc, c, hb, hV, hc, hz⟩ := RV_capv.1 h2
    split at e
    · rename_i N hx
      rw [hx, RV_int] at h1
      obtain ⟨h', r', H', hgo, hu⟩ := capGt_sound H hb hc hz e
      refine ⟨_, .bool (decide (c < N)), h', r', ?_, RV_bool.2 rfl, H', hgo, hu⟩
      have : decide (Int.ofNat N > Int.ofNat c) = decide (c < N) := by
        congr 1
        exact propext ⟨fun x => Int.ofNat_lt.1 x, fun x => Int.ofNat_lt.2 x⟩
      have hbin : (Go.binOp .gtr t (.int .i64 (Int.ofNat N)) (.int .i64 (Int.ofNat c))) = pure (.bool (decide (c < N))) := by
        rw [← this]
        rfl
      simp only [execOp, hop, h1, hV, eqGuard_at_int, hbin, Sem.run_bind, Sem.run_pure, Result.andThen]
    · cases e
  · rename_i hne
    simp only [bindO_eq, Option.bind_eq_some_iff] at e
    obtain ⟨v, hv, hgo⟩ := e
    have hp : pGt (xOf ng x) (xOf ng y) ts = some v := by
      unfold pGt ints
      exact hv
    obtain ⟨V, hrun, hRV⟩ := compInt_sound (P := P) (ng := ng) hop (op := .gtr) rfl ρ ts a w v hX hp
    exact ⟨v, V, h, r, hrun, hRV, H, hgo, Under.refl _ _⟩

/-! ### what comes next -/
theorem Goes.under {r' : XR} {m : Machine} (s : St C nt ρ ro ts ds h n b a w) (hu : Under n r' r) (hg : Goes P C nt ρ ro b K cs r' m) : Goes P C nt ρ ro b K cs r m := by
  obtain ⟨ρ', a', w', h1, h2, h3⟩ := hg
  obtain ⟨ρ'', g1, g2⟩ := hu.2 C nt ρ ρ' ro b a' w' h1 s.H.fresh s.H.glob s.ro (fun q hq => (s.H.res q hq).1) s.H.psi h2
  exact ⟨ρ'', a', w', g1, g2, hu.1 ▸ h3⟩
theorem RunOk.goes (IH : RunOk P T ng Φ run) (hng : C.ng = ng) (hS : CxOk P T ng Φ C) (s : St C nt ρ ro ts ds h n b a w) (hk : TodoR P T ng nt ρ k L) (e : run ro ts k ds h n = some r) : Goes P C nt ρ ro b K cs r (lone (b.atR a (L ++ K)) cs w) :=
  IH C hng hS ro ts k ds h n r e nt ρ b a w L K cs s hk

variable (IH : RunOk P T ng Φ run) (TO : TabOk P T ng Φ) (hng : C.ng = ng) (hS : CxOk P T ng Φ C)
include IH hng hS
/-- An operation is done: on with the rest of the region. -/
theorem ops_on {fs : List FO} {d : Option Pa} {v : AV} {h' : Hp} {n' : Nat} (s : St C nt ρ ro ts ds h n b a w) (hd : dstR nt d o) (hfs : All2 (fun f i => ∃ o, os[i]? = some o ∧ GOpR P ng nt os f o) fs l) (hk : TodoR P T ng nt ρ k L)
    (hdone : Done P C ρ b a w os i o l (L ++ K) cs v h' n') (e : run ro (putT ts d v) (.ops fs :: k) ds h' n' = some r) : Goes P C nt ρ ro b K cs r (lone (b.atR a (.inRegion os (i :: l) :: L ++ K)) cs w) := by
  obtain ⟨ρ', w', V, hle, hv, H', hs⟩ := hdone
  have s' := (s.world hle H').put hd hv
  exact Goes.steps hle hs (IH.goes hng hS (k := .ops fs :: k) (L := .inRegion os l :: L) s' ⟨.ops hfs, hk.mono hle⟩ e)
include TO
theorem op_sound {f : FO} {fs : List FO} (ho : os[i]? = some o) (hw : Region.wanted o (yielded os a.tmps) = true) (hf : OpR P ng nt f o) (hfs : All2 (fun f i => ∃ o, os[i]? = some o ∧ GOpR P ng nt os f o) fs l) (s : St C nt ρ ro ts ds h n b a w) (hk : TodoR P T ng nt ρ k L)
    (e : goOps T run ro ts k ds h n fs f = some r) : Goes P C nt ρ ro b K cs r (lone (b.atR a (.inRegion os (i :: l) :: L ++ K)) cs w) := by
  have hX : ∀ x ∈ o.op.operands, RV ρ (xOf ng x ts) (a.eval x) := fun x _ => s.opers hng x
  cases hf with
  | mv hop hd hlt =>
    rename_i sx d
    have hdd : dstR nt (some (pa d)) o := ⟨by rw [hd]; rfl, fun t ht => by rw [hd] at ht; cases ht; exact hlt⟩
    have hrun : (execOp a.eval o).run P w = .ok (.value (a.eval (.tmp sx))) w := by
      rcases hop with hop | hop <;> simp [execOp, hop]
    have hdone : Done P C ρ b a w os i o l (L ++ K) cs (tmpA ts (pa sx)) h n := ⟨ρ, w, _, Ren.le_refl _, s.tmps sx, s.H, .one (step_value ho hw hrun)⟩
    refine ops_on IH hng hS s hdd hfs hk hdone ?_
    have e' : (Option.rec (motive := fun _ => Option XR) (Tr.toK (pa d) ts (.tup .nil) fun ts => run ro ts (.ops fs :: k) ds h n) (fun v => Tr.toK (pa d) ts v fun ts => run ro ts (.ops fs :: k) ds h n) (ts.at (pa sx))) = some r := e
    show run ro (Tr.toK (pa d) ts (tmpA ts (pa sx)) id) (.ops fs :: k) ds h n = some r
    unfold tmpA
    cases hat : ts.at (pa sx) with
    | none => rw [hat] at e'; simp only [Tr.toK_eq] at e' ⊢; exact e'
    | some v => rw [hat] at e'; simp only [Tr.toK_eq] at e' ⊢; exact e'
  | mc hop hc hd hlt =>
    rename_i x v d
    have hdd : dstR nt (some (pa d)) o := ⟨by rw [hd]; rfl, fun t ht => by rw [hd] at ht; cases ht; exact hlt⟩
    have hrun : (execOp a.eval o).run P w = .ok (.value (a.eval x)) w := by
      rcases hop with hop | hop <;> simp [execOp, hop]
    have hv : RV ρ v (a.eval x) := by
      have := s.opers hng x
      rw [hc] at this; exact this
    refine ops_on IH hng hS s hdd hfs hk ⟨ρ, w, _, Ren.le_refl _, hv, s.H, .one (step_value ho hw hrun)⟩ ?_
    have e' : (Tr.toK (pa d) ts v fun ts => run ro ts (.ops fs :: k) ds h n) = some r := e
    rw [Tr.toK_eq] at e'
    show run ro (Tr.toK (pa d) ts v id) (.ops fs :: k) ds h n = some r
    rw [Tr.toK_eq]; exact e'
  | pu hs hd =>
    rename_i f d
    have e' : (bindO (f ts) fun v => putD ts d v fun ts => run ro ts (.ops fs :: k) ds h n) = some r := e
    simp only [bindO_eq, Option.bind_eq_some_iff, putD_eq] at e'
    obtain ⟨v, hv, e'⟩ := e'
    exact ops_on IH hng hS s hd hfs hk (pu_done ho hw hs s.H hX hv) e'
  | rd hs hd =>
    rename_i f d
    have e' : (bindO (f ts h) fun v => putD ts d v fun ts => run ro ts (.ops fs :: k) ds h n) = some r := e
    simp only [bindO_eq, Option.bind_eq_some_iff, putD_eq] at e'
    obtain ⟨v, hv, e'⟩ := e'
    exact ops_on IH hng hS s hd hfs hk (rd_done ho hw hng hs s.H hX hv) e'
  | me hs hd =>
    rename_i f d
    have e' : goFin T run ro ts k ds h n fs d (f ts h n) = some r := e
    simp only [goFin, bindO_eq, Option.bind_eq_some_iff, putD_eq] at e'
    obtain ⟨r1, hr1, ⟨v, h', n'⟩, hfin, e'⟩ := e'
    exact ops_on IH hng hS s hd hfs hk (me_done ho hw hng hs s.H hX hr1 hfin) e'
  | ca hop hd =>
    rename_i f args ats d
    have e' : goFin T run ro ts k ds h n fs d (invokeA T f (xsA ts (argsX ng args)) h) = some r := e
    simp only [goFin, bindO_eq, Option.bind_eq_some_iff, putD_eq] at e'
    obtain ⟨r1, hr1, ⟨v, h', n'⟩, hfin, e'⟩ := e'
    exact ops_on IH hng hS s hd hfs hk (ca_done ho hw IH TO hng hS s.H hX hop hr1 hfin) e'
  | cf hop hd =>
    rename_i x args ats d
    have e' : goFin T run ro ts k ds h n fs d (callVA T (xOf ng x ts) (xsA ts (argsX ng args)) h) = some r := e
    simp only [goFin, bindO_eq, Option.bind_eq_some_iff, putD_eq] at e'
    obtain ⟨r1, hr1, ⟨v, h', n'⟩, hfin, e'⟩ := e'
    exact ops_on IH hng hS s hd hfs hk (cf_done ho hw IH TO hng hS s.H hX hop hr1 hfin) e'
  | al hop hi hz h1 hl hd =>
    rename_i t ti z lz d
    subst hl
    have e' : (h.putK n (.cells (zeroAV z.cells) false false) fun h => forceN (Nat.succ n) fun n1 => putD ts d (.ptr n 0) fun ts => run ro ts (.ops fs :: k) ds h n1) = some r := e
    simp only [Tr.putK_eq, forceN_eq, putD_eq] at e'
    exact ops_on IH hng hS s hd hfs hk (al_done ho hw hop hi hz h1 s.H) e'
  | bad hd => cases e
  | nx hop hd =>
    rename_i x d
    have e' : goNext n (fun v h => putD ts d v fun ts => run ro ts (.ops fs :: k) ds h n) h (xOf ng x ts) = some r := e
    obtain ⟨v, V, h', w', r', hrun, hv, H', hgo, hu⟩ := goNext_sound (P := P) s.H (hX x (by simp [hop, Op.operands])) e' o.type
    rw [putD_eq] at hgo
    refine Goes.under s hu (ops_on IH hng hS s hd hfs hk ⟨ρ, w', V, Ren.le_refl _, hv, H', .one (step_value ho hw ?_)⟩ hgo)
    simp [execOp, hop, hrun]
  | br hop hd =>
    rename_i x y t yt d
    have e' : goBr n (fun v h => putD ts d v fun ts => run ro ts (.ops fs :: k) ds h n) h (xOf ng x ts) (xOf ng y ts) = some r := e
    obtain ⟨v, V, h', r', hrun, hv, H', hgo, hu⟩ := goBr_sound (P := P) hop s.H hX e'
    rw [putD_eq] at hgo
    exact Goes.under s hu (ops_on IH hng hS s hd hfs hk ⟨ρ, w, V, Ren.le_refl _, hv, H', .one (step_value ho hw hrun)⟩ hgo)
theorem gop_sound {f : FO} {fs : List FO} (ho : os[i]? = some o) (hf : GOpR P ng nt os f o) (hfs : All2 (fun f i => ∃ o, os[i]? = some o ∧ GOpR P ng nt os f o) fs l) (s : St C nt ρ ro ts ds h n b a w) (hk : TodoR P T ng nt ρ k L)
    (e : goOps T run ro ts k ds h n fs f = some r) : Goes P C nt ρ ro b K cs r (lone (b.atR a (.inRegion os (i :: l) :: L ++ K)) cs w) := by
  cases hf with
  | plain hg hf => exact op_sound IH TO hng hS ho (by simp [Region.wanted, hg]) hf hfs s hk e
  | gd hg hj hq hlt hd hf =>
    rename_i f j q want g d
    have e' : (bindO (askB (tmpA ts (pa q)) want) fun b => Bool.rec (motive := fun _ => Option XR) (putD ts d (.tup .nil) fun ts => run ro ts (.ops fs :: k) ds h n) (goOps T run ro ts k ds h n fs f) b) = some r := e
    simp only [bindO_eq, Option.bind_eq_some_iff] at e'
    obtain ⟨t, ht, e'⟩ := e'
    have hwt := askB_wanted hg hj hq (s.tmps q) (by rw [s.size]; exact hlt) ht
    cases t with
    | true => exact op_sound IH TO hng hS ho hwt hf hfs s hk e'
    | false =>
      have e'' : (putD ts d (.tup .nil) fun ts => run ro ts (.ops fs :: k) ds h n) = some r := e'
      rw [putD_eq] at e''
      exact ops_on IH hng hS s hd hfs hk ⟨ρ, w, undef, Ren.le_refl _, RV_undef, s.H, .one (skip_op ho hwt)⟩ e''
omit TO
theorem jump_sound {j : FJ} {D : List Item} (s : St C nt ρ ro ts ds h n b a w) (hk : TodoR P T ng nt ρ k L) (hD : ∀ id, j = .exit id → exitTo id D = exitTo id (L ++ K)) (e : goJump run ro ts k ds h n j = some r) :
    Goes P C nt ρ ro b K cs r (lone (b.atR a (.code (jumpOf j) :: D)) cs w) := by
  cases j with
  | ret =>
    obtain rfl := Option.some.inj e
    exact ⟨ρ, a, w, Ren.le_refl _, s, D, Steps.refl _ _⟩
  | exit id =>
    have hx := exitTo_todo (id := id) hk
    have hd := hD id rfl
    have e' : (match exitA id k with | some k => run ro ts k ds h n | none => some ⟨some (.exit id), ts, ds, h, n⟩) = some r := e
    cases hk' : exitA id k with
    | some k' =>
      rw [hk'] at e' hx
      obtain ⟨L', h1, h2⟩ := hx
      exact Goes.step (stepR_exit (hd.trans (h2 K))) (IH.goes hng hS s h1 e')
    | none =>
      rw [hk'] at e' hx
      obtain rfl := Option.some.inj e'
      exact ⟨ρ, a, w, Ren.le_refl _, s, D, hd.trans (hx K), Steps.refl _ _⟩
include TO
theorem range_sound {g : Operand} {ps : Array Tmp} {site : Nat} {x y : Code} (hsite : siteR P T.site ng nt site x y) (hps : ∀ p ∈ ps.toList, p < nt) (s : St C nt ρ ro ts ds h n b a w) (hk : TodoR P T ng nt ρ k L)
    (e : goRange T run ro ts k ds h n (xOf ng g ts) (ps.toList.map pa) site = some r) : Goes P C nt ρ ro b K cs r (lone (b.atR a (.code (.rangeFunc g ps x y) :: L ++ K)) cs w) := by
  have hx := s.opers hng g
  unfold goRange at e
  split at e
  · rename_i q first captured hg
    rw [hg] at hx
    obtain ⟨F, Cp, hV, h1, h2⟩ := RV_fn hx
    have hres : ∀ (l : Nat) (w : World), (resolve a.eval (rangeCall g l) 0).run P w = .ok { target := .fn (.func q) Cp.toArray, args := (F ++ [Value.func (.yield l) #[] #[]]).toArray } w := fun l w => by
      have h0 : resolve a.eval (rangeCall g l) 0 = Deferred.ofValue (a.eval g) #[Value.func (.yield l) #[] #[]] := by
        simp only [resolve, List.map_toArray, List.map_cons, List.map_nil]
        rfl
      rw [h0, hV]
      simp [Deferred.ofValue]
    split at e
    · -- outermost
      simp only [Tr.putK_eq, forceN_eq, bindO_eq, Option.bind_eq_some_iff] at e
      obtain ⟨⟨v, h', n'⟩, hc, e⟩ := e
      have hro : b.roundOf = none := s.ro
      have hn := s.H.fresh n (Nat.le_refl _)
      obtain ⟨le1, H1⟩ := s.H.new (o := .deferred true) (sz := 0) (m := n + 1) (W := .deferred (some [])) (by omega) rfl w.drawn
      let ρ1 := ρ.with n ⟨w.heap.size, 0, 0, undef⟩
      let w1 := w.alloc (.deferred (some []))
      have H1' : HR C ρ1 (h.put n (.deferred true)) (n + 1) w1 := H1
      have hρ1n : ρ1 n = some ⟨w.heap.size, 0, 0, undef⟩ := by simp [ρ1, Ren.with]
      let lp : Loop := { state := .ready, pending := none, fn := b.fn, tmps := a.tmps, params := ps, assign := x, body := y, defers := w.heap.size }
      have hw1 : w1.heap.size = w.heap.size + 1 := by simp [w1]
      have hn1 := H1'.fresh (n + 1) (Nat.le_refl _)
      have lef : ρ1.le (ρ1.with (n + 1) ⟨w1.heap.size, 0, 0, undef⟩) := Ren.with_le hn1
      obtain ⟨le2, H2⟩ := H1'.new (o := .loop { st := .ready, pending := none, tmps := ts, params := ps.toList.map pa, site, defers := n }) (sz := 0) (m := n + 1 + 1) (W := .loop lp) (by omega)
        ⟨lp, rfl, rfl, rfl, (s.tmps.mono le1).mono lef, rfl, fun p hp => by rw [show lp.tmps = a.tmps from rfl, s.size]; exact hps p hp, by rw [hS.S, show lp.tmps = a.tmps from rfl, s.size]; exact hsite, ⟨w.heap.size, 0, 0, undef⟩, lef _ _ hρ1n, rfl⟩ w1.drawn
      let ρ2 := ρ1.with (n + 1) ⟨w1.heap.size, 0, 0, undef⟩
      let w2 := w1.alloc (.loop lp)
      have H2' : HR C ρ2 ((h.put n (.deferred true)).put (n + 1) (.loop { st := .ready, pending := none, tmps := ts, params := ps.toList.map pa, site, defers := n })) (n + 1 + 1) w2 := H2
      have hρ2l : ρ2 (n + 1) = some ⟨w1.heap.size, 0, 0, undef⟩ := by simp [ρ2, Ren.with]
      have hρ2n : ρ2 n = some ⟨w.heap.size, 0, 0, undef⟩ := lef _ _ hρ1n
      have hA : All2 (RV ρ2) (first.toL ++ [.yield (n + 1)] ++ captured.toL) (F ++ [Value.func (.yield w1.heap.size) #[] #[]] ++ Cp) :=
        ((All2.mono (fun _ _ h => (h.mono le1).mono lef) h1).append (show All2 (RV ρ2) [AV.yield (n + 1)] [Value.func (.yield w1.heap.size) #[] #[]] from ⟨RV_yield.2 ⟨_, hρ2l, rfl⟩, trivial⟩)).append (All2.mono (fun _ _ h => (h.mono le1).mono lef) h2)
      have henter := run_enterLoop_outer (P := P) (w := w) b.fn a.tmps ps x y
      let a1 : Act := { a with defers := [{ target := .collected w.heap.size, args := #[] }] ++ a.defers }
      obtain ⟨ρ3, w3, V, fr, hle3, H3, hv3, hst3, _, hleave, hcf⟩ := callF_sound IH TO hng hS (b.atR a1 (.inRangeFunc w1.heap.size :: (L ++ K)) :: cs) hc H2' hA
      have hinv : ∀ w, (invoke (.fn (.func q) Cp.toArray) (F ++ [Value.func (.yield w1.heap.size) #[] #[]]).toArray).run P w = .ok (.enter q (F ++ [Value.func (.yield w1.heap.size) #[] #[]] ++ Cp).toArray) w := fun w => by
        have := hcf w
        simpa [invoke] using this
      have hle : ρ.le ρ3 := Ren.le_trans le1 (Ren.le_trans le2 hle3)
      have hl3 := hle3 _ _ hρ2l
      have s3 : St C nt ρ3 none ts (n :: ds) h' n' b a1 w3 := ⟨H3, s.tmps.mono hle, s.size, ⟨⟨_, hle3 _ _ hρ2n, rfl⟩, ds_mono hle s.ds⟩, s.kind, St.mono_ro (ro := none) hle s.ro⟩
      have hs1 := stepR_rangeFunc (P := P) (b := b) (a := a) (k := L ++ K) (cs := cs) (w := w) (g := g) (ps := ps) (assign := x) (body := y) (l := w1.heap.size) (mark := [{ target := .collected w.heap.size, args := #[] }])
        (w₁ := w2) (w₁' := w2) (w₂ := w2) (by rw [hro, henter, hw1]) (hres _ _) (hinv _)
      have hs2 := step_leave_returned (c := b.atR a1 (.inRangeFunc w1.heap.size :: (L ++ K))) (cs := cs) hleave
      rw [finish_atR_inRangeFunc] at hs2
      refine Goes.steps hle (.head hs1 (Steps.trans hst3 (.one hs2))) ?_
      exact IH.goes hng hS (k := .erf (n + 1) :: k) (L := .endRangeFunc w1.heap.size :: L) s3 ⟨.erf (loc := ⟨w1.heap.size, 0, 0, undef⟩) hl3, hk.mono hle⟩ e
    · -- within a round
      rename_i l0
      split at e
      · rename_i L0 hg0
        simp only [Tr.putK_eq, forceN_eq, bindO_eq, Option.bind_eq_some_iff] at e
        obtain ⟨⟨v, h', n'⟩, hc, e⟩ := e
        obtain ⟨loc0, hl0, hro⟩ := s.ro
        obtain ⟨W0, hW0, r0, rfl, hL0⟩ := s.H.obj l0 _ loc0 hg0 trivial hl0
        obtain ⟨_, _, _, _, _, _, locd, hld, hdd⟩ := hL0
        let lp : Loop := { state := .ready, pending := none, fn := b.fn, tmps := a.tmps, params := ps, assign := x, body := y, defers := r0.defers }
        have hn := s.H.fresh n (Nat.le_refl _)
        have lef : ρ.le (ρ.with n ⟨w.heap.size, 0, 0, undef⟩) := Ren.with_le hn
        obtain ⟨le2, H2⟩ := s.H.new (o := .loop { st := .ready, pending := none, tmps := ts, params := ps.toList.map pa, site, defers := L0.defers }) (sz := 0) (m := n + 1) (W := .loop lp) (by omega)
          ⟨lp, rfl, rfl, rfl, s.tmps.mono lef, rfl, fun p hp => by rw [show lp.tmps = a.tmps from rfl, s.size]; exact hps p hp, by rw [hS.S, show lp.tmps = a.tmps from rfl, s.size]; exact hsite, locd, lef _ _ hld, hdd⟩ w.drawn
        let ρ2 := ρ.with n ⟨w.heap.size, 0, 0, undef⟩
        let w2 := w.alloc (.loop lp)
        have H2' : HR C ρ2 (h.put n (.loop { st := .ready, pending := none, tmps := ts, params := ps.toList.map pa, site, defers := L0.defers })) (n + 1) w2 := H2
        have hρ2l : ρ2 n = some ⟨w.heap.size, 0, 0, undef⟩ := by simp [ρ2, Ren.with]
        have hA : All2 (RV ρ2) (first.toL ++ [.yield n] ++ captured.toL) (F ++ [Value.func (.yield w.heap.size) #[] #[]] ++ Cp) :=
          ((All2.mono (fun _ _ h => h.mono lef) h1).append (show All2 (RV ρ2) [AV.yield n] [Value.func (.yield w.heap.size) #[] #[]] from ⟨RV_yield.2 ⟨_, hρ2l, rfl⟩, trivial⟩)).append (All2.mono (fun _ _ h => h.mono lef) h2)
        have henter := run_enterLoop_inner (P := P) (w := w) hW0 b.fn a.tmps ps x y
        have ha0 : ({ a with defers := ([] : List Deferred) ++ a.defers } : Act) = a := rfl
        obtain ⟨ρ3, w3, V, fr, hle3, H3, hv3, hst3, _, hleave, hcf⟩ := callF_sound IH TO hng hS (b.atR a (.inRangeFunc w.heap.size :: (L ++ K)) :: cs) hc H2' hA
        have hinv : ∀ w', (invoke (.fn (.func q) Cp.toArray) (F ++ [Value.func (.yield w.heap.size) #[] #[]]).toArray).run P w' = .ok (.enter q (F ++ [Value.func (.yield w.heap.size) #[] #[]] ++ Cp).toArray) w' := fun w' => by
          have := hcf w'
          simpa [invoke] using this
        have hle : ρ.le ρ3 := Ren.le_trans le2 hle3
        have hl3 := hle3 _ _ hρ2l
        have s3 : St C nt ρ3 (some l0) ts ds h' n' b a w3 := ⟨H3, s.tmps.mono hle, s.size, ds_mono hle s.ds, s.kind, St.mono_ro (ro := some l0) hle s.ro⟩
        have hs1 := stepR_rangeFunc (P := P) (b := b) (a := a) (k := L ++ K) (cs := cs) (w := w) (g := g) (ps := ps) (assign := x) (body := y) (l := w.heap.size) (mark := [])
          (w₁ := w2) (w₁' := w2) (w₂ := w2) (by rw [hro, henter]) (hres _ _) (hinv _)
        rw [ha0] at hs1
        have hs2 := step_leave_returned (c := b.atR a (.inRangeFunc w.heap.size :: (L ++ K))) (cs := cs) hleave
        rw [finish_atR_inRangeFunc] at hs2
        refine Goes.steps hle (.head hs1 (Steps.trans hst3 (.one hs2))) ?_
        exact IH.goes hng hS (k := .erf n :: k) (L := .endRangeFunc w.heap.size :: L) s3 ⟨.erf (loc := ⟨w.heap.size, 0, 0, undef⟩) hl3, hk.mono hle⟩ e
      · cases e
  · cases e
end
end Go.Eng
namespace Go.Eng
open Go
def DrawOk (P : Program) (T : Tab) (ng : Nat) (Φ : Cx → Prop) (run : Rec) : Prop :=
  ∀ (C : Cx), C.ng = ng → CxOk P T ng Φ C → ∀ (nt : Nat) (ρ : Ren) (ro : Option Nat) (ts : Ts) (ds : List Nat) (h : Hp) (n : Nat) (b : Frame) (a : Act) (w : World) (fs : List FO) (bm hv : List Nat) (os : Array Oper) (id : Nat) (k : List Item) (cs : List Frame) (ts' : Ts) (h' : Hp) (n' : Nat),
    drawF T run ts h n fs bm hv = some (ts', h', n') → DrawR P ng nt fs bm hv os → St C nt ρ ro ts ds h n b a w →
    ∃ ρ' a' w', ρ.le ρ' ∧ St C nt ρ' ro ts' ds h' n' b a' w' ∧ Steps P (lone (b.atR a (.code (.region id os true) :: k)) cs w) (lone (b.atR a' k) cs w')
section
variable {P : Program} {T : Tab} {Φ : Cx → Prop} {ng nt : Nat} {C : Cx} {run : Rec} {ρ : Ren} {ro : Option Nat} {ts : Ts} {ds : List Nat} {h : Hp} {n : Nat} {b : Frame} {a : Act} {w : World} {os : Array Oper} {k : List TI} {L K : List Item} {cs : List Frame} {r : XR}
variable (IH : RunOk P T ng Φ run) (TO : TabOk P T ng Φ) (DO : DrawOk P T ng Φ run) (hng : C.ng = ng) (hS : CxOk P T ng Φ C)
theorem stepR_scope {x : Code} {D : List Item} : step P (lone (b.atR a (.code (.scope x) :: D)) cs w) = .next (lone (b.atR a (.code x :: .inScope x :: D)) cs w) :=
  step_lone_go (by simp [stepG, stepG.exec, Frame.atR])
theorem stepR_inScope {x : Code} {D : List Item} : step P (lone (b.atR a (.inScope x :: D)) cs w) = .next (lone (b.atR a D) cs w) :=
  step_lone_go (by simp [stepG, stepG.exec, Frame.atR])
theorem region_list {fs : List FO} (h : All2 (GOpR P ng nt os) fs os.toList) : All2 (fun f i => ∃ o, os[i]? = some o ∧ GOpR P ng nt os f o) fs (List.range os.size) := by
  refine All2.of_get (by simpa using h.length) fun i f j hf hj => ?_
  obtain ⟨o, ho, hr⟩ := h.get i f hf
  have : j = i := by
    have := List.getElem?_eq_some_iff.1 hj
    obtain ⟨hlt, hv⟩ := this
    simpa using hv.symm
  subst this
  exact ⟨o, by simpa using ho, hr⟩
include IH hng hS
theorem todo_code {c : FC} {x : Code} {m : Machine} (hst : step P m = .next (lone (b.atR a (.code x :: L ++ K)) cs w)) (hc : CodeR P T.site ng nt c x) (s : St C nt ρ ro ts ds h n b a w) (hk : TodoR P T ng nt ρ k L) (e : run ro ts (.code c :: k) ds h n = some r) :
    Goes P C nt ρ ro b K cs r m :=
  Goes.step hst (IH.goes hng hS (k := .code c :: k) (L := .code x :: L) s ⟨.code hc, hk⟩ e)
include TO DO
theorem code_sound {c : FC} {x : Code} (hc : CodeR P T.site ng nt c x) (s : St C nt ρ ro ts ds h n b a w) (hk : TodoR P T ng nt ρ k L) (e : goCode T run ro ts k ds h n c = some r) :
    Goes P C nt ρ ro b K cs r (lone (b.atR a (.code x :: L ++ K)) cs w) := by
  cases hc with
  | region hops =>
    rename_i fs id os
    exact Goes.step stepR_region (IH.goes hng hS (k := .ops fs :: k) (L := .inRegion os (List.range os.size) :: L) s ⟨.ops (region_list hops), hk⟩ e)
  | draw hd =>
    rename_i fs bm hv id os
    have e' : (bindO (drawF T run ts h n fs bm hv) fun r => run ro r.1 k ds r.2.1 r.2.2) = some r := e
    simp only [bindO_eq, Option.bind_eq_some_iff] at e'
    obtain ⟨⟨ts', h', n'⟩, h1, e'⟩ := e'
    obtain ⟨ρ', a', w', hle, s', hst⟩ := DO C hng hS nt ρ ro ts ds h n b a w fs bm hv os id (L ++ K) cs ts' h' n' h1 hd s
    exact Goes.steps hle hst (IH.goes hng hS s' (hk.mono hle) e')
  | seq h1 h2 =>
    rename_i f g x y
    exact Goes.step stepR_seq (IH.goes hng hS (k := .code f :: .code g :: k) (L := .code x :: .code y :: L) s ⟨.code h1, .code h2, hk⟩ e)
  | cond h1 h2 =>
    rename_i c f g x y
    have e' : onCond (run ro ts (.code f :: k) ds h n) (run ro ts (.code g :: k) ds h n) (xOf ng c ts) = some r := e
    have hx := s.opers hng c
    unfold onCond at e'
    split at e'
    · rename_i t ht
      rw [ht] at hx
      have hv := RV_bool.1 hx
      cases t with
      | true => exact todo_code IH hng hS (stepR_cond hv) h1 s hk e'
      | false => exact todo_code IH hng hS (stepR_cond hv) h2 s hk e'
    · cases e'
  | block h1 =>
    rename_i id f x
    exact Goes.step stepR_block (IH.goes hng hS (k := .code f :: .blk id :: k) (L := .code x :: .inBlock id :: L) s ⟨.code h1, .blk, hk⟩ e)
  | loop h1 =>
    rename_i f x
    exact Goes.step stepR_loop (IH.goes hng hS (k := .code f :: .lp f :: k) (L := .code x :: .inLoop x :: L) s ⟨.code h1, .lp h1, hk⟩ e)
  | ret => exact jump_sound IH hng hS (j := .ret) s hk (fun id hid => by cases hid) e
  | exit =>
    rename_i id
    exact jump_sound IH hng hS (j := .exit id) s hk (fun id' hid => by cases hid; rfl) e
  | skip => exact Goes.step stepR_skip (IH.goes hng hS s hk e)
  | range hsite hps h1 h2 => exact range_sound IH TO hng hS ⟨_, _, hsite, h1, h2⟩ hps s hk e
  | scope h1 =>
    rename_i f x
    exact Goes.step stepR_scope (IH.goes hng hS (k := .code f :: .code .skip :: k) (L := .code x :: .inScope x :: L) s ⟨.code h1, .scp, hk⟩ e)
  | label => exact Goes.step stepR_label (IH.goes hng hS s hk e)
  | bad => cases e
  | mrg h1 =>
    rename_i f
    have e' : (bindO (run ro ts [.code f] ds h n) fun r => Option.rec (motive := fun _ => Option XR) (run ro r.ts k r.ds r.h r.n) (fun j => goJump run ro r.ts k r.ds r.h r.n j) r.jump) = some r := e
    simp only [bindO_eq, Option.bind_eq_some_iff] at e'
    obtain ⟨r1, h2, e'⟩ := e'
    obtain ⟨ρ1, a1, w1, hle, s1, hend⟩ := IH C hng hS ro ts [.code f] ds h n r1 h2 nt ρ b a w [.code x] (L ++ K) cs s ⟨.code h1, trivial⟩
    cases hj : r1.jump with
    | none =>
      rw [hj] at hend e'
      exact Goes.steps hle hend (IH.goes hng hS s1 (hk.mono hle) e')
    | some j =>
      rw [hj] at hend e'
      cases j with
      | ret =>
        obtain ⟨D, hD⟩ := hend
        exact Goes.steps hle hD (jump_sound IH hng hS (j := .ret) s1 (hk.mono hle) (fun id hid => by cases hid) e')
      | exit id =>
        obtain ⟨D, hx, hD⟩ := hend
        exact Goes.steps hle hD (jump_sound IH hng hS (j := .exit id) s1 (hk.mono hle) (fun id' hid => by cases hid; exact hx) e')
omit TO DO in
theorem erf_sound {l : Nat} {loc : Loc} (hl : ρ l = some loc) (s : St C nt ρ ro ts ds h n b a w) (hk : TodoR P T ng nt ρ k L) (e : goErf run ro ts k ds h n l = some r) :
    Goes P C nt ρ ro b K cs r (lone (b.atR a (.endRangeFunc loc.blk :: L ++ K)) cs w) := by
  unfold goErf at e
  split at e
  · rename_i LA hg
    obtain ⟨W, hW, lp, rfl, hst, hpend, htm, hpar, hpin, hsite, hdef⟩ := s.H.obj l _ loc hg trivial hl
    have hlt := (Array.getElem?_eq_some_iff.1 hW).1
    cases hb : isBusy LA.st with
    | true => rw [hb] at e; cases e
    | false =>
      rw [hb] at e
      simp only [cond_false, Tr.putK_eq] at e
      have hnb : lp.state ≠ .busy := fun x => by rw [hst] at x; rw [x] at hb; cases hb
      have hrun := run_endLoop (P := P) hW hnb
      have H' : HR C ρ (h.put l (.loop { LA with st := .exhausted })) n (w.putObj loc.blk (.loop { lp with state := .exhausted })) :=
        s.H.set (W' := .loop { lp with state := .exhausted }) hg trivial hl ⟨_, rfl, rfl, hpend, htm, hpar, hpin, hsite, hdef⟩ (World.putObj_heap_same hlt) (fun k hk _ => World.putObj_heap_other hk) (by simp) rfl rfl rfl
      have s' := s.world (Ren.le_refl _) H'
      have hs := stepR_endRangeFunc (P := P) (b := b) (a := a) (k := L ++ K) (cs := cs) hrun
      generalize Tr.put h l (.loop { LA with st := .exhausted }) = h1 at e s'
      generalize w.putObj loc.blk (.loop { lp with state := .exhausted }) = w1 at hs s'
      cases hp : LA.pending with
      | none =>
        rw [hp] at e hpend
        have hp' : lp.pending = none := hpend
        rw [hp'] at hs
        exact Goes.step hs (IH.goes hng hS s' hk e)
      | some j =>
        rw [hp] at e hpend
        have hp' : lp.pending = some (jumpOf j) := hpend
        rw [hp'] at hs
        refine Goes.step hs (IH.goes hng hS (k := .code (.jmp j) :: k) (L := .code (jumpOf j) :: L) s' ⟨.code ?_, hk⟩ e)
        cases j with
        | ret => exact .ret
        | exit id => exact .exit
  · cases e
omit TO DO in
theorem begin_sound (s : St C nt ρ ro ts ds h n b a w) (hk : TodoR P T ng nt ρ k L) (e : goBegin run ro ts k ds h n = some r) :
    Goes P C nt ρ ro b K cs r (lone (b.atR a (.beginRound :: L ++ K)) cs w) := by
  unfold goBegin at e
  split at e
  · rename_i l
    obtain ⟨loc, hl, hro⟩ := s.ro
    split at e
    · rename_i LA hg
      rw [guardB_some, Tr.putK_eq] at e
      obtain ⟨hrd, e⟩ := e
      obtain ⟨W, hW, lp, rfl, hst, hpend, htm, hpar, hpin, hsite, hdef⟩ := s.H.obj l _ loc hg trivial hl
      have hlt := (Array.getElem?_eq_some_iff.1 hW).1
      have hr : lp.state = .ready := by
        rw [hst]
        cases hx : LA.st <;> rw [hx] at hrd <;> first | rfl | cases hrd
      have hrun := run_beginRound (P := P) hW hr
      have H' : HR C ρ (h.put l (.loop { LA with st := .busy })) n (w.putObj loc.blk (.loop { lp with state := .busy })) :=
        s.H.set (W' := .loop { lp with state := .busy }) hg trivial hl ⟨_, rfl, rfl, hpend, htm, hpar, hpin, hsite, hdef⟩ (World.putObj_heap_same hlt) (fun k hk _ => World.putObj_heap_other hk) (by simp) rfl rfl rfl
      exact Goes.step (stepR_beginRound hro hrun) (IH.goes hng hS (s.world (Ren.le_refl _) H') hk e)
    · cases e
  · cases e
theorem item_sound {i : TI} {I : Item} (hi : ItemR P T ng nt ρ i I)
    (s : St C nt ρ ro ts ds h n b a w) (hk : TodoR P T ng nt ρ k L) (e : goItem T run ro ts k ds h n i = some r) :
    Goes P C nt ρ ro b K cs r (lone (b.atR a (I :: L ++ K)) cs w) := by
  cases hi with
  | code hc => exact code_sound IH TO DO hng hS hc s hk e
  | blk => exact Goes.step stepR_inBlock (IH.goes hng hS s hk e)
  | scp => exact Goes.step stepR_inScope (IH.goes hng hS s hk e)
  | lp hc =>
    rename_i f x
    exact Goes.step stepR_inLoop (IH.goes hng hS (k := .code f :: .lp f :: k) (L := .code x :: .inLoop x :: L) s ⟨.code hc, .lp hc, hk⟩ e)
  | ops hfs =>
    rename_i fs os l
    match fs, l, hfs with
    | [], [], _ => exact Goes.step stepR_region_end (IH.goes hng hS s hk e)
    | f :: fs, i :: l, hfs =>
      obtain ⟨⟨o, ho, hf⟩, hfs⟩ := hfs
      exact gop_sound IH TO hng hS ho hf hfs s hk e
  | erf hl => exact erf_sound IH hng hS hl s hk e
  | begin => exact begin_sound IH hng hS s hk e
theorem todo_sound {todo : List TI} {TODO : List Item} (s : St C nt ρ ro ts ds h n b a w) (hk : TodoR P T ng nt ρ todo TODO) (e : goTodo T run ro ts todo ds h n = some r) : Goes P C nt ρ ro b K cs r (lone (b.atR a (TODO ++ K)) cs w) := by
  match todo, TODO, hk with
  | [], [], _ =>
    obtain rfl := Option.some.inj e
    exact ⟨ρ, a, w, Ren.le_refl _, s, Steps.refl _ _⟩
  | i :: k, I :: L, hk => exact item_sound IH TO DO hng hS hk.1 s hk.2 e
end
theorem RunOk.next {P : Program} {T : Tab} {Φ : Cx → Prop} {ng : Nat} {run : Rec} (IH : RunOk P T ng Φ run) (TO : TabOk P T ng Φ) (DO : DrawOk P T ng Φ run) : RunOk P T ng Φ (goTodo T run) := by
  intro C hng hS ro ts todo ds h n r e nt ρ b a w TODO K cs s hk
  exact todo_sound IH TO DO hng hS s hk e
theorem exec_sound {P : Program} {T : Tab} {Φ : Cx → Prop} {ng : Nat} (TO : TabOk P T ng Φ) (DO : ∀ run, RunOk P T ng Φ run → DrawOk P T ng Φ run) : ∀ f, RunOk P T ng Φ (exec T f)
  | 0 => fun C _ _ ro ts todo ds h n r e => by cases e
  | f + 1 => RunOk.next (exec_sound TO DO f) TO (DO _ (exec_sound TO DO f))
end Go.Eng
namespace Go.Eng
open Go
section
variable {C : Cx} {ρ : Ren} {h h' : Hp} {n n' : Nat} {w : World}
theorem HR.keep (H : HR C ρ h n w) {R : Nat → Prop} (hn : n ≤ n') (hh : ∀ b, ρ b = none ∨ h'.get b = h.get b) (hR : ∀ b, R b → C.res b ∨ (n ≤ b ∧ b < n')) : HR (C.keep R) ρ h' n' w := by
  have key : ∀ b o loc, h'.get b = some o → ρ b = some loc → h.get b = some o := fun b o loc e hρ => by
    rcases hh b with x | x
    · rw [x] at hρ; cases hρ
    · rw [← x]; exact e
  refine ⟨fun b o loc e hl hρ => H.obj b o loc (key b o loc e hρ) hl hρ,
    fun b b' o o' loc loc' e hl hρ e' hl' hρ' hne => H.inj b b' o o' loc loc' (key b o loc e hρ) hl hρ (key b' o' loc' e' hρ') hl' hρ' hne,
    fun b o loc e hl hρ => H.own b o loc (key b o loc e hρ) hl hρ, H.low, H.size, fun b hb => H.fresh b (by omega), H.glob, H.os, H.output, H.tape, fun b hb => ?_, H.psi⟩
  rcases hR b hb with x | x
  · have := H.res b x
    exact ⟨by omega, this.2⟩
  · exact ⟨x.2, H.fresh b x.1⟩
theorem HR.free {R R' : Nat → Prop} (H : HR (C.keep R) ρ h n w) (hR : ∀ b, R' b → R b) : HR (C.keep R') ρ h n w :=
  ⟨H.obj, H.inj, H.own, H.low, H.size, H.fresh, H.glob, H.os, H.output, H.tape, fun b hb => H.res b (hR b hb), H.psi⟩
theorem HR.unkeep {R : Nat → Prop} (H : HR (C.keep R) ρ h n w) (hR : ∀ b, C.res b → R b) : HR C ρ h n w :=
  ⟨H.obj, H.inj, H.own, H.low, H.size, H.fresh, H.glob, H.os, H.output, H.tape, fun b hb => H.res b (hR b hb), H.psi⟩
/-- a block under a name that was kept for it -/
theorem HR.bear {R R' : Nat → Prop} (H : HR (C.keep R) ρ h n w) {q : Nat} {l : List AV} {Vs : List Value} {e : TypeId} (hq : R q) (hR : ∀ b, R' b → R b) (hq' : ¬ R' q) (hg : h.get q = some (.cells l false false)) (hv : All2 (RV ρ) l Vs) (h1 : ∀ U ∈ Vs, U.oneCell' = true) :
    ρ.le (ρ.with q ⟨w.heap.size, 0, Vs.length, undef⟩) ∧ HR (C.keep R') (ρ.with q ⟨w.heap.size, 0, Vs.length, undef⟩) h n (w.alloc (.cells Vs.toArray e)) := by
  obtain ⟨hlt, hnone⟩ := H.res q hq
  have hle : ρ.le (ρ.with q ⟨w.heap.size, 0, Vs.length, undef⟩) := Ren.with_le hnone
  have H' := H.free hR
  have ht : HR (C.keep R') (ρ.with q ⟨w.heap.size, 0, Vs.length, undef⟩) (h.put q (.cells l false false)) n (w.alloc (.cells Vs.toArray e)) := by
    refine H'.turn (loc := ⟨w.heap.size, 0, Vs.length, undef⟩) (W := .cells Vs.toArray e) hle (by simp [Ren.with]) (fun b' hb => by simp [Ren.with, hb]) (fun b' hb => ?_) (World.alloc_heap_new _ _) ?_ H.size (fun k hk hlt => ?_) (fun b' o' loc' hne e hl hρ => ?_) (by rw [World.size_alloc]; omega) rfl rfl rfl (Nat.le_refl _) hq'
    · unfold Ren.with
      rw [if_neg (by omega)]
      exact H.fresh b' hb
    · exact ⟨Vs.toArray, e, (0, 0), rfl, ⟨fun i v hi => by
        obtain ⟨V, hV, r⟩ := hv.get i v hi
        exact ⟨V, by simpa using hV, r.mono hle⟩,
        fun i hi => by
        have hi : i < Vs.length := hi
        exact ⟨Vs[i], by simp [hi], h1 _ (List.getElem_mem hi)⟩, by rw [hv.length]; exact Nat.le_refl _, .inl rfl⟩, by simp, fun _ => hv.length.symm⟩
    · show (w.heap.push _)[k]? = _
      simp [Array.getElem?_push, Nat.ne_of_lt hlt]
    · obtain ⟨W', hW', _⟩ := H.obj b' o' loc' e hl hρ
      have := (Array.getElem?_eq_some_iff.1 hW').1
      show loc'.blk ≠ w.heap.size
      omega
  refine ⟨hle, ht.less fun b => .inl ?_⟩
  rw [Tr.get_put]
  split
  · rename_i x; rw [x]; exact hg
  · rfl
end

/-! ### the states of the order of the text -/
section
variable {T : Tab} {run : Rec} {n0 : Nat}
theorem drawGo_states : ∀ (fs : List FO) (i : Nat) (s s' : DS), drawGo T run n0 fs i s = some s' →
    ∃ σ : Nat → DS, σ 0 = s ∧ σ fs.length = s' ∧ ∀ j f, fs[j]? = some f → drawOp T run n0 (i + j) (σ j) f = some (σ (j + 1))
  | [], i, s, s', h => ⟨fun _ => s, rfl, Option.some.inj h, fun j f hj => by simp at hj⟩
  | f :: fs, i, s, s', h => by
    simp only [drawGo, bindO_eq, Option.bind_eq_some_iff] at h
    obtain ⟨s1, h1, h2⟩ := h
    obtain ⟨σ, e0, e1, hs⟩ := drawGo_states fs (i + 1) s1 s' h2
    refine ⟨fun j => match j with | 0 => s | j + 1 => σ j, rfl, e1, fun j g hj => ?_⟩
    cases j with
    | zero =>
      simp at hj
      subst hj
      show drawOp T run n0 i s f = some (σ 0)
      rw [e0]; exact h1
    | succ j =>
      have := hs j g (by simpa using hj)
      show drawOp T run n0 (i + (j + 1)) (σ j) g = some (σ (j + 1))
      rw [← Nat.add_assoc, Nat.add_right_comm]; exact this
/-- what an operation does to the state, whichever it is -/
def Moves (f : FO) (d : Option Pa) (s s' : DS) : Prop :=
  (∃ v, s'.ts = putT s.ts d v) ∧ (∀ r ∈ s.rs, r ∈ s'.rs) ∧
  (heavyO f = false → s'.h = s.h ∧ s'.n = s.n ∧ s'.hs = s.hs) ∧ (heavyO f = true → s'.hs = s'.h :: s.hs)
end
section
variable {P : Program} {T : Tab} {Φ : Cx → Prop} {ng nt : Nat} {C : Cx} {run : Rec} {ρ : Ren} {h : Hp} {n : Nat} {b : Frame} {a : Act} {w : World} {os : Array Oper} {o : Oper} {i n0 : Nat} {l : List Nat} {k : List Item} {cs : List Frame}
theorem light_inv {i : Nat} {s s' : DS} {o : FO} {d : Option Pa} {v : AV} {note : Bool} (e : dLight i s o d v note = some s') : s' = ⟨putT s.ts d v, s.h, s.n, s.hs, cond note (⟨i, s.ts, v, o⟩ :: s.rs) s.rs⟩ := by
  unfold dLight at e
  rw [putD_eq] at e
  cases note <;> exact (Option.some.inj e).symm
theorem heavy_inv {s s' : DS} {d : Option Pa} {r : Option (AV × Hp × Nat)} (e : dHeavy s d r = some s') : ∃ v h n, r = some (v, h, n) ∧ s' = ⟨putT s.ts d v, h, n, h :: s.hs, s.rs⟩ := by
  unfold dHeavy at e
  simp only [bindO_eq, Option.bind_eq_some_iff, putD_eq] at e
  obtain ⟨⟨v, h, n⟩, hr, e⟩ := e
  exact ⟨v, h, n, hr, (Option.some.inj e).symm⟩
theorem dstR_eq {d : Option Pa} (h : dstR nt d o) : d = o.dst.map pa := h.1
theorem op_moves {f : FO} {s s' : DS} (hf : OpR P ng nt f o) (e : drawOp T run n0 i s f = some s') : Moves f (o.dst.map pa) s s' := by
  cases hf with
  | mv hop hd hlt =>
    have := light_inv e
    subst this
    rw [hd]
    exact ⟨⟨_, rfl⟩, fun r hr => hr, fun _ => ⟨rfl, rfl, rfl⟩, fun x => by cases x⟩
  | mc hop hc hd hlt =>
    have := light_inv e
    subst this
    rw [hd]
    exact ⟨⟨_, rfl⟩, fun r hr => hr, fun _ => ⟨rfl, rfl, rfl⟩, fun x => by cases x⟩
  | pu hs hd =>
    simp only [drawOp, bindO_eq, Option.bind_eq_some_iff] at e
    obtain ⟨v, hv, e⟩ := e
    have := light_inv e
    subst this
    rw [← hd.1]
    exact ⟨⟨_, rfl⟩, fun r hr => hr, fun _ => ⟨rfl, rfl, rfl⟩, fun x => by cases x⟩
  | rd hs hd =>
    simp only [drawOp, bindO_eq, Option.bind_eq_some_iff] at e
    obtain ⟨v, hv, e⟩ := e
    have := light_inv e
    subst this
    rw [← hd.1]
    exact ⟨⟨_, rfl⟩, fun r hr => List.mem_cons_of_mem _ hr, fun _ => ⟨rfl, rfl, rfl⟩, fun x => by cases x⟩
  | me hs hd =>
    obtain ⟨v, h, n, hr, rfl⟩ := heavy_inv e
    rw [← hd.1]
    exact ⟨⟨_, rfl⟩, fun r hr => hr, fun x => (nomatch (show true = false from x)), fun _ => rfl⟩
  | ca hop hd =>
    obtain ⟨v, h, n, hr, rfl⟩ := heavy_inv e
    rw [← hd.1]
    exact ⟨⟨_, rfl⟩, fun r hr => hr, fun x => (nomatch (show true = false from x)), fun _ => rfl⟩
  | cf hop hd =>
    obtain ⟨v, h, n, hr, rfl⟩ := heavy_inv e
    rw [← hd.1]
    exact ⟨⟨_, rfl⟩, fun r hr => hr, fun x => (nomatch (show true = false from x)), fun _ => rfl⟩
  | al hop hi hz h1 hl hd =>
    simp only [drawOp, forceN_eq] at e
    have := light_inv e
    subst this
    rw [← hd.1]
    exact ⟨⟨_, rfl⟩, fun r hr => List.mem_cons_of_mem _ hr, fun _ => ⟨rfl, rfl, rfl⟩, fun x => by cases x⟩
  | nx hop hd => cases e
  | br hop hd => cases e
  | bad hd => cases e
theorem gop_moves {f : FO} {s s' : DS} (hf : GOpR P ng nt os f o) (e : drawOp T run n0 i s f = some s') : Moves f (o.dst.map pa) s s' := by
  cases hf with
  | plain hg hf => exact op_moves hf e
  | gd hg hj hq hlt hd hf =>
    rename_i f j q want g d
    simp only [drawOp, bindO_eq, Option.bind_eq_some_iff] at e
    obtain ⟨t, ht, e⟩ := e
    cases t with
    | true =>
      have := op_moves (f := f) hf (show drawOp T run n0 i s f = some s' from e)
      exact this
    | false =>
      simp only [cond_false, putD_eq] at e
      cases hh : heavyO f with
      | true =>
        rw [hh] at e
        have := (Option.some.inj e).symm
        subst this
        rw [← hd.1]
        refine ⟨⟨_, rfl⟩, fun r hr => hr, fun x => ?_, fun _ => rfl⟩
        have hx : heavyO f = false := x
        rw [hh] at hx; cases hx
      | false =>
        rw [hh] at e
        have := (Option.some.inj e).symm
        subst this
        rw [← hd.1]
        refine ⟨⟨_, rfl⟩, fun r hr => hr, fun _ => ⟨rfl, rfl, rfl⟩, fun x => ?_⟩
        have hx : heavyO f = true := x
        rw [hh] at hx; cases hx

theorem Done.free {R R' : Nat → Prop} {v : AV} {h' : Hp} {n' : Nat} (hd : Done P (C.keep R) ρ b a w os i o l k cs v h' n') (hR : ∀ b, R' b → R b) : Done P (C.keep R') ρ b a w os i o l k cs v h' n' := by
  obtain ⟨ρ', w', V, h1, h2, h3, h4⟩ := hd
  exact ⟨ρ', w', V, h1, h2, h3.free hR, h4⟩
theorem run_alloc_op {t : TypeId} {ti : TypeInfo} {z : Value} (hop : o.op = .alloc t) (hi : P.info? t = some ti) (hz : ti.zero = some z) :
    (execOp a.eval o).run P w = .ok (.value (.pointer (some ⟨w.heap.size, 0, none⟩))) (w.alloc (.cells z.cells t)) := by
  have hrun' : (Go.newRow t z.cells).run P w = .ok ⟨w.heap.size, 0, none⟩ (w.alloc (.cells z.cells t)) := by simp [Go.newRow, newObj, Sem.run]
  simp [execOp, hop, Instr.alloc, run_zeroValue hi hz, newVar, hrun']
variable (IH : RunOk P T ng Φ run) (TO : TabOk P T ng Φ) (hng : C.ng = ng) (hS : CxOk P T ng Φ C)
include IH TO hng hS
/-- One operation, at the memory at which it comes: where it is heavy, that of its own place in the text; else one at which what is noted of it holds, too. -/
theorem op_drawn {R R' : Nat → Prop} {f : FO} {s s' : DS} (ho : os[i]? = some o) (hw : Region.wanted o (yielded os a.tmps) = true) (hf : OpR P ng nt f o) (e : drawOp T run n0 i s f = some s') (H : HR (C.keep R) ρ h n w) (hR : ∀ b, R' b → R b)
    (hal : alOf f ≠ none → R (n0 + i) ∧ ¬ R' (n0 + i)) (hX : ∀ x ∈ o.op.operands, RV ρ (xOf ng x s.ts) (a.eval x))
    (hlight : heavyO f = false → ∀ r ∈ s'.rs, r.i = i → lightAt r h = true) (hheavy : heavyO f = true → h = s.h ∧ n = s.n) :
    ∃ v, s'.ts = putT s.ts (o.dst.map pa) v ∧ Done P (C.keep R') ρ b a w os i o l k cs v (cond (heavyO f) s'.h h) (cond (heavyO f) s'.n n) := by
  cases hf with
  | mv hop hd hlt =>
    rename_i sx d
    have := light_inv e
    subst this
    refine ⟨_, by rw [hd]; rfl, ?_⟩
    have hrun : (execOp a.eval o).run P w = .ok (.value (a.eval (.tmp sx))) w := by
      rcases hop with hop | hop <;> simp [execOp, hop]
    have hv : RV ρ (tmpA s.ts (pa sx)) (a.eval (.tmp sx)) := hX (.tmp sx) (by rcases hop with hop | hop <;> simp [hop, Op.operands])
    exact ⟨ρ, w, _, Ren.le_refl _, hv, H.free hR, .one (step_value ho hw hrun)⟩
  | mc hop hc hd hlt =>
    rename_i x v d
    have := light_inv e
    subst this
    refine ⟨_, by rw [hd]; rfl, ?_⟩
    have hrun : (execOp a.eval o).run P w = .ok (.value (a.eval x)) w := by
      rcases hop with hop | hop <;> simp [execOp, hop]
    have hv : RV ρ v (a.eval x) := by
      have := hX x (by rcases hop with hop | hop <;> simp [hop, Op.operands])
      rw [hc] at this; exact this
    exact ⟨ρ, w, _, Ren.le_refl _, hv, H.free hR, .one (step_value ho hw hrun)⟩
  | pu hs hd =>
    simp only [drawOp, bindO_eq, Option.bind_eq_some_iff] at e
    obtain ⟨v, hv, e⟩ := e
    have := light_inv e
    subst this
    exact ⟨v, by rw [← hd.1], (pu_done ho hw hs H hX hv).free hR⟩
  | rd hs hd =>
    rename_i f d
    simp only [drawOp, bindO_eq, Option.bind_eq_some_iff] at e
    obtain ⟨v, hv, e⟩ := e
    have := light_inv e
    subst this
    have hl := hlight rfl ⟨i, s.ts, v, .rd d f⟩ (by simp) rfl
    have hv' : f s.ts h = some v := by
      have hl' : (match f s.ts h with | some w => eqAV w v | none => false) = true := hl
      cases hx : f s.ts h with
      | none => rw [hx] at hl'; cases hl'
      | some u => rw [hx] at hl'; rw [eqAV_eq hl']
    exact ⟨v, by rw [← hd.1], (rd_done (C := C.keep R) ho hw hng hs H hX hv').free hR⟩
  | me hs hd =>
    obtain ⟨v, h', n', hr, rfl⟩ := heavy_inv e
    obtain ⟨rfl, rfl⟩ := hheavy rfl
    simp only [bindO_eq, Option.bind_eq_some_iff] at hr
    obtain ⟨r1, hr1, hr2⟩ := hr
    exact ⟨v, by rw [← hd.1], (me_done (C := C.keep R) ho hw hng hs H hX hr1 hr2).free hR⟩
  | ca hop hd =>
    obtain ⟨v, h', n', hr, rfl⟩ := heavy_inv e
    obtain ⟨rfl, rfl⟩ := hheavy rfl
    simp only [bindO_eq, Option.bind_eq_some_iff] at hr
    obtain ⟨r1, hr1, hr2⟩ := hr
    exact ⟨v, by rw [← hd.1], (ca_done (C := C.keep R) ho hw IH TO hng (hS.keep TO R) H hX hop hr1 hr2).free hR⟩
  | cf hop hd =>
    obtain ⟨v, h', n', hr, rfl⟩ := heavy_inv e
    obtain ⟨rfl, rfl⟩ := hheavy rfl
    simp only [bindO_eq, Option.bind_eq_some_iff] at hr
    obtain ⟨r1, hr1, hr2⟩ := hr
    exact ⟨v, by rw [← hd.1], (cf_done (C := C.keep R) ho hw IH TO hng (hS.keep TO R) H hX hop hr1 hr2).free hR⟩
  | al hop hi hz h1 hl hd =>
    rename_i t ti z lz d
    subst hl
    simp only [drawOp, forceN_eq] at e
    have := light_inv e
    subst this
    obtain ⟨hq, hq'⟩ := hal (by simp [alOf])
    have hl := hlight rfl ⟨i, s.ts, .ptr (n0 + i) 0, .al d (zeroAV z.cells)⟩ (by simp) rfl
    have hg : h.get (n0 + i) = some (.cells (zeroAV z.cells) false false) := by
      have hl' : (match h.get (n0 + i) with | some (.cells l' false false) => eqLs l' (zeroAV z.cells) | _ => false) = true := hl
      split at hl'
      · rename_i l' hx; rw [hx, eqLs_eq hl']
      · cases hl'
    obtain ⟨hle, H'⟩ := H.bear (e := t) hq hR hq' hg (All2_avOf z.cells.toList) (all_one h1)
    refine ⟨_, by rw [← hd.1], ρ.with (n0 + i) ⟨w.heap.size, 0, z.cells.toList.length, undef⟩, _, _, hle, RV_ptr.2 ⟨⟨w.heap.size, 0, z.cells.toList.length, undef⟩, by simp [Ren.with], rfl⟩, H', .one (step_value ho hw ?_)⟩
    exact run_alloc_op hop hi hz
  | nx hop hd => cases e
  | br hop hd => cases e
  | bad hd => cases e
theorem gop_drawn {R R' : Nat → Prop} {f : FO} {s s' : DS} (ho : os[i]? = some o) (hf : GOpR P ng nt os f o) (e : drawOp T run n0 i s f = some s') (H : HR (C.keep R) ρ h n w) (hR : ∀ b, R' b → R b) (hsz : a.tmps.size = nt)
    (hal : alOf f ≠ none → R (n0 + i) ∧ ¬ R' (n0 + i)) (hX : ∀ x ∈ o.op.operands, RV ρ (xOf ng x s.ts) (a.eval x))
    (hG : ∀ j want g q, o.guard = some (j, want) → os[j]? = some g → g.dst = some q → RV ρ (tmpA s.ts (pa q)) (a.tmps.getD q undef))
    (hlight : heavyO f = false → ∀ r ∈ s'.rs, r.i = i → lightAt r h = true) (hheavy : heavyO f = true → h = s.h ∧ n = s.n) :
    ∃ v, s'.ts = putT s.ts (o.dst.map pa) v ∧ Done P (C.keep R') ρ b a w os i o l k cs v (cond (heavyO f) s'.h h) (cond (heavyO f) s'.n n) := by
  cases hf with
  | plain hg hf => exact op_drawn IH TO hng hS ho (by simp [Region.wanted, hg]) hf e H hR hal hX hlight hheavy
  | gd hg hj hq hlt hd hf =>
    rename_i f j q want g d
    simp only [drawOp, bindO_eq, Option.bind_eq_some_iff] at e
    obtain ⟨t, ht, e⟩ := e
    have hwt := askB_wanted hg hj hq (hG j want g q hg hj hq) (by rw [hsz]; exact hlt) ht
    cases t with
    | true =>
      have := op_drawn (f := f) (l := l) (k := k) (cs := cs) (b := b) IH TO hng hS ho hwt hf (show drawOp T run n0 i s f = some s' from e) H hR hal hX hlight hheavy
      exact this
    | false =>
      simp only [cond_false, putD_eq] at e
      have hdone : Done P (C.keep R') ρ b a w os i o l k cs (.tup .nil) h n := ⟨ρ, w, undef, Ren.le_refl _, RV_undef, H.free hR, .one (skip_op ho hwt)⟩
      cases hh : heavyO f with
      | true =>
        rw [hh] at e
        have := (Option.some.inj e).symm
        subst this
        obtain ⟨rfl, rfl⟩ := hheavy hh
        refine ⟨.tup .nil, by rw [← hd.1], ?_⟩
        have hx : heavyO (.gd (pa q) want d f) = true := hh
        rw [hx]; exact hdone
      | false =>
        rw [hh] at e
        have := (Option.some.inj e).symm
        subst this
        refine ⟨.tup .nil, by rw [← hd.1], ?_⟩
        have hx : heavyO (.gd (pa q) want d f) = false := hh
        rw [hx]; exact hdone
end
end Go.Eng
namespace Go.Eng
open Go

/-! ### blocks laid ahead -/
noncomputable def preM : List FO → Nat → Hp → Hp
  | [], _, h => h
  | o :: os, n, h => match alOf o with
    | some l => preM os (n + 1) (h.put n (.cells l false false))
    | none => preM os (n + 1) h
theorem preAlloc_eq {β : Type} : ∀ (os : List FO) (n : Nat) (h : Hp) (k : Hp → β), preAlloc os n h k = k (preM os n h)
  | [], _, _, _ => rfl
  | o :: os, n, h, k => by
    unfold preAlloc preM
    cases alOf o with
    | none => exact preAlloc_eq os (n + 1) h k
    | some l => simp only [Tr.putK_eq]; exact preAlloc_eq os (n + 1) _ k
theorem preM_low : ∀ (os : List FO) (n : Nat) (h : Hp) (b : Nat), b < n → (preM os n h).get b = h.get b
  | [], _, _, _, _ => rfl
  | o :: os, n, h, b, hb => by
    unfold preM
    cases alOf o with
    | none => exact preM_low os (n + 1) h b (by omega)
    | some l =>
      show (preM os (n + 1) (h.put n _)).get b = _
      rw [preM_low os (n + 1) _ b (by omega), Tr.get_put, if_neg (by omega)]
theorem preM_high : ∀ (os : List FO) (n : Nat) (h : Hp) (b : Nat), n + os.length ≤ b → (preM os n h).get b = h.get b
  | [], _, _, _, _ => rfl
  | o :: os, n, h, b, hb => by
    unfold preM
    simp only [List.length_cons] at hb
    cases alOf o with
    | none => exact preM_high os (n + 1) h b (by omega)
    | some l =>
      show (preM os (n + 1) (h.put n _)).get b = _
      rw [preM_high os (n + 1) _ b (by omega), Tr.get_put, if_neg (by omega)]

/-! ### what comes ahead -/
theorem sameAt_at {b : List Nat} {r : DR} : ∀ (pre post : List Nat) (H1 : Nat → Hp) (h0 : Hp), sameAt b r (h0 :: (pre ++ post).map H1) (pre ++ post) = true → (∀ k ∈ pre, ¬ bitOf b r.i k) → (∀ k, post.head? = some k → ¬ bitOf b k r.i) →
    lightAt r (match pre.getLast? with | none => h0 | some k => H1 k) = true
  | [], [], H1, h0, e, _, _ => e
  | [], k :: ks, H1, h0, e, _, hp => by
    have e' : ((isBefore b k r.i || lightAt r h0) && (isBefore b r.i k || sameAt b r ((k :: ks).map H1) ks)) = true := e
    have hk := hp k rfl
    simp only [Bool.and_eq_true, Bool.or_eq_true] at e'
    exact e'.1.resolve_left hk
  | k :: pre, post, H1, h0, e, hpre, hp => by
    have e' : ((isBefore b k r.i || lightAt r h0) && (isBefore b r.i k || sameAt b r (H1 k :: (pre ++ post).map H1) (pre ++ post))) = true := e
    simp only [Bool.and_eq_true, Bool.or_eq_true] at e'
    have h2 := e'.2.resolve_left (hpre k (by simp))
    have := sameAt_at pre post H1 (H1 k) h2 (fun k' hk' => hpre k' (by simp [hk'])) hp
    cases pre with
    | nil => exact this
    | cons k' pre' =>
      have hx : (k :: k' :: pre').getLast? = (k' :: pre').getLast? := by simp [List.getLast?_cons]
      rw [hx]
      exact this
theorem recsOk_mem {b hv : List Nat} {hs : List Hp} : ∀ {rs : List DR}, recsOk b hv hs rs = true → ∀ r ∈ rs, sameAt b r hs hv = true
  | [], _, _, h => by simp at h
  | x :: rs, e, r, h => by
    simp only [recsOk, Bool.and_eq_true] at e
    simp only [List.mem_cons] at h
    rcases h with rfl | h
    · exact e.1
    · exact recsOk_mem e.2 r h
/-- the heavy ones ahead of c -/
noncomputable def hvTo (fs : List FO) (c : Nat) : List Nat := (List.range c).filter fun i => heavyO (fs.getD i .bad)
theorem hvTo_succ (fs : List FO) (c : Nat) : hvTo fs (c + 1) = hvTo fs c ++ (if heavyO (fs.getD c .bad) then [c] else []) := by
  unfold hvTo
  rw [List.range_succ, List.filter_append]
  congr 1
  simp only [List.filter_cons, List.filter_nil]
theorem hvTo_split (fs : List FO) (c m : Nat) (h : c ≤ m) : ∃ post, hvTo fs m = hvTo fs c ++ post ∧ ∀ k ∈ post, c ≤ k ∧ heavyO (fs.getD k .bad) = true := by
  obtain ⟨d, rfl⟩ := Nat.exists_eq_add_of_le h
  clear h
  induction d with
  | zero => exact ⟨[], by simp, by simp⟩
  | succ d ih =>
    obtain ⟨post, e, hp⟩ := ih
    refine ⟨post ++ (if heavyO (fs.getD (c + d) .bad) then [c + d] else []), ?_, fun k hk => ?_⟩
    · rw [← Nat.add_assoc, hvTo_succ, e, List.append_assoc]
    · rw [List.mem_append] at hk
      rcases hk with hk | hk
      · exact hp k hk
      · split at hk
        · rename_i hh
          simp only [List.mem_singleton] at hk
          subst hk
          exact ⟨by omega, hh⟩
        · simp at hk
theorem mem_hvTo {fs : List FO} {c i : Nat} : i ∈ hvTo fs c ↔ i < c ∧ heavyO (fs.getD i .bad) = true := by
  unfold hvTo
  rw [List.mem_filter, List.mem_range]

section
variable {P : Program} {T : Tab} {Φ : Cx → Prop} {ng nt : Nat} {C : Cx} {run : Rec} {n0 : Nat} {os : Array Oper} {fs : List FO} {bm hv : List Nat}
/-- the states of the order of the text, and what is known of them -/
structure Chain (P : Program) (T : Tab) (ng nt : Nat) (run : Rec) (n0 : Nat) (fs : List FO) (os : Array Oper) (σ : Nat → DS) : Prop where
  len : fs.length = os.size
  step : ∀ (i : Nat) (f : FO) (o : Oper), fs[i]? = some f → os[i]? = some o → drawOp T run n0 i (σ i) f = some (σ (i + 1)) ∧ GOpR P ng nt os f o ∧ Moves f (o.dst.map pa) (σ i) (σ (i + 1))
variable {σ : Nat → DS} (X : Chain P T ng nt run n0 fs os σ)
include X
theorem Chain.at {i : Nat} (h : i < os.size) : ∃ f o, fs[i]? = some f ∧ os[i]? = some o ∧ fs.getD i .bad = f := by
  have h1 : i < fs.length := by rw [X.len]; exact h
  exact ⟨fs[i], os[i], by simp [h1], by simp [h], by simp [h1]⟩
theorem Chain.heaps {c : Nat} (h : c ≤ os.size) : (σ c).h = (match (hvTo fs c).getLast? with | none => (σ 0).h | some k => (σ (k + 1)).h) ∧ (σ c).hs.reverse = (σ 0).hs.reverse ++ (hvTo fs c).map fun k => (σ (k + 1)).h := by
  induction c with
  | zero => exact ⟨rfl, by simp [hvTo]⟩
  | succ c ih =>
    obtain ⟨e1, e2⟩ := ih (by omega)
    obtain ⟨f, o, hf, ho, hg⟩ := X.at (i := c) (by omega)
    obtain ⟨_, _, _, _, hl, hh⟩ := X.step c f o hf ho
    rw [hvTo_succ, hg]
    cases hx : heavyO f with
    | true =>
      have := hh hx
      simp only [if_true, List.getLast?_append, List.getLast?_singleton, Option.some_or, List.map_append, List.map_cons, List.map_nil]
      refine ⟨trivial, ?_⟩
      rw [this, List.reverse_cons, e2, List.append_assoc]
    | false =>
      obtain ⟨g1, g2, g3⟩ := hl hx
      simp only [Bool.false_eq_true, if_false, List.append_nil]
      rw [g1, g3]
      exact ⟨e1, e2⟩
/-- between two cuts with no heavy operation memory stands -/
theorem Chain.still {c i : Nat} (hci : c ≤ i) (hi : i ≤ os.size) (hno : ∀ k, c ≤ k → k < i → heavyO (fs.getD k .bad) = false) : (σ i).h = (σ c).h ∧ (σ i).n = (σ c).n := by
  obtain ⟨d, rfl⟩ := Nat.exists_eq_add_of_le hci
  clear hci
  induction d with
  | zero => exact ⟨rfl, rfl⟩
  | succ d ih =>
    obtain ⟨e1, e2⟩ := ih (by omega) fun k h1 h2 => hno k h1 (by omega)
    obtain ⟨f, o, hf, ho, hg⟩ := X.at (i := c + d) (by omega)
    obtain ⟨_, _, _, _, hl, _⟩ := X.step (c + d) f o hf ho
    have hx := hno (c + d) (by omega) (by omega)
    rw [hg] at hx
    obtain ⟨g1, g2, _⟩ := hl hx
    exact ⟨g1.trans e1, g2.trans e2⟩
theorem Chain.recs {i m : Nat} (him : i ≤ m) (hm : m ≤ os.size) : ∀ r ∈ (σ i).rs, r ∈ (σ m).rs := by
  obtain ⟨d, rfl⟩ := Nat.exists_eq_add_of_le him
  clear him
  induction d with
  | zero => exact fun r h => h
  | succ d ih =>
    intro r hr
    obtain ⟨f, o, hf, ho, _⟩ := X.at (i := i + d) (by omega)
    obtain ⟨_, _, _, hmono, _⟩ := X.step (i + d) f o hf ho
    exact hmono r (ih (by omega) r hr)
/-- a temporary's value, by its writer -/
theorem Chain.tmp (t i : Nat) (hi : i ≤ os.size) (hone : ∀ (i j : Nat) (o o' : Oper) (t : Nat), os[i]? = some o → os[j]? = some o' → o.dst = some t → o'.dst = some t → i = j) :
    ((∀ j o, os[j]? = some o → o.dst = some t → i ≤ j) → tmpA (σ i).ts (pa t) = tmpA (σ 0).ts (pa t)) ∧
    (∀ j o, os[j]? = some o → o.dst = some t → j < i → tmpA (σ i).ts (pa t) = tmpA (σ (j + 1)).ts (pa t)) := by
  induction i with
  | zero => exact ⟨fun _ => rfl, fun j o _ _ h => by omega⟩
  | succ i ih =>
    obtain ⟨ih1, ih2⟩ := ih (by omega)
    obtain ⟨f, o, hf, ho, _⟩ := X.at (i := i) (by omega)
    obtain ⟨_, _, ⟨v, hv⟩, _⟩ := X.step i f o hf ho
    have keep : o.dst ≠ some t → tmpA (σ (i + 1)).ts (pa t) = tmpA (σ i).ts (pa t) := fun hne => by
      rw [hv]
      cases hd : o.dst with
      | none => rfl
      | some d =>
        show tmpA (Tr.toK (pa d) (σ i).ts v id) (pa t) = _
        rw [Tr.toK_eq]
        show tmpA (Tr.to (pa d) (σ i).ts v) (pa t) = _
        rw [tmpA_to, if_neg]
        intro e
        rw [pa_inj e] at hne
        exact hne hd
    refine ⟨fun h => ?_, fun j o' ho' hd' hj => ?_⟩
    · have hne : o.dst ≠ some t := fun e => by have := h i o ho e; omega
      rw [keep hne]
      exact ih1 fun j o' ho' hd' => by have := h j o' ho' hd'; omega
    · by_cases hji : j = i
      · subst hji; rfl
      · have hne : o.dst ≠ some t := fun e => hji (hone j i o' o t ho' ho hd' e)
        rw [keep hne]
        exact ih2 j o' ho' hd' (by omega)
end

/-! ### every order -/
section
variable {P : Program} {T : Tab} {Φ : Cx → Prop} {ng nt : Nat} {C : Cx} {run : Rec} {ro : Option Nat} {ds : List Nat} {b : Frame} {n0 : Nat} {os : Array Oper} {fs : List FO} {bm hv : List Nat} {σ : Nat → DS} {k : List Item} {cs : List Frame}
def kept (C : Cx) (fs : List FO) (n0 : Nat) (E : Nat → Prop) : Nat → Prop := fun q => C.res q ∨ ∃ i, i < fs.length ∧ ¬ E i ∧ alOf (fs.getD i .bad) ≠ none ∧ q = n0 + i
theorem OpR.dst_lt {P : Program} {ng nt : Nat} {f : FO} {o : Oper} (h : OpR P ng nt f o) {t : Nat} (e : o.dst = some t) : t < nt := by
  cases h with
  | mv _ hd hlt => rw [hd] at e; cases e; exact hlt
  | mc _ _ hd hlt => rw [hd] at e; cases e; exact hlt
  | pu _ hd => exact hd.2 t e
  | rd _ hd => exact hd.2 t e
  | me _ hd => exact hd.2 t e
  | ca _ hd => exact hd.2 t e
  | cf _ hd => exact hd.2 t e
  | al _ _ _ _ _ hd => exact hd.2 t e
  | nx _ hd => exact hd.2 t e
  | br _ hd => exact hd.2 t e
  | bad hd => exact hd.2 t e
theorem GOpR.dst_lt {P : Program} {ng nt : Nat} {os : Array Oper} {f : FO} {o : Oper} (h : GOpR P ng nt os f o) {t : Nat} (e : o.dst = some t) : t < nt := by
  cases h with
  | plain _ h => exact h.dst_lt e
  | gd _ _ _ _ hd _ => exact hd.2 t e
theorem put_other {a : Act} {d : Option Tmp} {V : Value} {t : Nat} (h : d ≠ some t) : (a.put d V).tmps.getD t undef = a.tmps.getD t undef := by
  cases d with
  | none => rfl
  | some d =>
    have hne : d ≠ t := fun e => h (by rw [e])
    show (a.tmps.setIfInBounds d V).getD t undef = _
    simp [Array.getD_eq_getD_getElem?, Array.getElem?_setIfInBounds_ne hne]
theorem put_same {a : Act} {V : Value} {t : Nat} (h : t < a.tmps.size) : (a.put (some t) V).tmps.getD t undef = V := by
  show (a.tmps.setIfInBounds t V).getD t undef = _
  rw [getD_set h, if_pos rfl]
theorem put_size {a : Act} {d : Option Tmp} {V : Value} : (a.put d V).tmps.size = a.tmps.size := by
  cases d with
  | none => rfl
  | some d => show (a.tmps.setIfInBounds d V).size = _; rw [Array.size_setIfInBounds]
theorem put_defers {a : Act} {d : Option Tmp} {V : Value} : (a.put d V).defers = a.defers := by cases d <;> rfl
structure Inv (C : Cx) (nt : Nat) (ro : Option Nat) (ds : List Nat) (b : Frame) (n0 : Nat) (os : Array Oper) (fs : List FO) (σ : Nat → DS) (E : Nat → Prop) (ρ : Ren) (a : Act) (w : World) : Prop where
  low : ∀ i, E i → i < os.size
  closed : ∀ (i : Nat) (o : Oper), os[i]? = some o → E i → ∀ e ∈ o.after, Region.binds .any e = true → E e.on
  cut : ∃ c, c ≤ os.size ∧ (∀ i, i < c → heavyO (fs.getD i .bad) = true → E i) ∧ (∀ i, c ≤ i → heavyO (fs.getD i .bad) = true → ¬ E i) ∧ HR (C.keep (kept C fs n0 E)) ρ (σ c).h (σ c).n w
  done : ∀ (t i : Nat) (o : Oper), os[i]? = some o → o.dst = some t → E i → RV ρ (tmpA (σ (i + 1)).ts (pa t)) (a.tmps.getD t undef)
  not : ∀ (t : Nat), (∀ (i : Nat) (o : Oper), os[i]? = some o → o.dst = some t → ¬ E i) → RV ρ (tmpA (σ 0).ts (pa t)) (a.tmps.getD t undef)
  size : a.tmps.size = nt
  ds : All2 (fun l (d : Deferred) => ∃ loc, ρ l = some loc ∧ d = { target := .collected loc.blk, args := #[] }) ds a.defers
  ro : roR ρ ro b
variable (IH : RunOk P T ng Φ run) (TO : TabOk P T ng Φ) (hng : C.ng = ng) (hS : CxOk P T ng Φ C) (X : Chain P T ng nt run n0 fs os σ) (D : DrawR P ng nt fs bm hv os) (hrec : recsOk bm hv (σ os.size).hs.reverse (σ os.size).rs = true) (hhs : (σ 0).hs = [(σ 0).h]) (hres : ∀ q, C.res q → q < n0)
include IH TO hng hS X D hrec hhs hres
theorem draw_step {E E' : Nat → Prop} {ρ : Ren} {a : Act} {w : World} {i : Nat} {l : List Nat} (hi : i < os.size) (hnot : ¬ E i) (hready : ∀ o, os[i]? = some o → ∀ e ∈ o.after, Region.binds .any e = true → E e.on) (hE' : ∀ j, E' j ↔ E j ∨ j = i)
    (V : Inv C nt ro ds b n0 os fs σ E ρ a w) : ∃ ρ' a' w', ρ.le ρ' ∧ Inv C nt ro ds b n0 os fs σ E' ρ' a' w' ∧ Steps P (lone (b.atR a (.inRegion os (i :: l) :: k)) cs w) (lone (b.atR a' (.inRegion os l :: k)) cs w') := by
  obtain ⟨f, o, hf, ho, hfg⟩ := X.at hi
  obtain ⟨hstep, hG, hmv⟩ := X.step i f o hf ho
  have hM := D.masks E V.closed
  have bitE : ∀ j, bitOf bm j i → E j := fun j hj => hM i o ho (hready o ho) j hj
  have bitN : ∀ j, bitOf bm i j → E j → ¬ True := fun j hj hEj => by
    obtain ⟨fj, oj, _, hoj, _⟩ := X.at (V.low j hEj)
    exact absurd (hM j oj hoj (V.closed j oj hoj hEj) i hj) hnot
  -- temporaries that it reads
  have reads : ∀ (t : Nat), (Operand.tmp t ∈ o.op.operands ∨ ∃ g w, o.guard = some (g, w) ∧ ∃ og, os[g]? = some og ∧ og.dst = some t) → RV ρ (tmpA (σ i).ts (pa t)) (a.tmps.getD t undef) := by
    intro t ht
    obtain ⟨ht1, ht2⟩ := X.tmp t i (by omega) D.one
    by_cases hwr : ∃ (j : Nat) (o' : Oper), os[j]? = some o' ∧ o'.dst = some t
    · obtain ⟨j, o', hj, hd⟩ := hwr
      have hord := D.reads i j o o' t ho hj hd (by
        rcases ht with x | ⟨g, wv, hg, og, hog, hdg⟩
        · exact .inl x
        · exact .inr ⟨g, wv, hg, D.one j g o' og t hj hog hd hdg⟩)
      by_cases hEj : E j
      · have hne : j ≠ i := fun e => hnot (e ▸ hEj)
        have hlt : j < i := by
          rcases Nat.lt_or_ge j i with x | x
          · exact x
          · exact absurd trivial (bitN j (hord.2 (by omega)) hEj)
        rw [ht2 j o' hj hd hlt]
        exact V.done t j o' hj hd hEj
      · have hge : i ≤ j := by
          rcases Nat.lt_or_ge j i with x | x
          · exact absurd (bitE j (hord.1 x)) hEj
          · exact x
        rw [ht1 fun j' o'' hj' hd' => by rw [D.one j' j o'' o' t hj' hj hd' hd]; exact hge]
        exact V.not t fun j' o'' hj' hd' => by rw [D.one j' j o'' o' t hj' hj hd' hd]; exact hEj
    · rw [ht1 fun j o' hj hd => absurd ⟨j, o', hj, hd⟩ hwr]
      exact V.not t fun j o' hj hd => absurd ⟨j, o', hj, hd⟩ hwr
  obtain ⟨c, hc, hc1, hc2, H⟩ := V.cut
  have hX : ∀ x ∈ o.op.operands, RV ρ (xOf ng x (σ i).ts) (a.eval x) := fun x hx => by
    have hglob : globR ng ρ := by have := H.glob; rw [show (C.keep (kept C fs n0 E)).ng = C.ng from rfl, hng] at this; exact this
    exact RV_xOf hglob x fun t e => reads t (.inl (e ▸ hx))
  have hR : ∀ q, kept C fs n0 E' q → kept C fs n0 E q := fun q hq => by
    rcases hq with x | ⟨j, h1, h2, h3, h4⟩
    · exact .inl x
    · exact .inr ⟨j, h1, fun y => h2 ((hE' j).2 (.inl y)), h3, h4⟩
  have hil : i < fs.length := by rw [X.len]; exact hi
  have hnoh : heavyO f = true → c ≤ i ∧ ∀ q, c ≤ q → q < i → heavyO (fs.getD q .bad) = false := fun hh => by
    have hci : c ≤ i := by
      rcases Nat.lt_or_ge i c with x | x
      · exact absurd (hc1 i x (by rw [hfg]; exact hh)) hnot
      · exact x
    refine ⟨hci, fun q h1 h2 => ?_⟩
    cases hx : heavyO (fs.getD q .bad) with
    | false => rfl
    | true =>
      have m1 : q ∈ hv := by rw [D.heavy]; exact mem_hvTo.2 ⟨by omega, hx⟩
      have m2 : i ∈ hv := by rw [D.heavy]; exact mem_hvTo.2 ⟨hi, by rw [hfg]; exact hh⟩
      exact absurd (bitE q (D.chain q i h2 m1 m2)) (hc2 q h1 hx)
  have hheavy : heavyO f = true → (σ c).h = (σ i).h ∧ (σ c).n = (σ i).n := fun hh => by
    obtain ⟨hci, hno⟩ := hnoh hh
    obtain ⟨e1, e2⟩ := X.still hci (by omega) hno
    exact ⟨e1.symm, e2.symm⟩
  have hlight : heavyO f = false → ∀ r ∈ (σ (i + 1)).rs, r.i = i → lightAt r (σ c).h = true := fun _ r hr hri => by
    have hr' := X.recs (i := i + 1) (m := os.size) (by omega) (Nat.le_refl _) r hr
    have hsame := recsOk_mem hrec r hr'
    rw [(X.heaps (Nat.le_refl _)).2, hhs, D.heavy] at hsame
    obtain ⟨post, hsplit, hpost⟩ := hvTo_split fs c os.size hc
    have hsame' : sameAt bm r ((σ 0).h :: (hvTo fs c ++ post).map fun q => (σ (q + 1)).h) (hvTo fs c ++ post) = true := by
      rw [← hsplit]; exact hsame
    have := sameAt_at (hvTo fs c) post _ _ hsame' (fun q hq hb => by
        rw [hri] at hb
        obtain ⟨h1, h2⟩ := mem_hvTo.1 hq
        exact bitN q hb (hc1 q h1 h2) trivial) (fun q hq hb => by
        rw [hri] at hb
        have hmem : q ∈ post := List.mem_of_mem_head? (by rw [hq]; rfl)
        obtain ⟨h1, h2⟩ := hpost q hmem
        exact hc2 q h1 h2 (bitE q hb))
    rw [(X.heaps hc).1]
    exact this
  obtain ⟨v, hv1, ρ', w', Vv, hle, hRV, H', hst⟩ := gop_drawn (R := kept C fs n0 E) (R' := kept C fs n0 E') (b := b) (l := l) (k := k) (cs := cs) IH TO hng hS ho hG hstep H hR V.size
    (fun hal => ⟨.inr ⟨i, hil, hnot, by rw [hfg]; exact hal, rfl⟩, fun hq => by
      rcases hq with x | ⟨j, h1, h2, h3, h4⟩
      · have := hres _ x
        omega
      · have : j = i := by omega
        exact h2 ((hE' j).2 (.inr this))⟩) hX
    (fun j want g q hg hj hq => reads q (.inr ⟨j, want, hg, g, hj, hq⟩)) hlight hheavy
  refine ⟨ρ', a.put o.dst Vv, w', hle, ⟨fun j hj => ?_, fun j o' hj hEj e he hb => ?_, ?_, fun t j o' hj hd hEj => ?_, fun t ht => ?_, by rw [put_size]; exact V.size, by rw [put_defers]; exact ds_mono hle V.ds, St.mono_ro hle V.ro⟩, hst⟩
  · rcases (hE' j).1 hj with x | x
    · exact V.low j x
    · omega
  · rcases (hE' j).1 hEj with x | x
    · exact (hE' _).2 (.inl (V.closed j o' hj x e he hb))
    · subst x
      exact (hE' _).2 (.inl (hready o' hj e he hb))
  · cases hh : heavyO f with
    | true =>
      obtain ⟨hci, hno⟩ := hnoh hh
      rw [hh] at H'
      refine ⟨i + 1, by omega, fun q h1 h2 => ?_, fun q h1 h2 h3 => ?_, H'⟩
      · by_cases hqi : q = i
        · exact (hE' q).2 (.inr hqi)
        · rcases Nat.lt_or_ge q c with x | x
          · exact (hE' q).2 (.inl (hc1 q x h2))
          · rw [hno q x (by omega)] at h2; cases h2
      · rcases (hE' q).1 h3 with x | x
        · exact hc2 q (by omega) h2 x
        · omega
    | false =>
      rw [hh] at H'
      refine ⟨c, hc, fun q h1 h2 => (hE' q).2 (.inl (hc1 q h1 h2)), fun q h1 h2 h3 => ?_, H'⟩
      rcases (hE' q).1 h3 with x | x
      · exact hc2 q h1 h2 x
      · subst x
        rw [hfg, hh] at h2; cases h2
  · by_cases hji : j = i
    · subst hji
      obtain rfl : o = o' := Option.some.inj (ho.symm.trans hj)
      rw [hv1, hd, put_same (by rw [V.size]; exact hG.dst_lt hd)]
      show RV ρ' (tmpA (Tr.toK (pa t) (σ j).ts v id) (pa t)) Vv
      rw [Tr.toK_eq]
      show RV ρ' (tmpA (Tr.to (pa t) (σ j).ts v) (pa t)) Vv
      rw [tmpA_to, if_pos rfl]
      exact hRV
    · have hne : o.dst ≠ some t := fun e => hji (D.one j i o' o t hj ho hd e)
      rw [put_other hne]
      exact (V.done t j o' hj hd (((hE' j).1 hEj).resolve_right hji)).mono hle
  · have hne : o.dst ≠ some t := fun e => ht i o ho e ((hE' i).2 (.inr rfl))
    rw [put_other hne]
    exact (V.not t fun j o' hj hd hEj => ht j o' hj hd ((hE' j).2 (.inl hEj))).mono hle

def Elist (listed : Array Bool) : Nat → Prop := fun i => listed.getD i false = true
omit IH TO hng hS X hrec hhs hres in
theorem all_listed {listed : Array Bool} (hsz : listed.size = os.size) (h : Region.ready .any os listed = []) : ∀ i, i < os.size → Elist listed i := by
  intro i
  induction i using Nat.strongRecOn with
  | _ i ih =>
    intro hi
    cases hx : listed.getD i true with
    | true =>
      show listed.getD i false = true
      have hlt : i < listed.size := by omega
      simp only [Array.getD_eq_getD_getElem?, Array.getElem?_eq_getElem hlt, Option.getD_some] at hx ⊢
      exact hx
    | false =>
      exfalso
      have hm : i ∈ Region.ready .any os listed := by
        rw [mem_ready]
        refine ⟨hx, os[i], by simp [hi], fun e he hb => ?_⟩
        have hlt := D.edges i os[i] (by simp [hi]) e he hb
        exact ih e.on hlt (by omega)
      rw [h] at hm
      simp at hm
omit IH TO hng hS X D hrec hhs hres in
theorem filter_less {p p' : Nat → Bool} {i : Nat} (hp : ∀ x, p' x = true → p x = true) (h1 : p i = true) (h2 : p' i = false) : ∀ (l : List Nat), (l.filter p').length ≤ (l.filter p).length ∧ (i ∈ l → (l.filter p').length < (l.filter p).length)
  | [] => ⟨Nat.le_refl _, fun h => by simp at h⟩
  | x :: l => by
    obtain ⟨g1, g2⟩ := filter_less hp h1 h2 l
    simp only [List.filter_cons]
    refine ⟨?_, fun hi => ?_⟩
    · cases hx : p' x with
      | true => rw [hp x hx]; simpa using g1
      | false => cases p x <;> simp <;> omega
    · rw [List.mem_cons] at hi
      cases hx : p' x with
      | true =>
        rw [hp x hx]
        have hne : i ≠ x := fun e => by rw [e, hx] at h2; cases h2
        have := g2 (hi.resolve_left hne)
        simpa using this
      | false =>
        by_cases e : i = x
        · subst e
          rw [h1]; simp; omega
        · have := g2 (hi.resolve_left e)
          cases p x <;> simp <;> omega
theorem draw_all : ∀ (fuel t : Nat) (listed : Array Bool) (ρ : Ren) (a : Act) (w : World), listed.size = os.size → ((List.range os.size).filter fun i => !listed.getD i true).length ≤ fuel → Inv C nt ro ds b n0 os fs σ (Elist listed) ρ a w →
    ∃ ρ' a' w', ρ.le ρ' ∧ Inv C nt ro ds b n0 os fs σ (fun i => i < os.size) ρ' a' w' ∧ Steps P (lone (b.atR a (.inRegion os (Region.linearise.go .any os fuel t listed []) :: k)) cs w) (lone (b.atR a' k) cs w') := by
  have fin : ∀ (listed : Array Bool) (ρ : Ren) (a : Act) (w : World), listed.size = os.size → (∀ i, i < os.size → Elist listed i) → Inv C nt ro ds b n0 os fs σ (Elist listed) ρ a w →
      ∃ ρ' a' w', ρ.le ρ' ∧ Inv C nt ro ds b n0 os fs σ (fun i => i < os.size) ρ' a' w' ∧ Steps P (lone (b.atR a (.inRegion os [] :: k)) cs w) (lone (b.atR a' k) cs w') := by
    intro listed ρ a w hsz hall V
    have e : Elist listed = fun i => i < os.size := by
      funext i
      refine propext ⟨fun h => V.low i h, fun h => hall i h⟩
    rw [e] at V
    exact ⟨ρ, a, w, Ren.le_refl _, V, .one stepR_region_end⟩
  intro fuel
  induction fuel with
  | zero =>
    intro t listed ρ a w hsz hcount V
    have hnil : ((List.range os.size).filter fun i => !listed.getD i true) = [] := List.eq_nil_of_length_eq_zero (by omega)
    refine fin listed ρ a w hsz (fun i hi => ?_) V
    have hn := List.filter_eq_nil_iff.1 hnil i (List.mem_range.2 hi)
    have hlt : i < listed.size := by omega
    show listed.getD i false = true
    simp only [Array.getD_eq_getD_getElem?, Array.getElem?_eq_getElem hlt, Option.getD_some] at hn ⊢
    simpa using hn
  | succ fuel ih =>
    intro t listed ρ a w hsz hcount V
    simp only [Region.linearise.go]
    change ∃ ρ' a' w', ρ.le ρ' ∧ Inv C nt ro ds b n0 os fs σ (fun i => i < os.size) ρ' a' w' ∧ Steps P (lone (b.atR a (.inRegion os (match (Region.ready .any os listed)[t % (Region.ready .any os listed).length]? with
      | some i => Region.linearise.go .any os fuel (t / (Region.ready .any os listed).length) (listed.setIfInBounds i true) [i]
      | none => [].reverse) :: k)) cs w) (lone (b.atR a' k) cs w')
    cases hi : (Region.ready .any os listed)[t % (Region.ready .any os listed).length]? with
    | none =>
      have hnil : Region.ready .any os listed = [] := by
        cases hr : Region.ready .any os listed with
        | nil => rfl
        | cons x xs =>
          rw [hr] at hi
          have hlt : t % (x :: xs).length < (x :: xs).length := Nat.mod_lt _ (by simp)
          simp at hi
          simp at hlt
          omega
      exact fin listed ρ a w hsz (all_listed D hsz hnil) V
    | some i =>
      have hmem := List.mem_of_getElem? hi
      rw [mem_ready] at hmem
      obtain ⟨h0, o, ho, hall⟩ := hmem
      have hlt : i < os.size := (Array.getElem?_eq_some_iff.1 ho).1
      have hlt' : i < listed.size := by omega
      have hnot : ¬ Elist listed i := by
        show ¬ listed.getD i false = true
        simp only [Array.getD_eq_getD_getElem?, Array.getElem?_eq_getElem hlt', Option.getD_some] at h0 ⊢
        simp [h0]
      obtain ⟨ρ1, a1, w1, hle1, V1, hs1⟩ := draw_step (k := k) (cs := cs) (E' := Elist (listed.setIfInBounds i true)) (l := Region.linearise.go .any os fuel (t / (Region.ready .any os listed).length) (listed.setIfInBounds i true) []) IH TO hng hS X D hrec hhs hres hlt hnot
        (fun o' ho' e he hb => by
          obtain rfl : o = o' := Option.some.inj (ho.symm.trans ho')
          exact hall e he hb) (fun j => by
          show (listed.setIfInBounds i true).getD j false = true ↔ listed.getD j false = true ∨ j = i
          by_cases e : j = i
          · subst e; simp [hlt']
          · rw [getD_set_ne false (Ne.symm e)]; simp [e]) V
      obtain ⟨ρ2, a2, w2, hle2, V2, hs2⟩ := ih (t / (Region.ready .any os listed).length) (listed.setIfInBounds i true) ρ1 a1 w1 (by simpa using hsz) (by
        have := (filter_less (p := fun i => !listed.getD i true) (p' := fun j => !(listed.setIfInBounds i true).getD j true) (i := i) (fun x hx => by
            by_cases e : x = i
            · subst e; simp [hlt'] at hx
            · rw [getD_set_ne true (Ne.symm e)] at hx; exact hx) (by simp [h0]) (by simp [hlt']) (List.range os.size)).2 (List.mem_range.2 hlt)
        omega) V1
      refine ⟨ρ2, a2, w2, Ren.le_trans hle1 hle2, V2, ?_⟩
      simp only []
      rw [linearise_go_acc, List.reverse_singleton, List.singleton_append]
      exact Steps.trans hs1 hs2
end

theorem draw_sound {P : Program} {T : Tab} {Φ : Cx → Prop} {ng : Nat} {run : Rec} (TO : TabOk P T ng Φ) (IH : RunOk P T ng Φ run) : DrawOk P T ng Φ run := by
  intro C hng hS nt ρ ro ts ds h n b a w fs bm hv os id k cs ts' h' n' e D s
  unfold drawF at e
  rw [preAlloc_eq] at e
  simp only [forceN_eq, bindO_eq, Option.bind_eq_some_iff, guardB_some] at e
  obtain ⟨s1, h1, hrec, e⟩ := e
  obtain ⟨σ, e0, e1, hstep⟩ := drawGo_states fs 0 _ _ h1
  have hlen : fs.length = os.size := by simpa using D.ops.length
  have X : Chain P T ng nt run n fs os σ := ⟨hlen, fun i f o hf ho => by
    have h2 := hstep i f hf
    rw [Nat.zero_add] at h2
    obtain ⟨o', ho', hG⟩ := D.ops.get i f hf
    obtain rfl : o = o' := Option.some.inj (ho.symm.trans (by simpa using ho'))
    exact ⟨h2, hG, gop_moves hG h2⟩⟩
  have hsz1 : σ os.size = s1 := by rw [← hlen]; exact e1
  have H0 : HR (C.keep (kept C fs n (Elist (Array.replicate os.size false)))) ρ (preM fs n h) (n + fs.length) { w with drawn := w.drawn + 1 } := by
    refine (s.H.drew _).keep (by omega) (fun q => ?_) (fun q hq => ?_)
    · rcases Nat.lt_or_ge q n with x | x
      · exact .inr (preM_low fs n h q x)
      · exact .inl (s.H.fresh q x)
    · rcases hq with x | ⟨i, hi, _, _, hq⟩
      · exact .inl x
      · exact .inr ⟨by omega, by omega⟩
  have hno : ∀ i, ¬ Elist (Array.replicate os.size false) i := fun i hi => by
    have hi' : (Array.replicate os.size false).getD i false = true := hi
    rw [Array.getD_eq_getD_getElem?, Array.getElem?_replicate] at hi'
    split at hi' <;> simp at hi'
  have V0 : Inv C nt ro ds b n os fs σ (Elist (Array.replicate os.size false)) ρ a { w with drawn := w.drawn + 1 } :=
    ⟨fun i hi => absurd hi (hno i), fun i o _ hi => absurd hi (hno i), ⟨0, Nat.zero_le _, fun i hi => by omega, fun i _ _ => hno i, by rw [e0]; exact H0⟩,
      fun t i o _ _ hi => absurd hi (hno i), fun t _ => by rw [e0]; exact s.tmps t, s.size, s.ds, s.ro⟩
  have hdraw := stepR_region_draw (P := P) (b := b) (a := a) (k := k) (cs := cs) (w := w) (ops := os) (id := id)
  have hsched : Region.schedule (P.follows .mixedOrders) os (w.tape w.drawn (.order b.fn id)) = Region.linearise.go .any os os.size (w.tape w.drawn (.order b.fn id)) (Array.replicate os.size false) [] := by
    simp [Region.schedule, TO.mixed, Region.linearise]
  rw [hsched] at hdraw
  obtain ⟨ρ', a', w', hle, V, hst⟩ := draw_all (k := k) (cs := cs) IH TO hng hS X D (by rw [hsz1]; exact hrec) (by rw [e0]) (fun q hq => (s.H.res q hq).1) os.size (w.tape w.drawn (.order b.fn id)) (Array.replicate os.size false) ρ a { w with drawn := w.drawn + 1 } (by simp)
    (Nat.le_trans (List.length_filter_le _ _) (by simp)) V0
  have hx := Option.some.inj e
  simp only [Prod.mk.injEq] at hx
  obtain ⟨rfl, rfl, rfl⟩ := hx
  obtain ⟨c, hc, hc1, hc2, H⟩ := V.cut
  have hstill := X.still hc (Nat.le_refl _) fun q h1 h2 => by
    cases hh : heavyO (fs.getD q .bad) with
    | false => rfl
    | true => exact absurd h2 (hc2 q h1 hh)
  rw [hsz1] at hstill
  refine ⟨ρ', a', w', hle, ⟨?_, fun t => ?_, V.size, V.ds, s.kind, V.ro⟩, .head hdraw hst⟩
  · rw [hstill.1, hstill.2]
    exact H.unkeep fun q hq => .inl hq
  · obtain ⟨ht1, ht2⟩ := X.tmp t os.size (Nat.le_refl _) D.one
    rw [hsz1] at ht1 ht2
    by_cases hwr : ∃ (j : Nat) (o' : Oper), os[j]? = some o' ∧ o'.dst = some t
    · obtain ⟨j, o', hj, hd⟩ := hwr
      have hlt := (Array.getElem?_eq_some_iff.1 hj).1
      rw [ht2 j o' hj hd hlt]
      exact V.done t j o' hj hd hlt
    · rw [ht1 fun j o' hj hd => absurd ⟨j, o', hj, hd⟩ hwr]
      exact V.not t fun j o' hj hd => absurd ⟨j, o', hj, hd⟩ hwr
/-- THE RUN GOES AS THE MACHINE GOES. -/
theorem exec_ok {P : Program} {T : Tab} {Φ : Cx → Prop} {ng : Nat} (TO : TabOk P T ng Φ) (f : Nat) : RunOk P T ng Φ (exec T f) := exec_sound TO (fun _ => draw_sound TO) f
end Go.Eng
