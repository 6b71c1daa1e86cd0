/-
  CODE RUN BY THE KERNEL. What is known of a frame is a list (slot, value). The operations that only reckon are run by the model's own 'execOp'; a load, a store, a comparison, a call .. is told by a tip, and owed as a plain fact that names no frame.
-/
import Derived.Below
import Derived.Tactics
import Derived.Scope
import Derived.Deep.Quiet
import Derived.Laws.StructEq
namespace Go.Proofs.YgcsagGreat
open Go.RowKit
set_option linter.unusedVariables false
set_option linter.unusedSimpArgs false
set_option linter.unusedSectionVars false

/-- What a slot holds. -/
def look : List (Nat × Value) → Nat → Option Value
  | [], _ => none
  | (s, v) :: F, t => match Nat.beq s t with
    | true => some v
    | false => look F t

/-- The list tells the truth of the frame. -/
def Rep (n : Nat) (F : List (Nat × Value)) (a : Act) : Prop := a.defers = [] ∧ a.tmps.size = n ∧ ∀ t v, look F t = some v → a.tmps[t]? = some v

/-- Outside of D nothing has changed. -/
def Same (a : Act) (D : List Nat) (a' : Act) : Prop := ∀ t, t ∉ D → a'.tmps[t]? = a.tmps[t]?

theorem Same.refl (a : Act) (D : List Nat) : Same a D a := fun _ _ => rfl
theorem Same.trans {a b c : Act} {D E : List Nat} (h : Same a D b) (k : Same b E c) : Same a (D ++ E) c := fun t ht => by
  rw [k t (fun h' => ht (List.mem_append_right _ h')), h t (fun h' => ht (List.mem_append_left _ h'))]
theorem Same.more {a b : Act} {D E : List Nat} (h : Same a D b) (k : ∀ t, t ∈ D → t ∈ E) : Same a E b := fun t ht => h t (fun h' => ht (k t h'))

/-- What is known once a slot is written. -/
def putK (n : Nat) (F : List (Nat × Value)) (d : Option Tmp) (v : Value) (k : List (Nat × Value) → Prop) : Prop :=
  match d with
  | none => k F
  | some t => match Nat.blt t n with
    | true => k ((t, v) :: F)
    | false => False

theorem putK_rep {n : Nat} {F : List (Nat × Value)} {d : Option Tmp} {v : Value} {k : List (Nat × Value) → Prop} {a : Act} (h : putK n F d v k) (hr : Rep n F a) : ∃ F', k F' ∧ Rep n F' (a.put d v) ∧ Same a d.toList (a.put d v) := by
  cases d with
  | none => exact ⟨F, h, hr, Same.refl _ _⟩
  | some t =>
    unfold putK at h
    simp only at h
    split at h
    · rename_i ht
      have hlt : t < n := by simpa [Nat.blt_eq] using ht
      refine ⟨_, h, ⟨hr.1, by simp [Act.put, hr.2.1], fun s u hs => ?_⟩, fun s hs => ?_⟩
      · unfold look at hs
        split at hs
        · rename_i hst
          have : t = s := Nat.eq_of_beq_eq_true hst
          subst this
          simp only [Option.some.injEq] at hs
          subst hs
          simp [Act.put, hr.2.1, hlt]
        · rename_i hst
          have hne : t ≠ s := Nat.ne_of_beq_eq_false hst
          simp only [Act.put, Array.getElem?_setIfInBounds_ne hne]
          exact hr.2.2 s u hs
      · have hne : t ≠ s := fun e => hs (by simp [e])
        simp only [Act.put, Array.getElem?_setIfInBounds_ne hne]
    · exact h.elim

/-- An operand's value, where it is known. -/
def evalF (F : List (Nat × Value)) : Operand → Option Value
  | .tmp t => look F t
  | .const v => some v
  | .global g => some (.pointer (some ⟨g, 0, none⟩))
  | .func f => some (.func (.func f) #[] #[])

def rho (F : List (Nat × Value)) (x : Operand) : Value := match evalF F x with
  | some v => v
  | none => undef

theorem rho_eval {n : Nat} {F : List (Nat × Value)} {a : Act} (hr : Rep n F a) {x : Operand} (h : (evalF F x).isSome = true) : a.eval x = rho F x := by
  unfold rho
  cases x with
  | tmp t =>
    simp only [evalF] at h ⊢
    cases hl : look F t with
    | none => rw [hl] at h; cases h
    | some v =>
      have := hr.2.2 t v hl
      simp [Act.eval, Array.getD_eq_getD_getElem?, this]
  | const v => rfl
  | global g => rfl
  | func f => rfl

/-- The operands of an operation. -/
def ins : Op → List Operand
  | .move x | .assign x | .box _ x | .load _ x | .nilCheck x | .unOp _ _ x | .convert _ _ x | .fieldAddr _ x _ | .field _ x _ | .extract x _ => [x]
  | .pick c a b => [c, a, b]
  | .store _ a v | .binOp _ _ a v _ | .makeSlice _ a v | .indexAddr _ a v | .index _ a v => [a, v]
  | .alloc _ => []
  | .call c => (match c.callee with | .value f => [f] | .invoke r _ => [r] | .builtin _ => []) ++ c.args.toList
  | op => op.operands.toList

theorem ins_all {op : Op} {x : Operand} (h : x ∈ op.operands) : x ∈ ins op := by
  cases op <;> simp only [ins, Op.operands] at h ⊢ <;> try (first | exact Array.mem_toList_iff.2 h | (simp at h; done) | (simp at h ⊢; exact h))
  case call c =>
    unfold Call.operands at h
    cases hc : c.callee <;> simp [hc] at h ⊢ <;> exact h

def known (F : List (Nat × Value)) : List Operand → Bool
  | [] => true
  | x :: xs => match evalF F x with
    | some _ => known F xs
    | none => false

theorem known_all {F : List (Nat × Value)} : ∀ {l : List Operand}, known F l = true → ∀ x ∈ l, (evalF F x).isSome = true
  | [], _, x, hx => by cases hx
  | y :: ys, h, x, hx => by
    unfold known at h
    split at h
    · rename_i v hv
      rcases List.mem_cons.1 hx with rfl | hx
      · rw [hv]; rfl
      · exact known_all h x hx
    · cases h

/-- No choice among channels. -/
def noSel : Op → Bool
  | .select _ _ => false
  | _ => true

theorem exec_rho {n : Nat} {F : List (Nat × Value)} {a : Act} (hr : Rep n F a) {o : Oper} (hs : noSel o.op = true) (h : known F (ins o.op) = true) : execOp a.eval o = execOp (rho F) o :=
  execOp_congr o (fun cs b e => by rw [e] at hs; cases hs) fun x hx => rho_eval hr (known_all h x (ins_all hx))

/-- Whether an operation is wanted. -/
def wantedF (ops : List Oper) (F : List (Nat × Value)) (o : Oper) : Option Bool :=
  match o.guard with
  | none => some true
  | some (g, want) => match ops[g]? with
    | some og => match og.dst with
      | some d => match look F d with
        | some (.bool b) => some (b == want)
        | some (.tuple _) => some false
        | _ => none
      | none => none
    | none => none

theorem wantedF_ok {n : Nat} {ops : Array Oper} {F : List (Nat × Value)} {a : Act} (hr : Rep n F a) {o : Oper} {b : Bool} (h : wantedF ops.toList F o = some b) : Region.wanted o (yielded ops a.tmps) = b := by
  unfold wantedF at h
  unfold Region.wanted
  split at h
  · rename_i hg; rw [hg]; simpa using h
  · rename_i g want hg
    simp only [hg]
    split at h
    · rename_i og hog
      split at h
      · rename_i d hd
        have h1 : (ops[g]?).bind (·.dst) = some d := by
          rw [Array.getElem?_toList] at hog
          rw [hog]; exact hd
        unfold yielded
        rw [h1]
        split at h
        · rename_i b' hl
          have := hr.2.2 _ _ hl
          simp only [Option.bind_some, this]
          simp only [Option.some.injEq] at h
          rw [← h]
          rfl
        · rename_i x hl
          have := hr.2.2 _ _ hl
          simp only [Option.bind_some, this]
          simp only [Option.some.injEq] at h
          rw [← h]
          rfl
        · cases h
      · cases h
    · cases h

/-- What an operation does, said of values. -/
def semOf (P : Program) (ρ : Operand → Value) (o : Oper) : Option (Sem Value) :=
  match o.op with
  | .load t x => match ρ x with
    | .pointer (some p) => some (loadVar t p)
    | _ => none
  | .store t x y => match ρ x with
    | .pointer (some p) => some (do storeVar t p (ρ y); pure undef)
    | _ => none
  | .binOp op t x y _ => match ρ x, ρ y with
    | .int k u, .int k' v => some (binOp op t (.int k u) (.int k' v))
    | .bool u, .bool v => some (binOp op t (.bool u) (.bool v))
    | .string u, .string v => some (binOp op t (.string u) (.string v))
    | .agg u, .agg v => match P.eqGuardType P.depth t with
      | false => some (binOp op t (.agg u) (.agg v))
      | true => none
    | _, _ => none
  | .convert s d x => some (convert s d (ρ x))
  | .slice t x lo hi mx => some (Instr.sliceAt t (ρ x) (lo.map ρ) (hi.map ρ) (mx.map ρ))
  | .indexAddr t x i => some (Instr.indexAt t (ρ x) (ρ i))
  | .index t x i => some (Instr.index t (ρ x) (ρ i))
  | .makeSlice t l c => some (Instr.makeSlice t (ρ l) (ρ c))
  | .unOp op _ x => some (Op.unary op (ρ x))
  | .alloc t => some (Instr.alloc t true (.tuple #[]))
  | .box t x => some (Instr.box t (ρ x))
  | .build t ps => some (Instr.build t (ps.map fun (i, x) => (i, ρ x)))
  | .buildSlice t len ps => some (Instr.buildSlice t len (ps.map fun (i, x) => (i, ρ x)))
  | .field t x f => some (Instr.field t (ρ x) f)
  | .fieldAddr t x f => some (Instr.fieldAt t (ρ x) f)
  | .call c => match c.callee with
    | .builtin b => some (do
        match ← builtin b c.argTypes o.type (c.args.map fun | .const _ => true | _ => false) (c.args.map ρ) with
        | .value v => pure v
        | _ => stuck "no value")
    | _ => none
  | _ => none

theorem eqGuard_int {P : Program} (op : BinOp) (t : TypeId) (x y : Operand) (k k' : IntKind) (u v : Int) (w : World) : (eqGuard op t x y (.int k u) (.int k' v)).run P w = .ok () w := by
  unfold eqGuard; cases op <;> simp
theorem eqGuard_bool {P : Program} (op : BinOp) (t : TypeId) (x y : Operand) (u v : Bool) (w : World) : (eqGuard op t x y (.bool u) (.bool v)).run P w = .ok () w := by
  unfold eqGuard; cases op <;> simp
theorem eqGuard_str {P : Program} (op : BinOp) (t : TypeId) (x y : Operand) (u v : ByteArray) (w : World) : (eqGuard op t x y (.string u) (.string v)).run P w = .ok () w := by
  unfold eqGuard; cases op <;> simp

theorem semOf_run {P : Program} {ρ : Operand → Value} {o : Oper} {s : Sem Value} (h : semOf P ρ o = some s) {w w' : World} {v : Value} (hr : s.run P w = .ok v w') :
    (execOp ρ o).run P w = .ok (.value v) w' ∨ (execOp ρ o).run P w = .ok .skip w' ∧ v = undef := by
  unfold semOf at h
  unfold execOp
  split at h
  · rename_i t x ho
    split at h
    · rename_i p hp
      cases h
      left
      simp only [ho, hp, Instr.loadAt, Instr.sureAddr, Sem.run_bind, Sem.run_pure, Result.andThen_ok, hr]
    · cases h
  · rename_i t x y ho
    split at h
    · rename_i p hp
      cases h
      right
      rw [Sem.run_bind] at hr
      simp only [ho, hp, Instr.storeAt, Instr.sureAddr, Sem.run_bind, Sem.run_pure, Result.andThen_ok]
      cases hq : (storeVar t p (ρ y)).run P w with
      | ok u w1 =>
        rw [hq] at hr
        simp only [Result.andThen_ok, Sem.run_pure, Result.ok.injEq] at hr
        exact ⟨by rw [Result.andThen_ok, hr.2], hr.1.symm⟩
      | halt e w1 =>
        rw [hq] at hr
        cases hr
    · cases h
  · rename_i op t x y _ ho
    left
    split at h
    · rename_i k u k' v' h1 h2
      cases h
      simp only [ho, h1, h2, Sem.run_bind, eqGuard_int, Result.andThen_ok, hr, Sem.run_pure]
    · rename_i u v' h1 h2
      cases h
      simp only [ho, h1, h2, Sem.run_bind, eqGuard_bool, Result.andThen_ok, hr, Sem.run_pure]
    · rename_i u v' h1 h2
      cases h
      simp only [ho, h1, h2, Sem.run_bind, eqGuard_str, Result.andThen_ok, hr, Sem.run_pure]
    · rename_i u v' h1 h2
      split at h
      · rename_i hg
        cases h
        simp only [ho, h1, h2, Sem.run_bind, run_eqGuard_agg _ _ _ _ _ _ _ hg, Result.andThen_ok, hr, Sem.run_pure]
      · cases h
    · cases h
  case h_16 =>
    rename_i c ho
    left
    split at h
    · rename_i b hb
      cases h
      simp only [ho, resolve, hb, Sem.run_bind, Sem.run_pure, Result.andThen_ok, invoke]
      rw [Sem.run_bind] at hr
      cases hq : (builtin b c.argTypes o.type (c.args.map fun | .const _ => true | _ => false) (c.args.map ρ)).run P w with
      | ok n w1 =>
        rw [hq] at hr
        rw [Result.andThen_ok] at hr
        cases n <;> simp only [Sem.run_pure, Result.ok.injEq] at hr
        case value u => rw [hr.1, hr.2]
        all_goals (first | cases hr | (simp at hr))
      | halt e w1 => rw [hq] at hr; cases hr
    · cases h
  case h_17 => cases h
  all_goals
    rename_i ho
    left
    cases h
    simp only [ho, Sem.run_bind, hr, Result.andThen_ok, Sem.run_pure]


/-- The Go function that is called, and its arguments. -/
def callOf (P : Program) (ρ : Operand → Value) (o : Oper) : Option (FuncId × Array Value) :=
  match o.op with
  | .call c => match c.callee with
    | .value x => match ρ x with
      | .func (.func f) first captured => match first.toList, captured.toList with
        | [], [] => match P.funcs[f]? with
          | some fn => match fn.body with
            | some _ => match fn.name == "runtime.NumGoroutine" with
              | false => some (f, (c.args.toList.map ρ).toArray)
              | true => none
            | none => none
          | none => none
        | _, _ => none
      | _ => none
    | _ => none
  | _ => none

theorem callOf_run {P : Program} {ρ : Operand → Value} {o : Oper} {f : FuncId} {args : Array Value} (h : callOf P ρ o = some (f, args)) (w : World) : (execOp ρ o).run P w = .ok (.enter f args) w := by
  unfold callOf at h
  split at h
  · rename_i c ho
    split at h
    · rename_i x hx
      split at h
      · rename_i f' first captured hv
        split at h
        · rename_i h1 h2
          split at h
          · rename_i fn hf
            split at h
            · rename_i b hb
              split at h
              · rename_i hn
                simp only [Option.some.injEq, Prod.mk.injEq] at h
                obtain ⟨rfl, rfl⟩ := h
                have e1 : first = #[] := by cases first; simp at h1; simp [h1]
                have e2 : captured = #[] := by cases captured; simp at h2; simp [h2]
                subst e1 e2
                have e3 : (c.args.toList.map ρ).toArray = c.args.map ρ := by
                  cases hc : c.args; simp
                unfold execOp
                simp only [ho, resolve, hx, hv, Deferred.ofValue, Sem.run_bind, Sem.run_pure, Result.andThen_ok, invoke, callFunc, e3, Array.empty_append, Array.append_empty]
                simp [hf, hb]
                intro e
                rw [e] at hn
                simp at hn
              · cases h
            · cases h
          · cases h
        · cases h
      · cases h
    · cases h
  · cases h

/-- What an operation yields in every world, leaving it alone. -/
def pureVal (P : Program) (ρ : Operand → Value) (o : Oper) : Option Value :=
  match o.op with
  | .move x => some (ρ x)
  | .assign x => some (ρ x)
  | .pick c x y => match ρ c with
    | .bool true => some (ρ x)
    | .bool false => some (ρ y)
    | _ => none
  | .nilCheck x => match ρ x with
    | .pointer (some p) => some (.pointer (some p))
    | _ => none
  | .unOp .not _ x => match ρ x with
    | .bool b => some (.bool (!b))
    | _ => none
  | .fieldAddr s x f => match ρ x with
    | .pointer (some p) => match P.underlying s with
      | some (.struct fields) => match fields[f]? with
        | some fl => match (P.info? fl.type).map (·.size) with
          | some (k + 1) => some (.pointer (some (p.add fl.offset)))
          | _ => none
        | none => none
      | _ => none
    | _ => none
  | .slice t x none none none => match ρ x with
    | .pointer (some p) => match P.underlying t with
      | some (.array n e) => match (P.info? e).map (·.size) with
        | some k => some (.slice (some (if n = 0 then p else p.add (0 * k))) n n)
        | _ => none
      | _ => none
    | _ => none
  | .call c => match c.callee with
    | .builtin .len => match c.args.toList with
      | [x] => match ρ x with
        | .slice _ n _ => match c.argTypes.toList with
          | [t] => match P.underlying t with
            | some (.slice _) => some (goInt n)
            | _ => none
          | _ => none
        | _ => none
      | _ => none
    | _ => none
  | _ => none

theorem size_info {P : Program} {t : TypeId} {k : Nat} (h : (P.info? t).map (·.size) = some k) (w : World) : (sizeOf t).run P w = .ok k w := by
  cases hi : P.info? t with
  | none => rw [hi] at h; cases h
  | some i =>
    rw [hi] at h
    simp only [Option.map_some, Option.some.injEq] at h
    simp [sizeOf, typeInfo, hi, h]

theorem toList_one {α : Type} {a : Array α} {x : α} (h : a.toList = [x]) : a = #[x] := by cases a; simp at h; simp [h]

theorem pureVal_run {P : Program} {ρ : Operand → Value} {o : Oper} {v : Value} (h : pureVal P ρ o = some v) (w : World) : (execOp ρ o).run P w = .ok (.value v) w := by
  unfold pureVal at h
  unfold execOp
  split at h
  · rename_i x ho; cases h; simp [ho]
  · rename_i x ho; cases h; simp [ho]
  · rename_i c x y ho
    split at h
    · rename_i hc; cases h; simp [ho, hc, asBool]
    · rename_i hc; cases h; simp [ho, hc, asBool]
    · cases h
  · rename_i x ho
    split at h
    · rename_i p hp; cases h; simp [ho, hp]
    · cases h
  · rename_i t x ho
    split at h
    · rename_i b hb; cases h; simp [ho, hb, Op.unary]
    · cases h
  · rename_i s x f ho
    split at h
    · rename_i p hp
      split at h
      · rename_i fields hu
        split at h
        · rename_i fl hf
          split at h
          · rename_i k hk
            cases h
            simp [ho, hp, Instr.fieldAt, run_underlying hu, hf, Instr.sureAddr, fieldPlace, size_info hk]
          · cases h
        · cases h
      · cases h
    · cases h
  · rename_i t x ho
    split at h
    · rename_i p hp
      split at h
      · rename_i n e hu
        split at h
        · rename_i k hk
          cases h
          simp [ho, hp, Instr.sliceAt, run_underlying hu, Instr.sureAddr, Instr.sliceBounds, size_info hk]
        · cases h
      · cases h
    · cases h
  · rename_i c ho
    split at h
    · rename_i hb
      split at h
      · rename_i x hx
        split at h
        · rename_i a n cc hv
          split at h
          · rename_i t ht
            split at h
            · rename_i e hu
              cases h
              simp [ho, resolve, hb, invoke, builtin, Builtin.len_, toList_one hx, toList_one ht, hv, run_underlying hu]
            · cases h
          · cases h
        · cases h
      · cases h
    · cases h
  · cases h

/-- What is told of one operation: its value (and the world behind it); or, for a call, what it does to what is to hold behind it. -/
structure Tip (Γ : Type) where
  val : Option (Γ → Value) := none
  wld : Option (Γ → World → World) := none
  tr : Option (Γ → World → (Γ → Value → World → Prop) → Prop) := none

/-- What is told of a loop. -/
structure LoopTip (Γ : Type) where
  slots : List Nat
  inv : Γ → World → List Value → World → Prop
  T : Γ → World → (Γ → List Value → World → Prop) → Prop
  mu : Γ → List Value → World → Nat

/-- What is told of a place where ways meet. -/
structure JoinTip (Γ : Type) where
  slots : List Nat
  inv : Γ → World → List Value → World → Prop
  T : Γ → World → (Γ → List Value → World → Prop) → Prop

/-- All tips: for operations (by slot; a store: 1000000 + 1000 * region + place), for a world's cut ahead of a region, for a drawn region's class of worlds, for loops (by the first region). -/
structure Tips (Γ : Type) where
  ops : List (Nat × Tip Γ) := []
  cuts : List (Nat × (Γ → World → (Γ → World → Prop) → Prop)) := []
  cls : List (Nat × (Γ → World → World → Prop)) := []
  loops : List (Nat × LoopTip Γ) := []
  joins : List (Nat × JoinTip Γ) := []

def find {α : Type} : List (Nat × α) → Nat → Option α
  | [], _ => none
  | (s, v) :: F, t => match Nat.beq s t with
    | true => some v
    | false => find F t

def keyOf (id i : Nat) (o : Oper) : Nat := match o.dst with
  | some d => d
  | none => 1000000 + 1000 * id + i

/-- A cut leaves nothing out. -/
def CutOK {Γ : Type} (T : (Γ → World → Prop) → Prop) (w : World) : Prop := ∀ C, T C → ∃ γ', C γ' w
/-- A loop's invariant is what its walks start from. -/
def LoopOK {Γ : Type} (L : LoopTip Γ) (γ : Γ) (w : World) : Prop := ∀ C : Γ → List Value → World → Prop, L.T γ w C → ∀ us w', us.length = L.slots.length → L.inv γ w us w' → ∃ γ', C γ' us w'
/-- What holds where ways meet is what the walk goes on from. -/
def JoinOK {Γ : Type} (L : JoinTip Γ) (γ : Γ) (w : World) : Prop := ∀ C : Γ → List Value → World → Prop, L.T γ w C → ∀ us w', us.length = L.slots.length → L.inv γ w us w' → ∃ γ', C γ' us w'
/-- The callee's contract is what the walk goes on from. -/
def CallOK {Γ : Type} (P : Program) (f : FuncId) (args : Array Value) (w : World) (T : (Γ → Value → World → Prop) → Prop) : Prop :=
  ∀ C : Γ → Value → World → Prop, T C → Calls P f args w fun e w' => ∃ γ' v, e = .returned v ∧ C γ' v w'

section
variable {Γ : Type} (P : Program) (tips : Tips Γ) (n : Nat)

/-- A plain region. -/
def LX (id : Nat) (ops : List Oper) (Q : Γ → List (Nat × Value) → World → Prop) : Nat → List Oper → Γ → List (Nat × Value) → World → Prop
  | _, [], γ, F, w => Q γ F w
  | i, o :: rest, γ, F, w =>
    match wantedF ops F o with
    | none => False
    | some false => putK n F o.dst undef fun F' => LX id ops Q (i + 1) rest γ F' w
    | some true => match noSel o.op with
      | false => False
      | true => match known F (ins o.op) with
        | false => False
        | true => match find tips.ops (keyOf id i o) with
          | some t => match t.tr with
            | some T => match callOf P (rho F) o with
              | some (f, args) => CallOK P f args w (T γ w) ∧
                  T γ w fun γ' v w' => putK n F o.dst v fun F' => LX id ops Q (i + 1) rest γ' F' w'
              | none => False
            | none => match t.val with
              | some v => match semOf P (rho F) o with
                | some s => match t.wld with
                  | none => s.run P w = .ok (v γ) w ∧ putK n F o.dst (v γ) fun F' => LX id ops Q (i + 1) rest γ F' w
                  | some f => s.run P w = .ok (v γ) (f γ w) ∧ putK n F o.dst (v γ) fun F' => LX id ops Q (i + 1) rest γ F' (f γ w)
                | none => False
              | none => False
          | none => match (execOp (rho F) o).run P w with
            | .ok (.value v) w' => putK n F o.dst v fun F' => LX id ops Q (i + 1) rest γ F' w'
            | .ok .skip w' => putK n F o.dst undef fun F' => LX id ops Q (i + 1) rest γ F' w'
            | _ => False

/-- A region that draws its order, in a class of worlds. -/
def DX (id : Nat) (ops : List Oper) (A : (World → Prop) → Prop) (C : World → Prop) (Q : List (Nat × Value) → Prop) (γ : Γ) : Nat → List Oper → List (Nat × Value) → Prop
  | _, [], F => Q F
  | i, o :: rest, F =>
    match wantedF ops F o with
    | none => False
    | some false => putK n F o.dst undef fun F' => DX id ops A C Q γ (i + 1) rest F'
    | some true => match noSel o.op with
      | false => False
      | true => match known F (ins o.op) with
        | false => False
        | true => match find tips.ops (keyOf id i o) with
          | some t => match t.val with
            | some v => match callOf P (rho F) o with
              | some (f, args) => A (fun w => Calls P f args w fun e w' => e = .returned (v γ) ∧ C w') ∧ putK n F o.dst (v γ) fun F' => DX id ops A C Q γ (i + 1) rest F'
              | none => match semOf P (rho F) o with
                | some s => A (fun w => s.run P w = .ok (v γ) w) ∧ putK n F o.dst (v γ) fun F' => DX id ops A C Q γ (i + 1) rest F'
                | none => False
            | none => False
          | none => match pureVal P (rho F) o with
            | some v => putK n F o.dst v fun F' => DX id ops A C Q γ (i + 1) rest F'
            | none => False

def Code.first : Code → Option Nat
  | .region id _ _ => some id
  | .seq a b => match Code.first a with
    | some i => some i
    | none => Code.first b
  | .cond _ a b => match Code.first a with
    | some i => some i
    | none => Code.first b
  | .block _ a => Code.first a
  | .loop a => Code.first a
  | .scope a => Code.first a
  | _ => none

/-- The slots that the code writes. -/
def dstsOf : List Oper → List Nat
  | [] => []
  | o :: l => match o.dst with
    | some d => d :: dstsOf l
    | none => dstsOf l

def Code.dsts : Code → List Nat
  | .region _ ops _ => dstsOf ops.toList
  | .seq a b => Code.dsts a ++ Code.dsts b
  | .cond _ a b => Code.dsts a ++ Code.dsts b
  | .block _ a => Code.dsts a
  | .loop a => Code.dsts a
  | .scope a => Code.dsts a
  | _ => []

def memN : List Nat → Nat → Bool
  | [], _ => false
  | s :: l, t => match Nat.beq s t with
    | true => true
    | false => memN l t

def forget (D : List Nat) : List (Nat × Value) → List (Nat × Value)
  | [] => []
  | (s, v) :: F => match memN D s with
    | true => forget D F
    | false => (s, v) :: forget D F

def lookAll (F : List (Nat × Value)) : List Nat → Option (List Value)
  | [] => some []
  | s :: l => match look F s with
    | some v => match lookAll F l with
      | some vs => some (v :: vs)
      | none => none
    | none => none

def ltAll (n : Nat) : List Nat → Bool
  | [] => true
  | s :: l => match Nat.blt s n with
    | true => ltAll n l
    | false => false

def joinAt (tips : Tips Γ) (y : Code) : Option (JoinTip Γ) := match tips.joins with
  | [] => none
  | _ => match Code.first y with
    | none => none
    | some id => find tips.joins id

/-- A region. -/
def RX (id : Nat) (ops : Array Oper) (draw : Bool) (Q : Exit → Γ → List (Nat × Value) → World → Prop) (γ : Γ) (F : List (Nat × Value)) (w : World) : Prop :=
  match draw with
  | false => LX P tips n id ops.toList (Q .normal) 0 ops.toList γ F w
  | true => match Region.lexB .any ops with
    | false => False
    | true => match find tips.cls id with
      | none => DX P tips n id ops.toList (fun φ => ∀ m, φ (w.drewN m)) (fun w' => ∃ m, w' = w.drewN m) (fun F' => ∀ m, Q .normal γ F' (w.drewN m)) γ 0 ops.toList F
      | some C => C γ w (w.drewN 1) ∧ DX P tips n id ops.toList (fun φ => ∀ w', C γ w w' → φ w') (C γ w) (fun F' => ∀ w', C γ w w' → Q .normal γ F' w') γ 0 ops.toList F

def CX : Code → (Exit → Γ → List (Nat × Value) → World → Prop) → Γ → List (Nat × Value) → World → Prop
  | .skip, Q, γ, F, w => Q .normal γ F w
  | .region id ops draw, Q, γ, F, w => match find tips.cuts id with
    | none => RX P tips n id ops draw Q γ F w
    | some T => CutOK (T γ w) w ∧ T γ w fun γ' w' => RX P tips n id ops draw Q γ' F w'
  | .seq x y, Q, γ, F, w => match joinAt tips y with
    | none => CX x (fun e γ F w => match e with
      | .normal => CX y Q γ F w
      | .exit id => Q (.exit id) γ F w
      | .ret => Q .ret γ F w
      | _ => False) γ F w
    | some J => match ltAll n J.slots with
      | false => False
      | true => JoinOK J γ w ∧ CX x (fun e γ2 F2 w2 => match e with
        | .normal => match lookAll F2 J.slots with
          | some us2 => J.inv γ w us2 w2
          | none => False
        | .exit id => Q (.exit id) γ2 F2 w2
        | .ret => Q .ret γ2 F2 w2
        | _ => False) γ F w ∧ J.T γ w fun γ' us w' => CX y Q γ' (J.slots.zip us ++ forget (Code.dsts x) F) w'
  | .cond c x y, Q, γ, F, w => match evalF F c with
    | some (.bool true) => CX x Q γ F w
    | some (.bool false) => CX y Q γ F w
    | _ => False
  | .block id c, Q, γ, F, w => CX c (fun e γ F w => match e with
      | .normal => Q .normal γ F w
      | .exit id' => match Nat.beq id' id with
        | true => Q .normal γ F w
        | false => Q (.exit id') γ F w
      | .ret => Q .ret γ F w
      | _ => False) γ F w
  | .loop c, Q, γ, F, w => match Code.first c with
    | none => False
    | some id => match find tips.loops id with
      | none => False
      | some L => match ltAll n L.slots with
        | false => False
        | true => match lookAll F L.slots with
          | none => False
          | some us0 => L.inv γ w us0 w ∧ LoopOK L γ w ∧
            L.T γ w fun γ' us w' => CX c (fun e γ2 F2 w2 => match e with
              | .normal => match lookAll F2 L.slots with
                | some us2 => L.inv γ w us2 w2 ∧ L.mu γ us2 w2 < L.mu γ us w'
                | none => False
              | .exit id => Q (.exit id) γ2 F2 w2
              | .ret => Q .ret γ2 F2 w2
              | _ => False) γ' (L.slots.zip us ++ forget (Code.dsts c) F) w'
  | .exit id, Q, γ, F, w => Q (.exit id) γ F w
  | .scope c, Q, γ, F, w => CX c (fun e γ F w => match e with
      | .normal => Q .normal γ F w
      | .exit id => Q (.exit id) γ F w
      | .ret => Q .ret γ F w
      | _ => False) γ F w
  | .ret, Q, γ, F, w => Q .ret γ F w
  | _, _, _, _, _ => False
end

section
variable {Γ : Type} {P : Program} {tips : Tips Γ} {n : Nat}

theorem same_put {a0 a b : Act} {D : List Nat} {d : Option Tmp} (h : Same a0 D a) (k : Same a d.toList b) (hd : ∀ t, d = some t → t ∈ D) : Same a0 D b := fun t ht => by
  have hn : t ∉ d.toList := fun h' => by
    cases d with
    | none => cases h'
    | some s => simp at h'; subst h'; exact ht (hd _ rfl)
  rw [k t hn, h t ht]

theorem dsts_head {o : Oper} {l : List Oper} {D : List Nat} (h : ∀ d ∈ dstsOf (o :: l), d ∈ D) : (∀ t, o.dst = some t → t ∈ D) ∧ ∀ d ∈ dstsOf l, d ∈ D := by
  unfold dstsOf at h
  split at h
  · rename_i d hd
    refine ⟨fun t ht => ?_, fun t ht => h t (List.mem_cons_of_mem _ ht)⟩
    rw [hd] at ht
    cases ht
    exact h _ List.mem_cons_self
  · rename_i hd
    exact ⟨fun t ht => (by rw [hd] at ht; cases ht), h⟩

def Ends (n : Nat) (a0 : Act) (D : List Nat) (Q : Exit → Γ → List (Nat × Value) → World → Prop) : Exit → Act → World → Prop :=
  fun e a w => ∃ γ F, Q e γ F w ∧ Rep n F a ∧ Same a0 D a

theorem LX_wp (id : Nat) (ops : Array Oper) (Q : Exit → Γ → List (Nat × Value) → World → Prop) (a0 : Act) (D : List Nat) : ∀ (l : List Oper) (i : Nat) (γ : Γ) (F : List (Nat × Value)) (w : World) (a : Act), (∀ d ∈ dstsOf l, d ∈ D) →
    LX P tips n id ops.toList (Q .normal) i l γ F w → Rep n F a → Same a0 D a → wpList P ops (Ends n a0 D Q) l a w
  | [], i, γ, F, w, a, hd, h, hr, hs => ⟨γ, F, h, hr, hs⟩
  | o :: l, i, γ, F, w, a, hd, h, hr, hs => by
    obtain ⟨hd1, hd2⟩ := dsts_head hd
    have next : ∀ (γ' : Γ) (v : Value) (w' : World), (putK n F o.dst v fun F' => LX P tips n id ops.toList (Q .normal) (i + 1) l γ' F' w') → wpList P ops (Ends n a0 D Q) l (a.put o.dst v) w' := by
      intro γ' v w' hp
      obtain ⟨F', h1, h2, h3⟩ := putK_rep hp hr
      exact LX_wp id ops Q a0 D l (i + 1) γ' F' w' _ hd2 h1 h2 (same_put hs h3 hd1)
    unfold LX at h
    unfold wpList
    split at h
    · exact h.elim
    · rename_i hw
      rw [if_neg (by rw [wantedF_ok hr hw]; exact Bool.false_ne_true)]
      exact next _ _ _ h
    · rename_i hw
      rw [if_pos (wantedF_ok hr hw)]
      left
      unfold Oper.wp
      split at h
      · exact h.elim
      · rename_i hsel
        split at h
        · exact h.elim
        · rename_i hk
          rw [exec_rho hr hsel hk]
          split at h
          · rename_i t ht
            split at h
            · rename_i T hT
              split at h
              · rename_i f args hc
                rw [callOf_run hc]
                refine Calls.mono (h.1 _ h.2) ?_
                rintro e w' ⟨γ', v, rfl, h3⟩
                exact next _ _ _ h3
              · exact h.elim
            · split at h
              · rename_i v hv
                split at h
                · rename_i s hsem
                  split at h
                  · rcases semOf_run hsem h.1 with h1 | ⟨h1, h2⟩
                    · rw [h1]; exact next _ _ _ h.2
                    · rw [h1]; have := next _ _ _ h.2; rw [h2] at this; exact this
                  · rcases semOf_run hsem h.1 with h1 | ⟨h1, h2⟩
                    · rw [h1]; exact next _ _ _ h.2
                    · rw [h1]; have := next _ _ _ h.2; rw [h2] at this; exact this
                · exact h.elim
              · exact h.elim
          · split at h
            · rename_i v w' hrun
              rw [hrun]; exact next _ _ _ h
            · rename_i w' hrun
              rw [hrun]; exact next _ _ _ h
            · exact h.elim

theorem wpQuiet_post {P : Program} {ops : Array Oper} {C : World → Prop} {R R' : Act → Prop} (hR : ∀ a, R a → R' a) : ∀ {l : List Oper} {a : Act}, wpQuiet P ops C R l a → wpQuiet P ops C R' l a
  | [], a, h => hR _ h
  | o :: l, a, h => by
    unfold wpQuiet at h ⊢
    split
    · rename_i hw
      rw [if_pos hw] at h
      exact Oper.quiet_mono (fun a h => wpQuiet_post hR h) h
    · rename_i hw
      rw [if_neg hw] at h
      exact wpQuiet_post hR h

theorem DX_wp (id : Nat) (ops : Array Oper) (A : (World → Prop) → Prop) (C : World → Prop) (hA : ∀ φ, A φ → ∀ w, C w → φ w) (Q : List (Nat × Value) → Prop) (γ : Γ) (a0 : Act) (D : List Nat) : ∀ (l : List Oper) (i : Nat) (F : List (Nat × Value)) (a : Act), (∀ d ∈ dstsOf l, d ∈ D) →
    DX P tips n id ops.toList A C Q γ i l F → Rep n F a → Same a0 D a → wpQuiet P ops C (fun a' => ∃ F', Q F' ∧ Rep n F' a' ∧ Same a0 D a') l a
  | [], i, F, a, hd, h, hr, hs => ⟨F, h, hr, hs⟩
  | o :: l, i, F, a, hd, h, hr, hs => by
    obtain ⟨hd1, hd2⟩ := dsts_head hd
    have next : ∀ (v : Value), (putK n F o.dst v fun F' => DX P tips n id ops.toList A C Q γ (i + 1) l F') → wpQuiet P ops C (fun a' => ∃ F', Q F' ∧ Rep n F' a' ∧ Same a0 D a') l (a.put o.dst v) := by
      intro v hp
      obtain ⟨F', h1, h2, h3⟩ := putK_rep hp hr
      exact DX_wp id ops A C hA Q γ a0 D l (i + 1) F' _ hd2 h1 h2 (same_put hs h3 hd1)
    unfold DX at h
    unfold wpQuiet
    split at h
    · exact h.elim
    · rename_i hw
      rw [if_neg (by rw [wantedF_ok hr hw]; exact Bool.false_ne_true)]
      exact next _ h
    · rename_i hw
      rw [if_pos (wantedF_ok hr hw)]
      split at h
      · exact h.elim
      · rename_i hsel
        split at h
        · exact h.elim
        · rename_i hk
          have hex := exec_rho hr hsel hk
          split at h
          · rename_i t ht
            split at h
            · rename_i v hv
              split at h
              · rename_i f args hc
                refine ⟨v γ, fun w hw => ?_, next _ h.2⟩
                unfold Oper.quietAt
                rw [hex, callOf_run hc]
                exact ⟨rfl, hA _ h.1 w hw⟩
              · split at h
                · rename_i s hsem
                  refine ⟨v γ, fun w hw => ?_, next _ h.2⟩
                  unfold Oper.quietAt
                  rw [hex]
                  rcases semOf_run hsem (hA _ h.1 w hw) with h1 | ⟨h1, h2⟩
                  · rw [h1]; exact ⟨rfl, rfl⟩
                  · rw [h1]; exact ⟨rfl, h2⟩
                · exact h.elim
            · exact h.elim
          · split at h
            · rename_i v hp
              refine ⟨v, fun w hw => ?_, next _ h⟩
              unfold Oper.quietAt
              rw [hex, pureVal_run hp]
              exact ⟨rfl, rfl⟩
            · exact h.elim

theorem memN_iff : ∀ {D : List Nat} {t : Nat}, memN D t = false → t ∉ D
  | [], t, _ => by simp
  | s :: D, t, h => by
    unfold memN at h
    split at h
    · cases h
    · rename_i hst
      have hne : s ≠ t := Nat.ne_of_beq_eq_false hst
      simp only [List.mem_cons, not_or]
      exact ⟨fun e => hne e.symm, memN_iff h⟩

theorem look_forget {D : List Nat} : ∀ {F : List (Nat × Value)} {t : Nat} {v : Value}, (∀ s, memN D s = true → s ∈ D) → look (forget D F) t = some v → t ∉ D ∧ look F t = some v
  | [], t, v, _, h => by cases h
  | (s, u) :: F, t, v, hm, h => by
    unfold forget at h
    split at h
    · rename_i hs
      obtain ⟨h1, h2⟩ := look_forget hm h
      refine ⟨h1, ?_⟩
      unfold look
      split
      · rename_i hst
        have : s = t := Nat.eq_of_beq_eq_true hst
        subst this
        exact absurd (hm _ hs) h1
      · exact h2
    · rename_i hs
      unfold look at h ⊢
      split at h
      · rename_i hst
        have : s = t := Nat.eq_of_beq_eq_true hst
        subst this
        exact ⟨memN_iff hs, h⟩
      · rename_i hst
        exact look_forget hm h

theorem memN_mem : ∀ {D : List Nat} {t : Nat}, memN D t = true → t ∈ D
  | [], t, h => by cases h
  | s :: D, t, h => by
    unfold memN at h
    split at h
    · rename_i hst
      have : s = t := Nat.eq_of_beq_eq_true hst
      subst this
      exact List.mem_cons_self
    · exact List.mem_cons_of_mem _ (memN_mem h)

theorem lookAll_rep {F : List (Nat × Value)} {a : Act} (hr : Rep n F a) : ∀ {l : List Nat} {us : List Value}, lookAll F l = some us → l.map (a.tmps.getD · undef) = us
  | [], us, h => by cases h; rfl
  | s :: l, us, h => by
    unfold lookAll at h
    split at h
    · rename_i v hv
      split at h
      · rename_i vs hvs
        cases h
        have := hr.2.2 s v hv
        rw [List.map_cons, lookAll_rep hr hvs, Array.getD_eq_getD_getElem?, this, Option.getD_some]
      · cases h
    · cases h

theorem look_cons (s : Nat) (v : Value) (F : List (Nat × Value)) (t : Nat) : look ((s, v) :: F) t = match Nat.beq s t with | true => some v | false => look F t := rfl

theorem look_append {F G : List (Nat × Value)} {t : Nat} {v : Value} (h : look (F ++ G) t = some v) : look F t = some v ∨ look G t = some v := by
  induction F with
  | nil => exact .inr h
  | cons x F ih =>
    obtain ⟨s, u⟩ := x
    simp only [List.cons_append] at h
    rw [look_cons] at h ⊢
    split at h
    · exact .inl h
    · exact ih h

theorem look_zip {a : Act} (hs : a.tmps.size = n) : ∀ {l : List Nat}, ltAll n l = true → ∀ {t : Nat} {v : Value}, look (l.zip (l.map (a.tmps.getD · undef))) t = some v → a.tmps[t]? = some v
  | [], _, t, v, h => by cases h
  | s :: l, hl, t, v, h => by
    unfold ltAll at hl
    split at hl
    · rename_i hlt
      have hlt' : s < n := by simpa [Nat.blt_eq] using hlt
      simp only [List.map_cons, List.zip_cons_cons] at h
      unfold look at h
      split at h
      · rename_i hst
        have : s = t := Nat.eq_of_beq_eq_true hst
        subst this
        simp only [Option.some.injEq] at h
        subst h
        rw [Array.getD_eq_getD_getElem?, Array.getElem?_eq_getElem (by omega)]
        rfl
      · exact look_zip hs hl h
    · cases hl

theorem RX_wp (id : Nat) (ops : Array Oper) (draw : Bool) (Q : Exit → Γ → List (Nat × Value) → World → Prop) (γ : Γ) (F : List (Nat × Value)) (w : World) (a : Act) (hm : P.follows .mixedOrders = true)
    (h : RX P tips n id ops draw Q γ F w) (hr : Rep n F a) : (Code.region id ops draw).wp P (Ends n a (Code.dsts (.region id ops draw)) Q) a w := by
  cases draw with
  | false => exact wp_region_list (LX_wp id ops Q a _ ops.toList 0 γ F w a (fun d hd => hd) h hr (Same.refl _ _))
  | true =>
    unfold RX at h
    simp only at h
    split at h
    · exact h.elim
    · rename_i hlex
      split at h
      · have := DX_wp id ops _ _ (fun φ hφ w' ⟨m, hm⟩ => hm ▸ hφ m) _ γ a (dstsOf ops.toList) ops.toList 0 F a (fun d hd => hd) h hr (Same.refl _ _)
        refine wp_region_quiet (C := fun w' => ∃ m, w' = w.drewN m) hm hlex ⟨1, rfl⟩ ?_
        refine wpQuiet_post ?_ this
        rintro a' ⟨F', hq, hr', hs'⟩ w' ⟨m, rfl⟩
        exact ⟨γ, F', hq m, hr', hs'⟩
      · rename_i C hC
        have := DX_wp id ops _ _ (fun φ hφ w' hw' => hφ w' hw') _ γ a (dstsOf ops.toList) ops.toList 0 F a (fun d hd => hd) h.2 hr (Same.refl _ _)
        refine wp_region_quiet (C := C γ w) hm hlex h.1 ?_
        refine wpQuiet_post ?_ this
        rintro a' ⟨F', hq, hr', hs'⟩ w' hw'
        exact ⟨γ, F', hq w' hw', hr', hs'⟩

theorem CX_wp : ∀ (c : Code) (Q : Exit → Γ → List (Nat × Value) → World → Prop) (γ : Γ) (F : List (Nat × Value)) (w : World) (a : Act), (hm : P.follows .mixedOrders = true) →
    CX P tips n c Q γ F w → Rep n F a → c.wp P (Ends n a (Code.dsts c) Q) a w := by
  intro c
  induction c with
  | skip => intro Q γ F w a hm h hr; exact wp_skip ⟨γ, F, h, hr, Same.refl _ _⟩
  | region id ops draw =>
    intro Q γ F w a hm h hr
    unfold CX at h
    split at h
    · exact RX_wp id ops draw Q γ F w a hm h hr
    · obtain ⟨h1, h2⟩ := h
      obtain ⟨γ', h3⟩ := h1 _ h2
      exact RX_wp id ops draw Q γ' F w a hm h3 hr
  | seq x y ihx ihy =>
    intro Q γ F w a hm h hr
    unfold CX at h
    split at h
    · refine wp_seq (wp_mono (ihx _ γ F w a hm h hr) ?_)
      rintro e a1 w1 ⟨γ1, F1, h1, hr1, hs1⟩
      cases e with
      | normal =>
        refine wp_mono (ihy _ γ1 F1 w1 a1 hm h1 hr1) ?_
        rintro e a2 w2 ⟨γ2, F2, h2, hr2, hs2⟩
        exact ⟨γ2, F2, h2, hr2, hs1.trans hs2⟩
      | exit id => exact ⟨γ1, F1, h1, hr1, hs1.more fun t ht => List.mem_append_left _ ht⟩
      | ret => exact ⟨γ1, F1, h1, hr1, hs1.more fun t ht => List.mem_append_left _ ht⟩
      | goto l => exact h1.elim
      | panic ch => exact h1.elim
      | outgrown => exact h1.elim
    · rename_i J hJ
      split at h
      · exact h.elim
      · rename_i hlt
        obtain ⟨hj, hx, hy⟩ := h
        refine wp_seq (wp_mono (ihx _ γ F w a hm hx hr) ?_)
        rintro e a1 w1 ⟨γ1, F1, h1, hr1, hs1⟩
        cases e with
        | normal =>
          simp only at h1
          split at h1
          · rename_i us hus
            have e2 := lookAll_rep hr1 hus
            obtain ⟨γ', h3⟩ := hj _ hy us w1 (by rw [← e2]; simp) h1
            have hr2 : Rep n (J.slots.zip us ++ forget (Code.dsts x) F) a1 := by
              refine ⟨hr1.1, hr1.2.1, fun t v hv => ?_⟩
              rcases look_append hv with hv | hv
              · rw [← e2] at hv
                exact look_zip hr1.2.1 hlt hv
              · obtain ⟨h4, h5⟩ := look_forget (fun s hs => memN_mem hs) hv
                rw [hs1 t h4]
                exact hr.2.2 t v h5
            refine wp_mono (ihy _ γ' _ w1 a1 hm h3 hr2) ?_
            rintro e a2 w2 ⟨γ2, F2, h2, hr3, hs2⟩
            exact ⟨γ2, F2, h2, hr3, hs1.trans hs2⟩
          · exact h1.elim
        | exit id => exact ⟨γ1, F1, h1, hr1, hs1.more fun t ht => List.mem_append_left _ ht⟩
        | ret => exact ⟨γ1, F1, h1, hr1, hs1.more fun t ht => List.mem_append_left _ ht⟩
        | goto l => exact h1.elim
        | panic ch => exact h1.elim
        | outgrown => exact h1.elim
  | cond c x y ihx ihy =>
    intro Q γ F w a hm h hr
    unfold CX at h
    split at h
    · rename_i hc
      refine wp_cond_true (by rw [rho_eval hr (by rw [hc]; rfl)]; unfold rho; rw [hc]) ?_
      refine wp_mono (ihx Q γ F w a hm h hr) ?_
      rintro e a1 w1 ⟨γ1, F1, h1, hr1, hs1⟩
      exact ⟨γ1, F1, h1, hr1, hs1.more fun t ht => List.mem_append_left _ ht⟩
    · rename_i hc
      refine wp_cond_false (by rw [rho_eval hr (by rw [hc]; rfl)]; unfold rho; rw [hc]) ?_
      refine wp_mono (ihy Q γ F w a hm h hr) ?_
      rintro e a1 w1 ⟨γ1, F1, h1, hr1, hs1⟩
      exact ⟨γ1, F1, h1, hr1, hs1.more fun t ht => List.mem_append_right _ ht⟩
    · exact h.elim
  | block id c ih =>
    intro Q γ F w a hm h hr
    refine wp_block (wp_mono (ih _ γ F w a hm h hr) ?_)
    rintro e a1 w1 ⟨γ1, F1, h1, hr1, hs1⟩
    cases e with
    | normal => exact ⟨γ1, F1, h1, hr1, hs1⟩
    | exit id' =>
      simp only at h1
      simp only [Exit.inBlock]
      split at h1
      · rename_i hid
        rw [if_pos (Nat.eq_of_beq_eq_true hid)]
        exact ⟨γ1, F1, h1, hr1, hs1⟩
      · rename_i hid
        rw [if_neg (Nat.ne_of_beq_eq_false hid)]
        exact ⟨γ1, F1, h1, hr1, hs1⟩
    | ret => exact ⟨γ1, F1, h1, hr1, hs1⟩
    | goto l => exact h1.elim
    | panic ch => exact h1.elim
    | outgrown => exact h1.elim
  | loop c ih =>
    intro Q γ F w a hm h hr
    unfold CX at h
    split at h
    · exact h.elim
    · split at h
      · exact h.elim
      · rename_i L hL
        split at h
        · exact h.elim
        · rename_i hlt
          split at h
          · exact h.elim
          · rename_i us0 hus
            obtain ⟨h0, h1, h2⟩ := h
            refine wp_loop (fun a1 w1 => a1.defers = [] ∧ a1.tmps.size = n ∧ Same a (Code.dsts c) a1 ∧ L.inv γ w (L.slots.map (a1.tmps.getD · undef)) w1) (fun a1 w1 => L.mu γ (L.slots.map (a1.tmps.getD · undef)) w1) ⟨hr.1, hr.2.1, Same.refl _ _, by rw [lookAll_rep hr hus]; exact h0⟩ ?_
            rintro a1 w1 ⟨hd1, hn1, hs1, hi1⟩
            obtain ⟨γ', h3⟩ := h1 _ h2 _ w1 (by simp) hi1
            have hr1 : Rep n (L.slots.zip (L.slots.map (a1.tmps.getD · undef)) ++ forget (Code.dsts c) F) a1 := by
              refine ⟨hd1, hn1, fun t v hv => ?_⟩
              rcases look_append hv with hv | hv
              · exact look_zip hn1 hlt hv
              · obtain ⟨h4, h5⟩ := look_forget (fun s hs => memN_mem hs) hv
                rw [hs1 t h4]
                exact hr.2.2 t v h5
            refine wp_mono (ih _ γ' _ w1 a1 hm h3 hr1) ?_
            rintro e a2 w2 ⟨γ2, F2, h4, hr2, hs2⟩
            have hs3 : Same a (Code.dsts c) a2 := fun t ht => by rw [hs2 t ht, hs1 t ht]
            cases e with
            | normal =>
              simp only at h4
              split at h4
              · rename_i us2 hus2
                have e2 := lookAll_rep hr2 hus2
                exact ⟨⟨hr2.1, hr2.2.1, hs3, by rw [e2]; exact h4.1⟩, by rw [e2]; exact h4.2⟩
              · exact h4.elim
            | exit id => exact ⟨γ2, F2, h4, hr2, hs3⟩
            | ret => exact ⟨γ2, F2, h4, hr2, hs3⟩
            | goto l => exact h4.elim
            | panic ch => exact h4.elim
            | outgrown => exact h4.elim
  | exit id => intro Q γ F w a hm h hr; exact wp_exit ⟨γ, F, h, hr, Same.refl _ _⟩
  | scope c ih =>
    intro Q γ F w a hm h hr
    refine wp_scope_straight (wp_mono (ih _ γ F w a hm h hr) ?_)
    rintro e a1 w1 ⟨γ1, F1, h1, hr1, hs1⟩
    cases e with
    | normal => exact ⟨γ1, F1, h1, hr1, hs1⟩
    | exit id => exact ⟨γ1, F1, h1, hr1, hs1⟩
    | ret => exact ⟨γ1, F1, h1, hr1, hs1⟩
    | goto l => exact h1.elim
    | panic ch => exact h1.elim
    | outgrown => exact h1.elim
  | ret => intro Q γ F w a hm h hr; exact wp_ret ⟨γ, F, h, hr, Same.refl _ _⟩
  | rangeFunc f ps x y => intro Q γ F w a hm h hr; exact h.elim
  | label l => intro Q γ F w a hm h hr; exact h.elim
  | goto l => intro Q γ F w a hm h hr; exact h.elim
  | refuse s => intro Q γ F w a hm h hr; exact h.elim
end

/-- The slots of the results. -/
def resSlots : List ResultVar → Option (List Nat)
  | [] => some []
  | .tmp t :: l => match resSlots l with
    | some ts => some (t :: ts)
    | none => none
  | _ => none

def resVal : List Value → Value
  | [v] => v
  | vs => .tuple vs.toArray

def numbered : Nat → List Value → List (Nat × Value)
  | _, [] => []
  | i, v :: vs => (i, v) :: numbered (i + 1) vs

theorem look_numbered : ∀ {l : List Value} {i t : Nat} {v : Value}, look (numbered i l) t = some v → i ≤ t ∧ l[t - i]? = some v
  | [], i, t, v, h => by cases h
  | x :: l, i, t, v, h => by
    rw [numbered, look_cons] at h
    split at h
    · rename_i hst
      have : i = t := Nat.eq_of_beq_eq_true hst
      subst this
      exact ⟨Nat.le_refl _, by simpa using h⟩
    · obtain ⟨h1, h2⟩ := look_numbered h
      refine ⟨by omega, ?_⟩
      have : t - i = (t - (i + 1)) + 1 := by omega
      rw [this, List.getElem?_cons_succ]
      exact h2

theorem resSlots_run {P : Program} {a : Act} {w : World} (g : ResultVar → Sem Value) (hg : ∀ t, g (.tmp t) = pure (a.tmps.getD t undef)) : ∀ {l : List ResultVar} {ts : List Nat}, resSlots l = some ts →
    (l.mapM g).run P w = .ok (ts.map (a.tmps.getD · undef)) w
  | [], ts, h => by cases h; simp
  | r :: l, ts, h => by
    cases r with
    | tmp t =>
      unfold resSlots at h
      split at h
      · rename_i ts' hts
        cases h
        rw [List.mapM_cons]
        simp only [hg, Sem.run_bind, Sem.run_pure, Result.andThen_ok, resSlots_run g hg hts, List.map_cons]
      · cases h
    | cell c t => cases h

theorem results_slots {P : Program} {fn : Func} {a : Act} {w : World} {ts : List Nat} (h : resSlots fn.results.toList = some ts) : (results fn a.tmps).run P w = .ok (resVal (ts.map (a.tmps.getD · undef))) w := by
  unfold results
  have e : fn.results = fn.results.toList.toArray := by simp
  rw [Sem.run_bind, e]
  simp only [List.mapM_toArray]
  rw [Sem.run_map]
  rw [resSlots_run (P := P) (a := a) (w := w) _ (fun t => rfl) h]
  simp only [Result.andThen_ok, Sem.run_pure]
  generalize ts.map (a.tmps.getD · undef) = vs
  match vs with
  | [] => rfl
  | [v] => rfl
  | u :: v :: vs => simp [resVal]
section
variable {Γ : Type} {P : Program}
theorem CX_calls {f : FuncId} {fn : Func} {c : Code} {args : Array Value} {w : World} {R : Ending → World → Prop} (tips : Tips Γ) (γ : Γ) (hm : P.follows .mixedOrders = true) (hf : P.funcs[f]? = some fn) (hb : fn.body = some c)
    (ts : List Nat) (hts : resSlots fn.results.toList = some ts) (ha : Nat.ble args.size fn.ntmps = true)
    (h : CX P tips fn.ntmps c (fun e _ F w => match e with
      | .normal => match lookAll F ts with
        | some vs => R (.returned (resVal vs)) w
        | none => False
      | .ret => match lookAll F ts with
        | some vs => R (.returned (resVal vs)) w
        | none => False
      | _ => False) γ (numbered 0 args.toList) w) : Calls P f args w R := by
  have ha' : args.size ≤ fn.ntmps := Nat.le_of_ble_eq_true ha
  refine calls_of_wp hf hb (wp_mono (CX_wp c _ γ _ w _ hm h ?_) ?_)
  · refine ⟨rfl, by simp; omega, fun t v hv => ?_⟩
    have := (look_numbered hv).2
    simp only [Nat.sub_zero, Array.getElem?_toList] at this
    simp only
    rw [Array.getElem?_append_left (Array.getElem?_eq_some_iff.1 this).1]
    exact this
  · rintro e a1 w1 ⟨γ1, F1, h1, hr1, hs1⟩
    cases e with
    | normal =>
      simp only at h1
      split at h1
      · rename_i vs hvs
        exact ⟨hr1.1, _, results_slots hts, by rw [lookAll_rep hr1 hvs]; exact h1⟩
      · exact h1.elim
    | ret =>
      simp only at h1
      split at h1
      · rename_i vs hvs
        exact ⟨hr1.1, _, results_slots hts, by rw [lookAll_rep hr1 hvs]; exact h1⟩
      · exact h1.elim
    | exit id => exact h1.elim
    | goto l => exact h1.elim
    | panic ch => exact h1.elim
    | outgrown => exact h1.elim
end
end Go.Proofs.YgcsagGreat
