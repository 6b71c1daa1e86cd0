/-
  A QUIET REGION, RUN BY THE KERNEL. The operations that only reckon are run by the model's own 'execOp'; a load, a comparison, a conversion whose answer hangs on the world or on letters is told by a hint (its slot, its value), and owed as a plain fact.
-/
import Derived.Below
import Derived.Tactics
import Derived.Laws.StructEq
namespace Go.Proofs.Ygcsag
open Go.RowKit
set_option linter.unusedVariables false

/-- The hint for a slot. -/
def hintOf (hs : List (Nat × Value)) (d : Option Tmp) : Option Value := d.bind fun t => (hs.find? (·.1 == t)).map (·.2)

/-- What is owed for a hint. -/
def Owed (P : Program) (w : World) (a : Act) (o : Oper) (v : Value) : Prop :=
  match o.op with
  | .load t x => match a.eval x with
    | .pointer (some p) => (loadVar t p).run P w = .ok v w
    | _ => False
  | .binOp op t x y _ => (do eqGuard op t x y (a.eval x) (a.eval y); binOp op t (a.eval x) (a.eval y)).run P w = .ok v w
  | .convert s d x => (convert s d (a.eval x)).run P w = .ok v w
  | _ => False

theorem owed_run {P : Program} {w : World} {a : Act} {o : Oper} {v : Value} (h : Owed P w a o v) : (execOp a.eval o).run P w = .ok (.value v) w := by
  unfold Owed at h
  unfold execOp
  split at h
  · rename_i t x ho
    split at h
    · rename_i p hp
      simp only [ho, hp, Instr.loadAt, Instr.sureAddr, Sem.run_bind, Sem.run_pure, Result.andThen_ok, h]
    · exact h.elim
  · rename_i op t x y _ ho
    simp only [ho]
    rw [Sem.run_bind, h]
    rfl
  · rename_i s d x ho
    simp only [ho]
    rw [Sem.run_bind, h]
    rfl
  · exact h.elim

theorem upon_mono {P : Program} {o : Oper} {a : Act} {N N' : Act → World → Prop} {Q : Exit → Act → World → Prop} (hN : ∀ a w, N a w → N' a w) {r : Result Next} (h : o.upon P a N Q r) : o.upon P a N' Q r := by
  unfold Oper.upon at *
  split at h
  · exact hN _ _ h
  · exact hN _ _ h
  · exact hN _ _ h
  · refine Calls.mono h ?_
    intro e w'' he
    cases e with
    | returned v => exact hN _ _ he
    | panicked chain => exact he
    | outgrown => exact he
  · exact Rows.mono h fun v w'' he => hN _ _ he
  · exact h
  · exact h.elim

/-- What is owed for a region's operations, one behind another. -/
def QX (P : Program) (ops : Array Oper) (hs : List (Nat × Value)) (Q : Exit → Act → World → Prop) : List Oper → Act → World → Prop
  | [], a, w => Q .normal a w
  | o :: rest, a, w =>
    match Region.wanted o (yielded ops a.tmps) with
    | false => QX P ops hs Q rest (a.put o.dst undef) w
    | true => match hintOf hs o.dst with
      | some v => match o.op with
        | .call _ => match (execOp a.eval o).run P w with
          | .ok (.enter f args) w' => Calls P f args w' fun e w'' => e = .returned v ∧ QX P ops hs Q rest (a.put o.dst v) w''
          | _ => False
        | _ => Owed P w a o v ∧ QX P ops hs Q rest (a.put o.dst v) w
      | none => o.upon P a (QX P ops hs Q rest) Q ((execOp a.eval o).run P w)

theorem QX_wp {P : Program} {ops : Array Oper} {hs : List (Nat × Value)} {Q : Exit → Act → World → Prop} :
    ∀ (l : List Oper) (a : Act) (w : World), QX P ops hs Q l a w → wpList P ops Q l a w
  | [], a, w, h => h
  | o :: l, a, w, h => by
    unfold QX at h
    unfold wpList
    split at h
    · rename_i hw
      rw [if_neg (by rw [hw]; exact Bool.false_ne_true)]
      exact QX_wp l _ _ h
    · rename_i hw
      rw [if_pos hw]
      left
      unfold Oper.wp
      split at h
      · rename_i v hv
        split at h
        · split at h
          · rename_i f args w' hr
            rw [hr]
            refine Calls.mono h ?_
            rintro e w'' ⟨rfl, h2⟩
            exact QX_wp l _ _ h2
          · exact h.elim
        · rw [owed_run h.1]
          exact QX_wp l _ _ h.2
      · exact upon_mono (fun a w h => QX_wp l a w h) h

theorem region_QX {P : Program} {id : Nat} {ops : Array Oper} {Q : Exit → Act → World → Prop} {a : Act} {w : World} (hs : List (Nat × Value)) (K : Act → World → Prop)
    (h : QX P ops hs (fun e a w => match e with | .normal => K a w | _ => False) ops.toList a w) (hK : ∀ a w, K a w → Q .normal a w) : (Code.region id ops false).wp P Q a w := by
  refine wp_mono (wp_region_list (QX_wp _ _ _ h)) ?_
  intro e a' w' hq
  cases e with
  | normal => exact hK _ _ hq
  | _ => exact hq.elim

theorem of_eq {p q : Prop} (h : q = p) (hp : p) : q := h ▸ hp

/-- A cell is read. -/
theorem load_one {P : Program} {t : TypeId} {w : World} {p : Addr} {v : Value} (ht : ∀ w, (isAgg t).run P w = .ok false w) (h : w.cell? p = some v) : (loadVar t p).run P w = .ok v w := by
  simp [loadVar, ht, h]

theorem owe_int {P : Program} (op : BinOp) (t : TypeId) (x y : Operand) (k : IntKind) (a b : Int) (v : Value) (w : World) (h : (binOp op t (.int k a) (.int k b)).run P w = .ok v w) :
    (do eqGuard op t x y (.int k a) (.int k b); binOp op t (.int k a) (.int k b)).run P w = .ok v w := by
  have : (eqGuard op t x y (.int k a) (.int k b)).run P w = .ok () w := by
    unfold eqGuard
    cases op <;> simp
  rw [Sem.run_bind, this]; exact h
theorem owe_bool {P : Program} (op : BinOp) (t : TypeId) (x y : Operand) (a b : Bool) (v : Value) (w : World) (h : (binOp op t (.bool a) (.bool b)).run P w = .ok v w) :
    (do eqGuard op t x y (.bool a) (.bool b); binOp op t (.bool a) (.bool b)).run P w = .ok v w := by
  have : (eqGuard op t x y (.bool a) (.bool b)).run P w = .ok () w := by
    unfold eqGuard
    cases op <;> simp
  rw [Sem.run_bind, this]; exact h
theorem owe_str {P : Program} (op : BinOp) (t : TypeId) (x y : Operand) (a b : ByteArray) (v : Value) (w : World) (h : (binOp op t (.string a) (.string b)).run P w = .ok v w) :
    (do eqGuard op t x y (.string a) (.string b); binOp op t (.string a) (.string b)).run P w = .ok v w := by
  have : (eqGuard op t x y (.string a) (.string b)).run P w = .ok () w := by
    unfold eqGuard
    cases op <;> simp
  rw [Sem.run_bind, this]; exact h
theorem owe_agg {P : Program} (op : BinOp) (t : TypeId) (x y : Operand) (a b : Array Value) (v : Value) (w : World) (hg : P.eqGuardType P.depth t = false) (h : (binOp op t (.agg a) (.agg b)).run P w = .ok v w) :
    (do eqGuard op t x y (.agg a) (.agg b); binOp op t (.agg a) (.agg b)).run P w = .ok v w := by
  rw [Sem.run_bind, run_eqGuard_agg _ _ _ _ _ _ _ hg]; exact h
end Go.Proofs.Ygcsag
