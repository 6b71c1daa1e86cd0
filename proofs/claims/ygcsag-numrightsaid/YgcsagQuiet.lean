/-
  STEPS OF THE QUIET WALK (a region that draws its order, walked once in the text's order), over any program and any class of worlds.
-/
import Derived.Deep.Quiet
import Derived.Deep.MidRow
import Derived.Below
import Derived.Tactics
namespace Go.Proofs.Ygcsag
open Go.RowKit
set_option linter.unusedVariables false
section
variable {P : Program} {ops : Array Oper} {C : World → Prop} {Q : Act → Prop} {a : Act} {o : Oper} {rest : List Oper}

theorem wpQuiet_val (v : Value) (hg : Region.wanted o (yielded ops a.tmps) = true) (h : ∀ w, C w → (execOp a.eval o).run P w = .ok (.value v) w) (k : wpQuiet P ops C Q rest (a.put o.dst v)) : wpQuiet P ops C Q (o :: rest) a := by
  unfold wpQuiet
  rw [if_pos hg]
  exact ⟨v, fun w hw => by unfold Oper.quietAt; rw [h w hw]; exact ⟨rfl, rfl⟩, k⟩

/-- A load whose value is one in every world of the class. -/
theorem wpQuiet_load (ty : TypeId) (x : Operand) (ho : o.op = .load ty x) (hg : Region.wanted o (yielded ops a.tmps) = true) (p : Addr) (hx : a.eval x = .pointer (some p)) (v : Value)
    (h : ∀ w, C w → (loadVar ty p).run P w = .ok v w) (k : wpQuiet P ops C Q rest (a.put o.dst v)) : wpQuiet P ops C Q (o :: rest) a :=
  wpQuiet_val v hg (fun w hw => by
    unfold execOp
    simp only [ho, hx, Instr.loadAt, Instr.sureAddr, Sem.run_bind, Sem.run_pure, Result.andThen_ok, h w hw]) k

/-- A call whose answer is one in every world of the class, and which leaves a world of the class. -/
theorem wpQuiet_call (f : FuncId) (args : Array Operand) (tys : Array TypeId) (ho : o.op = .call { callee := .value (.func f), args := args, argTypes := tys }) (hg : Region.wanted o (yielded ops a.tmps) = true) (v : Value)
    (he : ∀ w, (execOp a.eval o).run P w = .ok (.enter f (args.map a.eval)) w) (h : ∀ w, C w → Calls P f (args.map a.eval) w fun e w' => e = .returned v ∧ C w') (k : wpQuiet P ops C Q rest (a.put o.dst v)) : wpQuiet P ops C Q (o :: rest) a := by
  unfold wpQuiet
  rw [if_pos hg]
  exact ⟨v, fun w hw => by unfold Oper.quietAt; rw [he w]; exact ⟨rfl, h w hw⟩, k⟩
end
end Go.Proofs.Ygcsag
namespace Go.Proofs.Ygcsag
/-- A region in the text's order, walked quietly. -/
theorem wpList_of_quiet {P : Program} {ops : Array Oper} {C : World → Prop} {R : Act → Prop} {Q : Exit → Act → World → Prop} (hQ : ∀ a w, C w → R a → Q .normal a w) :
    ∀ (l : List Oper) (a : Act) (w : World), C w → wpQuiet P ops C R l a → wpList P ops Q l a w
  | [], a, w, hC, h => hQ a w hC h
  | o :: l, a, w, hC, h => by
    unfold wpQuiet at h
    unfold wpList
    split
    · rename_i hw
      rw [if_pos hw] at h
      exact .inl (Oper.wp_of_quiet hC (fun a w hC h => wpList_of_quiet hQ l a w hC h) h)
    · rename_i hw
      rw [if_neg hw] at h
      exact wpList_of_quiet hQ l _ w hC h

/-- .. at the class 'after some draws' (none are made). -/
theorem wp_region_quiet_plain {P : Program} {id : Nat} {Q : Exit → Act → World → Prop} {a : Act} {w : World} {l : List Oper}
    (h : wpQuiet P l.toArray (fun w' => ∃ n, w' = w.drewN n) (fun a' => ∀ w', (∃ n, w' = w.drewN n) → Q .normal a' w') l a) : (Code.region id l.toArray false).wp P Q a w :=
  wp_region_lit (wpList_of_quiet (C := fun w' => ∃ n, w' = w.drewN n) (R := fun a' => ∀ w', (∃ n, w' = w.drewN n) → Q .normal a' w') (fun _ w' hw' h => h w' hw') _ _ _ ⟨0, rfl⟩ h)
end Go.Proofs.Ygcsag
