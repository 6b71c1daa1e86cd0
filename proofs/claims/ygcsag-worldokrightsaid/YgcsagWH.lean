/-
  'EnvOK' AND 'WorldOKRight'.
-/
import Derived.Test.YgcsagWG
import Derived.Laws.Rows
namespace Go.Proofs.Ygcsag
open Go.RowKit
set_option linter.unusedVariables false
set_option linter.unusedSimpArgs false

theorem worldOKHolds_calls (a : Option Addr) (n c : Nat) (L : List AccD) (eb : Bool) (w : World) (l : L.length = n) (hmax : n ≤ 9223372036854775807) (h : IsAccs w a L) (heb : eb = true ↔ WGood L) :
    Calls Sagg.prog 26 #[.slice a n c, .bool eb] w fun e w' => e = .returned (.bool true) ∧ Below w.heap.size w w' := by
  obtain ⟨b1, o1, s⟩ := h.block l
  refine worldOKHolds_core a b1 o1 n c L eb w l s hmax (fun A hA => ?_) heb
  have h0 : 0 < n := by rw [← l]; exact List.length_pos_of_mem hA
  obtain ⟨i, hi⟩ := List.getElem?_of_mem hA
  obtain ⟨cs, ca, cn, cc, sa, sn, sc, k1, _⟩ := (s h0).2 i A hi
  exact ⟨k1.balD, k1.balL⟩

/-- The call returns that, from every world behind this one, and old memory reads as it did. -/
def KeepsE (f : FuncId) (args : Array Value) (v : Value) (w : World) : Prop := ∀ wx, Below w.heap.size w wx → Calls Sagg.prog f args wx fun e w' => e = .returned v ∧ Below wx.heap.size wx w'
theorem run_boxE {P : Program} {t : TypeId} {z : Array Value} {w : World} {h : Nat} (hh : h = w.heap.size) : (Instr.box t (.agg z)).run P w = .ok (.pointer (some ⟨h, 0, none⟩)) (w.alloc (.cells z t)) := by
  subst hh
  simp [Instr.box, newVar, newRow, Value.cells]
structure BoxE (w W : World) (e : Array Value) : Prop where
  below : Below w.heap.size w W
  row : W.heap[w.heap.size]? = some (.cells e 62 (0, 0))
theorem BoxE.later {w W W' : World} {e : Array Value} (h : BoxE w W e) (hb : Below W.heap.size W W') : BoxE w W' e := by
  refine ⟨bel_tr h.below hb, ?_⟩
  rw [hb.block _ (by rcases Nat.lt_or_ge w.heap.size W.heap.size with h1 | h1; exact h1; have := h.row; rw [Array.getElem?_eq_none h1] at this; cases this)]
  exact h.row
theorem boxE_ok {w : World} {e : Array Value} : BoxE w (w.alloc (.cells e 62)) e := by
  refine ⟨(Below.refl _ _).alloc (Nat.le_refl _) _, ?_⟩
  show (w.heap.push _)[w.heap.size]? = _
  simp
theorem boxE_cell {w W : World} {e : Array Value} (h : BoxE w W e) {v : Value} (hv : e[119]? = some v) : W.cell? ⟨w.heap.size, 119, none⟩ = some v := by
  simp [World.cell?, h.row, hv]
structure GE where
  q : Bool := false
def boxTipE (h : Nat) (e : Array Value) : Tip GE := { val := some fun _ => .pointer (some ⟨h, 0, none⟩), wld := some fun _ w => w.alloc (.cells e 62) }
def cutE (w0 : World) (e : Array Value) (g : GE) (w : World) (C : GE → World → Prop) : Prop := ∀ W, BoxE w0 W e → C g W
theorem cutE_ok {w0 : World} {e : Array Value} {g : GE} {w : World} (h : BoxE w0 w e) : CutOK (cutE w0 e g w) w := fun C hC => ⟨g, hC w h⟩
def tips28 (w0 : World) (e : Array Value) (ha : Option Addr) (hn hc : Nat) : Tips GE where
  ops := [(1, boxTipE w0.heap.size e), (4, { val := some fun _ => .slice ha hn hc }), (6, { val := some fun _ => .bool (decide (hn ≤ 4)) })]
  cuts := [(1, fun g w C => cutE w0 e g w C)]
def tips6 (w0 : World) (e : Array Value) (ha : Option Addr) (hn hc : Nat) (eb : Bool) : Tips GE where
  ops := [(3, boxTipE w0.heap.size e), (7, { val := some fun _ => .bool eb }), (8, { val := some fun _ => .bool true }), (10, { val := some fun _ => .agg e }), (11, { val := some fun _ => .bool (decide (hn ≤ 4)) }), (13, { val := some fun _ => .slice ha hn hc }),
    (15, { val := some fun _ => .bool (decide (hn ≤ 4)) }), (16, { val := some fun _ => .bool true })]
  cuts := [(1, fun g w C => cutE w0 e g w C)]
  cls := [(1, fun _ w w' => Below w.heap.size w w')]
theorem leq_dec4 {n : Nat} {w : World} : (binOp .leq 3 (.int .i64 (n : Int)) (.int .i64 4)).run Sagg.prog w = .ok (.bool (decide (n ≤ 4))) w := by
  by_cases h : n ≤ 4
  · rw [leq_t (by omega)]; simp [h]
  · rw [leq_f (by omega)]; simp [h]
theorem load62 {w : World} {h : Nat} {r : Array Value} (hh : w.heap[h]? = some (.cells r 62 (0, 0))) (hs : r.size = 120) : (loadVar 62 ⟨h, 0, none⟩).run Sagg.prog w = .ok (.agg r) w :=
  run_loadVar_row w h 62 62 r (0, 0) _ hh Sagg.underlying62 rfl (by rw [hs]; kernel_rfl)
def postE (v : Value) (w : World) : Ending → World → Prop := fun e w' => e = .returned v ∧ Below w.heap.size w w'

set_option maxRecDepth 100000 in
set_option maxHeartbeats 8000000 in
theorem envOK_core (e : Array Value) (ha : Option Addr) (hn hc : Nat) (w : World) (he : e[119]? = some (.slice ha hn hc)) : Calls Sagg.prog 28 #[.agg e] w (postE (.bool (decide (hn ≤ 4))) w) := by
  refine CX_calls (tips28 w e ha hn hc) {} (by kernel_rfl) Sagg.func28 rfl _ rfl (by kernel_rfl) ?_
  refine of_eq (p := Sem.run Sagg.prog (Instr.box 62 (Value.agg e)) w = Result.ok (Value.pointer (some { block := w.heap.size, off := 0 })) (w.alloc (Obj.cells e 62)) ∧ CutOK (fun (C : GE → World → Prop) => cutE w e { } (w.alloc (Obj.cells e 62)) C) (w.alloc (Obj.cells e 62)) ∧ ∀ (W : World), BoxE w W e → Sem.run Sagg.prog (loadVar 49 { block := w.heap.size, off := 119 }) W = Result.ok (Value.slice ha hn hc) W ∧ Sem.run Sagg.prog (binOp BinOp.leq 3 (Value.int IntKind.i64 ↑hn) (Value.int IntKind.i64 4)) W = Result.ok (Value.bool (decide (hn ≤ 4))) W ∧ (postE (.bool (decide (hn ≤ 4))) w) (Ending.returned (Value.bool (decide (hn ≤ 4)))) W) (by kernel_rfl) ?_
  exact ⟨(run_boxE rfl), (cutE_ok boxE_ok), (fun W2 => (fun h3 => ⟨(load_one agg49 (boxE_cell h3 he)), leq_dec4, ⟨rfl, h3.below⟩⟩))⟩

set_option maxRecDepth 100000 in
set_option maxHeartbeats 8000000 in
theorem worldOKRight_core (a : Option Addr) (n c : Nat) (eb : Bool) (e : Array Value) (ha : Option Addr) (hn hc : Nat) (w : World) (hs : e.size = 120) (he : e[119]? = some (.slice ha hn hc)) (c27 : KeepsE 27 #[.slice a n c] (.bool eb) w) (c26 : KeepsE 26 #[.slice a n c, .bool eb] (.bool true) w) (c28 : KeepsE 28 #[.agg e] (.bool (decide (hn ≤ 4))) w) : Calls Sagg.prog 6 #[.slice a n c, .agg e] w (postE (.bool true) w) := by
  refine CX_calls (tips6 w e ha hn hc eb) {} (by kernel_rfl) Sagg.func6 rfl _ rfl (by kernel_rfl) ?_
  refine of_eq (p := Sem.run Sagg.prog (Instr.box 62 (Value.agg e)) w = Result.ok (Value.pointer (some { block := w.heap.size, off := 0 })) (w.alloc (Obj.cells e 62)) ∧ CutOK (fun (C : GE → World → Prop) => cutE w e { } (w.alloc (Obj.cells e 62)) C) (w.alloc (Obj.cells e 62)) ∧ ∀ (W : World), BoxE w W e → Below W.heap.size W (W.drewN 1) ∧ (∀ (w' : World), Below W.heap.size W w' → Calls Sagg.prog 27 { toList := [Value.slice a n c] } w' fun (e : Ending) (w' : World) => e = Ending.returned (Value.bool eb) ∧ Below W.heap.size W w') ∧ (∀ (w' : World), Below W.heap.size W w' → Calls Sagg.prog 26 { toList := [Value.slice a n c, Value.bool eb] } w' fun (e : Ending) (w' : World) => e = Ending.returned (Value.bool true) ∧ Below W.heap.size W w') ∧ (∀ (w' : World), Below W.heap.size W w' → Sem.run Sagg.prog (loadVar 62 { block := w.heap.size, off := 0 }) w' = Result.ok (Value.agg e) w') ∧ (∀ (w' : World), Below W.heap.size W w' → Calls Sagg.prog 28 { toList := [Value.agg e] } w' fun (e : Ending) (w' : World) => e = Ending.returned (Value.bool (decide (hn ≤ 4))) ∧ Below W.heap.size W w') ∧ (∀ (w' : World), Below W.heap.size W w' → Sem.run Sagg.prog (loadVar 49 { block := w.heap.size, off := 119 }) w' = Result.ok (Value.slice ha hn hc) w') ∧ (∀ (w' : World), Below W.heap.size W w' → Sem.run Sagg.prog (binOp BinOp.leq 3 (Value.int IntKind.i64 ↑hn) (Value.int IntKind.i64 4)) w' = Result.ok (Value.bool (decide (hn ≤ 4))) w') ∧ (∀ (w' : World), Below W.heap.size W w' → Sem.run Sagg.prog (binOp BinOp.eql 4 (Value.bool (decide (hn ≤ 4))) (Value.bool (decide (hn ≤ 4)))) w' = Result.ok (Value.bool true) w') ∧ ∀ (w' : World), Below W.heap.size W w' → (postE (.bool true) w) (Ending.returned (Value.bool true)) w') (by kernel_rfl) ?_
  exact ⟨(run_boxE rfl), (cutE_ok boxE_ok), (fun W2 => (fun h3 => ⟨(kept_drew (Below.refl _ _) 1), (fun w'5 => (fun h6 => ((c27 _ (BoxE.later h3 h6).below).mono fun e w' ⟨h, k⟩ => ⟨h, bel_tr (by assumption) k⟩))), (fun w'8 => (fun h9 => ((c26 _ (BoxE.later h3 h9).below).mono fun e w' ⟨h, k⟩ => ⟨h, bel_tr (by assumption) k⟩))), (fun w'11 => (fun h12 => (load62 (BoxE.later h3 h12).row hs))), (fun w'14 => (fun h15 => ((c28 _ (BoxE.later h3 h15).below).mono fun e w' ⟨h, k⟩ => ⟨h, bel_tr (by assumption) k⟩))), (fun w'17 => (fun h18 => (load_one agg49 (boxE_cell (BoxE.later h3 h18) he)))), (fun w'20 => (fun h21 => leq_dec4)), (fun w'23 => (fun h24 => (eqb2 rfl))), (fun w'26 => (fun h27 => ⟨rfl, (BoxE.later h3 h27).below⟩))⟩))⟩

theorem worldOKRight_calls {a : Option Addr} {n c : Nat} {L : List AccD} {e : Array Value} {ha : Option Addr} {hn hc : Nat} (w : World) (l : L.length = n) (hmax : n ≤ 9223372036854775807) (h : IsAccs w a L) (hs : e.size = 120) (he : e[119]? = some (.slice ha hn hc)) :
    Calls Sagg.prog 6 #[.slice a n c, .agg e] w fun e w' => e = .returned (.bool true) ∧ Below w.heap.size w w' := by
  classical
  obtain ⟨b, hb⟩ : ∃ b : Bool, b = true ↔ WGood L := ⟨decide (WGood L), by simp⟩
  exact worldOKRight_core a n c b e ha hn hc w hs he (fun wx hx => worldOK_calls a n c L wx l (h.ext hx) b hb) (fun wx hx => worldOKHolds_calls a n c L b wx l hmax (h.ext hx) hb) (fun wx hx => envOK_core e ha hn hc wx he)
end Go.Proofs.Ygcsag
