/-
  THE LOOP OF 'Intrinsic': the zeros among the data are counted.
-/
import Derived.Test.YgcsagGreatJY
namespace Go.Proofs.YgcsagGreat
open Go.RowKit
set_option linter.unusedVariables false
set_option linter.unusedSimpArgs false

/-- The body of the loop that begins at region k. -/
def findLoop (k : Nat) : Code → Option Code
  | .seq x y => match findLoop k x with
    | some b => some b
    | none => findLoop k y
  | .cond _ x y => match findLoop k x with
    | some b => some b
    | none => findLoop k y
  | .block _ x => findLoop k x
  | .scope x => findLoop k x
  | .loop x => match Code.first x with
    | some i => match Nat.beq i k with
      | true => some x
      | false => findLoop k x
    | none => findLoop k x
  | _ => none
noncomputable def b73 : Code := match Sagg.f73.body with
  | some c => match findLoop 4 c with
    | some b => b
    | none => .skip
  | none => .skip
/-- How many of the first are zero. -/
def cntR (zs : List Int) : Nat → Nat
  | 0 => 0
  | i + 1 => cntR zs i + (if zs.getD i 0 = 0 then 1 else 0)
theorem cntR_le (zs : List Int) : ∀ i, cntR zs i ≤ i
  | 0 => Nat.le_refl _
  | i + 1 => by
    have := cntR_le zs i
    unfold cntR
    split <;> omega
structure G73 where
  i : Nat := 0
  q : Bool := false
  r : Bool := false
  x : Int := 0
def loop73 (zs : List Int) (n : Nat) (w0 : World) : LoopTip G73 where
  slots := [13, 4]
  inv := fun _ _ us W => ∃ i : Nat, i ≤ n ∧ us = [.int .i64 i, .int .u64 (cntR zs i : Nat)] ∧ W = w0
  T := fun _ _ C => (∀ i : Nat, i < n → (zs.getD i 0 = 0 → C { i := i, q := true, r := true, x := 0 } [.int .i64 i, .int .u64 (cntR zs i : Nat)] w0) ∧ (∀ x, zs.getD i 0 = x → x ≠ 0 → C { i := i, q := true, r := false, x := x } [.int .i64 i, .int .u64 (cntR zs i : Nat)] w0)) ∧ C { q := false } [.int .i64 n, .int .u64 (cntR zs n : Nat)] w0
  mu := fun _ us _ => n - (intOf (us.headD undef)).toNat
theorem loop73_ok (zs : List Int) (n : Nat) (w0 : World) (g : G73) (w : World) : LoopOK (loop73 zs n w0) g w := by
  rintro C ⟨h1, h2⟩ us w' - ⟨i, hi, rfl, rfl⟩
  by_cases hlt : i < n
  · by_cases hz : zs.getD i 0 = 0
    · exact ⟨_, (h1 i hlt).1 hz⟩
    · exact ⟨_, (h1 i hlt).2 _ rfl hz⟩
  · obtain rfl : i = n := by omega
    exact ⟨_, h2⟩
def tips73 (b off n : Nat) (zs : List Int) (w0 : World) : Tips G73 where
  ops := [(14, { val := some fun g => .bool g.q }), (15, { val := some fun g => .pointer (some ⟨b, off + g.i, none⟩) }), (16, { val := some fun g => .int .u8 g.x }), (18, { val := some fun g => .bool g.r }), (20, { val := some fun g => .int .u64 (cntR zs g.i + 1 : Nat) }), (21, { val := some fun g => .int .i64 (g.i + 1 : Nat) })]
  loops := [(4, loop73 zs n w0)]
def post73 (zs : List Int) (n : Nat) (w : World) : Ending → World → Prop := fun e w' => e = .returned (.int .u64 (cntR zs n : Nat)) ∧ w' = w
def q73 (R : Ending → World → Prop) : Exit → G73 → List (Nat × Value) → World → Prop := fun e _ F2 w2 => match e with
  | .exit 0 => match look F2 4 with
    | some v => R (.returned v) w2
    | none => False
  | _ => False
theorem add_u {t : TypeId} {w : World} {a : Nat} (h : a < 18446744073709551615) : (binOp .add t (.int .u64 (a : Int)) (.int .u64 1)).run Sagg.prog w = .ok (.int .u64 ((a + 1 : Nat) : Int)) w := add_i (by rw [wrap_u (by omega) (by omega)]; omega)
theorem cnt_z {zs : List Int} {i : Nat} (h : zs.getD i 0 = 0) : cntR zs (i + 1) = cntR zs i + 1 := by
  show cntR zs i + (if zs.getD i 0 = 0 then 1 else 0) = _
  rw [if_pos h]
theorem cnt_n {zs : List Int} {i : Nat} {x : Int} (h : zs.getD i 0 = x) (hx : x ≠ 0) : cntR zs (i + 1) = cntR zs i := by
  show cntR zs i + (if zs.getD i 0 = 0 then 1 else 0) = _
  rw [if_neg (by rw [h]; exact hx)]
  rfl

set_option maxRecDepth 100000 in
set_option maxHeartbeats 8000000 in
theorem loop73_cx (sa : Option Addr) (b off n c : Nat) (zs : List Int) (w : World) (hn : n ≤ 100000) (hl : zs.length = n) (hs : 0 < n → sa = some ⟨b, off, none⟩) (hr : ∀ i, i < zs.length → w.cell? ⟨b, off + i, none⟩ = some (.int .u8 (zs.getD i 0))) : CX Sagg.prog (tips73 b off n zs w) 74 (.loop b73) (q73 (post73 zs n w)) {} [(11, .slice sa n c), (12, .int .i64 (n : Int)), (13, .int .i64 0), (4, .int .u64 0)] w := by
  refine of_eq (p := (∃ (i : Nat), i ≤ n ∧ [Value.int IntKind.i64 0, Value.int IntKind.u64 0] = [Value.int IntKind.i64 ↑i, Value.int IntKind.u64 ↑(cntR zs i)] ∧ w = w) ∧ LoopOK (loop73 zs n w) { } w ∧ (∀ (i : Nat), i < n → (zs.getD i 0 = 0 → Sem.run Sagg.prog (binOp BinOp.lss 3 (Value.int IntKind.i64 ↑i) (Value.int IntKind.i64 ↑n)) w = Result.ok (Value.bool true) w ∧ Sem.run Sagg.prog (Instr.indexAt 30 (Value.slice sa n c) (Value.int IntKind.i64 ↑i)) w = Result.ok (Value.pointer (some { block := b, off := off + i })) w ∧ Sem.run Sagg.prog (loadVar 5 { block := b, off := off + i }) w = Result.ok (Value.int IntKind.u8 0) w ∧ Sem.run Sagg.prog (binOp BinOp.eql 5 (Value.int IntKind.u8 0) (Value.int IntKind.u8 0)) w = Result.ok (Value.bool true) w ∧ Sem.run Sagg.prog (binOp BinOp.add 27 (Value.int IntKind.u64 ↑(cntR zs i)) (Value.int IntKind.u64 1)) w = Result.ok (Value.int IntKind.u64 ↑(cntR zs i + 1)) w ∧ Sem.run Sagg.prog (binOp BinOp.add 3 (Value.int IntKind.i64 ↑i) (Value.int IntKind.i64 1)) w = Result.ok (Value.int IntKind.i64 ↑(i + 1)) w ∧ (∃ (i_1 : Nat), i_1 ≤ n ∧ [Value.int IntKind.i64 ↑(i + 1), Value.int IntKind.u64 ↑(cntR zs i + 1)] = [Value.int IntKind.i64 ↑i_1, Value.int IntKind.u64 ↑(cntR zs i_1)] ∧ w = w) ∧ n - (((i + 1) : Nat) : Int).toNat < n - ((i : Nat) : Int).toNat) ∧ ∀ (x : Int), zs.getD i 0 = x → x ≠ 0 → Sem.run Sagg.prog (binOp BinOp.lss 3 (Value.int IntKind.i64 ↑i) (Value.int IntKind.i64 ↑n)) w = Result.ok (Value.bool true) w ∧ Sem.run Sagg.prog (Instr.indexAt 30 (Value.slice sa n c) (Value.int IntKind.i64 ↑i)) w = Result.ok (Value.pointer (some { block := b, off := off + i })) w ∧ Sem.run Sagg.prog (loadVar 5 { block := b, off := off + i }) w = Result.ok (Value.int IntKind.u8 x) w ∧ Sem.run Sagg.prog (binOp BinOp.eql 5 (Value.int IntKind.u8 x) (Value.int IntKind.u8 0)) w = Result.ok (Value.bool false) w ∧ Sem.run Sagg.prog (binOp BinOp.add 3 (Value.int IntKind.i64 ↑i) (Value.int IntKind.i64 1)) w = Result.ok (Value.int IntKind.i64 ↑(i + 1)) w ∧ (∃ (i_1 : Nat), i_1 ≤ n ∧ [Value.int IntKind.i64 ↑(i + 1), Value.int IntKind.u64 ↑(cntR zs i)] = [Value.int IntKind.i64 ↑i_1, Value.int IntKind.u64 ↑(cntR zs i_1)] ∧ w = w) ∧ n - (((i + 1) : Nat) : Int).toNat < n - ((i : Nat) : Int).toNat) ∧ Sem.run Sagg.prog (binOp BinOp.lss 3 (Value.int IntKind.i64 ↑n) (Value.int IntKind.i64 ↑n)) w = Result.ok (Value.bool false) w ∧ (post73 zs n w) (Ending.returned (Value.int IntKind.u64 ↑(cntR zs n))) w) (by kernel_rfl) ?_
  exact ⟨⟨0, by omega, rfl, rfl⟩, (loop73_ok _ _ _ _ _), (fun i2 => (fun h3 => ⟨(fun h4 => ⟨(lss_t (by omega)), (index_byte Sagg.underlying30 (hs (by omega)) (by omega)), (load_byte (hr i2 (by omega)) (by assumption)), (eql_t (by omega)), (add_u (by have := cntR_le zs i2; omega)), (add_n (b := 1) rfl (by omega)), ⟨i2 + 1, by omega, by rw [cnt_z (by assumption)], rfl⟩, (by simp [intOf]; omega)⟩), (fun x13 => (fun h14 => (fun h15 => ⟨(lss_t (by omega)), (index_byte Sagg.underlying30 (hs (by omega)) (by omega)), (load_byte (hr i2 (by omega)) (by assumption)), (eql_f (by omega)), (add_n (b := 1) rfl (by omega)), ⟨i2 + 1, by omega, by rw [cnt_n (by assumption) (by assumption)], rfl⟩, (by simp [intOf]; omega)⟩)))⟩)), (lss_f (by omega)), ⟨rfl, rfl⟩⟩
end Go.Proofs.YgcsagGreat
