/-
  'putHolds'.
-/
import Derived.Test.YgcsagNG
namespace Go.Proofs.Ygcsag
open Go.RowKit
set_option linter.unusedVariables false
set_option linter.unusedSimpArgs false

structure P19 (zs : List Int) (n k x i X : Nat) (cur : List Int) (w0 W : World) : Prop where
  len : cur.length = n
  dig : Dig cur
  get : ∀ t, cur.getD t 0 = if k + i ≤ t ∧ t < k + 8 then ((x / 256 ^ (7 - (t - k)) % 256 : Nat) : Int) else zs.getD t 0
  X : X = x / 256 ^ (8 - i)
  below : Below w0.heap.size w0 W
  row : W.heap[w0.heap.size]? = some (.cells (rowOf cur) 5 (0, 0))
structure G19 where
  i : Nat := 0
  X : Nat := 0
  cur : List Int := []
  more : Bool := false
def G19.c1 (i X : Nat) (cur : List Int) : G19 := { i := i, X := X, cur := cur, more := true }
def G19.c2 (X : Nat) (cur : List Int) : G19 := { X := X, cur := cur, more := false }
def loop19 (zs : List Int) (n k x : Nat) (w0 : World) : LoopTip G19 where
  slots := [2, 12]
  inv := fun _ w us w' => ∃ (i X : Nat) (cur : List Int), i ≤ 8 ∧ us = [.int .u64 (X : Nat), .int .i64 (i : Nat)] ∧ P19 zs n k x i X cur w0 w'
  T := fun _ w C => (∀ (i X : Nat) (cur : List Int) (W : World), 0 < i → i ≤ 8 → X < 18446744073709551616 → P19 zs n k x i X cur w0 W → C (G19.c1 i X cur) [.int .u64 (X : Nat), .int .i64 (i : Nat)] W) ∧
    (∀ (X : Nat) (cur : List Int) (W : World), P19 zs n k x 0 X cur w0 W → C (G19.c2 X cur) [.int .u64 (X : Nat), .int .i64 ((0 : Nat) : Int)] W)
  mu := fun _ us _ => (intOf (us.getLastD undef)).toNat
theorem loop19_ok {zs : List Int} {n k x : Nat} (hx : x < 18446744073709551616) (w0 : World) (g : G19) (w : World) : LoopOK (loop19 zs n k x w0) g w := by
  rintro C ⟨h1, h2⟩ us w' - ⟨i, X, cur, hi, rfl, hm⟩
  by_cases e : 0 < i
  · have : X ≤ x := by rw [hm.X]; exact Nat.div_le_self _ _
    exact ⟨_, h1 i X cur w' e hi (by omega) hm⟩
  · obtain rfl : i = 0 := by omega
    exact ⟨_, h2 X cur w' hm⟩
theorem p19_start {zs : List Int} {n k x : Nat} {w0 W : World} (hl : zs.length = n) (hd : Dig zs) (hb : Below w0.heap.size w0 W) (hr : W.heap[w0.heap.size]? = some (.cells (rowOf zs) 5 (0, 0))) : P19 zs n k x 8 x zs w0 W :=
  ⟨hl, hd, fun t => by rw [if_neg (by omega)], by simp, hb, hr⟩
theorem p19_next {zs cur : List Int} {n k x i X : Nat} {w0 W : World} (hk : k + 8 ≤ n) (h0 : 0 < i) (hi : i ≤ 8) (h : P19 zs n k x i X cur w0 W) :
    P19 zs n k x (i - 1) (X / 256) (cur.set (k + i - 1) ((X % 256 : Nat) : Int)) w0 (W.setRow w0.heap.size (rowOf (cur.set (k + i - 1) ((X % 256 : Nat) : Int)))) := by
  refine ⟨by rw [List.length_set]; exact h.len, h.dig.set _ (by omega), fun t => ?_, ?_, kept_row h.below (Nat.le_refl _) _, setRow_heap _ _ _ _ _ _ h.row⟩
  · by_cases e : t = k + i - 1
    · subst e
      rw [getD_set_self _ _ _ (by rw [h.len]; omega), if_pos (by omega), h.X, show 7 - (k + i - 1 - k) = 8 - i by omega]
    · rw [getD_set_ne _ _ _ _ (by omega), h.get t]
      by_cases e2 : k + i ≤ t ∧ t < k + 8
      · rw [if_pos e2, if_pos (by omega)]
      · rw [if_neg e2, if_neg (by omega)]
  · rw [h.X, Nat.div_div_eq_div_mul, ← Nat.pow_succ, show 8 - (i - 1) = (8 - i).succ by omega]
theorem p19_end {zs cur : List Int} {n k x X : Nat} {w0 W : World} (hl : zs.length = n) (hk : k + 8 ≤ n) (h : P19 zs n k x 0 X cur w0 W) : cur = putJ zs k x 8 := by
  apply List.ext_getElem
  · rw [putJ_len, h.len, hl]
  · intro t h1 h2
    have e1 := h.get t
    have e2 := putJ_get zs k x (by omega) 8 (Nat.le_refl _) t
    rw [Nat.add_zero] at e1
    rw [← e2] at e1
    rw [List.getD_eq_getElem?_getD, List.getD_eq_getElem?_getD, List.getElem?_eq_getElem h1, List.getElem?_eq_getElem h2] at e1
    simpa using e1
def tips19n (zs : List Int) (n : Nat) : Tips G19 where
  ops := [(17, { tr := some fun g w C => C g (.bool false) w }), (18, { val := some fun _ => .bool false }), (24, { val := some fun _ => .bool false }), (27, { tr := some fun g w C => ∀ v W', Copied zs n v w W' → C g v W' }), (46, { tr := some fun g w C => C g (.bool true) w })]
def tips19 (zs : List Int) (n k x : Nat) (w0 : World) : Tips G19 where
  ops := [(17, { tr := some fun g w C => C g (.bool true) w }), (18, { val := some fun _ => .bool false }), (24, { val := some fun _ => .bool false }), (27, { tr := some fun g w C => ∀ W', Below w0.heap.size w0 W' → W'.heap[w0.heap.size]? = some (.cells (rowOf zs) 5 (0, 0)) → C g (.slice (some ⟨w0.heap.size, 0, none⟩) n n) W' }),
    (30, { val := some fun g => .bool g.more }), (36, { val := some fun g => .int .i64 (k + g.i : Nat) }), (37, { val := some fun g => .int .i64 (k + g.i - 1 : Nat) }), (39, { val := some fun g => .int .u64 (g.X % 256 : Nat) }), (40, { val := some fun g => .int .u8 ((g.X % 256 : Nat) : Int) }), (41, { val := some fun g => .pointer (some ⟨w0.heap.size, k + g.i - 1, none⟩) }),
    (1008009, { val := some fun _ => undef, wld := some fun g w => w.setRow w0.heap.size (rowOf (g.cur.set (k + g.i - 1) ((g.X % 256 : Nat) : Int))) }), (43, { val := some fun g => .int .u64 (g.X / 256 : Nat) }), (32, { val := some fun g => .int .i64 (g.i - 1 : Nat) }), (46, { tr := some fun g w C => C g (.bool true) w })]
  loops := [(6, loop19 zs n k x w0)]
theorem copy_ok {zs : List Int} {n : Nat} {a : Option Addr} {c : Nat} {w : World} {g : G19} (hl : zs.length = n) (hn : n ≤ 281474976710000) (hr : ByteRow w a zs) : CallOK Sagg.prog 17 #[.slice a n c] w fun C : G19 → Value → World → Prop => ∀ v W', Copied zs n v w W' → C g v W' := by
  intro C hC
  refine (copyBytes_calls a n c zs w hl hn hr).mono ?_
  rintro e w' ⟨v, rfl, hc⟩
  exact ⟨g, v, rfl, hC v w' hc⟩
theorem copy_ok8 {zs : List Int} {n : Nat} {a : Option Addr} {c : Nat} {w : World} {g : G19} (hl : zs.length = n) (hn : n ≤ 281474976710000) (h8 : 8 ≤ n) (hr : ByteRow w a zs) :
    CallOK Sagg.prog 17 #[.slice a n c] w fun C : G19 → Value → World → Prop => ∀ W', Below w.heap.size w W' → W'.heap[w.heap.size]? = some (.cells (rowOf zs) 5 (0, 0)) → C g (.slice (some ⟨w.heap.size, 0, none⟩) n n) W' := by
  intro C hC
  refine (copyBytes_calls a n c zs w hl hn hr).mono ?_
  rintro e w' ⟨v, rfl, hc⟩
  rcases hc.val with ⟨_, h0⟩ | ⟨hv, hrow⟩
  · omega
  · exact ⟨g, v, rfl, by rw [hv]; exact hC w' hc.below hrow⟩
theorem same_ok {zs ys : List Int} {a b : Option Addr} {n c c' : Nat} {W : World} {g : G19} (h1 : zs.length = n) (e : zs = ys) (r1 : ByteRow W a zs) (r2 : ByteRow W b ys) : CallOK Sagg.prog 8 #[.slice a n c, .slice b n c'] W fun C : G19 → Value → World → Prop => C g (.bool true) W := by
  subst e
  have := equalBytes_calls a b n c n c' zs zs W h1 h1 r1 r2
  rw [decide_eq_true rfl] at this
  exact callSame this
theorem same_copied {zs : List Int} {b : Option Addr} {n c : Nat} {w W : World} {v : Value} {g : G19} (hl : zs.length = n) (hd : Dig zs) (hc : Copied zs n v w W) (r2 : ByteRow w b zs) : CallOK Sagg.prog 8 #[v, .slice b n c] W fun C : G19 → Value → World → Prop => C g (.bool true) W := by
  rcases hc.val with ⟨rfl, h0⟩ | ⟨rfl, hrow⟩
  · have hz : zs = [] := List.length_eq_zero_iff.1 (by omega)
    subst hz
    have hn : n = 0 := h0
    subst hn
    exact same_ok rfl rfl (ByteRow.nil _ _) (r2.ext hc.below)
  · exact same_ok hl rfl (RowAt.byteRow hrow hd) (r2.ext hc.below)
theorem neqb {b : Bool} {w : World} : (binOp .neq 4 (.bool b) (.bool b)).run Sagg.prog w = .ok (.bool false) w := by
  cases b <;> kernel_rfl
theorem conv_mod {X : Nat} {w : World} : (convert 31 5 (.int .u64 ((X % 256 : Nat) : Int))).run Sagg.prog w = .ok (.int .u8 ((X % 256 : Nat) : Int)) w := conv_i Sagg.underlying31 Sagg.underlying5 (by rw [wrap8]; omega)

def postR2 (w : World) : Ending → World → Prop := fun e w' => e = .returned (.bool true) ∧ Below w.heap.size w w'

set_option maxRecDepth 100000 in
set_option maxHeartbeats 8000000 in
theorem putHoldsNo_core (a aa : Option Addr) (n c ca x : Nat) (off : Int) (zs : List Int) (w : World) (hl : zs.length = n) (hn : n ≤ 281474976710000) (hf : ¬ Fits n off) (hr : ByteRow w a zs) (hr2 : ByteRow w aa zs) : Calls Sagg.prog 19 #[.slice a n c, .int .i64 off, .int .u64 (x : Int), .slice aa n ca, .bool false] w (postR2 w) := by
  refine CX_calls (tips19n zs n) {} (by kernel_rfl) Sagg.func19 rfl _ rfl (by kernel_rfl) ?_
  refine of_eq (p := (CallOK Sagg.prog 41 { toList := [Value.int IntKind.i64 ↑n, Value.int IntKind.i64 off] } w fun (C : G19 → Value → World → Prop) => C { } (Value.bool false) w) ∧ Sem.run Sagg.prog (binOp BinOp.neq 4 (Value.bool false) (Value.bool false)) w = Result.ok (Value.bool false) w ∧ Sem.run Sagg.prog (binOp BinOp.neq 3 (Value.int IntKind.i64 ↑n) (Value.int IntKind.i64 ↑n)) w = Result.ok (Value.bool false) w ∧ (CallOK Sagg.prog 17 { toList := [Value.slice a n c] } w fun (C : G19 → Value → World → Prop) => ∀ (v : Value) (W' : World), Copied zs n v w W' → C { } v W') ∧ ∀ (v : Value) (W' : World), Copied zs n v w W' → (CallOK Sagg.prog 8 { toList := [rho [(45, Value.slice aa n ca), (44, rho [(28, Value.bool false), (11, rho [(27, v), (26, Value.slice a n c), (25, Value.bool false), (24, Value.bool false), (23, Value.int IntKind.i64 ↑n), (22, Value.slice a n c), (21, Value.int IntKind.i64 ↑n), (20, Value.slice aa n ca), (19, Value.bool false), (18, Value.bool false), (17, Value.bool false), (16, Value.int IntKind.i64 off), (15, Value.int IntKind.i64 ↑n), (14, Value.slice a n c), (13, Value.bool false), (10, Value.bool false), (0, Value.slice a n c), (1, Value.int IntKind.i64 off), (2, Value.int IntKind.u64 ↑x), (3, Value.slice aa n ca), (4, Value.bool false)] (Operand.tmp 27)), (27, v), (26, Value.slice a n c), (25, Value.bool false), (24, Value.bool false), (23, Value.int IntKind.i64 ↑n), (22, Value.slice a n c), (21, Value.int IntKind.i64 ↑n), (20, Value.slice aa n ca), (19, Value.bool false), (18, Value.bool false), (17, Value.bool false), (16, Value.int IntKind.i64 off), (15, Value.int IntKind.i64 ↑n), (14, Value.slice a n c), (13, Value.bool false), (10, Value.bool false), (0, Value.slice a n c), (1, Value.int IntKind.i64 off), (2, Value.int IntKind.u64 ↑x), (3, Value.slice aa n ca), (4, Value.bool false)] (Operand.tmp 11)), (28, Value.bool false), (11, rho [(27, v), (26, Value.slice a n c), (25, Value.bool false), (24, Value.bool false), (23, Value.int IntKind.i64 ↑n), (22, Value.slice a n c), (21, Value.int IntKind.i64 ↑n), (20, Value.slice aa n ca), (19, Value.bool false), (18, Value.bool false), (17, Value.bool false), (16, Value.int IntKind.i64 off), (15, Value.int IntKind.i64 ↑n), (14, Value.slice a n c), (13, Value.bool false), (10, Value.bool false), (0, Value.slice a n c), (1, Value.int IntKind.i64 off), (2, Value.int IntKind.u64 ↑x), (3, Value.slice aa n ca), (4, Value.bool false)] (Operand.tmp 27)), (27, v), (26, Value.slice a n c), (25, Value.bool false), (24, Value.bool false), (23, Value.int IntKind.i64 ↑n), (22, Value.slice a n c), (21, Value.int IntKind.i64 ↑n), (20, Value.slice aa n ca), (19, Value.bool false), (18, Value.bool false), (17, Value.bool false), (16, Value.int IntKind.i64 off), (15, Value.int IntKind.i64 ↑n), (14, Value.slice a n c), (13, Value.bool false), (10, Value.bool false), (0, Value.slice a n c), (1, Value.int IntKind.i64 off), (2, Value.int IntKind.u64 ↑x), (3, Value.slice aa n ca), (4, Value.bool false)] (Operand.tmp 44), Value.slice aa n ca] } W' fun (C : G19 → Value → World → Prop) => C { } (Value.bool true) W') ∧ (postR2 w) (Ending.returned (Value.bool true)) W') (by kernel_rfl) ?_
  exact ⟨(callSame (fits_calls n off w (by omega) false (no_if hf))), neqb, (neq_f rfl), (copy_ok hl hn hr), (fun v4 => (fun W'5 => (fun h6 => ⟨(same_copied hl hr.1 (by assumption) hr2), ⟨rfl, (show Copied _ _ _ _ _ by assumption).below⟩⟩)))⟩

set_option maxRecDepth 100000 in
set_option maxHeartbeats 8000000 in
theorem putHoldsYes_core (a aa : Option Addr) (n c ca k x : Nat) (zs : List Int) (w : World) (hl : zs.length = n) (hn : n ≤ 281474976710000) (hk : k + 8 ≤ n) (hx : x < 18446744073709551616) (hr : ByteRow w a zs) (hr2 : ByteRow w aa (putJ zs k x 8)) : Calls Sagg.prog 19 #[.slice a n c, .int .i64 (k : Int), .int .u64 (x : Int), .slice aa n ca, .bool true] w (postR2 w) := by
  refine CX_calls (tips19 zs n k x w) {} (by kernel_rfl) Sagg.func19 rfl _ rfl (by kernel_rfl) ?_
  refine of_eq (p := (CallOK Sagg.prog 41 { toList := [Value.int IntKind.i64 ↑n, Value.int IntKind.i64 ↑k] } w fun (C : G19 → Value → World → Prop) => C { } (Value.bool true) w) ∧
  Sem.run Sagg.prog (binOp BinOp.neq 4 (Value.bool true) (Value.bool true)) w = Result.ok (Value.bool false) w ∧
    Sem.run Sagg.prog (binOp BinOp.neq 3 (Value.int IntKind.i64 ↑n) (Value.int IntKind.i64 ↑n)) w = Result.ok (Value.bool false) w ∧
      (CallOK Sagg.prog 17 { toList := [Value.slice a n c] } w fun (C : G19 → Value → World → Prop) => ∀ (W' : World), Below w.heap.size w W' → W'.heap[w.heap.size]? = some (Obj.cells (rowOf zs) 5) → C { } (Value.slice (some { block := w.heap.size, off := 0 }) n n) W') ∧
        ∀ (W' : World),
          Below w.heap.size w W' →
            W'.heap[w.heap.size]? = some (Obj.cells (rowOf zs) 5) →
              (∃ (i : Nat), ∃ (X : Nat), ∃ (cur : List Int), i ≤ 8 ∧ [Value.int IntKind.u64 ↑x, Value.int IntKind.i64 8] = [Value.int IntKind.u64 ↑X, Value.int IntKind.i64 ↑i] ∧ P19 zs n k x i X cur w W') ∧
                LoopOK (loop19 zs n k x w) { } W' ∧
                  (∀ (i X : Nat) (cur : List Int) (W : World),
                      0 < i →
                        i ≤ 8 →
                          X < 18446744073709551616 →
                            P19 zs n k x i X cur w W →
                              Sem.run Sagg.prog (binOp BinOp.gtr 3 (Value.int IntKind.i64 ↑i) (Value.int IntKind.i64 0)) W = Result.ok (Value.bool true) W ∧
                                Sem.run Sagg.prog (binOp BinOp.add 3 (Value.int IntKind.i64 ↑k) (Value.int IntKind.i64 ↑i)) W = Result.ok (Value.int IntKind.i64 ↑(k + i)) W ∧
                                  Sem.run Sagg.prog (binOp BinOp.sub 3 (Value.int IntKind.i64 ↑(k + i)) (Value.int IntKind.i64 1)) W = Result.ok (Value.int IntKind.i64 ↑(k + i - 1)) W ∧
                                    Sem.run Sagg.prog (binOp BinOp.rem 31 (Value.int IntKind.u64 ↑X) (Value.int IntKind.u64 256)) W = Result.ok (Value.int IntKind.u64 ↑(X % 256)) W ∧
                                      Sem.run Sagg.prog (convert 31 5 (Value.int IntKind.u64 ↑(X % 256))) W = Result.ok (Value.int IntKind.u8 ↑(X % 256)) W ∧
                                        Sem.run Sagg.prog (Instr.indexAt 22 (Value.slice (some { block := w.heap.size, off := 0 }) n n) (Value.int IntKind.i64 ↑(k + i - 1))) W = Result.ok (Value.pointer (some { block := w.heap.size, off := k + i - 1 })) W ∧
                                          Sem.run Sagg.prog
                                                (do
                                                  storeVar 5 { block := w.heap.size, off := k + i - 1 } (Value.int IntKind.u8 ↑(X % 256))
                                                  pure undef)
                                                W =
                                              Result.ok (Value.tuple { toList := [] }) (W.setRow w.heap.size { toList := List.map (Value.int IntKind.u8) (cur.set (k + i - 1) ↑(X % 256)) }) ∧
                                            Sem.run Sagg.prog (binOp BinOp.quo 31 (Value.int IntKind.u64 ↑X) (Value.int IntKind.u64 256)) (W.setRow w.heap.size { toList := List.map (Value.int IntKind.u8) (cur.set (k + i - 1) ↑(X % 256)) }) = Result.ok (Value.int IntKind.u64 ↑(X / 256)) (W.setRow w.heap.size { toList := List.map (Value.int IntKind.u8) (cur.set (k + i - 1) ↑(X % 256)) }) ∧ Sem.run Sagg.prog (binOp BinOp.sub 3 (Value.int IntKind.i64 ↑i) (Value.int IntKind.i64 1)) (W.setRow w.heap.size { toList := List.map (Value.int IntKind.u8) (cur.set (k + i - 1) ↑(X % 256)) }) = Result.ok (Value.int IntKind.i64 ↑(i - 1)) (W.setRow w.heap.size { toList := List.map (Value.int IntKind.u8) (cur.set (k + i - 1) ↑(X % 256)) }) ∧ (∃ (i_1 : Nat), ∃ (X_1 : Nat), ∃ (cur_1 : List Int), i_1 ≤ 8 ∧ [Value.int IntKind.u64 ↑(X / 256), Value.int IntKind.i64 ↑(i - 1)] = [Value.int IntKind.u64 ↑X_1, Value.int IntKind.i64 ↑i_1] ∧ P19 zs n k x i_1 X_1 cur_1 w ((fun (g : G19) (w_1 : World) => w_1.setRow w.heap.size (rowOf (g.cur.set (k + g.i - 1) ↑(g.X % 256)))) (G19.c1 i X cur) W)) ∧ (((i - 1) : Nat) : Int).toNat < ((i : Nat) : Int).toNat) ∧
                    ∀ (X : Nat) (cur : List Int) (W : World), P19 zs n k x 0 X cur w W → Sem.run Sagg.prog (binOp BinOp.gtr 3 (Value.int IntKind.i64 ↑0) (Value.int IntKind.i64 0)) W = Result.ok (Value.bool false) W ∧ (CallOK Sagg.prog 8 { toList := [Value.slice (some { block := w.heap.size, off := 0 }) n n, Value.slice aa n ca] } W fun (C : G19 → Value → World → Prop) => C (G19.c2 X cur) (Value.bool true) W) ∧ (postR2 w) (Ending.returned (Value.bool true)) W) (by kernel_rfl) ?_
  exact ⟨(callSame (fits_calls n k w (by omega) true ⟨fun _ => ⟨by omega, by omega⟩, fun _ => rfl⟩)), neqb, (neq_f rfl), (copy_ok8 hl hn (by omega) hr), (fun W'4 => (fun h5 => (fun h6 => ⟨⟨8, x, zs, by omega, rfl, p19_start hl hr.1 (by assumption) (by assumption)⟩, (loop19_ok hx _ _ _), (fun i9 => (fun X10 => (fun cur11 => (fun W12 => (fun h13 => (fun h14 => (fun h15 => (fun h16 => ⟨(gtr_t (by omega)), (addN (by omega)), (sub_1 (by omega) (by omega)), (remU (b := 256) (by omega) rfl), conv_mod, (index_new Sagg.underlying22 (by omega)), (store_byte (show P19 _ _ _ _ _ _ _ _ _ by assumption).row (by rw [(show P19 _ _ _ _ _ _ _ _ _ by assumption).len]; omega)), (quoU (b := 256) (by omega) rfl (by assumption)), (sub_1 (by omega) (by omega)), ⟨_, _, _, by omega, rfl, p19_next hk (by assumption) (by assumption) (by assumption)⟩, (by simp [intOf]; omega)⟩)))))))), (fun X28 => (fun cur29 => (fun W30 => (fun h31 => ⟨(gtr_f (by omega)), (same_ok (show P19 _ _ _ _ _ _ _ _ _ by assumption).len (p19_end hl hk (show P19 _ _ _ _ _ _ _ _ _ by assumption)) (RowAt.byteRow (show P19 _ _ _ _ _ _ _ _ _ by assumption).row (show P19 _ _ _ _ _ _ _ _ _ by assumption).dig) (hr2.ext (show P19 _ _ _ _ _ _ _ _ _ by assumption).below)), ⟨rfl, (show P19 _ _ _ _ _ _ _ _ _ by assumption).below⟩⟩))))⟩)))⟩
end Go.Proofs.Ygcsag
