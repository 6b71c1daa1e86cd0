/-
  'Mul'.
-/
import Derived.Test.YgcsagNC
namespace Go.Proofs.Ygcsag
open Go.RowKit
set_option linter.unusedVariables false
set_option linter.unusedSimpArgs false

theorem fromU64_calls (x : Nat) (w : World) (hx : x < 18446744073709551616) : Calls Sagg.prog 38 #[.int .u64 (x : Int)] w fun e w' => ∃ v, e = .returned v ∧ IsN w' v (x : Int) ∧ Below w.heap.size w w' := fromU64_core x w hx

theorem val_setN : ∀ (zs : List Int) (p : Nat) (d : Int), p < zs.length → val (zs.set p d) = val zs + 256 ^ p * (d - zs.getD p 0)
  | [], p, d, h => by simp at h
  | x :: r, 0, d, h => by simp [val]; omega
  | x :: r, p + 1, d, h => by
    have ih := val_setN r p d (by simpa using h)
    simp only [List.set_cons_succ, val, ih, List.getD_cons_succ, Int.pow_succ]
    rw [Int.mul_add, Int.mul_comm (256 ^ p) 256, Int.mul_assoc]
    omega
theorem val_take_set {zs : List Int} {p k : Nat} {d : Int} (hp : p < k) (hk : k ≤ zs.length) : val ((zs.set p d).take k) = val (zs.take k) + 256 ^ p * (d - zs.getD p 0) := by
  rw [List.take_set, val_setN _ _ _ (by rw [List.length_take]; omega)]
  congr 3
  simp [List.getD_eq_getElem?_getD, List.getElem?_take, hp]

structure Mul37 (X Y : List Int) (n m i : Nat) (cur : List Int) (w0 W : World) : Prop where
  len : cur.length = n + m
  dig : Dig cur
  sum : val (cur.take (i + m)) = val (X.take i) * val Y
  below : Below w0.heap.size w0 W
  row : W.heap[w0.heap.size]? = some (.cells (rowOf cur) 5 (0, 0))
structure In37 (X Y : List Int) (n m i : Nat) (x : Int) (j : Nat) (c : Int) (cur : List Int) (w0 W : World) : Prop where
  len : cur.length = n + m
  dig : Dig cur
  c0 : 0 ≤ c
  c1 : c ≤ 255
  sum : val (cur.take (i + m)) + 256 ^ (i + j) * c = val (X.take i) * val Y + 256 ^ i * (x * val (Y.take j))
  below : Below w0.heap.size w0 W
  row : W.heap[w0.heap.size]? = some (.cells (rowOf cur) 5 (0, 0))
structure G37 where
  i : Nat := 0
  x : Int := 0
  j : Nat := 0
  c : Int := 0
  y : Int := 0
  z : Int := 0
  cur : List Int := []
  more : Bool := false
  more2 : Bool := false
def G37.c1 (i : Nat) (x : Int) (cur : List Int) : G37 := { i := i, x := x, cur := cur, more := true }
def G37.c2 (cur : List Int) : G37 := { cur := cur, more := false }
def G37.d1 (g : G37) (j : Nat) (c : Int) (cur : List Int) (y z : Int) : G37 := { i := g.i, x := g.x, j := j, c := c, cur := cur, y := y, z := z, more2 := true }
def G37.d2 (g : G37) (c : Int) (cur : List Int) : G37 := { i := g.i, x := g.x, c := c, cur := cur, more2 := false }
def loop37a (X Y : List Int) (n m : Nat) (w0 : World) : LoopTip G37 where
  slots := [23]
  inv := fun _ w us w' => ∃ (i : Nat) (cur : List Int), i ≤ n ∧ us = [.int .i64 (i : Nat)] ∧ Mul37 X Y n m i cur w0 w'
  T := fun _ w C => (∀ (i : Nat) (x : Int) (cur : List Int) (W : World), i < n → X.getD i 0 = x → Mul37 X Y n m i cur w0 W → C (G37.c1 i x cur) [.int .i64 (i : Nat)] W) ∧
    (∀ (k : Nat) (cur : List Int) (W : World), k = n → Mul37 X Y n m k cur w0 W → C (G37.c2 cur) [.int .i64 (k : Nat)] W)
  mu := fun _ us _ => n - (intOf (us.headD undef)).toNat
theorem loop37a_ok (X Y : List Int) (n m : Nat) (w0 : World) (g : G37) (w : World) : LoopOK (loop37a X Y n m w0) g w := by
  rintro C ⟨h1, h2⟩ us w' - ⟨i, cur, hi, rfl, hm⟩
  by_cases e : i < n
  · exact ⟨_, h1 i _ cur w' e rfl hm⟩
  · exact ⟨_, h2 i cur w' (by omega) hm⟩
def loop37b (X Y : List Int) (n m : Nat) (w0 : World) : LoopTip G37 where
  slots := [8, 30]
  inv := fun g w us w' => ∃ (j : Nat) (c : Int) (cur : List Int), j ≤ m ∧ us = [.int .u32 c, .int .i64 (j : Nat)] ∧ In37 X Y n m g.i g.x j c cur w0 w'
  T := fun g w C => (∀ (j : Nat) (c : Int) (cur : List Int) (y z : Int) (W : World), j < m → Y.getD j 0 = y → cur.getD (g.i + j) 0 = z → In37 X Y n m g.i g.x j c cur w0 W → C (G37.d1 g j c cur y z) [.int .u32 c, .int .i64 (j : Nat)] W) ∧
    (∀ (k : Nat) (c : Int) (cur : List Int) (W : World), k = m → In37 X Y n m g.i g.x k c cur w0 W → C (G37.d2 g c cur) [.int .u32 c, .int .i64 (k : Nat)] W)
  mu := fun _ us _ => m - (intOf (us.getLastD undef)).toNat
theorem loop37b_ok (X Y : List Int) (n m : Nat) (w0 : World) (g : G37) (w : World) : LoopOK (loop37b X Y n m w0) g w := by
  rintro C ⟨h1, h2⟩ us w' - ⟨j, c, cur, hj, rfl, hm⟩
  by_cases e : j < m
  · exact ⟨_, h1 j c cur _ _ w' e rfl rfl hm⟩
  · exact ⟨_, h2 j c cur w' (by omega) hm⟩
def tips37 (X Y : List Int) (a b : Option Addr) (b1 o1 b2 o2 n m : Nat) (w0 : World) : Tips G37 where
  ops := [(12, { tr := some fun g w C => C g (.slice a n n) w }), (14, { tr := some fun g w C => C g (.slice b m m) w }), (19, { val := some fun _ => .int .i64 (n + m : Nat) }), (20, { val := some fun _ => .slice (some ⟨w0.heap.size, 0, none⟩) (n + m) (n + m), wld := some fun _ w => w.alloc (.cells (rowOf (zeros (n + m))) 5) }),
    (24, { val := some fun g => .bool g.more }), (26, { val := some fun g => .pointer (some ⟨b1, o1 + g.i, none⟩) }), (27, { val := some fun g => .int .u8 g.x }), (31, { val := some fun g => .bool g.more2 }), (33, { val := some fun g => .pointer (some ⟨b2, o2 + g.j, none⟩) }), (34, { val := some fun g => .int .u8 g.y }),
    (37, { val := some fun g => .int .u32 g.x }), (39, { val := some fun g => .int .u32 g.y }), (40, { val := some fun g => .int .u32 (g.x * g.y) }), (44, { val := some fun g => .int .i64 (g.i + g.j : Nat) }), (45, { val := some fun g => .pointer (some ⟨w0.heap.size, g.i + g.j, none⟩) }), (46, { val := some fun g => .int .u8 g.z }), (47, { val := some fun g => .int .u32 g.z }),
    (48, { val := some fun g => .int .u32 (g.x * g.y + g.z) }), (49, { val := some fun g => .int .u32 (g.c + (g.x * g.y + g.z)) }), (53, { val := some fun g => .int .i64 (g.i + g.j : Nat) }), (55, { val := some fun g => .int .u8 ((g.c + (g.x * g.y + g.z)) % 256) }), (56, { val := some fun g => .pointer (some ⟨w0.heap.size, g.i + g.j, none⟩) }),
    (1012007, { val := some fun _ => undef, wld := some fun g w => w.setRow w0.heap.size (rowOf (g.cur.set (g.i + g.j) ((g.c + (g.x * g.y + g.z)) % 256))) }), (58, { val := some fun g => .int .u32 ((g.c + (g.x * g.y + g.z)) / 256) }), (59, { val := some fun g => .int .i64 (g.j + 1 : Nat) }),
    (64, { val := some fun g => .int .i64 (g.i + m : Nat) }), (66, { val := some fun g => .int .u8 (g.c % 256) }), (67, { val := some fun g => .pointer (some ⟨w0.heap.size, g.i + m, none⟩) }), (1015008, { val := some fun _ => undef, wld := some fun g w => w.setRow w0.heap.size (rowOf (g.cur.set (g.i + m) (g.c % 256))) }), (68, { val := some fun g => .int .i64 (g.i + 1 : Nat) }),
    (70, { tr := some fun g w C => C g (clipped (some ⟨w0.heap.size, 0, none⟩) g.cur) w })]
  loops := [(5, loop37a X Y n m w0), (9, loop37b X Y n m w0)]
section
variable {X Y cur : List Int} {n m i j : Nat} {x y z c : Int} {w0 W : World}
theorem mul37_start : Mul37 X Y n m 0 (zeros (n + m)) w0 (w0.alloc (.cells (rowOf (zeros (n + m))) 5)) :=
  ⟨zeros_length _, Dig.zeros _, by
    have : (zeros (n + m)).take (0 + m) = List.replicate m 0 := by simp [zeros]
    rw [this, val_zeros]; simp [val], (Below.refl _ _).alloc (Nat.le_refl _) _, alloc_row⟩
theorem in37_start (h : Mul37 X Y n m i cur w0 W) : In37 X Y n m i x 0 0 cur w0 W :=
  ⟨h.len, h.dig, by omega, by omega, by rw [h.sum]; simp [val], h.below, h.row⟩
theorem byte_mul {x y : Int} (hx : 0 ≤ x ∧ x < 256) (hy : 0 ≤ y ∧ y < 256) : 0 ≤ x * y ∧ x * y ≤ 65025 := by
  refine ⟨Int.mul_nonneg hx.1 hy.1, ?_⟩
  have := Int.mul_le_mul (show x ≤ 255 by omega) (show y ≤ 255 by omega) hy.1 (by omega)
  omega
theorem t37 (dX : Dig X) (dY : Dig Y) (hx : X.getD i 0 = x) (hy : Y.getD j 0 = y) (hz : cur.getD (i + j) 0 = z) (h : In37 X Y n m i x j c cur w0 W) : (0 ≤ x ∧ x < 256) ∧ (0 ≤ y ∧ y < 256) ∧ (0 ≤ z ∧ z < 256) ∧ 0 ≤ x * y ∧ x * y ≤ 65025 ∧ 0 ≤ c ∧ c ≤ 255 := by
  have b1 := dX.getD i
  have b2 := dY.getD j
  have b3 := h.dig.getD (i + j)
  rw [hx] at b1
  rw [hy] at b2
  rw [hz] at b3
  have := byte_mul b1 b2
  exact ⟨b1, b2, b3, this.1, this.2, h.c0, h.c1⟩
theorem in37_next (dX : Dig X) (dY : Dig Y) (hi : i < n) (hj : j < m) (lY : Y.length = m) (hx : X.getD i 0 = x) (hy : Y.getD j 0 = y) (hz : cur.getD (i + j) 0 = z) (h : In37 X Y n m i x j c cur w0 W) :
    In37 X Y n m i x (j + 1) ((c + (x * y + z)) / 256) (cur.set (i + j) ((c + (x * y + z)) % 256)) w0 (W.setRow w0.heap.size (rowOf (cur.set (i + j) ((c + (x * y + z)) % 256)))) := by
  obtain ⟨b1, b2, b3, b4, b5, b6, b7⟩ := t37 dX dY hx hy hz h
  refine ⟨by rw [List.length_set]; exact h.len, h.dig.set _ (by omega), by omega, by omega, ?_, kept_row h.below (Nat.le_refl _) _, setRow_heap _ _ _ _ _ _ h.row⟩
  have hs := h.sum
  rw [val_take_set (by omega) (by rw [h.len]; omega), hz, val_take_succ Y j, hy]
  have hdm := Int.mul_ediv_add_emod (c + (x * y + z)) 256
  generalize (c + (x * y + z)) / 256 = q at *
  generalize (c + (x * y + z)) % 256 = r at *
  rw [show i + (j + 1) = i + j + 1 by omega, Int.pow_succ, Int.pow_add]
  rw [Int.pow_add] at hs
  generalize val (cur.take (i + m)) = u at *
  generalize val (X.take i) * val Y = v at *
  generalize val (Y.take j) = s at *
  generalize (256 : Int) ^ i = p at *
  generalize (256 : Int) ^ j = k at *
  have e1 : p * k * (r - z) + p * k * 256 * q = p * k * (c + x * y) := by
    rw [Int.mul_assoc (p * k) 256 q, ← Int.mul_add]
    congr 1
    omega
  have e2 : p * k * (c + x * y) = p * k * c + p * (x * (k * y)) := by
    rw [Int.mul_add]
    congr 1
    rw [Int.mul_assoc, ← Int.mul_assoc k x y, Int.mul_comm k x, Int.mul_assoc]
  have e3 : p * (x * (s + k * y)) = p * (x * s) + p * (x * (k * y)) := by rw [Int.mul_add, Int.mul_add]
  rw [e3]
  omega
theorem mul37_next (hi : i < n) (lX : X.length = n) (lY : Y.length = m) (hx : X.getD i 0 = x) (h : In37 X Y n m i x m c cur w0 W) : Mul37 X Y n m (i + 1) (cur.set (i + m) (c % 256)) w0 (W.setRow w0.heap.size (rowOf (cur.set (i + m) (c % 256)))) := by
  have b0 := h.c0
  have b1 := h.c1
  have ec : c % 256 = c := by omega
  refine ⟨by rw [List.length_set]; exact h.len, h.dig.set _ (by omega), ?_, kept_row h.below (Nat.le_refl _) _, setRow_heap _ _ _ _ _ _ h.row⟩
  rw [show i + 1 + m = i + m + 1 by omega, val_take_succ, take_set_ge _ _ _ _ (Nat.le_refl _), getD_set_self _ _ _ (by rw [h.len]; omega), ec, h.sum, val_take_succ X i, hx, show Y.take m = Y from List.take_of_length_le (by omega), Int.add_mul]
  congr 1
  rw [Int.mul_assoc]
theorem mul37_end {k : Nat} (lX : X.length = n) (hk : k = n) (h : Mul37 X Y n m k cur w0 W) (hM : n + m ≤ 281474976710000) : IsN W (clipped (some ⟨w0.heap.size, 0, none⟩) cur) (val X * val Y) := by
  subst hk
  have hs := h.sum
  rw [List.take_of_length_le (by rw [h.len]; omega), List.take_of_length_le (by omega)] at hs
  rw [← hs]
  exact clipped_isN h.row h.dig (by rw [h.len]; unfold maxLen; omega)
end
theorem wrap32 {a : Int} (h1 : 0 ≤ a) (h2 : a < 4294967296) : IntKind.u32.wrap a = a := by
  simp [IntKind.wrap, IntKind.bits, IntKind.signed]; omega
theorem shr32 {a : Int} (h : 0 ≤ a) : a.fdiv (2 ^ (min (8 : Int).toNat IntKind.u32.bits)) = a / 256 := by
  rw [Int.fdiv_eq_ediv_of_nonneg]
  · rfl
  · decide
theorem addN {a b : Nat} {t : TypeId} {w : World} (h : a + b ≤ 9223372036854775807) : (binOp .add t (.int .i64 (a : Int)) (.int .i64 (b : Int))).run Sagg.prog w = .ok (.int .i64 (a + b : Nat)) w := add_i (by rw [wrap64 (by omega) (by omega)]; omega)

set_option maxRecDepth 100000 in
set_option maxHeartbeats 8000000 in
theorem mul_core (a b : Option Addr) (la ca lb cb b1 o1 b2 o2 n m : Nat) (X Y : List Int) (w : World) (ta : Calls Sagg.prog 33 #[.slice a la ca] w fun e w' => e = .returned (.slice a n n) ∧ w' = w) (tb : Calls Sagg.prog 33 #[.slice b lb cb] w fun e w' => e = .returned (.slice b m m) ∧ w' = w) (lX : X.length = n) (lY : Y.length = m) (dX : Dig X) (dY : Dig Y) (hM : n + m ≤ 281474976710000) (s1 : 0 < n → a = some ⟨b1, o1, none⟩ ∧ ∀ i, i < n → w.cell? ⟨b1, o1 + i, none⟩ = some (.int .u8 (X.getD i 0))) (s2 : 0 < m → b = some ⟨b2, o2, none⟩ ∧ ∀ i, i < m → w.cell? ⟨b2, o2 + i, none⟩ = some (.int .u8 (Y.getD i 0))) : Calls Sagg.prog 37 #[.slice a la ca, .slice b lb cb] w (postN (val X * val Y) w) := by
  refine CX_calls (tips37 X Y a b b1 o1 b2 o2 n m w) {} (by kernel_rfl) Sagg.func37 rfl _ rfl (by kernel_rfl) ?_
  refine of_eq (p := (CallOK Sagg.prog 33 { toList := [Value.slice a la ca] } w fun (C : G37 → Value → World → Prop) => C { } (Value.slice a n n) w) ∧
  (CallOK Sagg.prog 33 { toList := [Value.slice b lb cb] } w fun (C : G37 → Value → World → Prop) => C { } (Value.slice b m m) w) ∧
    Sem.run Sagg.prog (binOp BinOp.add 3 (Value.int IntKind.i64 ↑n) (Value.int IntKind.i64 ↑m)) w = Result.ok (Value.int IntKind.i64 ↑(n + m)) w ∧
      Sem.run Sagg.prog (Instr.makeSlice 25 (Value.int IntKind.i64 ↑(n + m)) (Value.int IntKind.i64 ↑(n + m))) w = Result.ok (Value.slice (some { block := w.heap.size, off := 0 }) (n + m) (n + m)) (w.alloc (Obj.cells { toList := List.map (Value.int IntKind.u8) (zeros (n + m)) } 5)) ∧
        (∃ (i : Nat), ∃ (cur : List Int), i ≤ n ∧ [Value.int IntKind.i64 0] = [Value.int IntKind.i64 ↑i] ∧ Mul37 X Y n m i cur w ((fun (x : G37) (w : World) => w.alloc (Obj.cells (rowOf (zeros (n + m))) 5)) { } w)) ∧
          LoopOK (loop37a X Y n m w) { } (w.alloc (Obj.cells { toList := List.map (Value.int IntKind.u8) (zeros (n + m)) } 5)) ∧
            (∀ (i : Nat) (x : Int) (cur : List Int) (W : World),
                i < n →
                  X.getD i 0 = x →
                    Mul37 X Y n m i cur w W →
                      Sem.run Sagg.prog (binOp BinOp.lss 3 (Value.int IntKind.i64 ↑i) (Value.int IntKind.i64 ↑n)) W = Result.ok (Value.bool true) W ∧
                        Sem.run Sagg.prog (Instr.indexAt 25 (Value.slice a n n) (Value.int IntKind.i64 ↑i)) W = Result.ok (Value.pointer (some { block := b1, off := o1 + i })) W ∧
                          Sem.run Sagg.prog (loadVar 5 { block := b1, off := o1 + i }) W = Result.ok (Value.int IntKind.u8 x) W ∧
                            (∃ (j : Nat), ∃ (c : Int), ∃ (cur_1 : List Int), j ≤ m ∧ [Value.int IntKind.u32 0, Value.int IntKind.i64 0] = [Value.int IntKind.u32 c, Value.int IntKind.i64 ↑j] ∧ In37 X Y n m (G37.c1 i x cur).i (G37.c1 i x cur).x j c cur_1 w W) ∧
                              LoopOK (loop37b X Y n m w) (G37.c1 i x cur) W ∧
                                (∀ (j : Nat) (c : Int) (cur_1 : List Int) (y z : Int) (W : World),
                                    j < m →
                                      Y.getD j 0 = y →
                                        cur_1.getD (i + j) 0 = z →
                                          In37 X Y n m i x j c cur_1 w W →
                                            Sem.run Sagg.prog (binOp BinOp.lss 3 (Value.int IntKind.i64 ↑j) (Value.int IntKind.i64 ↑m)) W = Result.ok (Value.bool true) W ∧
                                              Sem.run Sagg.prog (Instr.indexAt 25 (Value.slice b m m) (Value.int IntKind.i64 ↑j)) W = Result.ok (Value.pointer (some { block := b2, off := o2 + j })) W ∧
                                                Sem.run Sagg.prog (loadVar 5 { block := b2, off := o2 + j }) W = Result.ok (Value.int IntKind.u8 y) W ∧
                                                  Sem.run Sagg.prog (convert 5 106 (Value.int IntKind.u8 x)) W = Result.ok (Value.int IntKind.u32 x) W ∧
                                                    Sem.run Sagg.prog (convert 5 106 (Value.int IntKind.u8 y)) W = Result.ok (Value.int IntKind.u32 y) W ∧
                                                      Sem.run Sagg.prog (binOp BinOp.mul 106 (Value.int IntKind.u32 x) (Value.int IntKind.u32 y)) W = Result.ok (Value.int IntKind.u32 (x * y)) W ∧
                                                        Sem.run Sagg.prog (binOp BinOp.add 3 (Value.int IntKind.i64 ↑i) (Value.int IntKind.i64 ↑j)) W = Result.ok (Value.int IntKind.i64 ↑(i + j)) W ∧
                                                          Sem.run Sagg.prog (Instr.indexAt 25 (Value.slice (some { block := w.heap.size, off := 0 }) (n + m) (n + m)) (Value.int IntKind.i64 ↑(i + j))) W = Result.ok (Value.pointer (some { block := w.heap.size, off := i + j })) W ∧
                                                            Sem.run Sagg.prog (loadVar 5 { block := w.heap.size, off := i + j }) W = Result.ok (Value.int IntKind.u8 z) W ∧
                                                              Sem.run Sagg.prog (convert 5 106 (Value.int IntKind.u8 z)) W = Result.ok (Value.int IntKind.u32 z) W ∧
                                                                Sem.run Sagg.prog (binOp BinOp.add 106 (Value.int IntKind.u32 (x * y)) (Value.int IntKind.u32 z)) W = Result.ok (Value.int IntKind.u32 (x * y + z)) W ∧
                                                                  Sem.run Sagg.prog (binOp BinOp.add 106 (Value.int IntKind.u32 c) (Value.int IntKind.u32 (x * y + z))) W = Result.ok (Value.int IntKind.u32 (c + (x * y + z))) W ∧
                                                                    Sem.run Sagg.prog (binOp BinOp.add 3 (Value.int IntKind.i64 ↑i) (Value.int IntKind.i64 ↑j)) W = Result.ok (Value.int IntKind.i64 ↑(i + j)) W ∧
                                                                      Sem.run Sagg.prog (convert 106 5 (Value.int IntKind.u32 (c + (x * y + z)))) W = Result.ok (Value.int IntKind.u8 ((c + (x * y + z)) % 256)) W ∧
                                                                        Sem.run Sagg.prog (Instr.indexAt 25 (Value.slice (some { block := w.heap.size, off := 0 }) (n + m) (n + m)) (Value.int IntKind.i64 ↑(i + j))) W = Result.ok (Value.pointer (some { block := w.heap.size, off := i + j })) W ∧
                                                                          Sem.run Sagg.prog
                                                                                (do
                                                                                  storeVar 5 { block := w.heap.size, off := i + j } (Value.int IntKind.u8 ((c + (x * y + z)) % 256))
                                                                                  pure undef)
                                                                                W =
                                                                              Result.ok (Value.tuple { toList := [] }) (W.setRow w.heap.size { toList := List.map (Value.int IntKind.u8) (cur_1.set (i + j) ((c + (x * y + z)) % 256)) }) ∧
                                                                            Sem.run Sagg.prog (binOp BinOp.shr 106 (Value.int IntKind.u32 (c + (x * y + z))) (Value.int IntKind.u64 8)) (W.setRow w.heap.size { toList := List.map (Value.int IntKind.u8) (cur_1.set (i + j) ((c + (x * y + z)) % 256)) }) = Result.ok (Value.int IntKind.u32 ((c + (x * y + z)) / 256)) (W.setRow w.heap.size { toList := List.map (Value.int IntKind.u8) (cur_1.set (i + j) ((c + (x * y + z)) % 256)) }) ∧ Sem.run Sagg.prog (binOp BinOp.add 3 (Value.int IntKind.i64 ↑j) (Value.int IntKind.i64 1)) (W.setRow w.heap.size { toList := List.map (Value.int IntKind.u8) (cur_1.set (i + j) ((c + (x * y + z)) % 256)) }) = Result.ok (Value.int IntKind.i64 ↑(j + 1)) (W.setRow w.heap.size { toList := List.map (Value.int IntKind.u8) (cur_1.set (i + j) ((c + (x * y + z)) % 256)) }) ∧ (∃ (j_1 : Nat), ∃ (c_1 : Int), ∃ (cur_2 : List Int), j_1 ≤ m ∧ [Value.int IntKind.u32 ((c + (x * y + z)) / 256), Value.int IntKind.i64 ↑(j + 1)] = [Value.int IntKind.u32 c_1, Value.int IntKind.i64 ↑j_1] ∧ In37 X Y n m (G37.c1 i x cur).i (G37.c1 i x cur).x j_1 c_1 cur_2 w ((fun (g : G37) (w_1 : World) => w_1.setRow w.heap.size (rowOf (g.cur.set (g.i + g.j) ((g.c + (g.x * g.y + g.z)) % 256)))) ((G37.c1 i x cur).d1 j c cur_1 y z) W)) ∧ m - (((j + 1) : Nat) : Int).toNat < m - ((j : Nat) : Int).toNat) ∧
                                  ∀ (k : Nat) (c : Int) (cur_1 : List Int) (W : World),
                                    k = m →
                                      In37 X Y n m i x k c cur_1 w W →
                                        Sem.run Sagg.prog (binOp BinOp.lss 3 (Value.int IntKind.i64 ↑k) (Value.int IntKind.i64 ↑m)) W = Result.ok (Value.bool false) W ∧
                                          Sem.run Sagg.prog (binOp BinOp.add 3 (Value.int IntKind.i64 ↑i) (Value.int IntKind.i64 ↑m)) W = Result.ok (Value.int IntKind.i64 ↑(i + m)) W ∧
                                            Sem.run Sagg.prog (convert 106 5 (Value.int IntKind.u32 c)) W = Result.ok (Value.int IntKind.u8 (c % 256)) W ∧
                                              Sem.run Sagg.prog (Instr.indexAt 25 (Value.slice (some { block := w.heap.size, off := 0 }) (n + m) (n + m)) (Value.int IntKind.i64 ↑(i + m))) W = Result.ok (Value.pointer (some { block := w.heap.size, off := i + m })) W ∧
                                                Sem.run Sagg.prog
                                                      (do
                                                        storeVar 5 { block := w.heap.size, off := i + m } (Value.int IntKind.u8 (c % 256))
                                                        pure undef)
                                                      W =
                                                    Result.ok (Value.tuple { toList := [] }) (W.setRow w.heap.size { toList := List.map (Value.int IntKind.u8) (cur_1.set (i + m) (c % 256)) }) ∧
                                                  Sem.run Sagg.prog (binOp BinOp.add 3 (Value.int IntKind.i64 ↑i) (Value.int IntKind.i64 1)) (W.setRow w.heap.size { toList := List.map (Value.int IntKind.u8) (cur_1.set (i + m) (c % 256)) }) = Result.ok (Value.int IntKind.i64 ↑(i + 1)) (W.setRow w.heap.size { toList := List.map (Value.int IntKind.u8) (cur_1.set (i + m) (c % 256)) }) ∧ (∃ (i_1 : Nat), ∃ (cur_2 : List Int), i_1 ≤ n ∧ [Value.int IntKind.i64 ↑(i + 1)] = [Value.int IntKind.i64 ↑i_1] ∧ Mul37 X Y n m i_1 cur_2 w ((fun (g : G37) (w_1 : World) => w_1.setRow w.heap.size (rowOf (g.cur.set (g.i + m) (g.c % 256)))) ((G37.c1 i x cur).d2 c cur_1) W)) ∧ n - (((i + 1) : Nat) : Int).toNat < n - ((i : Nat) : Int).toNat) ∧
              ∀ (k : Nat) (cur : List Int) (W : World), k = n → Mul37 X Y n m k cur w W → Sem.run Sagg.prog (binOp BinOp.lss 3 (Value.int IntKind.i64 ↑k) (Value.int IntKind.i64 ↑n)) W = Result.ok (Value.bool false) W ∧ (CallOK Sagg.prog 34 { toList := [Value.slice (some { block := w.heap.size, off := 0 }) (n + m) (n + m)] } W fun (C : G37 → Value → World → Prop) => C (G37.c2 cur) (clipped (some { block := w.heap.size, off := 0 }) cur) W) ∧ (postN (val X * val Y) w) (Ending.returned (resVal [rho [(70, clipped (some { block := w.heap.size, off := 0 }) cur), (69, Value.slice (some { block := w.heap.size, off := 0 }) (n + m) (n + m)), (24, Value.bool false), (23, Value.int IntKind.i64 ↑k), (22, Value.int IntKind.i64 ↑n), (21, Value.slice a n n), (5, Value.slice (some { block := w.heap.size, off := 0 }) (n + m) (n + m)), (20, Value.slice (some { block := w.heap.size, off := 0 }) (n + m) (n + m)), (19, Value.int IntKind.i64 ↑(n + m)), (18, Value.int IntKind.i64 ↑m), (17, Value.slice b m m), (16, Value.int IntKind.i64 ↑n), (15, Value.slice a n n), (1, Value.slice b m m), (14, Value.slice b m m), (13, Value.slice b lb cb), (0, Value.slice a n n), (12, Value.slice a n n), (11, Value.slice a la ca), (4, Value.slice none 0 0), (0, Value.slice a la ca), (1, Value.slice b lb cb)] (Operand.tmp 70)])) W) (by kernel_rfl) ?_
  exact ⟨(callSame ta), (callSame tb), (addN (by omega)), (make_n hM), ⟨0, _, Nat.zero_le _, rfl, mul37_start⟩, (loop37a_ok _ _ _ _ _ _ _), (fun i6 => (fun x7 => (fun cur8 => (fun W9 => (fun h10 => (fun h11 => (fun h12 => ⟨(lss_t (by omega)), (index_byte (i := i6) Sagg.underlying25 (s1 (by omega)).1 (by omega)), (load_byte (kept_cell (by first | exact (show Mul37 _ _ _ _ _ _ _ _ by assumption).below | exact (show In37 _ _ _ _ _ _ _ _ _ _ _ by assumption).below) ((s1 (by omega)).2 _ (by omega))) (by assumption)), ⟨0, 0, _, Nat.zero_le _, rfl, in37_start (by assumption)⟩, (loop37b_ok _ _ _ _ _ _ _), (fun j18 => (fun c19 => (fun cur20 => (fun y21 => (fun z22 => (fun W23 => (fun h24 => (fun h25 => (fun h26 => (fun h27 => ⟨(lss_t (by omega)), (index_byte (i := j18) Sagg.underlying25 (s2 (by omega)).1 (by omega)), (load_byte (kept_cell (show In37 _ _ _ _ _ _ _ _ _ _ _ by assumption).below ((s2 (by omega)).2 _ (by omega))) (by assumption)), (conv_i Sagg.underlying5 Sagg.underlying106 (wrap32 (by have := (t37 dX dY (by assumption) (by assumption) (by assumption) (show In37 _ _ _ _ _ _ _ _ _ _ _ by assumption)); omega) (by have := (t37 dX dY (by assumption) (by assumption) (by assumption) (show In37 _ _ _ _ _ _ _ _ _ _ _ by assumption)); omega))), (conv_i Sagg.underlying5 Sagg.underlying106 (wrap32 (by have := (t37 dX dY (by assumption) (by assumption) (by assumption) (show In37 _ _ _ _ _ _ _ _ _ _ _ by assumption)); omega) (by have := (t37 dX dY (by assumption) (by assumption) (by assumption) (show In37 _ _ _ _ _ _ _ _ _ _ _ by assumption)); omega))), (mul_i (wrap32 (by have := (t37 dX dY (by assumption) (by assumption) (by assumption) (show In37 _ _ _ _ _ _ _ _ _ _ _ by assumption)); omega) (by have := (t37 dX dY (by assumption) (by assumption) (by assumption) (show In37 _ _ _ _ _ _ _ _ _ _ _ by assumption)); omega))), (addN (by omega)), (index_new Sagg.underlying25 (by omega)), (load_byte (cell_row (show In37 _ _ _ _ _ _ _ _ _ _ _ by assumption).row (by rw [(show In37 _ _ _ _ _ _ _ _ _ _ _ by assumption).len]; omega)) (by assumption)), (conv_i Sagg.underlying5 Sagg.underlying106 (wrap32 (by have := (t37 dX dY (by assumption) (by assumption) (by assumption) (show In37 _ _ _ _ _ _ _ _ _ _ _ by assumption)); omega) (by have := (t37 dX dY (by assumption) (by assumption) (by assumption) (show In37 _ _ _ _ _ _ _ _ _ _ _ by assumption)); omega))), (add_i (wrap32 (by have := (t37 dX dY (by assumption) (by assumption) (by assumption) (show In37 _ _ _ _ _ _ _ _ _ _ _ by assumption)); omega) (by have := (t37 dX dY (by assumption) (by assumption) (by assumption) (show In37 _ _ _ _ _ _ _ _ _ _ _ by assumption)); omega))), (add_i (wrap32 (by have := (t37 dX dY (by assumption) (by assumption) (by assumption) (show In37 _ _ _ _ _ _ _ _ _ _ _ by assumption)); omega) (by have := (t37 dX dY (by assumption) (by assumption) (by assumption) (show In37 _ _ _ _ _ _ _ _ _ _ _ by assumption)); omega))), (addN (by omega)), (conv_i Sagg.underlying106 Sagg.underlying5 wrap8), (index_new Sagg.underlying25 (by omega)), (store_byte (show In37 _ _ _ _ _ _ _ _ _ _ _ by assumption).row (by rw [(show In37 _ _ _ _ _ _ _ _ _ _ _ by assumption).len]; omega)), (shr_i (by omega) (shr32 (by have := (t37 dX dY (by assumption) (by assumption) (by assumption) (show In37 _ _ _ _ _ _ _ _ _ _ _ by assumption)); omega))), (inc_i (m := 281474976710000) (by omega) (by omega)), ⟨_, _, _, Nat.succ_le_of_lt (by omega), rfl, in37_next dX dY (by first | assumption | omega) (by omega) lY (by assumption) (by assumption) (by assumption) (by assumption)⟩, (by simp [intOf]; omega)⟩)))))))))), (fun k48 => (fun c49 => (fun cur50 => (fun W51 => (fun h52 => (fun h53 => ⟨(lss_f (by omega)), (addN (by omega)), (conv_i Sagg.underlying106 Sagg.underlying5 wrap8), (index_new Sagg.underlying25 (by omega)), (store_byte (show In37 _ _ _ _ _ _ _ _ _ _ _ by assumption).row (by rw [(show In37 _ _ _ _ _ _ _ _ _ _ _ by assumption).len]; omega)), (inc_i (m := 281474976710000) (by omega) (by omega)), ⟨_, _, Nat.succ_le_of_lt (by omega), rfl, mul37_next (by omega) lX lY (by assumption) (by have hh := (show In37 _ _ _ _ _ _ _ _ _ _ _ by assumption); have hk := (show _ = m by assumption); rwa [hk] at hh)⟩, (by simp [intOf]; omega)⟩))))))⟩))))))), (fun k62 => (fun cur63 => (fun W64 => (fun h65 => (fun h66 => ⟨(lss_f (by omega)), (callSame (clip_calls _ _ _ _ _ (show Mul37 _ _ _ _ _ _ _ _ by assumption).len (Nat.le_refl _) (by unfold maxLen; omega) (RowAt.byteRow (show Mul37 _ _ _ _ _ _ _ _ by assumption).row (show Mul37 _ _ _ _ _ _ _ _ by assumption).dig))), ⟨_, rfl, mul37_end lX (by assumption) (by assumption) hM, (show Mul37 _ _ _ _ _ _ _ _ by assumption).below⟩⟩)))))⟩

theorem mul_calls (a b : Option Addr) (la ca lb cb : Nat) (xs ys : List Int) (w : World) (hla : xs.length = la) (hlb : ys.length = lb) (hca : la ≤ ca) (hcb : lb ≤ cb) (hma : ca ≤ maxLen) (hmb : cb ≤ maxLen) (hM : la + lb ≤ 281474976710000) (hx : ByteRow w a xs) (hy : ByteRow w b ys) :
    Calls Sagg.prog 37 #[.slice a la ca, .slice b lb cb] w fun e w' => ∃ v, e = .returned v ∧ IsN w' v (val xs * val ys) ∧ Below w.heap.size w w' := by
  obtain ⟨b1, o1, s1⟩ := byte_block hx.trimL rfl
  obtain ⟨b2, o2, s2⟩ := byte_block hy.trimL rfl
  have h1 := trimL_le xs
  have h2 := trimL_le ys
  have := mul_core a b la ca lb cb b1 o1 b2 o2 _ _ (trimL xs) (trimL ys) w (trim_calls a la ca xs w hla hca hma hx) (trim_calls b lb cb ys w hlb hcb hmb hy) rfl rfl hx.1.trimL hy.1.trimL (by omega) s1 s2
  rwa [val_trimL, val_trimL] at this
end Go.Proofs.Ygcsag
