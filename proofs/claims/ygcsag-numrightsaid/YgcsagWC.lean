/-
  'addTo'.
-/
import Derived.Test.YgcsagWB
namespace Go.Proofs.Ygcsag
open Go.RowKit
set_option linter.unusedVariables false
set_option linter.unusedSimpArgs false

theorem fromBE_calls (a : Option Addr) (n c : Nat) (zs : List Int) (w : World) (l : zs.length = n) (hn : n ≤ 281474976710000) (h : ByteRow w a zs) :
    Calls Sagg.prog 48 #[.slice a n c] w fun e w' => ∃ v, e = .returned v ∧ IsN w' v (valB zs) ∧ Below w.heap.size w w' := by
  obtain ⟨b, o, s⟩ := byte_block h l
  exact fromBE_core a b o n c zs w l h.1 hn s

section
variable {P : Program} {t s d : TypeId} {k k' : IntKind} {a b n m : Int} {w : World}
theorem conv_i (hs : P.underlying s = some (.int k)) (hd : P.underlying d = some (.int k')) (h : k'.wrap n = m) : (convert s d (.int k n)).run P w = .ok (.int k' m) w := by
  simp [convert, run_underlying hs, run_underlying hd, Conv.intToInt, h]
theorem shr_i {yk : IntKind} (hb : 0 ≤ b) (h : a.fdiv (2 ^ (min b.toNat k.bits)) = m) : (binOp .shr t (.int k a) (.int yk b)).run P w = .ok (.int k m) w := by
  have : ¬ b < 0 := by omega
  simp [binOp, Op.shift, this, h]
theorem index_arr {e : TypeId} {len : Nat} {g o i : Nat} (ht : P.underlying t = some (.array len e)) (hs : (P.info? e).map (·.size) = some 1) (hi : i < len) :
    (Instr.indexAt t (.pointer (some ⟨g, o, none⟩)) (.int .i64 i)).run P w = .ok (.pointer (some ⟨g, o + i, none⟩)) w := by
  have h1 : (0 : Int) ≤ (i : Int) ∧ (i : Int) < (len : Int) := by omega
  simp [Instr.indexAt, asIntOf, run_underlying ht, h1, size_info hs, Addr.add, Instr.sureAddr]
  rw [if_pos hi]
  by_cases hz : i = 0
  · simp [hz]
  · simp [hz]
end
theorem wrap16 {a : Int} (h1 : 0 ≤ a) (h2 : a < 65536) : IntKind.u16.wrap a = a := by
  simp [IntKind.wrap, IntKind.bits, IntKind.signed]; omega
theorem wrap8 {a : Int} : IntKind.u8.wrap a = a % 256 := by
  simp [IntKind.wrap, IntKind.bits, IntKind.signed]

theorem valB_cons (x : Int) (l : List Int) : valB (x :: l) = valB l + 256 ^ l.length * x := by
  unfold valB
  rw [List.reverse_cons, val_append, List.length_reverse]
  simp [val]
theorem valB_nonneg {zs : List Int} (h : Dig zs) : 0 ≤ valB zs := val_nonneg (fun n hn => h n (List.mem_reverse.1 hn))
theorem valB_lt {zs : List Int} (h : Dig zs) : valB zs < 256 ^ zs.length := by
  have := val_lt (zs := zs.reverse) (fun n hn => h n (List.mem_reverse.1 hn))
  rwa [List.length_reverse] at this

structure Add51 (S B : List Int) (g i : Nat) (c : Int) (cur : List Int) (w0 W : World) : Prop where
  len : cur.length = 32
  dig : Dig cur
  take : cur.take i = S.take i
  c0 : 0 ≤ c
  c1 : c ≤ 1
  sum : valB (cur.drop i) + 256 ^ (32 - i) * c = valB (S.drop i) + valB (B.drop i)
  below : Below g w0 W
  row : W.heap[g]? = some (.cells (rowOf cur) 60 (0, 0))
structure G51 where
  i : Nat := 0
  c : Int := 0
  cur : List Int := []
  x : Int := 0
  y : Int := 0
  more : Bool := false
  c0 : Bool := false
def G51.c1 (i : Nat) (c : Int) (cur : List Int) (x y : Int) : G51 := { i := i, c := c, cur := cur, x := x, y := y, more := true }
def G51.c2 (c : Int) (cur : List Int) : G51 := { c := c, cur := cur, more := false, c0 := true }
def G51.c3 (c : Int) (cur : List Int) : G51 := { c := c, cur := cur, more := false, c0 := false }
def loop51 (S B : List Int) (g : Nat) (w0 : World) : LoopTip G51 where
  slots := [5, 6]
  inv := fun _ w us w' => ∃ (i : Nat) (c : Int) (cur : List Int), i ≤ 32 ∧ us = [.int .u16 c, .int .i64 i] ∧ Add51 S B g i c cur w0 w'
  T := fun _ w C => (∀ (i : Nat) (c : Int) (cur : List Int) (x y : Int) (W : World), 0 < i → i ≤ 32 → Add51 S B g i c cur w0 W → cur.getD (i - 1) 0 = x → B.getD (i - 1) 0 = y → C (G51.c1 i c cur x y) [.int .u16 c, .int .i64 i] W) ∧
    (∀ (c : Int) (cur : List Int) (W : World), Add51 S B g 0 c cur w0 W → (c = 0 → C (G51.c2 c cur) [.int .u16 c, .int .i64 0] W) ∧ (c ≠ 0 → C (G51.c3 c cur) [.int .u16 c, .int .i64 0] W))
  mu := fun _ us _ => (intOf (us.getLastD undef)).toNat
theorem loop51_ok (S B : List Int) (g : Nat) (w0 : World) (g' : G51) (w : World) : LoopOK (loop51 S B g w0) g' w := by
  rintro C ⟨h1, h2⟩ us w' - ⟨i, c, cur, hi, rfl, hm⟩
  by_cases hlt : 0 < i
  · exact ⟨_, h1 i c cur _ _ w' hlt hi hm rfl rfl⟩
  · obtain rfl : i = 0 := by omega
    obtain ⟨c2, c3⟩ := h2 c cur w' hm
    by_cases e : c = 0
    · exact ⟨_, c2 e⟩
    · exact ⟨_, c3 e⟩
def tips51 (b o : Nat) (S B : List Int) (g0 : Nat) (w0 : World) : Tips G51 where
  ops := [(8, { val := some fun g => .bool g.more }), (14, { val := some fun g => .int .i64 (g.i - 1 : Nat) }), (16, { val := some fun g => .pointer (some ⟨g0, 0 + (g.i - 1), none⟩) }), (17, { val := some fun g => .int .u8 g.x }), (18, { val := some fun g => .int .u16 g.x }),
    (21, { val := some fun g => .int .i64 (g.i - 1 : Nat) }), (23, { val := some fun g => .pointer (some ⟨b, o + (g.i - 1), none⟩) }), (24, { val := some fun g => .int .u8 g.y }), (25, { val := some fun g => .int .u16 g.y }),
    (26, { val := some fun g => .int .u16 (g.x + g.y) }), (27, { val := some fun g => .int .u16 (g.c + (g.x + g.y)) }), (30, { val := some fun g => .int .i64 (g.i - 1 : Nat) }), (32, { val := some fun g => .int .u8 ((g.c + (g.x + g.y)) % 256) }),
    (34, { val := some fun g => .pointer (some ⟨g0, 0 + (g.i - 1), none⟩) }), (1006007, { val := some fun g => undef, wld := some fun g w => w.setRow g0 (rowOf (g.cur.set (0 + (g.i - 1)) ((g.c + (g.x + g.y)) % 256))) }),
    (36, { val := some fun g => .int .u16 ((g.c + (g.x + g.y)) / 256) }), (10, { val := some fun g => .int .i64 (g.i - 1 : Nat) }), (38, { val := some fun g => .bool g.c0 })]
  loops := [(3, loop51 S B g0 w0)]
structure Post51 (S B : List Int) (g : Nat) (w : World) (q : Bool) (cur : List Int) (w' : World) : Prop where
  len : cur.length = 32
  dig : Dig cur
  fits : q = true ↔ valB S + valB B < 256 ^ 32
  sum : q = true → valB cur = valB S + valB B
  below : Below g w w'
  row : w'.heap[g]? = some (.cells (rowOf cur) 60 (0, 0))
def post51 (S B : List Int) (g : Nat) (w : World) : Ending → World → Prop := fun e w' => ∃ cur q, e = .returned (.bool q) ∧ Post51 S B g w q cur w'
theorem getD_drop_cons {zs : List Int} {i : Nat} (h0 : 0 < i) (hi : i ≤ zs.length) : zs.drop (i - 1) = zs.getD (i - 1) 0 :: zs.drop i := by
  have := drop_getD_cons zs (i - 1) (by omega)
  rwa [show i - 1 + 1 = i by omega] at this
theorem add51_next {S B cur : List Int} {g i : Nat} {c x y : Int} {w0 W W' : World} (hS : S.length = 32) (hB : B.length = 32) (dB : Dig B) (h0 : 0 < i) (hi : i ≤ 32) (hm : Add51 S B g i c cur w0 W) (hx : cur.getD (i - 1) 0 = x) (hy : B.getD (i - 1) 0 = y)
    (hb : Below g w0 W') (hr : W'.heap[g]? = some (.cells (rowOf (cur.set (0 + (i - 1)) ((c + (x + y)) % 256))) 60 (0, 0))) : Add51 S B g (i - 1) ((c + (x + y)) / 256) (cur.set (0 + (i - 1)) ((c + (x + y)) % 256)) w0 W' := by
  rw [Nat.zero_add] at *
  have bx := hm.dig.getD (i - 1)
  have by' := dB.getD (i - 1)
  have b0 := hm.c0
  have b1 := hm.c1
  rw [hx] at bx
  rw [hy] at by'
  have hxS : S.getD (i - 1) 0 = x := by
    have := congrArg (fun l => l.getD (i - 1) 0) hm.take
    simp only [List.getD_eq_getElem?_getD, List.getElem?_take] at this
    rw [if_pos (by omega), if_pos (by omega)] at this
    rw [← hx, List.getD_eq_getElem?_getD, List.getD_eq_getElem?_getD, this]
  refine ⟨by rw [List.length_set]; exact hm.len, hm.dig.set _ (by omega), ?_, by omega, by omega, ?_, hb, hr⟩
  · rw [take_set_ge _ _ _ _ (Nat.le_refl _)]
    have := congrArg (List.take (i - 1)) hm.take
    rwa [List.take_take, List.take_take, Nat.min_eq_left (by omega)] at this
  · have e1 : (cur.set (i - 1) ((c + (x + y)) % 256)).drop (i - 1) = ((c + (x + y)) % 256) :: cur.drop i := by
      rw [getD_drop_cons h0 (by rw [List.length_set, hm.len]; exact hi), getD_set_self _ _ _ (by rw [hm.len]; omega), List.drop_set_of_lt (by omega)]
    rw [e1, getD_drop_cons h0 (by omega : i ≤ S.length), getD_drop_cons h0 (by omega : i ≤ B.length), hxS, hy, valB_cons, valB_cons, valB_cons]
    simp only [List.length_drop, hm.len, hS, hB]
    rw [show 32 - (i - 1) = 32 - i + 1 by omega, Int.pow_succ]
    have hs := hm.sum
    generalize valB (cur.drop i) = u at *
    generalize valB (S.drop i) = v at *
    generalize valB (B.drop i) = z at *
    generalize (256 : Int) ^ (32 - i) = p at *
    have hdm := Int.mul_ediv_add_emod (c + (x + y)) 256
    generalize (c + (x + y)) / 256 = q at *
    generalize (c + (x + y)) % 256 = r at *
    have e2 : p * r + p * 256 * q = p * (c + (x + y)) := by rw [← hdm, Int.mul_add, Int.mul_assoc, Int.add_comm]
    have e3 : p * (c + (x + y)) = p * c + (p * x + p * y) := by rw [Int.mul_add, Int.mul_add]
    omega
theorem add51_start {S B : List Int} {g : Nat} {w : World} (hS : S.length = 32) (hB : B.length = 32) (dS : Dig S) (hr : w.heap[g]? = some (.cells (rowOf S) 60 (0, 0))) : Add51 S B g 32 0 S w w :=
  ⟨hS, dS, rfl, by omega, by omega, by rw [List.drop_eq_nil_of_le (by omega), List.drop_eq_nil_of_le (by omega)]; rfl, Below.refl _ _, hr⟩
theorem fin51 {S B cur : List Int} {g : Nat} {c : Int} {w W : World} {q : Bool} (hm : Add51 S B g 0 c cur w W) (hq : q = true ↔ c = 0) : post51 S B g w (.returned (.bool q)) W := by
  have hs := hm.sum
  have hlt := valB_lt hm.dig
  have hge := valB_nonneg hm.dig
  rw [hm.len] at hlt
  simp only [List.drop_zero, Nat.sub_zero] at hs
  have b0 := hm.c0
  have b1 := hm.c1
  refine ⟨cur, q, rfl, hm.len, hm.dig, ?_, fun h => ?_, hm.below, hm.row⟩
  · rw [hq, ← hs]
    generalize (256 : Int) ^ 32 = p at *
    constructor
    · intro h; subst h; omega
    · intro h
      rcases Int.lt_or_le 0 c with h1 | h1
      · have : c = 1 := by omega
        subst this; omega
      · omega
  · rw [← hs, hq.1 h]; omega
theorem cell_row {W : World} {g i : Nat} {tt : TypeId} {cur : List Int} (h : W.heap[g]? = some (.cells (rowOf cur) tt (0, 0))) (hi : i < cur.length) : W.cell? ⟨g, i, none⟩ = some (.int .u8 (cur.getD i 0)) := by
  simp [World.cell?, h, rowOf_get cur i hi]
theorem cell_old {w W : World} {g b o : Nat} {v : Value} (h : Below g w W) (hb : b < g) (hc : w.cell? ⟨b, o, none⟩ = some v) : W.cell? ⟨b, o, none⟩ = some v := by
  rw [h.cell (p := ⟨b, o, none⟩) hb]; exact hc
section
variable {S B cur : List Int} {g i : Nat} {c x y : Int} {w0 W : World}
theorem wrap_x (hm : Add51 S B g i c cur w0 W) (hx : cur.getD (i - 1) 0 = x) : IntKind.u16.wrap x = x := by
  have := hm.dig.getD (i - 1)
  rw [hx] at this
  exact wrap16 this.1 (by omega)
theorem wrap_y (dB : Dig B) (hy : B.getD (i - 1) 0 = y) : IntKind.u16.wrap y = y := by
  have := dB.getD (i - 1)
  rw [hy] at this
  exact wrap16 this.1 (by omega)
theorem wrap_xy (hm : Add51 S B g i c cur w0 W) (dB : Dig B) (hx : cur.getD (i - 1) 0 = x) (hy : B.getD (i - 1) 0 = y) : IntKind.u16.wrap (x + y) = x + y := by
  have h1 := hm.dig.getD (i - 1)
  have h2 := dB.getD (i - 1)
  rw [hx] at h1
  rw [hy] at h2
  exact wrap16 (by omega) (by omega)
theorem wrap_cxy (hm : Add51 S B g i c cur w0 W) (dB : Dig B) (hx : cur.getD (i - 1) 0 = x) (hy : B.getD (i - 1) 0 = y) : IntKind.u16.wrap (c + (x + y)) = c + (x + y) := by
  have h1 := hm.dig.getD (i - 1)
  have h2 := dB.getD (i - 1)
  have h3 := hm.c0
  have h4 := hm.c1
  rw [hx] at h1
  rw [hy] at h2
  exact wrap16 (by omega) (by omega)
theorem shr8 (hm : Add51 S B g i c cur w0 W) (dB : Dig B) (hx : cur.getD (i - 1) 0 = x) (hy : B.getD (i - 1) 0 = y) : (c + (x + y)).fdiv (2 ^ (min (8 : Int).toNat IntKind.u16.bits)) = (c + (x + y)) / 256 := by
  have h1 := hm.dig.getD (i - 1)
  have h2 := dB.getD (i - 1)
  have h3 := hm.c0
  rw [hx] at h1
  rw [hy] at h2
  rw [Int.fdiv_eq_ediv_of_nonneg]
  · rfl
  · decide
end

set_option maxRecDepth 100000 in
set_option maxHeartbeats 8000000 in
theorem addTo_core (g0 b o : Nat) (S B : List Int) (w : World) (hS : S.length = 32) (hB : B.length = 32) (dS : Dig S) (dB : Dig B) (hb : b < g0) (hr : w.heap[g0]? = some (.cells (rowOf S) 60 (0, 0))) (hc : ∀ i, i < 32 → w.cell? ⟨b, o + i, none⟩ = some (.int .u8 (B.getD i 0))) : Calls Sagg.prog 51 #[.pointer (some ⟨g0, 0, none⟩), .pointer (some ⟨b, o, none⟩)] w (post51 S B g0 w) := by
  refine CX_calls (tips51 b o S B g0 w) {} (by kernel_rfl) Sagg.func51 rfl _ rfl (by kernel_rfl) ?_
  refine of_eq (p := (∃ (i : Nat), ∃ (c : Int), ∃ (cur : List Int), i ≤ 32 ∧ [Value.int IntKind.u16 0, Value.int IntKind.i64 32] = [Value.int IntKind.u16 c, Value.int IntKind.i64 ↑i] ∧ Add51 S B g0 i c cur w w) ∧
  LoopOK (loop51 S B g0 w) { } w ∧
    (∀ (i : Nat) (c : Int) (cur : List Int) (x y : Int) (W : World),
        0 < i →
          i ≤ 32 →
            Add51 S B g0 i c cur w W →
              cur.getD (i - 1) 0 = x →
                B.getD (i - 1) 0 = y →
                  Sem.run Sagg.prog (binOp BinOp.gtr 3 (Value.int IntKind.i64 ↑i) (Value.int IntKind.i64 0)) W = Result.ok (Value.bool true) W ∧
                    (∀ (m : Nat), Sem.run Sagg.prog (binOp BinOp.sub 3 (Value.int IntKind.i64 ↑i) (Value.int IntKind.i64 1)) (W.drewN m) = Result.ok (Value.int IntKind.i64 ↑(i - 1)) (W.drewN m)) ∧
                      (∀ (m : Nat), Sem.run Sagg.prog (Instr.indexAt 60 (Value.pointer (some { block := g0, off := 0 })) (Value.int IntKind.i64 ↑(i - 1))) (W.drewN m) = Result.ok (Value.pointer (some { block := g0, off := 0 + (i - 1) })) (W.drewN m)) ∧
                        (∀ (m : Nat), Sem.run Sagg.prog (loadVar 5 { block := g0, off := 0 + (i - 1) }) (W.drewN m) = Result.ok (Value.int IntKind.u8 x) (W.drewN m)) ∧
                          (∀ (m : Nat), Sem.run Sagg.prog (convert 5 23 (Value.int IntKind.u8 x)) (W.drewN m) = Result.ok (Value.int IntKind.u16 x) (W.drewN m)) ∧
                            (∀ (m : Nat), Sem.run Sagg.prog (binOp BinOp.sub 3 (Value.int IntKind.i64 ↑i) (Value.int IntKind.i64 1)) (W.drewN m) = Result.ok (Value.int IntKind.i64 ↑(i - 1)) (W.drewN m)) ∧
                              (∀ (m : Nat), Sem.run Sagg.prog (Instr.indexAt 60 (Value.pointer (some { block := b, off := o })) (Value.int IntKind.i64 ↑(i - 1))) (W.drewN m) = Result.ok (Value.pointer (some { block := b, off := o + (i - 1) })) (W.drewN m)) ∧
                                (∀ (m : Nat), Sem.run Sagg.prog (loadVar 5 { block := b, off := o + (i - 1) }) (W.drewN m) = Result.ok (Value.int IntKind.u8 y) (W.drewN m)) ∧
                                  (∀ (m : Nat), Sem.run Sagg.prog (convert 5 23 (Value.int IntKind.u8 y)) (W.drewN m) = Result.ok (Value.int IntKind.u16 y) (W.drewN m)) ∧
                                    (∀ (m : Nat), Sem.run Sagg.prog (binOp BinOp.add 23 (Value.int IntKind.u16 x) (Value.int IntKind.u16 y)) (W.drewN m) = Result.ok (Value.int IntKind.u16 (x + y)) (W.drewN m)) ∧
                                      (∀ (m : Nat), Sem.run Sagg.prog (binOp BinOp.add 23 (Value.int IntKind.u16 c) (Value.int IntKind.u16 (x + y))) (W.drewN m) = Result.ok (Value.int IntKind.u16 (c + (x + y))) (W.drewN m)) ∧
                                        ∀ (m : Nat),
                                          Sem.run Sagg.prog (binOp BinOp.sub 3 (Value.int IntKind.i64 ↑i) (Value.int IntKind.i64 1)) (W.drewN m) = Result.ok (Value.int IntKind.i64 ↑(i - 1)) (W.drewN m) ∧
                                            Sem.run Sagg.prog (convert 23 5 (Value.int IntKind.u16 (c + (x + y)))) (W.drewN m) = Result.ok (Value.int IntKind.u8 ((c + (x + y)) % 256)) (W.drewN m) ∧
                                              Sem.run Sagg.prog (Instr.indexAt 60 (Value.pointer (some { block := g0, off := 0 })) (Value.int IntKind.i64 ↑(i - 1))) (W.drewN m) = Result.ok (Value.pointer (some { block := g0, off := 0 + (i - 1) })) (W.drewN m) ∧
                                                Sem.run Sagg.prog
                                                      (do
                                                        storeVar 5 { block := g0, off := 0 + (i - 1) } (Value.int IntKind.u8 ((c + (x + y)) % 256))
                                                        pure undef)
                                                      (W.drewN m) =
                                                    Result.ok (Value.tuple { toList := [] }) ((W.drewN m).setRow g0 { toList := List.map (Value.int IntKind.u8) (cur.set (0 + (i - 1)) ((c + (x + y)) % 256)) }) ∧
                                                  Sem.run Sagg.prog (binOp BinOp.shr 23 (Value.int IntKind.u16 (c + (x + y))) (Value.int IntKind.u64 8)) ((W.drewN m).setRow g0 { toList := List.map (Value.int IntKind.u8) (cur.set (0 + (i - 1)) ((c + (x + y)) % 256)) }) = Result.ok (Value.int IntKind.u16 ((c + (x + y)) / 256)) ((W.drewN m).setRow g0 { toList := List.map (Value.int IntKind.u8) (cur.set (0 + (i - 1)) ((c + (x + y)) % 256)) }) ∧ Sem.run Sagg.prog (binOp BinOp.sub 3 (Value.int IntKind.i64 ↑i) (Value.int IntKind.i64 1)) ((W.drewN m).setRow g0 { toList := List.map (Value.int IntKind.u8) (cur.set (0 + (i - 1)) ((c + (x + y)) % 256)) }) = Result.ok (Value.int IntKind.i64 ↑(i - 1)) ((W.drewN m).setRow g0 { toList := List.map (Value.int IntKind.u8) (cur.set (0 + (i - 1)) ((c + (x + y)) % 256)) }) ∧ (∃ (i_1 : Nat), ∃ (c_1 : Int), ∃ (cur_1 : List Int), i_1 ≤ 32 ∧ [Value.int IntKind.u16 ((c + (x + y)) / 256), Value.int IntKind.i64 ↑(i - 1)] = [Value.int IntKind.u16 c_1, Value.int IntKind.i64 ↑i_1] ∧ Add51 S B g0 i_1 c_1 cur_1 w ((fun (g : G51) (w : World) => w.setRow g0 (rowOf (g.cur.set (0 + (g.i - 1)) ((g.c + (g.x + g.y)) % 256)))) (G51.c1 i c cur x y) (W.drewN m))) ∧ (((i - 1) : Nat) : Int).toNat < ((i : Nat) : Int).toNat) ∧
      ∀ (c : Int) (cur : List Int) (W : World), Add51 S B g0 0 c cur w W → (c = 0 → Sem.run Sagg.prog (binOp BinOp.gtr 3 (Value.int IntKind.i64 0) (Value.int IntKind.i64 0)) W = Result.ok (Value.bool false) W ∧ Sem.run Sagg.prog (binOp BinOp.eql 23 (Value.int IntKind.u16 c) (Value.int IntKind.u16 0)) W = Result.ok (Value.bool true) W ∧ (post51 S B g0 w) (Ending.returned (Value.bool true)) W) ∧ (c ≠ 0 → Sem.run Sagg.prog (binOp BinOp.gtr 3 (Value.int IntKind.i64 0) (Value.int IntKind.i64 0)) W = Result.ok (Value.bool false) W ∧ Sem.run Sagg.prog (binOp BinOp.eql 23 (Value.int IntKind.u16 c) (Value.int IntKind.u16 0)) W = Result.ok (Value.bool false) W ∧ (post51 S B g0 w) (Ending.returned (Value.bool false)) W)) (by kernel_rfl) ?_
  exact ⟨⟨32, 0, S, Nat.le_refl _, rfl, add51_start hS hB dS hr⟩, (loop51_ok _ _ _ _ _ _), (fun i2 => (fun c3 => (fun cur4 => (fun x5 => (fun y6 => (fun W7 => (fun h8 => (fun h9 => (fun h10 => (fun h11 => (fun h12 => ⟨(gtr_t (by omega)), (fun m14 => (sub_1 (by omega) (by omega))), (fun m16 => (index_arr Sagg.underlying60 isz5 (by omega))), (fun m18 => (load_byte (cell_row (by exact (show Add51 _ _ _ _ _ _ _ W7 by assumption).row) (by rw [(show Add51 _ _ _ _ _ _ _ W7 by assumption).len]; omega)) (by rw [Nat.zero_add]; assumption))), (fun m20 => (conv_i Sagg.underlying5 Sagg.underlying23 (wrap_x (show Add51 _ _ _ _ _ _ _ W7 by assumption) (by assumption)))), (fun m22 => (sub_1 (by omega) (by omega))), (fun m24 => (index_arr Sagg.underlying60 isz5 (by omega))), (fun m26 => (load_byte (cell_old (kept_drew (show Add51 _ _ _ _ _ _ _ W7 by assumption).below _) hb (hc _ (by omega))) (by assumption))), (fun m28 => (conv_i Sagg.underlying5 Sagg.underlying23 (wrap_y dB (by assumption)))), (fun m30 => (add_i (wrap_xy (show Add51 _ _ _ _ _ _ _ W7 by assumption) dB (by assumption) (by assumption)))), (fun m32 => (add_i (wrap_cxy (show Add51 _ _ _ _ _ _ _ W7 by assumption) dB (by assumption) (by assumption)))), (fun m34 => ⟨(sub_1 (by omega) (by omega)), (conv_i Sagg.underlying23 Sagg.underlying5 wrap8), (index_arr Sagg.underlying60 isz5 (by omega)), (store_byte (by exact (show Add51 _ _ _ _ _ _ _ W7 by assumption).row) (by rw [(show Add51 _ _ _ _ _ _ _ W7 by assumption).len]; omega)), (shr_i (by omega) (shr8 (show Add51 _ _ _ _ _ _ _ W7 by assumption) dB (by assumption) (by assumption))), (sub_1 (by omega) (by omega)), ⟨_, _, _, (by omega), rfl, add51_next hS hB dB (by assumption) (by assumption) (show Add51 _ _ _ _ _ _ _ W7 by assumption) (by assumption) (by assumption) (kept_row (kept_drew (show Add51 _ _ _ _ _ _ _ W7 by assumption).below _) (Nat.le_refl _) _) (setRow_heap _ _ _ _ _ _ (by exact (show Add51 _ _ _ _ _ _ _ W7 by assumption).row))⟩, (by simp [intOf]; omega)⟩)⟩))))))))))), (fun c43 => (fun cur44 => (fun W45 => (fun h46 => ⟨(fun h47 => ⟨(gtr_f (by omega)), (eql_t (by omega)), (fin51 (show Add51 _ _ _ _ _ _ _ W45 by assumption) (by simp [*]))⟩), (fun h51 => ⟨(gtr_f (by omega)), (eql_f (by omega)), (fin51 (show Add51 _ _ _ _ _ _ _ W45 by assumption) (by simp [*]))⟩)⟩))))⟩
end Go.Proofs.Ygcsag
