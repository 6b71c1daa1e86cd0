/-
  NUMBERS: 'FromBE', 'Norm', 'FromU64', 'Mul' (as in the smaller program), each with the news that the number is made anew.
-/
import Derived.Test.YgcsagGreatNatD
import Derived.Test.YgcsagGreatArr
import Derived.Test.YgcsagGreatCX
import Derived.Laws.CopyRow
import Derived.Laws.IdiomCopy
namespace Go.Proofs.YgcsagGreat
open Go.RowKit
set_option linter.unusedVariables false
set_option linter.unusedSimpArgs false

theorem of_eq {p q : Prop} (h : q = p) (hp : p) : q := h ▸ hp
theorem load_one {P : Program} {t : TypeId} {w : World} {p : Addr} {v : Value} (ht : ∀ w, (isAgg t).run P w = .ok false w) (h : w.cell? p = some v) : (loadVar t p).run P w = .ok v w := by
  simp [loadVar, ht, h]
theorem agg5' (w : World) : (isAgg 5).run Sagg.prog w = .ok false w := by kernel_rfl
theorem size5' (w : World) : (sizeOf 5).run Sagg.prog w = .ok 1 w := by kernel_rfl
theorem nil_isF {w : World} {B : Nat} : IsF B w (.slice none 0 0) 0 := ⟨⟨[], ⟨none, 0, rfl, Nat.le_refl _, by unfold maxLen; omega, ByteRow.nil _ _⟩, by simp [Norm], rfl, fun _ => rfl⟩, fun a l c e => by cases e⟩
theorem isF_row {B : Nat} {w : World} {g l c : Nat} {n : Int} (h : IsN w (.slice (some ⟨g, 0, none⟩) l c) n) (hB : B ≤ g) : IsF B w (.slice (some ⟨g, 0, none⟩) l c) n := ⟨h, fun a l' c' e => by cases e; exact hB⟩

section
variable {P : Program} {t : TypeId} {k : IntKind} {a b c : Int} {w : World}
theorem lss_t (h : a < b) : (binOp .lss t (.int k a) (.int k b)).run P w = .ok (.bool true) w := by simp [binOp, Op.intCmp, h]
theorem lss_f (h : ¬ a < b) : (binOp .lss t (.int k a) (.int k b)).run P w = .ok (.bool false) w := by simp [binOp, Op.intCmp]; omega
theorem gtr_t (h : a > b) : (binOp .gtr t (.int k a) (.int k b)).run P w = .ok (.bool true) w := by simp [binOp, Op.intCmp, h]
theorem gtr_f (h : ¬ a > b) : (binOp .gtr t (.int k a) (.int k b)).run P w = .ok (.bool false) w := by simp [binOp, Op.intCmp]; omega
theorem leq_t (h : a ≤ b) : (binOp .leq t (.int k a) (.int k b)).run P w = .ok (.bool true) w := by simp [binOp, Op.intCmp, h]
theorem leq_f (h : ¬ a ≤ b) : (binOp .leq t (.int k a) (.int k b)).run P w = .ok (.bool false) w := by simp [binOp, Op.intCmp]; omega
theorem geq_t (h : a ≥ b) : (binOp .geq t (.int k a) (.int k b)).run P w = .ok (.bool true) w := by simp [binOp, Op.intCmp, h]
theorem geq_f (h : ¬ a ≥ b) : (binOp .geq t (.int k a) (.int k b)).run P w = .ok (.bool false) w := by simp [binOp, Op.intCmp]; omega
theorem eql_t (h : a = b) : (binOp .eql t (.int k a) (.int k b)).run P w = .ok (.bool true) w := by simp [binOp, Op.intCmp, h]
theorem eql_f (h : ¬ a = b) : (binOp .eql t (.int k a) (.int k b)).run P w = .ok (.bool false) w := by simp [binOp, Op.intCmp, h]
theorem neq_t (h : ¬ a = b) : (binOp .neq t (.int k a) (.int k b)).run P w = .ok (.bool true) w := by simp [binOp, Op.intCmp, h]
theorem neq_f (h : a = b) : (binOp .neq t (.int k a) (.int k b)).run P w = .ok (.bool false) w := by simp [binOp, Op.intCmp, h]
theorem add_i (h : k.wrap (a + b) = c) : (binOp .add t (.int k a) (.int k b)).run P w = .ok (.int k c) w := by simp [binOp, Op.intArith, h]
theorem sub_i (h : k.wrap (a - b) = c) : (binOp .sub t (.int k a) (.int k b)).run P w = .ok (.int k c) w := by simp [binOp, Op.intArith, h]
theorem mul_i (h : k.wrap (a * b) = c) : (binOp .mul t (.int k a) (.int k b)).run P w = .ok (.int k c) w := by simp [binOp, Op.intArith, h]
theorem wrap64 (h1 : -9223372036854775808 ≤ a) (h2 : a ≤ 9223372036854775807) : IntKind.i64.wrap a = a := by
  simp [IntKind.wrap, IntKind.signed, IntKind.bits]; omega
theorem inc_i {n m : Nat} (h : n < m) (hm : m ≤ 9223372036854775807) : (binOp .add t (.int .i64 n) (.int .i64 1)).run P w = .ok (.int .i64 (n + 1 : Nat)) w := add_i (by rw [wrap64 (by omega) (by omega)]; rfl)

theorem index_slice {e : TypeId} {s : Nat} {sa : Option Addr} {bk o n c i : Nat} (ht : P.underlying t = some (.slice e)) (hs : (P.info? e).map (·.size) = some s) (ha : sa = some ⟨bk, o, none⟩) (hi : i < n) :
    (Instr.indexAt t (.slice sa n c) (.int .i64 i)).run P w = .ok (.pointer (some ⟨bk, o + i * s, none⟩)) w := by
  subst ha
  have h1 : (0 : Int) ≤ (i : Int) ∧ (i : Int) < (n : Int) := by omega
  simp [Instr.indexAt, asIntOf, run_underlying ht, h1, size_info hs, Addr.add]
  rw [if_pos hi]
  by_cases hz : i * s = 0
  · simp [hz]
  · simp [hz]
end

section
variable {P : Program} {t : TypeId} {w : World} {a b m : Nat}
theorem shrU {s : Nat} {k : IntKind} (hs : s ≤ 64) (h : m = a / 2 ^ s) : (binOp .shr t (.int .u64 a) (.int k s)).run P w = .ok (.int .u64 (m : Nat)) w := by
  subst h
  have h1 : ¬ (s : Int) < 0 := by omega
  have h2 : min (s : Int).toNat IntKind.u64.bits = s := by simp [IntKind.bits]; omega
  have h3 : (a : Int).fdiv (2 ^ s) = ((a / 2 ^ s : Nat) : Int) := by
    rw [Int.fdiv_eq_ediv_of_nonneg _ (Int.le_of_lt (Int.pow_pos (by omega)))]
    rw [Int.natCast_ediv]; simp
  simp [binOp, Op.shift, h1, h2, h3]
end
/-- A row of bytes in a block. -/
theorem byte_block {w : World} {a : Option Addr} {zs : List Int} {n : Nat} (h : ByteRow w a zs) (hl : zs.length = n) : ∃ b off, 0 < n → a = some ⟨b, off, none⟩ ∧ ∀ i, i < n → w.cell? ⟨b, off + i, none⟩ = some (.int .u8 (zs.getD i 0)) := by
  rcases h with ⟨hd, h0 | ⟨b, off, ha, hc⟩⟩
  · exact ⟨0, 0, fun h => by subst h0; simp at hl; omega⟩
  · exact ⟨b, off, fun _ => ⟨ha, by rw [← hl]; exact hc⟩⟩
theorem isz5 : (Sagg.prog.info? 5).map (·.size) = some 1 := by kernel_rfl
theorem index_byte {t : TypeId} {sa : Option Addr} {bk o n c i : Nat} {w : World} (ht : Sagg.prog.underlying t = some (.slice 5)) (ha : sa = some ⟨bk, o, none⟩) (hi : i < n) :
    (Instr.indexAt t (.slice sa n c) (.int .i64 (i : Int))).run Sagg.prog w = .ok (.pointer (some ⟨bk, o + i, none⟩)) w := by
  have := index_slice (P := Sagg.prog) (t := t) (w := w) (c := c) ht isz5 ha hi
  rwa [Nat.mul_one] at this
theorem load_byte {w : World} {b o : Nat} {x y : Int} (h : w.cell? ⟨b, o, none⟩ = some (.int .u8 y)) (e : y = x) : (loadVar 5 ⟨b, o, none⟩).run Sagg.prog w = .ok (.int .u8 x) w := by subst e; exact load_one agg5' h

def valB (zs : List Int) : Int := val zs.reverse

/-- A byte is stored. -/
theorem store_byte {w : World} {g i : Nat} {tt : TypeId} {cur : List Int} {x : Int} (hg : w.heap[g]? = some (.cells (rowOf cur) tt (0, 0))) (hi : i < cur.length) :
    (do storeVar 5 ⟨g, i, none⟩ (.int .u8 x); pure undef : Sem Value).run Sagg.prog w = .ok undef (w.setRow g (rowOf (cur.set i x))) := by
  have h1 := run_storeCells_at (P := Sagg.prog) g i tt [.int .u8 x] 0 (rowOf cur) w hg (by rw [rowOf_size]; simp; omega) (by simp [Value.oneCell'])
  have e : ((rowOf cur).toList.take (i + 0) ++ [Value.int .u8 x] ++ (rowOf cur).toList.drop (i + 0 + [Value.int .u8 x].length)).toArray = rowOf (cur.set i x) := by
    simp only [rowOf, Nat.add_zero, List.length_cons, List.length_nil, Nat.zero_add, List.map_set]
    rw [List.set_eq_take_append_cons_drop, if_pos (by simpa using hi)]
    simp
  rw [e] at h1
  have h2 : (storeVar 5 ⟨g, i, none⟩ (.int .u8 x)).run Sagg.prog w = .ok () (w.setRow g (rowOf (cur.set i x))) := by
    simp [storeVar, size5' w, Value.cells, h1]
  simp [h2]
theorem kept_row {B g : Nat} {w w' : World} (h : Below B w w') (hg : B ≤ g) (cs : Array Value) : Below B w (w'.setRow g cs) :=
  ⟨h.os, h.tape, h.output, by rw [setRow_size]; exact h.size, fun k hk => by rw [setRow_other _ _ _ _ (by omega)]; exact h.block k hk⟩
theorem kept_drew {B : Nat} {w w' : World} (h : Below B w w') (m : Nat) : Below B w (w'.drewN m) := ⟨h.os, h.tape, h.output, h.size, h.block⟩

/-! ### FromBE -/
structure G48 where
  k : Nat := 0
  x : Int := 0
  more : Bool := false
  z : Bool := false
  i : Nat := 0
  cur : List Int := []
  y : Int := 0
  more2 : Bool := false
def G48.c1 (k : Nat) (x : Int) : G48 := { k := k, x := x, more := true, z := true }
def G48.c2 (k : Nat) (x : Int) : G48 := { k := k, x := x, more := true, z := false }
def G48.c3 (k : Nat) : G48 := { k := k, more := false }
def G48.d1 (g : G48) (i : Nat) (cur : List Int) (y : Int) : G48 := { g with i := i, cur := cur, y := y, more2 := true }
def G48.d2 (g : G48) (i : Nat) (cur : List Int) : G48 := { g with i := i, cur := cur, more2 := false }
structure lead (zs : List Int) (k : Nat) : Prop where
  all : ∀ j, j < k → zs.getD j 0 = 0
def loop48a (zs : List Int) (n : Nat) : LoopTip G48 where
  slots := [3]
  inv := fun _ w us w' => ∃ k : Nat, k ≤ n ∧ us = [.int .i64 k] ∧ w' = w ∧ lead zs k
  T := fun _ w C => (∀ (k : Nat) (x : Int), k < n → zs.getD k 0 = x → lead zs k → (x = 0 → C (G48.c1 k x) [.int .i64 k] w) ∧ (x ≠ 0 → C (G48.c2 k x) [.int .i64 k] w)) ∧
    (∀ k : Nat, k = n → lead zs k → C (G48.c3 k) [.int .i64 k] w)
  mu := fun _ us _ => n - (intOf (us.headD undef)).toNat
theorem loop48a_ok (zs : List Int) (n : Nat) (g : G48) (w : World) : LoopOK (loop48a zs n) g w := by
  rintro C ⟨h2, h3⟩ us w' - ⟨k, hk, rfl, rfl, ht⟩
  by_cases hlt : k < n
  · obtain ⟨c1, c2⟩ := h2 k _ hlt rfl ht
    by_cases e : zs.getD k 0 = 0
    · exact ⟨_, c1 e⟩
    · exact ⟨_, c2 e⟩
  · exact ⟨_, h3 k (by omega) ht⟩
structure Made48 (zs : List Int) (n k i : Nat) (cur : List Int) (w0 W : World) : Prop where
  len : cur.length = n - k
  dig : Dig cur
  done : ∀ j, j < i → cur.getD j 0 = zs.getD (n - 1 - j) 0
  below : Below w0.heap.size w0 W
  row : W.heap[w0.heap.size]? = some (.cells (rowOf cur) 5 (0, 0))
def loop48b (zs : List Int) (n : Nat) (w0 : World) : LoopTip G48 where
  slots := [30]
  inv := fun g w us w' => ∃ (i : Nat) (cur : List Int), i ≤ n - g.k ∧ us = [.int .i64 i] ∧ Made48 zs n g.k i cur w0 w'
  T := fun g w C => ∀ (i : Nat) (cur : List Int) (W : World), Made48 zs n g.k i cur w0 W → (∀ y, i < n - g.k → zs.getD (n - 1 - i) 0 = y → C (G48.d1 g i cur y) [.int .i64 i] W) ∧ (i = n - g.k → C (G48.d2 g i cur) [.int .i64 i] W)
  mu := fun g us _ => n - g.k - (intOf (us.headD undef)).toNat
theorem loop48b_ok (zs : List Int) (n : Nat) (w0 : World) (g : G48) (w : World) : LoopOK (loop48b zs n w0) g w := by
  rintro C h us w' - ⟨i, cur, hi, rfl, hm⟩
  obtain ⟨h1, h2⟩ := h i cur w' hm
  by_cases hlt : i < n - g.k
  · exact ⟨_, h1 _ hlt rfl⟩
  · exact ⟨_, h2 (by omega)⟩
def tips48 (b o : Nat) (zs : List Int) (n : Nat) (w0 : World) : Tips G48 where
  ops := [(9, { val := some fun g => .bool g.more }), (13, { val := some fun g => .pointer (some ⟨b, o + g.k, none⟩) }), (14, { val := some fun g => .int .u8 g.x }), (15, { val := some fun g => .bool g.z }), (18, { val := some fun g => .int .i64 (g.k + 1 : Nat) }),
    (22, { val := some fun g => .bool (!g.more) }), (26, { val := some fun g => .int .i64 (n - g.k : Nat) }), (27, { val := some fun g => .slice (some ⟨w0.heap.size, 0, none⟩) (n - g.k) (n - g.k), wld := some fun g w => w.alloc (.cells (rowOf (zeros (n - g.k))) 5) }),
    (31, { val := some fun g => .bool g.more2 }), (38, { val := some fun g => .int .i64 (n - 1 : Nat) }), (40, { val := some fun g => .int .i64 (n - 1 - g.i : Nat) }), (41, { val := some fun g => .pointer (some ⟨b, o + (n - 1 - g.i), none⟩) }),
    (42, { val := some fun g => .int .u8 g.y }), (43, { val := some fun g => .pointer (some ⟨w0.heap.size, g.i, none⟩) }), (1010011, { val := some fun g => undef, wld := some fun g w => w.setRow w0.heap.size (rowOf (g.cur.set g.i g.y)) }), (44, { val := some fun g => .int .i64 (g.i + 1 : Nat) })]
  loops := [(2, loop48a zs n), (8, loop48b zs n w0)]
def post48 (zs : List Int) (w : World) : Ending → World → Prop := fun e w' => ∃ v, e = .returned v ∧ IsF w.heap.size w' v (valB zs) ∧ Below w.heap.size w w'
theorem lead_next {zs : List Int} {k : Nat} {x : Int} (h : lead zs k) (hx : zs.getD k 0 = x) (e : x = 0) : lead zs (k + 1) := ⟨fun j hj => by
  rcases Nat.lt_or_ge j k with h1 | h1
  · exact h.all j h1
  · rw [show j = k by omega, hx, e]⟩
theorem lead_take {zs : List Int} {k : Nat} (h : lead zs k) (hk : k ≤ zs.length) : zs.take k = List.replicate k 0 := by
  apply List.ext_getElem
  · simp; omega
  · intro j h1 h2
    have := h.all j (by simpa using h2)
    rw [List.getD_eq_getElem?_getD, List.getElem?_eq_getElem (by simp at h1; omega)] at this
    simpa using this
theorem lead_val {zs : List Int} {k : Nat} (h : lead zs k) (hk : k ≤ zs.length) : valB zs = val (zs.drop k).reverse := by
  unfold valB
  conv => lhs; rw [← List.take_append_drop k zs]
  rw [List.reverse_append, val_append, lead_take h hk, List.reverse_replicate, val_zeros]
  simp
theorem made_all {zs cur : List Int} {n k i : Nat} {w0 W : World} (hl : zs.length = n) (hm : Made48 zs n k i cur w0 W) (hi : i = n - k) (hk : k < n) : cur = (zs.drop k).reverse := by
  apply List.ext_getElem
  · simp [hm.len, hl]
  · intro j h1 h2
    have hj : j < n - k := by rw [← hm.len]; exact h1
    have := hm.done j (by omega)
    rw [List.getD_eq_getElem?_getD, List.getD_eq_getElem?_getD, List.getElem?_eq_getElem h1, List.getElem?_eq_getElem (by omega)] at this
    simp only [Option.getD_some] at this
    rw [this, List.getElem_reverse, List.getElem_drop]
    congr 1
    simp
    omega
theorem fin48_z {zs : List Int} {n k : Nat} {w : World} (hl : zs.length = n) (hk : k = n) (h : lead zs k) : post48 zs w (.returned (.slice none 0 0)) w := by
  refine ⟨_, rfl, ⟨⟨[], ⟨none, 0, rfl, Nat.le_refl _, by unfold maxLen; omega, ByteRow.nil _ _⟩, by simp [Norm], ?_, fun _ => rfl⟩, fun a l c e => by cases e⟩, Below.refl _ _⟩
  rw [lead_val h (by omega), List.drop_eq_nil_of_le (by omega)]
  rfl
theorem fin48_n {zs cur : List Int} {n k i : Nat} {x : Int} {w W : World} (hl : zs.length = n) (hk : k < n) (hn : n ≤ 281474976710000) (h : lead zs k) (hx : zs.getD k 0 = x) (h0 : x ≠ 0) (hm : Made48 zs n k i cur w W) (hi : i = n - k) :
    post48 zs w (.returned (.slice (some ⟨w.heap.size, 0, none⟩) (n - k) (n - k))) W := by
  have e := made_all hl hm hi hk
  refine ⟨_, rfl, isF_row ⟨cur, ⟨some ⟨w.heap.size, 0, none⟩, n - k, by rw [hm.len], by rw [hm.len]; omega, by unfold maxLen; omega, hm.dig, .inr ⟨_, _, rfl, fun j hj => ?_⟩⟩, ?_, ?_, fun e' => ?_⟩ (Nat.le_refl _), hm.below⟩
  · have : ((rowOf cur)[j]?) = some (.int .u8 (cur.getD j 0)) := rowOf_get cur j hj
    simp [World.cell?, hm.row, this]
  · rw [e]
    unfold Norm
    rw [List.getLast?_reverse, List.head?_drop, List.getElem?_eq_getElem (by omega)]
    rw [List.getD_eq_getElem?_getD, List.getElem?_eq_getElem (by omega)] at hx
    simp at hx ⊢
    rw [hx]; exact h0
  · rw [e, lead_val h (by omega)]
  · have := hm.len
    rw [e'] at this
    simp at this
    omega
theorem made_next {zs cur : List Int} {n k i : Nat} {y : Int} {w0 W : World} (hd : Dig zs) (hi : i < n - k) (hm : Made48 zs n k i cur w0 W) (hy : zs.getD (n - 1 - i) 0 = y) : Made48 zs n k (i + 1) (cur.set i y) w0 (W.setRow w0.heap.size (rowOf (cur.set i y))) := by
  refine ⟨by rw [List.length_set]; exact hm.len, hm.dig.set i (by rw [← hy]; exact hd.getD _), fun j hj => ?_, kept_row hm.below (Nat.le_refl _) _, setRow_heap _ _ _ _ _ _ hm.row⟩
  rcases Nat.lt_or_ge j i with h1 | h1
  · rw [getD_set_ne _ _ _ _ (by omega)]; exact hm.done j h1
  · have : j = i := by omega
    subst this
    rw [getD_set_self _ _ _ (by rw [hm.len]; exact hi), hy]
theorem made_start {zs : List Int} {n k : Nat} {w : World} : Made48 zs n k 0 (zeros (n - k)) w (w.alloc (.cells (rowOf (zeros (n - k))) 5)) :=
  ⟨zeros_length _, Dig.zeros _, fun j hj => by omega, (Below.refl _ _).alloc (Nat.le_refl _) _, by
    show (w.heap.push _)[w.heap.size]? = _
    simp⟩
theorem index_new {t : TypeId} {g n c i : Nat} {w : World} (ht : Sagg.prog.underlying t = some (.slice 5)) (hi : i < n) :
    (Instr.indexAt t (.slice (some ⟨g, 0, none⟩) n c) (.int .i64 (i : Int))).run Sagg.prog w = .ok (.pointer (some ⟨g, i, none⟩)) w := by
  have := index_byte (t := t) (sa := some ⟨g, 0, none⟩) (c := c) (w := w) ht rfl hi
  rwa [Nat.zero_add] at this
theorem sub_n {a b : Nat} {t : TypeId} {w : World} (h : b ≤ a) (ha : a ≤ 9223372036854775807) : (binOp .sub t (.int .i64 a) (.int .i64 b)).run Sagg.prog w = .ok (.int .i64 (a - b : Nat)) w := sub_i (by rw [wrap64 (by omega) (by omega)]; omega)
theorem sub_1 {a : Nat} {t : TypeId} {w : World} (h : 1 ≤ a) (ha : a ≤ 9223372036854775807) : (binOp .sub t (.int .i64 a) (.int .i64 1)).run Sagg.prog w = .ok (.int .i64 (a - 1 : Nat)) w := sub_i (by rw [wrap64 (by omega) (by omega)]; omega)
theorem make_n {n : Nat} {w : World} (h : n ≤ 281474976710000) : (Instr.makeSlice 91 (.int .i64 (n : Int)) (.int .i64 (n : Int))).run Sagg.prog w = .ok (.slice (some ⟨w.heap.size, 0, none⟩) n n) (w.alloc (.cells (rowOf (zeros n)) 5)) := by
  have := make_bytes Sagg.underlying91 (n : Int) (by omega) (by omega) w
  rwa [Int.toNat_natCast] at this
theorem kept_cell {w0 W : World} {b o i : Nat} {v : Value} (hb : Below w0.heap.size w0 W) (h : w0.cell? ⟨b, o + i, none⟩ = some v) : W.cell? ⟨b, o + i, none⟩ = some v := by
  rw [hb.cell (p := ⟨b, o + i, none⟩) (cell_lt h)]; exact h

set_option maxRecDepth 100000 in
set_option maxHeartbeats 8000000 in
theorem fromBE_core (a : Option Addr) (b o n c : Nat) (zs : List Int) (w : World) (l : zs.length = n) (hd : Dig zs) (hn : n ≤ 281474976710000) (s : 0 < n → a = some ⟨b, o, none⟩ ∧ ∀ i, i < n → w.cell? ⟨b, o + i, none⟩ = some (.int .u8 (zs.getD i 0))) : Calls Sagg.prog 63 #[.slice a n c] w (post48 zs w) := by
  refine CX_calls (tips48 b o zs n w) {} (by kernel_rfl) Sagg.func63 rfl _ rfl (by kernel_rfl) ?_
  refine of_eq (p := (∃ k, k ≤ n ∧ [Value.int IntKind.i64 0] = [Value.int IntKind.i64 ↑k] ∧ w = w ∧ lead zs k) ∧
  LoopOK (loop48a zs n) { } w ∧
    (∀ (k : Nat) (x : Int),
        k < n →
          zs.getD k 0 = x →
            lead zs k →
              (x = 0 → Sem.run Sagg.prog (binOp BinOp.lss 3 (Value.int IntKind.i64 ↑k) (Value.int IntKind.i64 ↑n)) w = Result.ok (Value.bool true) w ∧ Sem.run Sagg.prog (Instr.indexAt 30 (Value.slice a n c) (Value.int IntKind.i64 ↑k)) w = Result.ok (Value.pointer (some { block := b, off := o + k })) w ∧ Sem.run Sagg.prog (loadVar 5 { block := b, off := o + k }) w = Result.ok (Value.int IntKind.u8 x) w ∧ Sem.run Sagg.prog (binOp BinOp.eql 5 (Value.int IntKind.u8 x) (Value.int IntKind.u8 0)) w = Result.ok (Value.bool true) w ∧ Sem.run Sagg.prog (binOp BinOp.add 3 (Value.int IntKind.i64 ↑k) (Value.int IntKind.i64 1)) w = Result.ok (Value.int IntKind.i64 ↑(k + 1)) w ∧ (∃ k_1, k_1 ≤ n ∧ [Value.int IntKind.i64 ↑(k + 1)] = [Value.int IntKind.i64 ↑k_1] ∧ w = w ∧ lead zs k_1) ∧ n - (((k + 1) : Nat) : Int).toNat < n - ((k : Nat) : Int).toNat) ∧
                (x ≠ 0 →
                  Sem.run Sagg.prog (binOp BinOp.lss 3 (Value.int IntKind.i64 ↑k) (Value.int IntKind.i64 ↑n)) w = Result.ok (Value.bool true) w ∧
                    Sem.run Sagg.prog (Instr.indexAt 30 (Value.slice a n c) (Value.int IntKind.i64 ↑k)) w = Result.ok (Value.pointer (some { block := b, off := o + k })) w ∧
                      Sem.run Sagg.prog (loadVar 5 { block := b, off := o + k }) w = Result.ok (Value.int IntKind.u8 x) w ∧
                        Sem.run Sagg.prog (binOp BinOp.eql 5 (Value.int IntKind.u8 x) (Value.int IntKind.u8 0)) w = Result.ok (Value.bool false) w ∧
                          Sem.run Sagg.prog (binOp BinOp.eql 3 (Value.int IntKind.i64 ↑k) (Value.int IntKind.i64 ↑n)) w = Result.ok (Value.bool false) w ∧
                            Sem.run Sagg.prog (binOp BinOp.sub 3 (Value.int IntKind.i64 ↑n) (Value.int IntKind.i64 ↑k)) w = Result.ok (Value.int IntKind.i64 ↑(n - k)) w ∧
                              Sem.run Sagg.prog (Instr.makeSlice 91 (Value.int IntKind.i64 ↑(n - k)) (Value.int IntKind.i64 ↑(n - k))) w = Result.ok (Value.slice (some { block := w.heap.size, off := 0 }) (n - k) (n - k)) (w.alloc (Obj.cells { toList := List.map (Value.int IntKind.u8) (zeros (n - k)) } 5)) ∧
                                (∃ i cur, i ≤ n - k ∧ [Value.int IntKind.i64 0] = [Value.int IntKind.i64 ↑i] ∧ Made48 zs n (G48.c2 k x).k i cur w ((fun g w => w.alloc (Obj.cells (rowOf (zeros (n - g.k))) 5)) (G48.c2 k x) w)) ∧
                                  LoopOK (loop48b zs n w) (G48.c2 k x) (w.alloc (Obj.cells { toList := List.map (Value.int IntKind.u8) (zeros (n - k)) } 5)) ∧
                                    ∀ (i : Nat) (cur : List Int) (W : World),
                                      Made48 zs n k i cur w W →
                                        (∀ (y : Int),
                                            i < n - k →
                                              zs.getD (n - 1 - i) 0 = y →
                                                Sem.run Sagg.prog (binOp BinOp.lss 3 (Value.int IntKind.i64 ↑i) (Value.int IntKind.i64 ↑(n - k))) W = Result.ok (Value.bool true) W ∧
                                                  Sem.run Sagg.prog (binOp BinOp.sub 3 (Value.int IntKind.i64 ↑n) (Value.int IntKind.i64 1)) W = Result.ok (Value.int IntKind.i64 ↑(n - 1)) W ∧
                                                    Sem.run Sagg.prog (binOp BinOp.sub 3 (Value.int IntKind.i64 ↑(n - 1)) (Value.int IntKind.i64 ↑i)) W = Result.ok (Value.int IntKind.i64 ↑(n - 1 - i)) W ∧
                                                      Sem.run Sagg.prog (Instr.indexAt 30 (Value.slice a n c) (Value.int IntKind.i64 ↑(n - 1 - i))) W = Result.ok (Value.pointer (some { block := b, off := o + (n - 1 - i) })) W ∧
                                                        Sem.run Sagg.prog (loadVar 5 { block := b, off := o + (n - 1 - i) }) W = Result.ok (Value.int IntKind.u8 y) W ∧
                                                          Sem.run Sagg.prog (Instr.indexAt 91 (Value.slice (some { block := w.heap.size, off := 0 }) (n - k) (n - k)) (Value.int IntKind.i64 ↑i)) W = Result.ok (Value.pointer (some { block := w.heap.size, off := i })) W ∧
                                                            Sem.run Sagg.prog
                                                                  (do
                                                                    storeVar 5 { block := w.heap.size, off := i } (Value.int IntKind.u8 y)
                                                                    pure undef)
                                                                  W =
                                                                Result.ok (Value.tuple { toList := [] }) (W.setRow w.heap.size { toList := List.map (Value.int IntKind.u8) (cur.set i y) }) ∧
                                                              Sem.run Sagg.prog (binOp BinOp.add 3 (Value.int IntKind.i64 ↑i) (Value.int IntKind.i64 1)) (W.setRow w.heap.size { toList := List.map (Value.int IntKind.u8) (cur.set i y) }) = Result.ok (Value.int IntKind.i64 ↑(i + 1)) (W.setRow w.heap.size { toList := List.map (Value.int IntKind.u8) (cur.set i y) }) ∧ (∃ i_1 cur_1, i_1 ≤ n - k ∧ [Value.int IntKind.i64 ↑(i + 1)] = [Value.int IntKind.i64 ↑i_1] ∧ Made48 zs n (G48.c2 k x).k i_1 cur_1 w ((fun g w_1 => w_1.setRow w.heap.size (rowOf (g.cur.set g.i g.y))) ((G48.c2 k x).d1 i cur y) W)) ∧ n - k - (((i + 1) : Nat) : Int).toNat < n - k - ((i : Nat) : Int).toNat) ∧
                                          (i = n - k → Sem.run Sagg.prog (binOp BinOp.lss 3 (Value.int IntKind.i64 ↑i) (Value.int IntKind.i64 ↑(n - k))) W = Result.ok (Value.bool false) W ∧ (post48 zs w) (Ending.returned (Value.slice (some { block := w.heap.size, off := 0 }) (n - k) (n - k))) W))) ∧
      ∀ (k : Nat), k = n → lead zs k → Sem.run Sagg.prog (binOp BinOp.lss 3 (Value.int IntKind.i64 ↑k) (Value.int IntKind.i64 ↑n)) w = Result.ok (Value.bool false) w ∧ Sem.run Sagg.prog (binOp BinOp.eql 3 (Value.int IntKind.i64 ↑k) (Value.int IntKind.i64 ↑n)) w = Result.ok (Value.bool true) w ∧ (post48 zs w) (Ending.returned (Value.slice none 0 0)) w) (by kernel_rfl) ?_
  exact ⟨⟨0, Nat.zero_le _, rfl, rfl, ⟨fun j hj => by omega⟩⟩, (loop48a_ok _ _ _ _), (fun k2 => (fun x3 => (fun h4 => (fun h5 => (fun h6 => ⟨(fun h7 => ⟨(lss_t (by omega)), (index_byte (i := k2) Sagg.underlying30 (s (by omega)).1 (by omega)), (load_byte ((s (by omega)).2 _ (by omega)) (by assumption)), (eql_t (by omega)), (inc_i (m := n) (by omega) (by omega)), ⟨_, Nat.succ_le_of_lt (by omega), rfl, rfl, lead_next (by assumption) (by assumption) (by assumption)⟩, (by simp [intOf]; omega)⟩), (fun h15 => ⟨(lss_t (by omega)), (index_byte (i := k2) Sagg.underlying30 (s (by omega)).1 (by omega)), (load_byte ((s (by omega)).2 _ (by omega)) (by assumption)), (eql_f (by omega)), (eql_f (by omega)), (sub_n (by omega) (by omega)), (make_n (by omega)), ⟨0, _, Nat.zero_le _, rfl, made_start⟩, (loop48b_ok _ _ _ _ _), (fun i25 => (fun cur26 => (fun W27 => (fun h28 => ⟨(fun y29 => (fun h30 => (fun h31 => ⟨(lss_t (by omega)), (sub_1 (by omega) (by omega)), (sub_n (by omega) (by omega)), (index_byte (i := (n - 1 - i25)) Sagg.underlying30 (s (by omega)).1 (by omega)), (load_byte (kept_cell (show Made48 _ _ _ _ _ _ W27 by assumption).below ((s (by omega)).2 _ (by omega))) (by assumption)), (index_new Sagg.underlying91 (by omega)), (store_byte (show Made48 _ _ _ _ _ _ _ by assumption).row (by rw [(show Made48 _ _ _ _ _ _ _ by assumption).len]; omega)), (inc_i (m := n) (by omega) (by omega)), ⟨_, _, Nat.succ_le_of_lt (by omega), rfl, made_next hd (by assumption) (by assumption) (by assumption)⟩, (by simp [intOf]; omega)⟩))), (fun h42 => ⟨(lss_f (by omega)), (fin48_n l (by assumption) hn (by assumption) (by assumption) (by assumption) (by assumption) (by assumption))⟩)⟩))))⟩)⟩))))), (fun k45 => (fun h46 => (fun h47 => ⟨(lss_f (by omega)), (eql_t (by omega)), (fin48_z l (by assumption) (by assumption))⟩)))⟩
theorem fromBE_calls (a : Option Addr) (n c : Nat) (zs : List Int) (w : World) (l : zs.length = n) (hn : n ≤ 281474976710000) (h : ByteRow w a zs) :
    Calls Sagg.prog 63 #[.slice a n c] w fun e w' => ∃ v, e = .returned v ∧ IsF w.heap.size w' v (valB zs) ∧ Below w.heap.size w w' := by
  obtain ⟨b, o, s⟩ := byte_block h l
  exact fromBE_core a b o n c zs w l h.1 hn s

section
variable {P : Program} {t s d : TypeId} {k k' : IntKind} {a b n m : Int} {w : World}
theorem conv_i (hs : P.underlying s = some (.int k)) (hd : P.underlying d = some (.int k')) (h : k'.wrap n = m) : (convert s d (.int k n)).run P w = .ok (.int k' m) w := by
  simp [convert, run_underlying hs, run_underlying hd, Conv.intToInt, h]
theorem shr_i {yk : IntKind} (hb : 0 ≤ b) (h : a.fdiv (2 ^ (min b.toNat k.bits)) = m) : (binOp .shr t (.int k a) (.int yk b)).run P w = .ok (.int k m) w := by
  have : ¬ b < 0 := by omega
  simp [binOp, Op.shift, this, h]
theorem index_arr {e : TypeId} {len : Nat} {g o i : Nat} (ht : P.underlying t = some (.array len e)) (hs : (P.info? e).map (·.size) = some 1) (hi : i < len) :
    (Instr.indexAt t (.pointer (some ⟨g, o, none⟩)) (.int .i64 i)).run P w = .ok (.pointer (some ⟨g, o + i, none⟩)) w := by
  have h1 : (0 : Int) ≤ (i : Int) ∧ (i : Int) < (len : Int) := by omega
  simp [Instr.indexAt, asIntOf, run_underlying ht, h1, size_info hs, Addr.add, Instr.sureAddr]
  rw [if_pos hi]
  by_cases hz : i = 0
  · simp [hz]
  · simp [hz]
end
theorem wrap16 {a : Int} (h1 : 0 ≤ a) (h2 : a < 65536) : IntKind.u16.wrap a = a := by
  simp [IntKind.wrap, IntKind.bits, IntKind.signed]; omega
theorem wrap8 {a : Int} : IntKind.u8.wrap a = a % 256 := by
  simp [IntKind.wrap, IntKind.bits, IntKind.signed]

theorem valB_cons (x : Int) (l : List Int) : valB (x :: l) = valB l + 256 ^ l.length * x := by
  unfold valB
  rw [List.reverse_cons, val_append, List.length_reverse]
  simp [val]
theorem valB_nonneg {zs : List Int} (h : Dig zs) : 0 ≤ valB zs := val_nonneg (fun n hn => h n (List.mem_reverse.1 hn))
theorem valB_lt {zs : List Int} (h : Dig zs) : valB zs < 256 ^ zs.length := by
  have := val_lt (zs := zs.reverse) (fun n hn => h n (List.mem_reverse.1 hn))
  rwa [List.length_reverse] at this

/-- A copy into a fresh row. -/
theorem copy_new {dT sT ty : TypeId} {fl : Array Bool} {g n c sc : Nat} {a : Option Addr} {zs cur : List Int} {w : World} (hu : Sagg.prog.underlying dT = some (.slice 5)) (hg : w.heap[g]? = some (.cells (rowOf cur) 5 (0, 0))) (hc : cur.length = n) (hl : zs.length = n) (hr : ByteRow w a zs) :
    (do match ← builtin .copy #[dT, sT] ty fl #[.slice (some ⟨g, 0, none⟩) n c, .slice a n sc] with
        | .value v => pure v
        | _ => stuck "no value" : Sem Value).run Sagg.prog w = .ok (.int .i64 (n : Int)) (w.setRow g (rowOf zs)) := by
  have key : (Builtin.copy_ #[dT, sT] ty #[.slice (some ⟨g, 0, none⟩) n c, .slice a n sc]).run Sagg.prog w = .ok (.int .i64 (n : Int)) (w.setRow g (rowOf zs)) := by
    rcases hr.2 with h0 | ⟨b, off, rfl, hcell⟩
    · have hn : n = 0 := by rw [← hl, h0]; rfl
      subst hn
      rw [run_copy_none w dT sT ty 5 _ _ 0 c 0 sc hu isz5 rfl]
      have : rowOf zs = rowOf cur := by rw [h0, List.length_eq_zero_iff.1 hc]
      rw [this, setRow_self w g (rowOf cur) 5 (0, 0) hg]
      rfl
    · have := run_copy_row (P := Sagg.prog) w dT sT ty 5 g 0 n c ⟨b, off, none⟩ n sc (rowOf cur) 5 (bcells zs) hu isz5 hg (by rw [bcells_length, hl]; simp) (fun j v hv => by
          have hj : j < zs.length := by have := (List.getElem?_eq_some_iff.1 hv).1; rwa [bcells_length] at this
          rw [bcells_get _ _ hj] at hv
          cases hv
          rw [WideShapes.add_plain]
          exact hcell j hj) (by rw [bcells_length, rowOf_size]; omega) (fun v hv => by
          obtain ⟨k, _, rfl⟩ := List.mem_map.1 hv
          rfl)
      rw [this]
      have e : ((rowOf cur).toList.take 0 ++ bcells zs ++ (rowOf cur).toList.drop (0 + (bcells zs).length)).toArray = rowOf zs := by
        rw [List.drop_eq_nil_of_le (by rw [bcells_length]; have := rowOf_size cur; simp at this ⊢; omega)]
        simp [rowOf, bcells]
      rw [e, bcells_length, hl]
      rfl
  have hb : (builtin .copy #[dT, sT] ty fl #[.slice (some ⟨g, 0, none⟩) n c, .slice a n sc]) = (do pure (.value (← Builtin.copy_ #[dT, sT] ty #[.slice (some ⟨g, 0, none⟩) n c, .slice a n sc]))) := rfl
  simp [hb, key]

/-! ### Norm -/
structure G61 where
  z : Bool := false
def cut61 (zs : List Int) (w : World) (C : G61 → World → Prop) : Prop := ((trimL zs).length = 0 → C { z := true } w) ∧ ((trimL zs).length ≠ 0 → C { z := false } w)
theorem cut61_ok (zs : List Int) (w : World) : CutOK (cut61 zs w) w := by
  rintro C ⟨h1, h2⟩
  by_cases e : (trimL zs).length = 0
  · exact ⟨_, h1 e⟩
  · exact ⟨_, h2 e⟩
def tips61 (a : Option Addr) (zs : List Int) (m : Nat) (w0 : World) : Tips G61 where
  ops := [(5, { tr := some fun g w C => C g (.slice a m m) w }), (8, { val := some fun g => .bool g.z }), (11, { val := some fun _ => .slice (some ⟨w0.heap.size, 0, none⟩) m m, wld := some fun _ w => w.alloc (.cells (rowOf (zeros m)) 5) }),
    (14, { val := some fun _ => .int .i64 (m : Int), wld := some fun _ w => w.setRow w0.heap.size (rowOf (trimL zs)) })]
  cuts := [(1, fun _ w C => cut61 zs w C)]
def postN (n : Int) (w : World) : Ending → World → Prop := fun e w' => ∃ v, e = .returned v ∧ IsF w.heap.size w' v n ∧ Below w.heap.size w w'
theorem callSame {Γ : Type} {P : Program} {f : FuncId} {args : Array Value} {w : World} {g : Γ} {v : Value} (h : Calls P f args w fun e w' => e = .returned v ∧ w' = w) : CallOK P f args w fun C : Γ → Value → World → Prop => C g v w :=
  fun C hC => h.mono fun e w' ⟨h1, h2⟩ => ⟨g, v, h1, by rw [h2]; exact hC⟩
theorem nil_isN {w : World} : IsN w (.slice none 0 0) 0 := ⟨[], ⟨none, 0, rfl, Nat.le_refl _, by unfold maxLen; omega, ByteRow.nil _ _⟩, by simp [Norm], rfl, fun _ => rfl⟩
theorem fin61_z {zs : List Int} {w : World} (h : (trimL zs).length = 0) : postN (val zs) w (.returned (.slice none 0 0)) w := by
  refine ⟨_, rfl, ?_, Below.refl _ _⟩
  have := val_trimL zs
  rw [List.length_eq_zero_iff.1 h] at this
  rw [← this]
  exact nil_isF
theorem row_isN {W : World} {g : Nat} {zs : List Int} (hr : W.heap[g]? = some (.cells (rowOf zs) 5 (0, 0))) (hd : Dig zs) (hn : Norm zs) (h0 : zs.length ≠ 0) (hm : zs.length ≤ maxLen) : IsN W (.slice (some ⟨g, 0, none⟩) zs.length zs.length) (val zs) :=
  ⟨zs, RowAt.isB hr hd hm, hn, rfl, fun e => absurd (by rw [e]; rfl) h0⟩
theorem alloc_row {w : World} {o : Obj} : (w.alloc o).heap[w.heap.size]? = some o := by
  show (w.heap.push _)[w.heap.size]? = _
  simp
theorem fin61_n {zs : List Int} {m : Nat} {w : World} (hm : (trimL zs).length = m) (hd : Dig zs) (h : (trimL zs).length ≠ 0) (hM : m ≤ 281474976710000) : postN (val zs) w (.returned (.slice (some ⟨w.heap.size, 0, none⟩) m m)) ((w.alloc (.cells (rowOf (zeros m)) 5)).setRow w.heap.size (rowOf (trimL zs))) := by
  refine ⟨_, rfl, ?_, kept_row ((Below.refl _ _).alloc (Nat.le_refl _) _) (Nat.le_refl _) _⟩
  rw [← val_trimL zs, ← hm]
  exact isF_row (row_isN (setRow_heap _ _ _ _ _ _ alloc_row) hd.trimL (norm_trimL zs) h (by unfold maxLen; omega)) (Nat.le_refl _)
theorem no_if {p : Prop} (h : ¬ p) : false = true ↔ p := ⟨fun e => (by cases e), fun e => absurd e h⟩
theorem eqlen {m : Nat} {t : TypeId} {w : World} {b : Bool} (h : b = true ↔ m = 0) : (binOp .eql t (.int .i64 (m : Int)) (.int .i64 0)).run Sagg.prog w = .ok (.bool b) w := by
  cases b with
  | true => exact eql_t (by have := h.1 rfl; omega)
  | false => exact eql_f (fun e => by have := h.2 (by omega); cases this)

set_option maxRecDepth 100000 in
set_option maxHeartbeats 8000000 in
theorem norm_core (a : Option Addr) (n c m : Nat) (zs : List Int) (w : World) (hl : zs.length = n) (hlc : n ≤ c) (hm : c ≤ maxLen) (hr : ByteRow w a zs) (ht : (trimL zs).length = m) (hM : m ≤ 281474976710000) : Calls Sagg.prog 110 #[.slice a n c] w (postN (val zs) w) := by
  refine CX_calls (tips61 a zs m w) {} (by kernel_rfl) Sagg.func110 rfl _ rfl (by kernel_rfl) ?_
  refine of_eq (p := CutOK (fun (C : G61 → World → Prop) => cut61 zs w C) w ∧
  ((trimL zs).length = 0 → (CallOK Sagg.prog 108 { toList := [Value.slice a n c] } w fun (C : G61 → Value → World → Prop) => C { z := true } (Value.slice a m m) w) ∧ Sem.run Sagg.prog (binOp BinOp.eql 3 (Value.int IntKind.i64 ↑m) (Value.int IntKind.i64 0)) w = Result.ok (Value.bool true) w ∧ (postN (val zs) w) (Ending.returned (Value.slice none 0 0)) w) ∧
    ((trimL zs).length ≠ 0 →
      (CallOK Sagg.prog 108 { toList := [Value.slice a n c] } w fun (C : G61 → Value → World → Prop) => C { } (Value.slice a m m) w) ∧
        Sem.run Sagg.prog (binOp BinOp.eql 3 (Value.int IntKind.i64 ↑m) (Value.int IntKind.i64 0)) w = Result.ok (Value.bool false) w ∧
          Sem.run Sagg.prog (Instr.makeSlice 91 (Value.int IntKind.i64 ↑m) (Value.int IntKind.i64 ↑m)) w = Result.ok (Value.slice (some { block := w.heap.size, off := 0 }) m m) (w.alloc (Obj.cells { toList := List.map (Value.int IntKind.u8) (zeros m) } 5)) ∧
            Sem.run Sagg.prog
                  (do
                    let __do_lift ← builtin Builtin.copy { toList := [91, 91] } 3 { toList := [false, false] } { toList := [(Value.slice (some { block := w.heap.size, off := 0 }) m m), (Value.slice a m m)] }
                    match __do_lift with
                      | Next.value v => pure v
                      | x => stuck "no value")
                  (w.alloc (Obj.cells { toList := List.map (Value.int IntKind.u8) (zeros m) } 5)) =
                Result.ok (Value.int IntKind.i64 ↑m) ((w.alloc (Obj.cells { toList := List.map (Value.int IntKind.u8) (zeros m) } 5)).setRow w.heap.size { toList := List.map (Value.int IntKind.u8) (trimL zs) }) ∧
              (postN (val zs) w) (Ending.returned (Value.slice (some { block := w.heap.size, off := 0 }) m m)) ((w.alloc (Obj.cells { toList := List.map (Value.int IntKind.u8) (zeros m) } 5)).setRow w.heap.size { toList := List.map (Value.int IntKind.u8) (trimL zs) }))) (by kernel_rfl) ?_
  exact ⟨(cut61_ok _ _), (fun h1 => ⟨(callSame (by have := trim_calls a n c zs w hl hlc hm hr; rwa [ht] at this)), (eqlen ⟨fun _ => by omega, fun _ => rfl⟩), (fin61_z (by assumption))⟩), (fun h5 => ⟨(callSame (by have := trim_calls a n c zs w hl hlc hm hr; rwa [ht] at this)), (eqlen (no_if (by omega))), (make_n (by omega)), (copy_new Sagg.underlying91 alloc_row (zeros_length _) ht (hr.trimL.ext ((Below.refl _ _).alloc (Nat.le_refl _) _))), (fin61_n ht hr.1 (by assumption) hM)⟩)⟩
theorem cell_row {W : World} {g i : Nat} {tt : TypeId} {cur : List Int} (h : W.heap[g]? = some (.cells (rowOf cur) tt (0, 0))) (hi : i < cur.length) : W.cell? ⟨g, i, none⟩ = some (.int .u8 (cur.getD i 0)) := by
  simp [World.cell?, h, rowOf_get cur i hi]
theorem norm_calls (a : Option Addr) (n c : Nat) (zs : List Int) (w : World) (hl : zs.length = n) (hlc : n ≤ c) (hm : c ≤ maxLen) (hM : n ≤ 281474976710000) (hr : ByteRow w a zs) :
    Calls Sagg.prog 110 #[.slice a n c] w fun e w' => ∃ v, e = .returned v ∧ IsF w.heap.size w' v (val zs) ∧ Below w.heap.size w w' :=
  norm_core a n c _ zs w hl hlc hm hr rfl (by have := trimL_le zs; omega)

/-! ### FromU64 -/
structure Made38 (x i X : Nat) (cur : List Int) (w0 W : World) : Prop where
  len : cur.length = 8
  dig : Dig cur
  sum : val (cur.take i) + 256 ^ i * (X : Int) = x
  XM : X < 18446744073709551616
  below : Below w0.heap.size w0 W
  row : W.heap[w0.heap.size]? = some (.cells (rowOf cur) 182 (0, 0))
structure G38 where
  i : Nat := 0
  X : Nat := 0
  cur : List Int := []
  more : Bool := false
def G38.c1 (i X : Nat) (cur : List Int) : G38 := { i := i, X := X, cur := cur, more := true }
def G38.c2 (X : Nat) (cur : List Int) : G38 := { i := 8, X := X, cur := cur, more := false }
def loop38 (x : Nat) (w0 : World) : LoopTip G38 where
  slots := [0, 5]
  inv := fun _ w us w' => ∃ (i X : Nat) (cur : List Int), i ≤ 8 ∧ us = [.int .u64 (X : Nat), .int .i64 (i : Nat)] ∧ Made38 x i X cur w0 w'
  T := fun _ w C => (∀ (i X : Nat) (cur : List Int) (W : World), i < 8 → Made38 x i X cur w0 W → C (G38.c1 i X cur) [.int .u64 (X : Nat), .int .i64 (i : Nat)] W) ∧
    (∀ (X : Nat) (cur : List Int) (W : World), Made38 x 8 X cur w0 W → C (G38.c2 X cur) [.int .u64 (X : Nat), .int .i64 ((8 : Nat) : Int)] W)
  mu := fun _ us _ => 8 - (intOf (us.getLastD undef)).toNat
theorem loop38_ok (x : Nat) (w0 : World) (g : G38) (w : World) : LoopOK (loop38 x w0) g w := by
  rintro C ⟨h1, h2⟩ us w' - ⟨i, X, cur, hi, rfl, hm⟩
  by_cases e : i < 8
  · exact ⟨_, h1 i X cur w' e hm⟩
  · obtain rfl : i = 8 := by omega
    exact ⟨_, h2 X cur w' hm⟩
def numT (n : Int) (w0 : World) {Γ : Type} (g : Γ) (w : World) (C : Γ → Value → World → Prop) : Prop := ∀ v W', IsF w0.heap.size W' v n → Below w0.heap.size w0 W' → C g v W'
def tips38 (x : Nat) (w0 : World) : Tips G38 where
  ops := [(3, { val := some fun _ => .pointer (some ⟨w0.heap.size, 0, none⟩), wld := some fun _ w => w.alloc (.cells (rowOf (zeros 8)) 182) }), (6, { val := some fun g => .bool g.more }), (10, { val := some fun g => .int .u8 ((g.X : Int) % 256) }), (11, { val := some fun g => .pointer (some ⟨w0.heap.size, 0 + g.i, none⟩) }),
    (1005004, { val := some fun _ => undef, wld := some fun g w => w.setRow w0.heap.size (rowOf (g.cur.set (0 + g.i) ((g.X : Int) % 256))) }), (13, { val := some fun g => .int .u64 (g.X / 256 : Nat) }), (14, { val := some fun g => .int .i64 (g.i + 1 : Nat) }), (16, { tr := some fun g w C => numT x w0 g w C })]
  loops := [(3, loop38 x w0)]
theorem zero81 (w : World) : (zeroValue 182).run Sagg.prog w = .ok (.agg (rowOf (zeros 8))) w := by kernel_rfl
theorem run_allocN {P : Program} {t : TypeId} {z : Array Value} {w : World} {h : Nat} (hz : ∀ w, (zeroValue t).run P w = .ok (.agg z) w) (hh : h = w.heap.size) : (Instr.alloc t true (.tuple #[])).run P w = .ok (.pointer (some ⟨h, 0, none⟩)) (w.alloc (.cells z t)) := by
  subst hh
  simp [Instr.alloc, hz, newVar, newRow, Value.cells]
theorem made38_start {x : Nat} (hx : x < 18446744073709551616) {w : World} : Made38 x 0 x (zeros 8) w (w.alloc (.cells (rowOf (zeros 8)) 182)) :=
  ⟨zeros_length _, Dig.zeros _, by simp [val], hx, (Below.refl _ _).alloc (Nat.le_refl _) _, alloc_row⟩
theorem made38_next {x i X : Nat} {cur : List Int} {w0 W : World} (hi : i < 8) (h : Made38 x i X cur w0 W) : Made38 x (i + 1) (X / 256) (cur.set (0 + i) ((X : Int) % 256)) w0 (W.setRow w0.heap.size (rowOf (cur.set (0 + i) ((X : Int) % 256)))) := by
  rw [Nat.zero_add]
  refine ⟨by rw [List.length_set]; exact h.len, h.dig.set _ (by omega), ?_, by have := h.XM; omega, kept_row h.below (Nat.le_refl _) _, setRow_heap _ _ _ _ _ _ h.row⟩
  have hs := h.sum
  rw [val_take_succ, take_set_ge _ _ _ _ (Nat.le_refl _), getD_set_self _ _ _ (by rw [h.len]; exact hi), ← hs]
  have e : (X : Int) = 256 * ((X / 256 : Nat) : Int) + (X : Int) % 256 := by omega
  generalize (X : Int) % 256 = m at *
  generalize ((X / 256 : Nat) : Int) = q at *
  rw [Int.pow_succ, e, Int.mul_add, ← Int.mul_assoc]
  omega
theorem made38_val {x X : Nat} {cur : List Int} {w0 W : World} (hx : x < 18446744073709551616) (h : Made38 x 8 X cur w0 W) : val cur = x := by
  have hs := h.sum
  rw [List.take_of_length_le (by rw [h.len]; omega)] at hs
  have h1 := val_nonneg h.dig
  have : X = 0 := by
    rcases Nat.eq_zero_or_pos X with h2 | h2
    · exact h2
    · exfalso
      have : (256 : Int) ^ 8 * 1 ≤ 256 ^ 8 * (X : Int) := Int.mul_le_mul_of_nonneg_left (by omega) (by decide)
      have e : (256 : Int) ^ 8 = 18446744073709551616 := by decide
      omega
  subst this
  simpa using hs
theorem from38 {x X : Nat} {cur : List Int} {w0 W : World} (hx : x < 18446744073709551616) (h : Made38 x 8 X cur w0 W) {Γ : Type} {g : Γ} : CallOK Sagg.prog 110 #[.slice (some ⟨w0.heap.size, 0, none⟩) 8 8] W (fun C : Γ → Value → World → Prop => numT x w0 g W C) := by
  intro C hC
  refine (norm_calls (some ⟨w0.heap.size, 0, none⟩) 8 8 cur W h.len (Nat.le_refl _) (by unfold maxLen; omega) (by omega) ⟨h.dig, .inr ⟨_, _, rfl, fun i hi => by rw [Nat.zero_add]; exact cell_row h.row hi⟩⟩).mono ?_
  rintro e w' ⟨v, rfl, hn, hb⟩
  rw [made38_val hx h] at hn
  exact ⟨g, v, rfl, hC v w' ⟨hn.1, fun a l c e => Nat.le_trans h.below.size (hn.2 a l c e)⟩ (h.below.trans (Below.mono hb h.below.size))⟩
theorem conv_byte {X : Nat} {w : World} : (convert 27 5 (.int .u64 (X : Int))).run Sagg.prog w = .ok (.int .u8 ((X : Int) % 256)) w := conv_i Sagg.underlying27 Sagg.underlying5 wrap8

set_option maxRecDepth 100000 in
set_option maxHeartbeats 8000000 in
theorem fromU64_core (x : Nat) (w : World) (hx : x < 18446744073709551616) : Calls Sagg.prog 66 #[.int .u64 (x : Int)] w (postN (x : Int) w) := by
  refine CX_calls (tips38 x w) {} (by kernel_rfl) Sagg.func66 rfl _ rfl (by kernel_rfl) ?_
  refine of_eq (p := Sem.run Sagg.prog (Instr.alloc 182 true (Value.tuple { toList := [] })) w = Result.ok (Value.pointer (some { block := w.heap.size, off := 0 })) (w.alloc (Obj.cells { toList := [Value.int IntKind.u8 0, Value.int IntKind.u8 0, Value.int IntKind.u8 0, Value.int IntKind.u8 0, Value.int IntKind.u8 0, Value.int IntKind.u8 0, Value.int IntKind.u8 0, Value.int IntKind.u8 0] } 182)) ∧
  (∃ (i : Nat), ∃ (X : Nat), ∃ (cur : List Int), i ≤ 8 ∧ [Value.int IntKind.u64 ↑x, Value.int IntKind.i64 0] = [Value.int IntKind.u64 ↑X, Value.int IntKind.i64 ↑i] ∧ Made38 x i X cur w ((fun (x : G38) (w : World) => w.alloc (Obj.cells (rowOf (zeros 8)) 182)) { } w)) ∧
    LoopOK (loop38 x w) { } (w.alloc (Obj.cells { toList := [Value.int IntKind.u8 0, Value.int IntKind.u8 0, Value.int IntKind.u8 0, Value.int IntKind.u8 0, Value.int IntKind.u8 0, Value.int IntKind.u8 0, Value.int IntKind.u8 0, Value.int IntKind.u8 0] } 182)) ∧
      (∀ (i X : Nat) (cur : List Int) (W : World),
          i < 8 →
            Made38 x i X cur w W →
              Sem.run Sagg.prog (binOp BinOp.lss 3 (Value.int IntKind.i64 ↑i) (Value.int IntKind.i64 8)) W = Result.ok (Value.bool true) W ∧
                Sem.run Sagg.prog (convert 27 5 (Value.int IntKind.u64 ↑X)) W = Result.ok (Value.int IntKind.u8 (↑X % 256)) W ∧
                  Sem.run Sagg.prog (Instr.indexAt 182 (Value.pointer (some { block := w.heap.size, off := 0 })) (Value.int IntKind.i64 ↑i)) W = Result.ok (Value.pointer (some { block := w.heap.size, off := 0 + i })) W ∧
                    Sem.run Sagg.prog
                          (do
                            storeVar 5 { block := w.heap.size, off := 0 + i } (Value.int IntKind.u8 (↑X % 256))
                            pure undef)
                          W =
                        Result.ok (Value.tuple { toList := [] }) (W.setRow w.heap.size { toList := List.map (Value.int IntKind.u8) (cur.set (0 + i) (↑X % 256)) }) ∧
                      Sem.run Sagg.prog (binOp BinOp.shr 27 (Value.int IntKind.u64 ↑X) (Value.int IntKind.u64 8)) (W.setRow w.heap.size { toList := List.map (Value.int IntKind.u8) (cur.set (0 + i) (↑X % 256)) }) = Result.ok (Value.int IntKind.u64 ↑(X / 256)) (W.setRow w.heap.size { toList := List.map (Value.int IntKind.u8) (cur.set (0 + i) (↑X % 256)) }) ∧ Sem.run Sagg.prog (binOp BinOp.add 3 (Value.int IntKind.i64 ↑i) (Value.int IntKind.i64 1)) (W.setRow w.heap.size { toList := List.map (Value.int IntKind.u8) (cur.set (0 + i) (↑X % 256)) }) = Result.ok (Value.int IntKind.i64 ↑(i + 1)) (W.setRow w.heap.size { toList := List.map (Value.int IntKind.u8) (cur.set (0 + i) (↑X % 256)) }) ∧ (∃ (i_1 : Nat), ∃ (X_1 : Nat), ∃ (cur_1 : List Int), i_1 ≤ 8 ∧ [Value.int IntKind.u64 ↑(X / 256), Value.int IntKind.i64 ↑(i + 1)] = [Value.int IntKind.u64 ↑X_1, Value.int IntKind.i64 ↑i_1] ∧ Made38 x i_1 X_1 cur_1 w ((fun (g : G38) (w_1 : World) => w_1.setRow w.heap.size (rowOf (g.cur.set (0 + g.i) (↑g.X % 256)))) (G38.c1 i X cur) W)) ∧ 8 - (((i + 1) : Nat) : Int).toNat < 8 - ((i : Nat) : Int).toNat) ∧
        ∀ (X : Nat) (cur : List Int) (W : World), Made38 x 8 X cur w W → Sem.run Sagg.prog (binOp BinOp.lss 3 (Value.int IntKind.i64 ↑8) (Value.int IntKind.i64 8)) W = Result.ok (Value.bool false) W ∧ (CallOK Sagg.prog 110 { toList := [Value.slice (some { block := w.heap.size, off := 0 }) 8 8] } W fun (C : G38 → Value → World → Prop) => numT (↑x) w (G38.c2 X cur) W C) ∧ ∀ (v : Value) (W' : World), IsF w.heap.size W' v ↑x → Below w.heap.size w W' → (postN (x : Int) w) (Ending.returned (resVal [rho [(16, v), (15, Value.slice (some { block := w.heap.size, off := 0 }) 8 8), (6, Value.bool false), (0, Value.int IntKind.u64 ↑X), (5, Value.int IntKind.i64 ↑8), (3, Value.pointer (some { block := w.heap.size, off := 0 })), (2, Value.slice none 0 0)] (Operand.tmp 16)])) W') (by kernel_rfl) ?_
  exact ⟨(run_allocN zero81 rfl), ⟨0, x, zeros 8, by omega, rfl, made38_start hx⟩, (loop38_ok _ _ _ _), (fun i3 => (fun X4 => (fun cur5 => (fun W6 => (fun h7 => (fun h8 => ⟨(lss_t (by omega)), conv_byte, (index_arr Sagg.underlying182 isz5 (by omega)), (store_byte (show Made38 _ _ _ _ _ _ by assumption).row (by rw [(show Made38 _ _ _ _ _ _ by assumption).len]; omega)), (shrU (s := 8) (by omega) rfl), (inc_i (m := 8) (by omega) (by omega)), ⟨_, _, _, by omega, rfl, made38_next (by omega) (by assumption)⟩, (by simp [intOf]; omega)⟩)))))), (fun X17 => (fun cur18 => (fun W19 => (fun h20 => ⟨(lss_f (by omega)), (from38 hx (by assumption)), (fun v23 => (fun W'24 => (fun h25 => (fun h26 => ⟨_, rfl, (by assumption), (by assumption)⟩))))⟩))))⟩
theorem fromU64_calls (x : Nat) (w : World) (hx : x < 18446744073709551616) : Calls Sagg.prog 66 #[.int .u64 (x : Int)] w fun e w' => ∃ v, e = .returned v ∧ IsF w.heap.size w' v (x : Int) ∧ Below w.heap.size w w' := fromU64_core x w hx

theorem val_setN : ∀ (zs : List Int) (p : Nat) (d : Int), p < zs.length → val (zs.set p d) = val zs + 256 ^ p * (d - zs.getD p 0)
  | [], p, d, h => by simp at h
  | x :: r, 0, d, h => by simp [val]; omega
  | x :: r, p + 1, d, h => by
    have ih := val_setN r p d (by simpa using h)
    simp only [List.set_cons_succ, val, ih, List.getD_cons_succ, Int.pow_succ]
    rw [Int.mul_add, Int.mul_comm (256 ^ p) 256, Int.mul_assoc]
    omega
theorem val_take_set {zs : List Int} {p k : Nat} {d : Int} (hp : p < k) (hk : k ≤ zs.length) : val ((zs.set p d).take k) = val (zs.take k) + 256 ^ p * (d - zs.getD p 0) := by
  rw [List.take_set, val_setN _ _ _ (by rw [List.length_take]; omega)]
  congr 3
  simp [List.getD_eq_getElem?_getD, List.getElem?_take, hp]

structure Mul37 (X Y : List Int) (n m i : Nat) (cur : List Int) (w0 W : World) : Prop where
  len : cur.length = n + m
  dig : Dig cur
  sum : val (cur.take (i + m)) = val (X.take i) * val Y
  below : Below w0.heap.size w0 W
  row : W.heap[w0.heap.size]? = some (.cells (rowOf cur) 5 (0, 0))
structure In37 (X Y : List Int) (n m i : Nat) (x : Int) (j : Nat) (c : Int) (cur : List Int) (w0 W : World) : Prop where
  len : cur.length = n + m
  dig : Dig cur
  c0 : 0 ≤ c
  c1 : c ≤ 255
  sum : val (cur.take (i + m)) + 256 ^ (i + j) * c = val (X.take i) * val Y + 256 ^ i * (x * val (Y.take j))
  below : Below w0.heap.size w0 W
  row : W.heap[w0.heap.size]? = some (.cells (rowOf cur) 5 (0, 0))
structure G37 where
  i : Nat := 0
  x : Int := 0
  j : Nat := 0
  c : Int := 0
  y : Int := 0
  z : Int := 0
  cur : List Int := []
  more : Bool := false
  more2 : Bool := false
def G37.c1 (i : Nat) (x : Int) (cur : List Int) : G37 := { i := i, x := x, cur := cur, more := true }
def G37.c2 (cur : List Int) : G37 := { cur := cur, more := false }
def G37.d1 (g : G37) (j : Nat) (c : Int) (cur : List Int) (y z : Int) : G37 := { i := g.i, x := g.x, j := j, c := c, cur := cur, y := y, z := z, more2 := true }
def G37.d2 (g : G37) (c : Int) (cur : List Int) : G37 := { i := g.i, x := g.x, c := c, cur := cur, more2 := false }
def loop37a (X Y : List Int) (n m : Nat) (w0 : World) : LoopTip G37 where
  slots := [23]
  inv := fun _ w us w' => ∃ (i : Nat) (cur : List Int), i ≤ n ∧ us = [.int .i64 (i : Nat)] ∧ Mul37 X Y n m i cur w0 w'
  T := fun _ w C => (∀ (i : Nat) (x : Int) (cur : List Int) (W : World), i < n → X.getD i 0 = x → Mul37 X Y n m i cur w0 W → C (G37.c1 i x cur) [.int .i64 (i : Nat)] W) ∧
    (∀ (k : Nat) (cur : List Int) (W : World), k = n → Mul37 X Y n m k cur w0 W → C (G37.c2 cur) [.int .i64 (k : Nat)] W)
  mu := fun _ us _ => n - (intOf (us.headD undef)).toNat
theorem loop37a_ok (X Y : List Int) (n m : Nat) (w0 : World) (g : G37) (w : World) : LoopOK (loop37a X Y n m w0) g w := by
  rintro C ⟨h1, h2⟩ us w' - ⟨i, cur, hi, rfl, hm⟩
  by_cases e : i < n
  · exact ⟨_, h1 i _ cur w' e rfl hm⟩
  · exact ⟨_, h2 i cur w' (by omega) hm⟩
def loop37b (X Y : List Int) (n m : Nat) (w0 : World) : LoopTip G37 where
  slots := [8, 30]
  inv := fun g w us w' => ∃ (j : Nat) (c : Int) (cur : List Int), j ≤ m ∧ us = [.int .u32 c, .int .i64 (j : Nat)] ∧ In37 X Y n m g.i g.x j c cur w0 w'
  T := fun g w C => (∀ (j : Nat) (c : Int) (cur : List Int) (y z : Int) (W : World), j < m → Y.getD j 0 = y → cur.getD (g.i + j) 0 = z → In37 X Y n m g.i g.x j c cur w0 W → C (G37.d1 g j c cur y z) [.int .u32 c, .int .i64 (j : Nat)] W) ∧
    (∀ (k : Nat) (c : Int) (cur : List Int) (W : World), k = m → In37 X Y n m g.i g.x k c cur w0 W → C (G37.d2 g c cur) [.int .u32 c, .int .i64 (k : Nat)] W)
  mu := fun _ us _ => m - (intOf (us.getLastD undef)).toNat
theorem loop37b_ok (X Y : List Int) (n m : Nat) (w0 : World) (g : G37) (w : World) : LoopOK (loop37b X Y n m w0) g w := by
  rintro C ⟨h1, h2⟩ us w' - ⟨j, c, cur, hj, rfl, hm⟩
  by_cases e : j < m
  · exact ⟨_, h1 j c cur _ _ w' e rfl rfl hm⟩
  · exact ⟨_, h2 j c cur w' (by omega) hm⟩
def tips37 (X Y : List Int) (a b : Option Addr) (b1 o1 b2 o2 n m : Nat) (w0 : World) : Tips G37 where
  ops := [(12, { tr := some fun g w C => C g (.slice a n n) w }), (14, { tr := some fun g w C => C g (.slice b m m) w }), (19, { val := some fun _ => .int .i64 (n + m : Nat) }), (20, { val := some fun _ => .slice (some ⟨w0.heap.size, 0, none⟩) (n + m) (n + m), wld := some fun _ w => w.alloc (.cells (rowOf (zeros (n + m))) 5) }),
    (24, { val := some fun g => .bool g.more }), (26, { val := some fun g => .pointer (some ⟨b1, o1 + g.i, none⟩) }), (27, { val := some fun g => .int .u8 g.x }), (31, { val := some fun g => .bool g.more2 }), (33, { val := some fun g => .pointer (some ⟨b2, o2 + g.j, none⟩) }), (34, { val := some fun g => .int .u8 g.y }),
    (37, { val := some fun g => .int .u32 g.x }), (39, { val := some fun g => .int .u32 g.y }), (40, { val := some fun g => .int .u32 (g.x * g.y) }), (44, { val := some fun g => .int .i64 (g.i + g.j : Nat) }), (45, { val := some fun g => .pointer (some ⟨w0.heap.size, g.i + g.j, none⟩) }), (46, { val := some fun g => .int .u8 g.z }), (47, { val := some fun g => .int .u32 g.z }),
    (48, { val := some fun g => .int .u32 (g.x * g.y + g.z) }), (49, { val := some fun g => .int .u32 (g.c + (g.x * g.y + g.z)) }), (53, { val := some fun g => .int .i64 (g.i + g.j : Nat) }), (55, { val := some fun g => .int .u8 ((g.c + (g.x * g.y + g.z)) % 256) }), (56, { val := some fun g => .pointer (some ⟨w0.heap.size, g.i + g.j, none⟩) }),
    (1012007, { val := some fun _ => undef, wld := some fun g w => w.setRow w0.heap.size (rowOf (g.cur.set (g.i + g.j) ((g.c + (g.x * g.y + g.z)) % 256))) }), (58, { val := some fun g => .int .u32 ((g.c + (g.x * g.y + g.z)) / 256) }), (59, { val := some fun g => .int .i64 (g.j + 1 : Nat) }),
    (64, { val := some fun g => .int .i64 (g.i + m : Nat) }), (66, { val := some fun g => .int .u8 (g.c % 256) }), (67, { val := some fun g => .pointer (some ⟨w0.heap.size, g.i + m, none⟩) }), (1015008, { val := some fun _ => undef, wld := some fun g w => w.setRow w0.heap.size (rowOf (g.cur.set (g.i + m) (g.c % 256))) }), (68, { val := some fun g => .int .i64 (g.i + 1 : Nat) }),
    (70, { tr := some fun g w C => C g (clipped (some ⟨w0.heap.size, 0, none⟩) g.cur) w })]
  loops := [(5, loop37a X Y n m w0), (9, loop37b X Y n m w0)]
section
variable {X Y cur : List Int} {n m i j : Nat} {x y z c : Int} {w0 W : World}
theorem mul37_start : Mul37 X Y n m 0 (zeros (n + m)) w0 (w0.alloc (.cells (rowOf (zeros (n + m))) 5)) :=
  ⟨zeros_length _, Dig.zeros _, by
    have : (zeros (n + m)).take (0 + m) = List.replicate m 0 := by simp [zeros]
    rw [this, val_zeros]; simp [val], (Below.refl _ _).alloc (Nat.le_refl _) _, alloc_row⟩
theorem in37_start (h : Mul37 X Y n m i cur w0 W) : In37 X Y n m i x 0 0 cur w0 W :=
  ⟨h.len, h.dig, by omega, by omega, by rw [h.sum]; simp [val], h.below, h.row⟩
theorem byte_mul {x y : Int} (hx : 0 ≤ x ∧ x < 256) (hy : 0 ≤ y ∧ y < 256) : 0 ≤ x * y ∧ x * y ≤ 65025 := by
  refine ⟨Int.mul_nonneg hx.1 hy.1, ?_⟩
  have := Int.mul_le_mul (show x ≤ 255 by omega) (show y ≤ 255 by omega) hy.1 (by omega)
  omega
theorem t37 (dX : Dig X) (dY : Dig Y) (hx : X.getD i 0 = x) (hy : Y.getD j 0 = y) (hz : cur.getD (i + j) 0 = z) (h : In37 X Y n m i x j c cur w0 W) : (0 ≤ x ∧ x < 256) ∧ (0 ≤ y ∧ y < 256) ∧ (0 ≤ z ∧ z < 256) ∧ 0 ≤ x * y ∧ x * y ≤ 65025 ∧ 0 ≤ c ∧ c ≤ 255 := by
  have b1 := dX.getD i
  have b2 := dY.getD j
  have b3 := h.dig.getD (i + j)
  rw [hx] at b1
  rw [hy] at b2
  rw [hz] at b3
  have := byte_mul b1 b2
  exact ⟨b1, b2, b3, this.1, this.2, h.c0, h.c1⟩
theorem in37_next (dX : Dig X) (dY : Dig Y) (hi : i < n) (hj : j < m) (lY : Y.length = m) (hx : X.getD i 0 = x) (hy : Y.getD j 0 = y) (hz : cur.getD (i + j) 0 = z) (h : In37 X Y n m i x j c cur w0 W) :
    In37 X Y n m i x (j + 1) ((c + (x * y + z)) / 256) (cur.set (i + j) ((c + (x * y + z)) % 256)) w0 (W.setRow w0.heap.size (rowOf (cur.set (i + j) ((c + (x * y + z)) % 256)))) := by
  obtain ⟨b1, b2, b3, b4, b5, b6, b7⟩ := t37 dX dY hx hy hz h
  refine ⟨by rw [List.length_set]; exact h.len, h.dig.set _ (by omega), by omega, by omega, ?_, kept_row h.below (Nat.le_refl _) _, setRow_heap _ _ _ _ _ _ h.row⟩
  have hs := h.sum
  rw [val_take_set (by omega) (by rw [h.len]; omega), hz, val_take_succ Y j, hy]
  have hdm := Int.mul_ediv_add_emod (c + (x * y + z)) 256
  generalize (c + (x * y + z)) / 256 = q at *
  generalize (c + (x * y + z)) % 256 = r at *
  rw [show i + (j + 1) = i + j + 1 by omega, Int.pow_succ, Int.pow_add]
  rw [Int.pow_add] at hs
  generalize val (cur.take (i + m)) = u at *
  generalize val (X.take i) * val Y = v at *
  generalize val (Y.take j) = s at *
  generalize (256 : Int) ^ i = p at *
  generalize (256 : Int) ^ j = k at *
  have e1 : p * k * (r - z) + p * k * 256 * q = p * k * (c + x * y) := by
    rw [Int.mul_assoc (p * k) 256 q, ← Int.mul_add]
    congr 1
    omega
  have e2 : p * k * (c + x * y) = p * k * c + p * (x * (k * y)) := by
    rw [Int.mul_add]
    congr 1
    rw [Int.mul_assoc, ← Int.mul_assoc k x y, Int.mul_comm k x, Int.mul_assoc]
  have e3 : p * (x * (s + k * y)) = p * (x * s) + p * (x * (k * y)) := by rw [Int.mul_add, Int.mul_add]
  rw [e3]
  omega
theorem mul37_next (hi : i < n) (lX : X.length = n) (lY : Y.length = m) (hx : X.getD i 0 = x) (h : In37 X Y n m i x m c cur w0 W) : Mul37 X Y n m (i + 1) (cur.set (i + m) (c % 256)) w0 (W.setRow w0.heap.size (rowOf (cur.set (i + m) (c % 256)))) := by
  have b0 := h.c0
  have b1 := h.c1
  have ec : c % 256 = c := by omega
  refine ⟨by rw [List.length_set]; exact h.len, h.dig.set _ (by omega), ?_, kept_row h.below (Nat.le_refl _) _, setRow_heap _ _ _ _ _ _ h.row⟩
  rw [show i + 1 + m = i + m + 1 by omega, val_take_succ, take_set_ge _ _ _ _ (Nat.le_refl _), getD_set_self _ _ _ (by rw [h.len]; omega), ec, h.sum, val_take_succ X i, hx, show Y.take m = Y from List.take_of_length_le (by omega), Int.add_mul]
  congr 1
  rw [Int.mul_assoc]
theorem mul37_end {k : Nat} (lX : X.length = n) (hk : k = n) (h : Mul37 X Y n m k cur w0 W) (hM : n + m ≤ 281474976710000) : IsF w0.heap.size W (clipped (some ⟨w0.heap.size, 0, none⟩) cur) (val X * val Y) := by
  subst hk
  have hs := h.sum
  rw [List.take_of_length_le (by rw [h.len]; omega), List.take_of_length_le (by omega)] at hs
  rw [← hs]
  exact ⟨clipped_isN h.row h.dig (by rw [h.len]; unfold maxLen; omega), clipped_block (Nat.le_refl _)⟩
end
theorem wrap32 {a : Int} (h1 : 0 ≤ a) (h2 : a < 4294967296) : IntKind.u32.wrap a = a := by
  simp [IntKind.wrap, IntKind.bits, IntKind.signed]; omega
theorem shr32 {a : Int} (h : 0 ≤ a) : a.fdiv (2 ^ (min (8 : Int).toNat IntKind.u32.bits)) = a / 256 := by
  rw [Int.fdiv_eq_ediv_of_nonneg]
  · rfl
  · decide
theorem addN {a b : Nat} {t : TypeId} {w : World} (h : a + b ≤ 9223372036854775807) : (binOp .add t (.int .i64 (a : Int)) (.int .i64 (b : Int))).run Sagg.prog w = .ok (.int .i64 (a + b : Nat)) w := add_i (by rw [wrap64 (by omega) (by omega)]; omega)

set_option maxRecDepth 100000 in
set_option maxHeartbeats 8000000 in
theorem mul_core (a b : Option Addr) (la ca lb cb b1 o1 b2 o2 n m : Nat) (X Y : List Int) (w : World) (ta : Calls Sagg.prog 108 #[.slice a la ca] w fun e w' => e = .returned (.slice a n n) ∧ w' = w) (tb : Calls Sagg.prog 108 #[.slice b lb cb] w fun e w' => e = .returned (.slice b m m) ∧ w' = w) (lX : X.length = n) (lY : Y.length = m) (dX : Dig X) (dY : Dig Y) (hM : n + m ≤ 281474976710000) (s1 : 0 < n → a = some ⟨b1, o1, none⟩ ∧ ∀ i, i < n → w.cell? ⟨b1, o1 + i, none⟩ = some (.int .u8 (X.getD i 0))) (s2 : 0 < m → b = some ⟨b2, o2, none⟩ ∧ ∀ i, i < m → w.cell? ⟨b2, o2 + i, none⟩ = some (.int .u8 (Y.getD i 0))) : Calls Sagg.prog 77 #[.slice a la ca, .slice b lb cb] w (postN (val X * val Y) w) := by
  refine CX_calls (tips37 X Y a b b1 o1 b2 o2 n m w) {} (by kernel_rfl) Sagg.func77 rfl _ rfl (by kernel_rfl) ?_
  refine of_eq (p := (CallOK Sagg.prog 108 { toList := [Value.slice a la ca] } w fun (C : G37 → Value → World → Prop) => C { } (Value.slice a n n) w) ∧
  (CallOK Sagg.prog 108 { toList := [Value.slice b lb cb] } w fun (C : G37 → Value → World → Prop) => C { } (Value.slice b m m) w) ∧
    Sem.run Sagg.prog (binOp BinOp.add 3 (Value.int IntKind.i64 ↑n) (Value.int IntKind.i64 ↑m)) w = Result.ok (Value.int IntKind.i64 ↑(n + m)) w ∧
      Sem.run Sagg.prog (Instr.makeSlice 91 (Value.int IntKind.i64 ↑(n + m)) (Value.int IntKind.i64 ↑(n + m))) w = Result.ok (Value.slice (some { block := w.heap.size, off := 0 }) (n + m) (n + m)) (w.alloc (Obj.cells { toList := List.map (Value.int IntKind.u8) (zeros (n + m)) } 5)) ∧
        (∃ (i : Nat), ∃ (cur : List Int), i ≤ n ∧ [Value.int IntKind.i64 0] = [Value.int IntKind.i64 ↑i] ∧ Mul37 X Y n m i cur w ((fun (x : G37) (w : World) => w.alloc (Obj.cells (rowOf (zeros (n + m))) 5)) { } w)) ∧
          LoopOK (loop37a X Y n m w) { } (w.alloc (Obj.cells { toList := List.map (Value.int IntKind.u8) (zeros (n + m)) } 5)) ∧
            (∀ (i : Nat) (x : Int) (cur : List Int) (W : World),
                i < n →
                  X.getD i 0 = x →
                    Mul37 X Y n m i cur w W →
                      Sem.run Sagg.prog (binOp BinOp.lss 3 (Value.int IntKind.i64 ↑i) (Value.int IntKind.i64 ↑n)) W = Result.ok (Value.bool true) W ∧
                        Sem.run Sagg.prog (Instr.indexAt 91 (Value.slice a n n) (Value.int IntKind.i64 ↑i)) W = Result.ok (Value.pointer (some { block := b1, off := o1 + i })) W ∧
                          Sem.run Sagg.prog (loadVar 5 { block := b1, off := o1 + i }) W = Result.ok (Value.int IntKind.u8 x) W ∧
                            (∃ (j : Nat), ∃ (c : Int), ∃ (cur_1 : List Int), j ≤ m ∧ [Value.int IntKind.u32 0, Value.int IntKind.i64 0] = [Value.int IntKind.u32 c, Value.int IntKind.i64 ↑j] ∧ In37 X Y n m (G37.c1 i x cur).i (G37.c1 i x cur).x j c cur_1 w W) ∧
                              LoopOK (loop37b X Y n m w) (G37.c1 i x cur) W ∧
                                (∀ (j : Nat) (c : Int) (cur_1 : List Int) (y z : Int) (W : World),
                                    j < m →
                                      Y.getD j 0 = y →
                                        cur_1.getD (i + j) 0 = z →
                                          In37 X Y n m i x j c cur_1 w W →
                                            Sem.run Sagg.prog (binOp BinOp.lss 3 (Value.int IntKind.i64 ↑j) (Value.int IntKind.i64 ↑m)) W = Result.ok (Value.bool true) W ∧
                                              Sem.run Sagg.prog (Instr.indexAt 91 (Value.slice b m m) (Value.int IntKind.i64 ↑j)) W = Result.ok (Value.pointer (some { block := b2, off := o2 + j })) W ∧
                                                Sem.run Sagg.prog (loadVar 5 { block := b2, off := o2 + j }) W = Result.ok (Value.int IntKind.u8 y) W ∧
                                                  Sem.run Sagg.prog (convert 5 80 (Value.int IntKind.u8 x)) W = Result.ok (Value.int IntKind.u32 x) W ∧
                                                    Sem.run Sagg.prog (convert 5 80 (Value.int IntKind.u8 y)) W = Result.ok (Value.int IntKind.u32 y) W ∧
                                                      Sem.run Sagg.prog (binOp BinOp.mul 80 (Value.int IntKind.u32 x) (Value.int IntKind.u32 y)) W = Result.ok (Value.int IntKind.u32 (x * y)) W ∧
                                                        Sem.run Sagg.prog (binOp BinOp.add 3 (Value.int IntKind.i64 ↑i) (Value.int IntKind.i64 ↑j)) W = Result.ok (Value.int IntKind.i64 ↑(i + j)) W ∧
                                                          Sem.run Sagg.prog (Instr.indexAt 91 (Value.slice (some { block := w.heap.size, off := 0 }) (n + m) (n + m)) (Value.int IntKind.i64 ↑(i + j))) W = Result.ok (Value.pointer (some { block := w.heap.size, off := i + j })) W ∧
                                                            Sem.run Sagg.prog (loadVar 5 { block := w.heap.size, off := i + j }) W = Result.ok (Value.int IntKind.u8 z) W ∧
                                                              Sem.run Sagg.prog (convert 5 80 (Value.int IntKind.u8 z)) W = Result.ok (Value.int IntKind.u32 z) W ∧
                                                                Sem.run Sagg.prog (binOp BinOp.add 80 (Value.int IntKind.u32 (x * y)) (Value.int IntKind.u32 z)) W = Result.ok (Value.int IntKind.u32 (x * y + z)) W ∧
                                                                  Sem.run Sagg.prog (binOp BinOp.add 80 (Value.int IntKind.u32 c) (Value.int IntKind.u32 (x * y + z))) W = Result.ok (Value.int IntKind.u32 (c + (x * y + z))) W ∧
                                                                    Sem.run Sagg.prog (binOp BinOp.add 3 (Value.int IntKind.i64 ↑i) (Value.int IntKind.i64 ↑j)) W = Result.ok (Value.int IntKind.i64 ↑(i + j)) W ∧
                                                                      Sem.run Sagg.prog (convert 80 5 (Value.int IntKind.u32 (c + (x * y + z)))) W = Result.ok (Value.int IntKind.u8 ((c + (x * y + z)) % 256)) W ∧
                                                                        Sem.run Sagg.prog (Instr.indexAt 91 (Value.slice (some { block := w.heap.size, off := 0 }) (n + m) (n + m)) (Value.int IntKind.i64 ↑(i + j))) W = Result.ok (Value.pointer (some { block := w.heap.size, off := i + j })) W ∧
                                                                          Sem.run Sagg.prog
                                                                                (do
                                                                                  storeVar 5 { block := w.heap.size, off := i + j } (Value.int IntKind.u8 ((c + (x * y + z)) % 256))
                                                                                  pure undef)
                                                                                W =
                                                                              Result.ok (Value.tuple { toList := [] }) (W.setRow w.heap.size { toList := List.map (Value.int IntKind.u8) (cur_1.set (i + j) ((c + (x * y + z)) % 256)) }) ∧
                                                                            Sem.run Sagg.prog (binOp BinOp.shr 80 (Value.int IntKind.u32 (c + (x * y + z))) (Value.int IntKind.u64 8)) (W.setRow w.heap.size { toList := List.map (Value.int IntKind.u8) (cur_1.set (i + j) ((c + (x * y + z)) % 256)) }) = Result.ok (Value.int IntKind.u32 ((c + (x * y + z)) / 256)) (W.setRow w.heap.size { toList := List.map (Value.int IntKind.u8) (cur_1.set (i + j) ((c + (x * y + z)) % 256)) }) ∧ Sem.run Sagg.prog (binOp BinOp.add 3 (Value.int IntKind.i64 ↑j) (Value.int IntKind.i64 1)) (W.setRow w.heap.size { toList := List.map (Value.int IntKind.u8) (cur_1.set (i + j) ((c + (x * y + z)) % 256)) }) = Result.ok (Value.int IntKind.i64 ↑(j + 1)) (W.setRow w.heap.size { toList := List.map (Value.int IntKind.u8) (cur_1.set (i + j) ((c + (x * y + z)) % 256)) }) ∧ (∃ (j_1 : Nat), ∃ (c_1 : Int), ∃ (cur_2 : List Int), j_1 ≤ m ∧ [Value.int IntKind.u32 ((c + (x * y + z)) / 256), Value.int IntKind.i64 ↑(j + 1)] = [Value.int IntKind.u32 c_1, Value.int IntKind.i64 ↑j_1] ∧ In37 X Y n m (G37.c1 i x cur).i (G37.c1 i x cur).x j_1 c_1 cur_2 w ((fun (g : G37) (w_1 : World) => w_1.setRow w.heap.size (rowOf (g.cur.set (g.i + g.j) ((g.c + (g.x * g.y + g.z)) % 256)))) ((G37.c1 i x cur).d1 j c cur_1 y z) W)) ∧ m - (((j + 1) : Nat) : Int).toNat < m - ((j : Nat) : Int).toNat) ∧
                                  ∀ (k : Nat) (c : Int) (cur_1 : List Int) (W : World),
                                    k = m →
                                      In37 X Y n m i x k c cur_1 w W →
                                        Sem.run Sagg.prog (binOp BinOp.lss 3 (Value.int IntKind.i64 ↑k) (Value.int IntKind.i64 ↑m)) W = Result.ok (Value.bool false) W ∧
                                          Sem.run Sagg.prog (binOp BinOp.add 3 (Value.int IntKind.i64 ↑i) (Value.int IntKind.i64 ↑m)) W = Result.ok (Value.int IntKind.i64 ↑(i + m)) W ∧
                                            Sem.run Sagg.prog (convert 80 5 (Value.int IntKind.u32 c)) W = Result.ok (Value.int IntKind.u8 (c % 256)) W ∧
                                              Sem.run Sagg.prog (Instr.indexAt 91 (Value.slice (some { block := w.heap.size, off := 0 }) (n + m) (n + m)) (Value.int IntKind.i64 ↑(i + m))) W = Result.ok (Value.pointer (some { block := w.heap.size, off := i + m })) W ∧
                                                Sem.run Sagg.prog
                                                      (do
                                                        storeVar 5 { block := w.heap.size, off := i + m } (Value.int IntKind.u8 (c % 256))
                                                        pure undef)
                                                      W =
                                                    Result.ok (Value.tuple { toList := [] }) (W.setRow w.heap.size { toList := List.map (Value.int IntKind.u8) (cur_1.set (i + m) (c % 256)) }) ∧
                                                  Sem.run Sagg.prog (binOp BinOp.add 3 (Value.int IntKind.i64 ↑i) (Value.int IntKind.i64 1)) (W.setRow w.heap.size { toList := List.map (Value.int IntKind.u8) (cur_1.set (i + m) (c % 256)) }) = Result.ok (Value.int IntKind.i64 ↑(i + 1)) (W.setRow w.heap.size { toList := List.map (Value.int IntKind.u8) (cur_1.set (i + m) (c % 256)) }) ∧ (∃ (i_1 : Nat), ∃ (cur_2 : List Int), i_1 ≤ n ∧ [Value.int IntKind.i64 ↑(i + 1)] = [Value.int IntKind.i64 ↑i_1] ∧ Mul37 X Y n m i_1 cur_2 w ((fun (g : G37) (w_1 : World) => w_1.setRow w.heap.size (rowOf (g.cur.set (g.i + m) (g.c % 256)))) ((G37.c1 i x cur).d2 c cur_1) W)) ∧ n - (((i + 1) : Nat) : Int).toNat < n - ((i : Nat) : Int).toNat) ∧
              ∀ (k : Nat) (cur : List Int) (W : World), k = n → Mul37 X Y n m k cur w W → Sem.run Sagg.prog (binOp BinOp.lss 3 (Value.int IntKind.i64 ↑k) (Value.int IntKind.i64 ↑n)) W = Result.ok (Value.bool false) W ∧ (CallOK Sagg.prog 109 { toList := [Value.slice (some { block := w.heap.size, off := 0 }) (n + m) (n + m)] } W fun (C : G37 → Value → World → Prop) => C (G37.c2 cur) (clipped (some { block := w.heap.size, off := 0 }) cur) W) ∧ (postN (val X * val Y) w) (Ending.returned (resVal [rho [(70, clipped (some { block := w.heap.size, off := 0 }) cur), (69, Value.slice (some { block := w.heap.size, off := 0 }) (n + m) (n + m)), (24, Value.bool false), (23, Value.int IntKind.i64 ↑k), (22, Value.int IntKind.i64 ↑n), (21, Value.slice a n n), (5, Value.slice (some { block := w.heap.size, off := 0 }) (n + m) (n + m)), (20, Value.slice (some { block := w.heap.size, off := 0 }) (n + m) (n + m)), (19, Value.int IntKind.i64 ↑(n + m)), (18, Value.int IntKind.i64 ↑m), (17, Value.slice b m m), (16, Value.int IntKind.i64 ↑n), (15, Value.slice a n n), (1, Value.slice b m m), (14, Value.slice b m m), (13, Value.slice b lb cb), (0, Value.slice a n n), (12, Value.slice a n n), (11, Value.slice a la ca), (4, Value.slice none 0 0), (0, Value.slice a la ca), (1, Value.slice b lb cb)] (Operand.tmp 70)])) W) (by kernel_rfl) ?_
  exact ⟨(callSame ta), (callSame tb), (addN (by omega)), (make_n hM), ⟨0, _, Nat.zero_le _, rfl, mul37_start⟩, (loop37a_ok _ _ _ _ _ _ _), (fun i6 => (fun x7 => (fun cur8 => (fun W9 => (fun h10 => (fun h11 => (fun h12 => ⟨(lss_t (by omega)), (index_byte (i := i6) Sagg.underlying91 (s1 (by omega)).1 (by omega)), (load_byte (kept_cell (by first | exact (show Mul37 _ _ _ _ _ _ _ _ by assumption).below | exact (show In37 _ _ _ _ _ _ _ _ _ _ _ by assumption).below) ((s1 (by omega)).2 _ (by omega))) (by assumption)), ⟨0, 0, _, Nat.zero_le _, rfl, in37_start (by assumption)⟩, (loop37b_ok _ _ _ _ _ _ _), (fun j18 => (fun c19 => (fun cur20 => (fun y21 => (fun z22 => (fun W23 => (fun h24 => (fun h25 => (fun h26 => (fun h27 => ⟨(lss_t (by omega)), (index_byte (i := j18) Sagg.underlying91 (s2 (by omega)).1 (by omega)), (load_byte (kept_cell (show In37 _ _ _ _ _ _ _ _ _ _ _ by assumption).below ((s2 (by omega)).2 _ (by omega))) (by assumption)), (conv_i Sagg.underlying5 Sagg.underlying80 (wrap32 (by have := (t37 dX dY (by assumption) (by assumption) (by assumption) (show In37 _ _ _ _ _ _ _ _ _ _ _ by assumption)); omega) (by have := (t37 dX dY (by assumption) (by assumption) (by assumption) (show In37 _ _ _ _ _ _ _ _ _ _ _ by assumption)); omega))), (conv_i Sagg.underlying5 Sagg.underlying80 (wrap32 (by have := (t37 dX dY (by assumption) (by assumption) (by assumption) (show In37 _ _ _ _ _ _ _ _ _ _ _ by assumption)); omega) (by have := (t37 dX dY (by assumption) (by assumption) (by assumption) (show In37 _ _ _ _ _ _ _ _ _ _ _ by assumption)); omega))), (mul_i (wrap32 (by have := (t37 dX dY (by assumption) (by assumption) (by assumption) (show In37 _ _ _ _ _ _ _ _ _ _ _ by assumption)); omega) (by have := (t37 dX dY (by assumption) (by assumption) (by assumption) (show In37 _ _ _ _ _ _ _ _ _ _ _ by assumption)); omega))), (addN (by omega)), (index_new Sagg.underlying91 (by omega)), (load_byte (cell_row (show In37 _ _ _ _ _ _ _ _ _ _ _ by assumption).row (by rw [(show In37 _ _ _ _ _ _ _ _ _ _ _ by assumption).len]; omega)) (by assumption)), (conv_i Sagg.underlying5 Sagg.underlying80 (wrap32 (by have := (t37 dX dY (by assumption) (by assumption) (by assumption) (show In37 _ _ _ _ _ _ _ _ _ _ _ by assumption)); omega) (by have := (t37 dX dY (by assumption) (by assumption) (by assumption) (show In37 _ _ _ _ _ _ _ _ _ _ _ by assumption)); omega))), (add_i (wrap32 (by have := (t37 dX dY (by assumption) (by assumption) (by assumption) (show In37 _ _ _ _ _ _ _ _ _ _ _ by assumption)); omega) (by have := (t37 dX dY (by assumption) (by assumption) (by assumption) (show In37 _ _ _ _ _ _ _ _ _ _ _ by assumption)); omega))), (add_i (wrap32 (by have := (t37 dX dY (by assumption) (by assumption) (by assumption) (show In37 _ _ _ _ _ _ _ _ _ _ _ by assumption)); omega) (by have := (t37 dX dY (by assumption) (by assumption) (by assumption) (show In37 _ _ _ _ _ _ _ _ _ _ _ by assumption)); omega))), (addN (by omega)), (conv_i Sagg.underlying80 Sagg.underlying5 wrap8), (index_new Sagg.underlying91 (by omega)), (store_byte (show In37 _ _ _ _ _ _ _ _ _ _ _ by assumption).row (by rw [(show In37 _ _ _ _ _ _ _ _ _ _ _ by assumption).len]; omega)), (shr_i (by omega) (shr32 (by have := (t37 dX dY (by assumption) (by assumption) (by assumption) (show In37 _ _ _ _ _ _ _ _ _ _ _ by assumption)); omega))), (inc_i (m := 281474976710000) (by omega) (by omega)), ⟨_, _, _, Nat.succ_le_of_lt (by omega), rfl, in37_next dX dY (by first | assumption | omega) (by omega) lY (by assumption) (by assumption) (by assumption) (by assumption)⟩, (by simp [intOf]; omega)⟩)))))))))), (fun k48 => (fun c49 => (fun cur50 => (fun W51 => (fun h52 => (fun h53 => ⟨(lss_f (by omega)), (addN (by omega)), (conv_i Sagg.underlying80 Sagg.underlying5 wrap8), (index_new Sagg.underlying91 (by omega)), (store_byte (show In37 _ _ _ _ _ _ _ _ _ _ _ by assumption).row (by rw [(show In37 _ _ _ _ _ _ _ _ _ _ _ by assumption).len]; omega)), (inc_i (m := 281474976710000) (by omega) (by omega)), ⟨_, _, Nat.succ_le_of_lt (by omega), rfl, mul37_next (by omega) lX lY (by assumption) (by have hh := (show In37 _ _ _ _ _ _ _ _ _ _ _ by assumption); have hk := (show _ = m by assumption); rwa [hk] at hh)⟩, (by simp [intOf]; omega)⟩))))))⟩))))))), (fun k62 => (fun cur63 => (fun W64 => (fun h65 => (fun h66 => ⟨(lss_f (by omega)), (callSame (clip_calls _ _ _ _ _ (show Mul37 _ _ _ _ _ _ _ _ by assumption).len (Nat.le_refl _) (by unfold maxLen; omega) (RowAt.byteRow (show Mul37 _ _ _ _ _ _ _ _ by assumption).row (show Mul37 _ _ _ _ _ _ _ _ by assumption).dig))), ⟨_, rfl, mul37_end lX (by assumption) (by assumption) hM, (show Mul37 _ _ _ _ _ _ _ _ by assumption).below⟩⟩)))))⟩

theorem mul_calls (a b : Option Addr) (la ca lb cb : Nat) (xs ys : List Int) (w : World) (hla : xs.length = la) (hlb : ys.length = lb) (hca : la ≤ ca) (hcb : lb ≤ cb) (hma : ca ≤ maxLen) (hmb : cb ≤ maxLen) (hM : la + lb ≤ 281474976710000) (hx : ByteRow w a xs) (hy : ByteRow w b ys) :
    Calls Sagg.prog 77 #[.slice a la ca, .slice b lb cb] w fun e w' => ∃ v, e = .returned v ∧ IsF w.heap.size w' v (val xs * val ys) ∧ Below w.heap.size w w' := by
  obtain ⟨b1, o1, s1⟩ := byte_block hx.trimL rfl
  obtain ⟨b2, o2, s2⟩ := byte_block hy.trimL rfl
  have h1 := trimL_le xs
  have h2 := trimL_le ys
  have := mul_core a b la ca lb cb b1 o1 b2 o2 _ _ (trimL xs) (trimL ys) w (trim_calls a la ca xs w hla hca hma hx) (trim_calls b lb cb ys w hlb hcb hmb hy) rfl rfl hx.1.trimL hy.1.trimL (by omega) s1 s2
  rwa [val_trimL, val_trimL] at this
end Go.Proofs.YgcsagGreat
