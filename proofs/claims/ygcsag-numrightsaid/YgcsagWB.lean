/-
  'FromBE' AND 'addTo'.
-/
import Derived.Test.YgcsagWA
namespace Go.Proofs.Ygcsag
open Go.RowKit
set_option linter.unusedVariables false
set_option linter.unusedSimpArgs false

theorem below_calls (a1 a2 : Option Addr) (n c1 m c2 : Nat) (xs ys : List Int) (w : World) (l1 : xs.length = n) (l2 : ys.length = m) (h63 : n ≤ 9223372036854775807) (h1 : ByteRow w a1 xs) (h2 : ByteRow w a2 ys) :
    Calls Sagg.prog 47 #[.slice a1 n c1, .slice a2 m c2] w fun e w' => e = .returned (.bool (ltB xs ys)) ∧ w' = w := by
  obtain ⟨b1, o1, s1⟩ := byte_block h1 l1
  obtain ⟨b2, o2, s2⟩ := byte_block h2 l2
  exact below_core a1 a2 b1 o1 b2 o2 n c1 m c2 xs ys w l1 l2 h63 s1 s2

/-- The number of a byte string, highest byte first. -/
def valB (zs : List Int) : Int := val zs.reverse

theorem byte_less {a b : Int} (ha : 0 ≤ a ∧ a < 256) (hb : 0 ≤ b ∧ b < 256) : (UInt8.ofNat a.toNat < UInt8.ofNat b.toNat ↔ a < b) ∧ (UInt8.ofNat a.toNat = UInt8.ofNat b.toNat ↔ a = b) := by
  have h1 : (UInt8.ofNat a.toNat).toNat = a.toNat := by simp [UInt8.toNat_ofNat']; omega
  have h2 : (UInt8.ofNat b.toNat).toNat = b.toNat := by simp [UInt8.toNat_ofNat']; omega
  constructor
  · rw [UInt8.lt_iff_toNat_lt, h1, h2]; omega
  · rw [← UInt8.toNat_inj, h1, h2]; omega
theorem less_ltB : ∀ {xs ys : List Int}, Dig xs → Dig ys → xs.length = ys.length → Op.bytesLess (xs.map fun n => UInt8.ofNat n.toNat) (ys.map fun n => UInt8.ofNat n.toNat) = ltB xs ys
  | [], [], _, _, _ => rfl
  | x :: xs, y :: ys, hx, hy, hl => by
    have ih := less_ltB hx.tail hy.tail (by simpa using hl)
    obtain ⟨h1, h2⟩ := byte_less hx.head hy.head
    simp only [List.map_cons, Op.bytesLess, ltB, ih]
    by_cases e : x = y
    · subst e; simp
    · have : ¬ UInt8.ofNat x.toNat = UInt8.ofNat y.toNat := fun h => e (h2.1 h)
      simp [e, this, h1]
theorem toList_str (xs : List Int) : (strOfNums xs).toList = xs.map fun n => UInt8.ofNat n.toNat := by
  rw [ByteArray.toList_eq]; exact strOfNums_data xs
theorem run_geq_str {P : Program} {t : TypeId} (x y : ByteArray) (w : World) : (binOp .geq t (.string x) (.string y)).run P w = .ok (.bool (!(Op.bytesLess x.toList y.toList))) w := by
  simp [binOp, Op.stringOp]
theorem geqstr {P : Program} {t : TypeId} {xs ys : List Int} (hx : Dig xs) (hy : Dig ys) (hl : xs.length = ys.length) {b : Bool} (h : ltB xs ys = !b) {w : World} : (binOp .geq t (.string (strOfNums xs)) (.string (strOfNums ys))).run P w = .ok (.bool b) w := by
  rw [run_geq_str, toList_str, toList_str, less_ltB hx hy hl, h, Bool.not_not]

/-- A byte is stored. -/
theorem store_byte {w : World} {g i : Nat} {tt : TypeId} {cur : List Int} {x : Int} (hg : w.heap[g]? = some (.cells (rowOf cur) tt (0, 0))) (hi : i < cur.length) :
    (do storeVar 5 ⟨g, i, none⟩ (.int .u8 x); pure undef : Sem Value).run Sagg.prog w = .ok undef (w.setRow g (rowOf (cur.set i x))) := by
  have h1 := run_storeCells_at (P := Sagg.prog) g i tt [.int .u8 x] 0 (rowOf cur) w hg (by rw [rowOf_size]; simp; omega) (by simp [Value.oneCell'])
  have e : ((rowOf cur).toList.take (i + 0) ++ [Value.int .u8 x] ++ (rowOf cur).toList.drop (i + 0 + [Value.int .u8 x].length)).toArray = rowOf (cur.set i x) := by
    simp only [rowOf, Nat.add_zero, List.length_cons, List.length_nil, Nat.zero_add, List.map_set]
    rw [List.set_eq_take_append_cons_drop, if_pos (by simpa using hi)]
    simp
  rw [e] at h1
  have h2 : (storeVar 5 ⟨g, i, none⟩ (.int .u8 x)).run Sagg.prog w = .ok () (w.setRow g (rowOf (cur.set i x))) := by
    simp [storeVar, size5' w, Value.cells, h1]
  simp [h2]
theorem kept_row {B g : Nat} {w w' : World} (h : Below B w w') (hg : B ≤ g) (cs : Array Value) : Below B w (w'.setRow g cs) :=
  ⟨h.os, h.tape, h.output, by rw [setRow_size]; exact h.size, fun k hk => by rw [setRow_other _ _ _ _ (by omega)]; exact h.block k hk⟩
theorem kept_drew {B : Nat} {w w' : World} (h : Below B w w') (m : Nat) : Below B w (w'.drewN m) := ⟨h.os, h.tape, h.output, h.size, h.block⟩

/-! ### FromBE -/
structure G48 where
  k : Nat := 0
  x : Int := 0
  more : Bool := false
  z : Bool := false
  i : Nat := 0
  cur : List Int := []
  y : Int := 0
  more2 : Bool := false
def G48.c1 (k : Nat) (x : Int) : G48 := { k := k, x := x, more := true, z := true }
def G48.c2 (k : Nat) (x : Int) : G48 := { k := k, x := x, more := true, z := false }
def G48.c3 (k : Nat) : G48 := { k := k, more := false }
def G48.d1 (g : G48) (i : Nat) (cur : List Int) (y : Int) : G48 := { g with i := i, cur := cur, y := y, more2 := true }
def G48.d2 (g : G48) (i : Nat) (cur : List Int) : G48 := { g with i := i, cur := cur, more2 := false }
structure lead (zs : List Int) (k : Nat) : Prop where
  all : ∀ j, j < k → zs.getD j 0 = 0
def loop48a (zs : List Int) (n : Nat) : LoopTip G48 where
  slots := [3]
  inv := fun _ w us w' => ∃ k : Nat, k ≤ n ∧ us = [.int .i64 k] ∧ w' = w ∧ lead zs k
  T := fun _ w C => (∀ (k : Nat) (x : Int), k < n → zs.getD k 0 = x → lead zs k → (x = 0 → C (G48.c1 k x) [.int .i64 k] w) ∧ (x ≠ 0 → C (G48.c2 k x) [.int .i64 k] w)) ∧
    (∀ k : Nat, k = n → lead zs k → C (G48.c3 k) [.int .i64 k] w)
  mu := fun _ us _ => n - (intOf (us.headD undef)).toNat
theorem loop48a_ok (zs : List Int) (n : Nat) (g : G48) (w : World) : LoopOK (loop48a zs n) g w := by
  rintro C ⟨h2, h3⟩ us w' - ⟨k, hk, rfl, rfl, ht⟩
  by_cases hlt : k < n
  · obtain ⟨c1, c2⟩ := h2 k _ hlt rfl ht
    by_cases e : zs.getD k 0 = 0
    · exact ⟨_, c1 e⟩
    · exact ⟨_, c2 e⟩
  · exact ⟨_, h3 k (by omega) ht⟩
structure Made48 (zs : List Int) (n k i : Nat) (cur : List Int) (w0 W : World) : Prop where
  len : cur.length = n - k
  dig : Dig cur
  done : ∀ j, j < i → cur.getD j 0 = zs.getD (n - 1 - j) 0
  below : Below w0.heap.size w0 W
  row : W.heap[w0.heap.size]? = some (.cells (rowOf cur) 5 (0, 0))
def loop48b (zs : List Int) (n : Nat) (w0 : World) : LoopTip G48 where
  slots := [30]
  inv := fun g w us w' => ∃ (i : Nat) (cur : List Int), i ≤ n - g.k ∧ us = [.int .i64 i] ∧ Made48 zs n g.k i cur w0 w'
  T := fun g w C => ∀ (i : Nat) (cur : List Int) (W : World), Made48 zs n g.k i cur w0 W → (∀ y, i < n - g.k → zs.getD (n - 1 - i) 0 = y → C (G48.d1 g i cur y) [.int .i64 i] W) ∧ (i = n - g.k → C (G48.d2 g i cur) [.int .i64 i] W)
  mu := fun g us _ => n - g.k - (intOf (us.headD undef)).toNat
theorem loop48b_ok (zs : List Int) (n : Nat) (w0 : World) (g : G48) (w : World) : LoopOK (loop48b zs n w0) g w := by
  rintro C h us w' - ⟨i, cur, hi, rfl, hm⟩
  obtain ⟨h1, h2⟩ := h i cur w' hm
  by_cases hlt : i < n - g.k
  · exact ⟨_, h1 _ hlt rfl⟩
  · exact ⟨_, h2 (by omega)⟩
def tips48 (b o : Nat) (zs : List Int) (n : Nat) (w0 : World) : Tips G48 where
  ops := [(9, { val := some fun g => .bool g.more }), (13, { val := some fun g => .pointer (some ⟨b, o + g.k, none⟩) }), (14, { val := some fun g => .int .u8 g.x }), (15, { val := some fun g => .bool g.z }), (18, { val := some fun g => .int .i64 (g.k + 1 : Nat) }),
    (22, { val := some fun g => .bool (!g.more) }), (26, { val := some fun g => .int .i64 (n - g.k : Nat) }), (27, { val := some fun g => .slice (some ⟨w0.heap.size, 0, none⟩) (n - g.k) (n - g.k), wld := some fun g w => w.alloc (.cells (rowOf (zeros (n - g.k))) 5) }),
    (31, { val := some fun g => .bool g.more2 }), (38, { val := some fun g => .int .i64 (n - 1 : Nat) }), (40, { val := some fun g => .int .i64 (n - 1 - g.i : Nat) }), (41, { val := some fun g => .pointer (some ⟨b, o + (n - 1 - g.i), none⟩) }),
    (42, { val := some fun g => .int .u8 g.y }), (43, { val := some fun g => .pointer (some ⟨w0.heap.size, g.i, none⟩) }), (1010011, { val := some fun g => undef, wld := some fun g w => w.setRow w0.heap.size (rowOf (g.cur.set g.i g.y)) }), (44, { val := some fun g => .int .i64 (g.i + 1 : Nat) })]
  loops := [(2, loop48a zs n), (8, loop48b zs n w0)]
def post48 (zs : List Int) (w : World) : Ending → World → Prop := fun e w' => ∃ v, e = .returned v ∧ IsN w' v (valB zs) ∧ Below w.heap.size w w'
theorem lead_next {zs : List Int} {k : Nat} {x : Int} (h : lead zs k) (hx : zs.getD k 0 = x) (e : x = 0) : lead zs (k + 1) := ⟨fun j hj => by
  rcases Nat.lt_or_ge j k with h1 | h1
  · exact h.all j h1
  · rw [show j = k by omega, hx, e]⟩
theorem lead_take {zs : List Int} {k : Nat} (h : lead zs k) (hk : k ≤ zs.length) : zs.take k = List.replicate k 0 := by
  apply List.ext_getElem
  · simp; omega
  · intro j h1 h2
    have := h.all j (by simpa using h2)
    rw [List.getD_eq_getElem?_getD, List.getElem?_eq_getElem (by simp at h1; omega)] at this
    simpa using this
theorem lead_val {zs : List Int} {k : Nat} (h : lead zs k) (hk : k ≤ zs.length) : valB zs = val (zs.drop k).reverse := by
  unfold valB
  conv => lhs; rw [← List.take_append_drop k zs]
  rw [List.reverse_append, val_append, lead_take h hk, List.reverse_replicate, val_zeros]
  simp
theorem made_all {zs cur : List Int} {n k i : Nat} {w0 W : World} (hl : zs.length = n) (hm : Made48 zs n k i cur w0 W) (hi : i = n - k) (hk : k < n) : cur = (zs.drop k).reverse := by
  apply List.ext_getElem
  · simp [hm.len, hl]
  · intro j h1 h2
    have hj : j < n - k := by rw [← hm.len]; exact h1
    have := hm.done j (by omega)
    rw [List.getD_eq_getElem?_getD, List.getD_eq_getElem?_getD, List.getElem?_eq_getElem h1, List.getElem?_eq_getElem (by omega)] at this
    simp only [Option.getD_some] at this
    rw [this, List.getElem_reverse, List.getElem_drop]
    congr 1
    simp
    omega
theorem fin48_z {zs : List Int} {n k : Nat} {w : World} (hl : zs.length = n) (hk : k = n) (h : lead zs k) : post48 zs w (.returned (.slice none 0 0)) w := by
  refine ⟨_, rfl, ⟨[], ⟨none, 0, rfl, Nat.le_refl _, by unfold maxLen; omega, ByteRow.nil _ _⟩, by simp [Norm], ?_, fun _ => rfl⟩, Below.refl _ _⟩
  rw [lead_val h (by omega), List.drop_eq_nil_of_le (by omega)]
  rfl
theorem fin48_n {zs cur : List Int} {n k i : Nat} {x : Int} {w W : World} (hl : zs.length = n) (hk : k < n) (hn : n ≤ 281474976710000) (h : lead zs k) (hx : zs.getD k 0 = x) (h0 : x ≠ 0) (hm : Made48 zs n k i cur w W) (hi : i = n - k) :
    post48 zs w (.returned (.slice (some ⟨w.heap.size, 0, none⟩) (n - k) (n - k))) W := by
  have e := made_all hl hm hi hk
  refine ⟨_, rfl, ⟨cur, ⟨some ⟨w.heap.size, 0, none⟩, n - k, by rw [hm.len], by rw [hm.len]; omega, by unfold maxLen; omega, hm.dig, .inr ⟨_, _, rfl, fun j hj => ?_⟩⟩, ?_, ?_, fun e' => ?_⟩, hm.below⟩
  · have : ((rowOf cur)[j]?) = some (.int .u8 (cur.getD j 0)) := rowOf_get cur j hj
    simp [World.cell?, hm.row, this]
  · rw [e]
    unfold Norm
    rw [List.getLast?_reverse, List.head?_drop, List.getElem?_eq_getElem (by omega)]
    rw [List.getD_eq_getElem?_getD, List.getElem?_eq_getElem (by omega)] at hx
    simp at hx ⊢
    rw [hx]; exact h0
  · rw [e, lead_val h (by omega)]
  · have := hm.len
    rw [e'] at this
    simp at this
    omega
theorem made_next {zs cur : List Int} {n k i : Nat} {y : Int} {w0 W : World} (hd : Dig zs) (hi : i < n - k) (hm : Made48 zs n k i cur w0 W) (hy : zs.getD (n - 1 - i) 0 = y) : Made48 zs n k (i + 1) (cur.set i y) w0 (W.setRow w0.heap.size (rowOf (cur.set i y))) := by
  refine ⟨by rw [List.length_set]; exact hm.len, hm.dig.set i (by rw [← hy]; exact hd.getD _), fun j hj => ?_, kept_row hm.below (Nat.le_refl _) _, setRow_heap _ _ _ _ _ _ hm.row⟩
  rcases Nat.lt_or_ge j i with h1 | h1
  · rw [getD_set_ne _ _ _ _ (by omega)]; exact hm.done j h1
  · have : j = i := by omega
    subst this
    rw [getD_set_self _ _ _ (by rw [hm.len]; exact hi), hy]
theorem made_start {zs : List Int} {n k : Nat} {w : World} : Made48 zs n k 0 (zeros (n - k)) w (w.alloc (.cells (rowOf (zeros (n - k))) 5)) :=
  ⟨zeros_length _, Dig.zeros _, fun j hj => by omega, (Below.refl _ _).alloc (Nat.le_refl _) _, by
    show (w.heap.push _)[w.heap.size]? = _
    simp⟩
theorem index_new {t : TypeId} {g n c i : Nat} {w : World} (ht : Sagg.prog.underlying t = some (.slice 5)) (hi : i < n) :
    (Instr.indexAt t (.slice (some ⟨g, 0, none⟩) n c) (.int .i64 (i : Int))).run Sagg.prog w = .ok (.pointer (some ⟨g, i, none⟩)) w := by
  have := index_byte (t := t) (sa := some ⟨g, 0, none⟩) (c := c) (w := w) ht rfl hi
  rwa [Nat.zero_add] at this
theorem sub_n {a b : Nat} {t : TypeId} {w : World} (h : b ≤ a) (ha : a ≤ 9223372036854775807) : (binOp .sub t (.int .i64 a) (.int .i64 b)).run Sagg.prog w = .ok (.int .i64 (a - b : Nat)) w := sub_i (by rw [wrap64 (by omega) (by omega)]; omega)
theorem sub_1 {a : Nat} {t : TypeId} {w : World} (h : 1 ≤ a) (ha : a ≤ 9223372036854775807) : (binOp .sub t (.int .i64 a) (.int .i64 1)).run Sagg.prog w = .ok (.int .i64 (a - 1 : Nat)) w := sub_i (by rw [wrap64 (by omega) (by omega)]; omega)
theorem make_n {n : Nat} {w : World} (h : n ≤ 281474976710000) : (Instr.makeSlice 25 (.int .i64 (n : Int)) (.int .i64 (n : Int))).run Sagg.prog w = .ok (.slice (some ⟨w.heap.size, 0, none⟩) n n) (w.alloc (.cells (rowOf (zeros n)) 5)) := by
  have := make_bytes Sagg.underlying25 (n : Int) (by omega) (by omega) w
  rwa [Int.toNat_natCast] at this
theorem kept_cell {w0 W : World} {b o i : Nat} {v : Value} (hb : Below w0.heap.size w0 W) (h : w0.cell? ⟨b, o + i, none⟩ = some v) : W.cell? ⟨b, o + i, none⟩ = some v := by
  rw [hb.cell (p := ⟨b, o + i, none⟩) (cell_lt h)]; exact h

set_option maxRecDepth 100000 in
set_option maxHeartbeats 8000000 in
theorem fromBE_core (a : Option Addr) (b o n c : Nat) (zs : List Int) (w : World) (l : zs.length = n) (hd : Dig zs) (hn : n ≤ 281474976710000) (s : 0 < n → a = some ⟨b, o, none⟩ ∧ ∀ i, i < n → w.cell? ⟨b, o + i, none⟩ = some (.int .u8 (zs.getD i 0))) : Calls Sagg.prog 48 #[.slice a n c] w (post48 zs w) := by
  refine CX_calls (tips48 b o zs n w) {} (by kernel_rfl) Sagg.func48 rfl _ rfl (by kernel_rfl) ?_
  refine of_eq (p := (∃ k, k ≤ n ∧ [Value.int IntKind.i64 0] = [Value.int IntKind.i64 ↑k] ∧ w = w ∧ lead zs k) ∧
  LoopOK (loop48a zs n) { } w ∧
    (∀ (k : Nat) (x : Int),
        k < n →
          zs.getD k 0 = x →
            lead zs k →
              (x = 0 → Sem.run Sagg.prog (binOp BinOp.lss 3 (Value.int IntKind.i64 ↑k) (Value.int IntKind.i64 ↑n)) w = Result.ok (Value.bool true) w ∧ Sem.run Sagg.prog (Instr.indexAt 22 (Value.slice a n c) (Value.int IntKind.i64 ↑k)) w = Result.ok (Value.pointer (some { block := b, off := o + k })) w ∧ Sem.run Sagg.prog (loadVar 5 { block := b, off := o + k }) w = Result.ok (Value.int IntKind.u8 x) w ∧ Sem.run Sagg.prog (binOp BinOp.eql 5 (Value.int IntKind.u8 x) (Value.int IntKind.u8 0)) w = Result.ok (Value.bool true) w ∧ Sem.run Sagg.prog (binOp BinOp.add 3 (Value.int IntKind.i64 ↑k) (Value.int IntKind.i64 1)) w = Result.ok (Value.int IntKind.i64 ↑(k + 1)) w ∧ (∃ k_1, k_1 ≤ n ∧ [Value.int IntKind.i64 ↑(k + 1)] = [Value.int IntKind.i64 ↑k_1] ∧ w = w ∧ lead zs k_1) ∧ n - (((k + 1) : Nat) : Int).toNat < n - ((k : Nat) : Int).toNat) ∧
                (x ≠ 0 →
                  Sem.run Sagg.prog (binOp BinOp.lss 3 (Value.int IntKind.i64 ↑k) (Value.int IntKind.i64 ↑n)) w = Result.ok (Value.bool true) w ∧
                    Sem.run Sagg.prog (Instr.indexAt 22 (Value.slice a n c) (Value.int IntKind.i64 ↑k)) w = Result.ok (Value.pointer (some { block := b, off := o + k })) w ∧
                      Sem.run Sagg.prog (loadVar 5 { block := b, off := o + k }) w = Result.ok (Value.int IntKind.u8 x) w ∧
                        Sem.run Sagg.prog (binOp BinOp.eql 5 (Value.int IntKind.u8 x) (Value.int IntKind.u8 0)) w = Result.ok (Value.bool false) w ∧
                          Sem.run Sagg.prog (binOp BinOp.eql 3 (Value.int IntKind.i64 ↑k) (Value.int IntKind.i64 ↑n)) w = Result.ok (Value.bool false) w ∧
                            Sem.run Sagg.prog (binOp BinOp.sub 3 (Value.int IntKind.i64 ↑n) (Value.int IntKind.i64 ↑k)) w = Result.ok (Value.int IntKind.i64 ↑(n - k)) w ∧
                              Sem.run Sagg.prog (Instr.makeSlice 25 (Value.int IntKind.i64 ↑(n - k)) (Value.int IntKind.i64 ↑(n - k))) w = Result.ok (Value.slice (some { block := w.heap.size, off := 0 }) (n - k) (n - k)) (w.alloc (Obj.cells { toList := List.map (Value.int IntKind.u8) (zeros (n - k)) } 5)) ∧
                                (∃ i cur, i ≤ n - k ∧ [Value.int IntKind.i64 0] = [Value.int IntKind.i64 ↑i] ∧ Made48 zs n (G48.c2 k x).k i cur w ((fun g w => w.alloc (Obj.cells (rowOf (zeros (n - g.k))) 5)) (G48.c2 k x) w)) ∧
                                  LoopOK (loop48b zs n w) (G48.c2 k x) (w.alloc (Obj.cells { toList := List.map (Value.int IntKind.u8) (zeros (n - k)) } 5)) ∧
                                    ∀ (i : Nat) (cur : List Int) (W : World),
                                      Made48 zs n k i cur w W →
                                        (∀ (y : Int),
                                            i < n - k →
                                              zs.getD (n - 1 - i) 0 = y →
                                                Sem.run Sagg.prog (binOp BinOp.lss 3 (Value.int IntKind.i64 ↑i) (Value.int IntKind.i64 ↑(n - k))) W = Result.ok (Value.bool true) W ∧
                                                  Sem.run Sagg.prog (binOp BinOp.sub 3 (Value.int IntKind.i64 ↑n) (Value.int IntKind.i64 1)) W = Result.ok (Value.int IntKind.i64 ↑(n - 1)) W ∧
                                                    Sem.run Sagg.prog (binOp BinOp.sub 3 (Value.int IntKind.i64 ↑(n - 1)) (Value.int IntKind.i64 ↑i)) W = Result.ok (Value.int IntKind.i64 ↑(n - 1 - i)) W ∧
                                                      Sem.run Sagg.prog (Instr.indexAt 22 (Value.slice a n c) (Value.int IntKind.i64 ↑(n - 1 - i))) W = Result.ok (Value.pointer (some { block := b, off := o + (n - 1 - i) })) W ∧
                                                        Sem.run Sagg.prog (loadVar 5 { block := b, off := o + (n - 1 - i) }) W = Result.ok (Value.int IntKind.u8 y) W ∧
                                                          Sem.run Sagg.prog (Instr.indexAt 25 (Value.slice (some { block := w.heap.size, off := 0 }) (n - k) (n - k)) (Value.int IntKind.i64 ↑i)) W = Result.ok (Value.pointer (some { block := w.heap.size, off := i })) W ∧
                                                            Sem.run Sagg.prog
                                                                  (do
                                                                    storeVar 5 { block := w.heap.size, off := i } (Value.int IntKind.u8 y)
                                                                    pure undef)
                                                                  W =
                                                                Result.ok (Value.tuple { toList := [] }) (W.setRow w.heap.size { toList := List.map (Value.int IntKind.u8) (cur.set i y) }) ∧
                                                              Sem.run Sagg.prog (binOp BinOp.add 3 (Value.int IntKind.i64 ↑i) (Value.int IntKind.i64 1)) (W.setRow w.heap.size { toList := List.map (Value.int IntKind.u8) (cur.set i y) }) = Result.ok (Value.int IntKind.i64 ↑(i + 1)) (W.setRow w.heap.size { toList := List.map (Value.int IntKind.u8) (cur.set i y) }) ∧ (∃ i_1 cur_1, i_1 ≤ n - k ∧ [Value.int IntKind.i64 ↑(i + 1)] = [Value.int IntKind.i64 ↑i_1] ∧ Made48 zs n (G48.c2 k x).k i_1 cur_1 w ((fun g w_1 => w_1.setRow w.heap.size (rowOf (g.cur.set g.i g.y))) ((G48.c2 k x).d1 i cur y) W)) ∧ n - k - (((i + 1) : Nat) : Int).toNat < n - k - ((i : Nat) : Int).toNat) ∧
                                          (i = n - k → Sem.run Sagg.prog (binOp BinOp.lss 3 (Value.int IntKind.i64 ↑i) (Value.int IntKind.i64 ↑(n - k))) W = Result.ok (Value.bool false) W ∧ (post48 zs w) (Ending.returned (Value.slice (some { block := w.heap.size, off := 0 }) (n - k) (n - k))) W))) ∧
      ∀ (k : Nat), k = n → lead zs k → Sem.run Sagg.prog (binOp BinOp.lss 3 (Value.int IntKind.i64 ↑k) (Value.int IntKind.i64 ↑n)) w = Result.ok (Value.bool false) w ∧ Sem.run Sagg.prog (binOp BinOp.eql 3 (Value.int IntKind.i64 ↑k) (Value.int IntKind.i64 ↑n)) w = Result.ok (Value.bool true) w ∧ (post48 zs w) (Ending.returned (Value.slice none 0 0)) w) (by kernel_rfl) ?_
  exact ⟨⟨0, Nat.zero_le _, rfl, rfl, ⟨fun j hj => by omega⟩⟩, (loop48a_ok _ _ _ _), (fun k2 => (fun x3 => (fun h4 => (fun h5 => (fun h6 => ⟨(fun h7 => ⟨(lss_t (by omega)), (index_byte (i := k2) Sagg.underlying22 (s (by omega)).1 (by omega)), (load_byte ((s (by omega)).2 _ (by omega)) (by assumption)), (eql_t (by omega)), (inc_i (m := n) (by omega) (by omega)), ⟨_, Nat.succ_le_of_lt (by omega), rfl, rfl, lead_next (by assumption) (by assumption) (by assumption)⟩, (by simp [intOf]; omega)⟩), (fun h15 => ⟨(lss_t (by omega)), (index_byte (i := k2) Sagg.underlying22 (s (by omega)).1 (by omega)), (load_byte ((s (by omega)).2 _ (by omega)) (by assumption)), (eql_f (by omega)), (eql_f (by omega)), (sub_n (by omega) (by omega)), (make_n (by omega)), ⟨0, _, Nat.zero_le _, rfl, made_start⟩, (loop48b_ok _ _ _ _ _), (fun i25 => (fun cur26 => (fun W27 => (fun h28 => ⟨(fun y29 => (fun h30 => (fun h31 => ⟨(lss_t (by omega)), (sub_1 (by omega) (by omega)), (sub_n (by omega) (by omega)), (index_byte (i := (n - 1 - i25)) Sagg.underlying22 (s (by omega)).1 (by omega)), (load_byte (kept_cell (show Made48 _ _ _ _ _ _ W27 by assumption).below ((s (by omega)).2 _ (by omega))) (by assumption)), (index_new Sagg.underlying25 (by omega)), (store_byte (show Made48 _ _ _ _ _ _ _ by assumption).row (by rw [(show Made48 _ _ _ _ _ _ _ by assumption).len]; omega)), (inc_i (m := n) (by omega) (by omega)), ⟨_, _, Nat.succ_le_of_lt (by omega), rfl, made_next hd (by assumption) (by assumption) (by assumption)⟩, (by simp [intOf]; omega)⟩))), (fun h42 => ⟨(lss_f (by omega)), (fin48_n l (by assumption) hn (by assumption) (by assumption) (by assumption) (by assumption) (by assumption))⟩)⟩))))⟩)⟩))))), (fun k45 => (fun h46 => (fun h47 => ⟨(lss_f (by omega)), (eql_t (by omega)), (fin48_z l (by assumption) (by assumption))⟩)))⟩
end Go.Proofs.Ygcsag
