/-
  ORDER AND NUMBERS OF BYTE STRINGS: 'below', 'FromBE'.
-/
import Derived.Test.YgcsagSameG
import Derived.Test.YgcsagNatC
namespace Go.Proofs.Ygcsag
open Go.RowKit
set_option linter.unusedVariables false
set_option linter.unusedSimpArgs false

/-- a stands before b. -/
def ltB : List Int → List Int → Bool
  | x :: a, y :: b => if x = y then ltB a b else decide (x < y)
  | _, _ => false

theorem ltB_take : ∀ {a b : List Int} {k : Nat}, a.take k = b.take k → ltB a b = ltB (a.drop k) (b.drop k)
  | a, b, 0, _ => rfl
  | [], [], k + 1, _ => rfl
  | [], y :: b, k + 1, h => by simp at h
  | x :: a, [], k + 1, h => by simp at h
  | x :: a, y :: b, k + 1, h => by
    simp only [List.take_succ_cons, List.cons.injEq] at h
    obtain ⟨rfl, h⟩ := h
    simp only [ltB, if_true, List.drop_succ_cons]
    exact ltB_take h
theorem ltB_at {a b : List Int} {k : Nat} (h : a.take k = b.take k) (ha : k < a.length) (hb : k < b.length) : ltB a b = if a.getD k 0 = b.getD k 0 then ltB (a.drop (k + 1)) (b.drop (k + 1)) else decide (a.getD k 0 < b.getD k 0) := by
  rw [ltB_take h, drop_getD_cons a k ha, drop_getD_cons b k hb, ltB]

/-- A row of bytes in a block. -/
theorem byte_block {w : World} {a : Option Addr} {zs : List Int} {n : Nat} (h : ByteRow w a zs) (hl : zs.length = n) : ∃ b off, 0 < n → a = some ⟨b, off, none⟩ ∧ ∀ i, i < n → w.cell? ⟨b, off + i, none⟩ = some (.int .u8 (zs.getD i 0)) := by
  rcases h with ⟨hd, h0 | ⟨b, off, ha, hc⟩⟩
  · exact ⟨0, 0, fun h => by subst h0; simp at hl; omega⟩
  · exact ⟨b, off, fun _ => ⟨ha, by rw [← hl]; exact hc⟩⟩
theorem isz5 : (Sagg.prog.info? 5).map (·.size) = some 1 := by kernel_rfl
theorem index_byte {t : TypeId} {sa : Option Addr} {bk o n c i : Nat} {w : World} (ht : Sagg.prog.underlying t = some (.slice 5)) (ha : sa = some ⟨bk, o, none⟩) (hi : i < n) :
    (Instr.indexAt t (.slice sa n c) (.int .i64 (i : Int))).run Sagg.prog w = .ok (.pointer (some ⟨bk, o + i, none⟩)) w := by
  have := index_slice (P := Sagg.prog) (t := t) (w := w) (c := c) ht isz5 ha hi
  rwa [Nat.mul_one] at this
theorem load_byte {w : World} {b o : Nat} {x y : Int} (h : w.cell? ⟨b, o, none⟩ = some (.int .u8 y)) (e : y = x) : (loadVar 5 ⟨b, o, none⟩).run Sagg.prog w = .ok (.int .u8 x) w := by subst e; exact load_one agg5' h

structure G47 where
  k : Nat := 0
  x : Int := 0
  y : Int := 0
  more : Bool := false
  inb : Bool := false
  ne : Bool := false
  lt : Bool := false
def G47.c1 (k : Nat) (x y : Int) : G47 := { k := k, x := x, y := y, more := true, inb := false }
def G47.c2 (k : Nat) (x y : Int) : G47 := { k := k, x := x, y := y, more := true, inb := true, ne := false }
def G47.c3 (k : Nat) (x y : Int) : G47 := { k := k, x := x, y := y, more := true, inb := true, ne := true, lt := false }
def G47.c4 (k : Nat) (x y : Int) : G47 := { k := k, x := x, y := y, more := true, inb := true, ne := true, lt := true }
def G47.c5 (k : Nat) : G47 := { k := k }
def loop47 (xs ys : List Int) (n m : Nat) : LoopTip G47 where
  slots := [9]
  inv := fun _ w us w' => ∃ k : Nat, k ≤ n ∧ k ≤ m ∧ us = [.int .i64 k] ∧ w' = w ∧ xs.take k = ys.take k
  T := fun _ w C => (∀ (k : Nat) (x y : Int), k < n → xs.getD k 0 = x → ys.getD k 0 = y → xs.take k = ys.take k → (¬ k < m → C (G47.c1 k x y) [.int .i64 k] w) ∧
      (k < m → x = y → C (G47.c2 k x y) [.int .i64 k] w) ∧ (k < m → y < x → C (G47.c3 k x y) [.int .i64 k] w) ∧ (k < m → x < y → C (G47.c4 k x y) [.int .i64 k] w)) ∧
    (∀ k : Nat, k = n → k ≤ m → xs.take k = ys.take k → C (G47.c5 k) [.int .i64 k] w)
  mu := fun _ us _ => n - (intOf (us.headD undef)).toNat
theorem loop47_ok (xs ys : List Int) (n m : Nat) (g : G47) (w : World) : LoopOK (loop47 xs ys n m) g w := by
  rintro C ⟨h2, h3⟩ us w' - ⟨k, hk, hm, rfl, rfl, ht⟩
  by_cases hlt : k < n
  · obtain ⟨c1, c2, c3, c4⟩ := h2 k _ _ hlt rfl rfl ht
    by_cases hm2 : k < m
    · rcases Int.lt_trichotomy (xs.getD k 0) (ys.getD k 0) with h | h | h
      · exact ⟨_, c4 hm2 h⟩
      · exact ⟨_, c2 hm2 h⟩
      · exact ⟨_, c3 hm2 h⟩
    · exact ⟨_, c1 hm2⟩
  · exact ⟨_, h3 k (by omega) hm ht⟩
def tips47 (b1 o1 b2 o2 : Nat) (xs ys : List Int) (n m : Nat) : Tips G47 where
  ops := [(10, { val := some fun g => .bool g.more }), (12, { val := some fun g => .pointer (some ⟨b1, o1 + g.k, none⟩) }), (13, { val := some fun g => .int .u8 g.x }), (17, { val := some fun g => .bool (!g.inb) }),
    (22, { val := some fun g => .pointer (some ⟨b2, o2 + g.k, none⟩) }), (23, { val := some fun g => .int .u8 g.y }), (24, { val := some fun g => .bool g.ne }), (29, { val := some fun g => .bool g.inb }),
    (34, { val := some fun g => .pointer (some ⟨b2, o2 + g.k, none⟩) }), (35, { val := some fun g => .int .u8 g.y }), (36, { val := some fun g => .bool g.lt }), (38, { val := some fun g => .int .i64 (g.k + 1 : Nat) })]
  loops := [(2, loop47 xs ys n m)]
def postB (b : Bool) (w : World) : Ending → World → Prop := fun e w' => e = .returned (.bool b) ∧ w' = w
theorem take_nx {xs ys : List Int} {k : Nat} (h : xs.take k = ys.take k) (ha : k < xs.length) (hb : k < ys.length) (e : xs.getD k 0 = ys.getD k 0) : xs.take (k + 1) = ys.take (k + 1) := by
  rw [List.take_add_one, List.take_add_one, h]
  rw [List.getD_eq_getElem?_getD, List.getD_eq_getElem?_getD, List.getElem?_eq_getElem ha, List.getElem?_eq_getElem hb] at e
  rw [List.getElem?_eq_getElem ha, List.getElem?_eq_getElem hb]
  simp at e
  rw [e]

theorem fin47_t {xs ys : List Int} {n m k : Nat} (l1 : xs.length = n) (l2 : ys.length = m) (h : xs.take k = ys.take k) (hk : k = n ∨ k < n ∧ k < m ∧ xs.getD k 0 < ys.getD k 0) (hn : k < n) : ltB xs ys = true := by
  rcases hk with hk | hk
  · omega
  rw [ltB_at h (by omega) (by omega), if_neg (by omega)]; exact decide_eq_true hk.2.2
theorem fin47_f {xs ys : List Int} {n m k : Nat} (l1 : xs.length = n) (l2 : ys.length = m) (h : xs.take k = ys.take k) (hk : k = n ∨ m ≤ k ∨ (k < n ∧ k < m ∧ ys.getD k 0 < xs.getD k 0)) : ltB xs ys = false := by
  rcases hk with hk | hk | ⟨h1, h2, h3⟩
  · rw [ltB_take h, List.drop_eq_nil_of_le (by omega)]; unfold ltB; rfl
  · have e : ys.drop k = [] := List.drop_eq_nil_of_le (by omega)
    rw [ltB_take h, e]; cases xs.drop k <;> rfl
  · rw [ltB_at h (by omega) (by omega), if_neg (by omega)]; exact decide_eq_false (by omega)

set_option maxRecDepth 100000 in
set_option maxHeartbeats 8000000 in
theorem below_core (a1 a2 : Option Addr) (b1 o1 b2 o2 : Nat) (n c1 m c2 : Nat) (xs ys : List Int) (w : World) (l1 : xs.length = n) (l2 : ys.length = m) (h63 : n ≤ 9223372036854775807) (s1 : 0 < n → a1 = some ⟨b1, o1, none⟩ ∧ ∀ i, i < n → w.cell? ⟨b1, o1 + i, none⟩ = some (.int .u8 (xs.getD i 0))) (s2 : 0 < m → a2 = some ⟨b2, o2, none⟩ ∧ ∀ i, i < m → w.cell? ⟨b2, o2 + i, none⟩ = some (.int .u8 (ys.getD i 0))) : Calls Sagg.prog 47 #[.slice a1 n c1, .slice a2 m c2] w (postB (ltB xs ys) w) := by
  refine CX_calls (tips47 b1 o1 b2 o2 xs ys n m) {} (by kernel_rfl) Sagg.func47 rfl _ rfl (by kernel_rfl) ?_
  refine of_eq (p := (∃ k, k ≤ n ∧ k ≤ m ∧ [Value.int IntKind.i64 0] = [Value.int IntKind.i64 ↑k] ∧ w = w ∧ List.take k xs = List.take k ys) ∧ LoopOK (loop47 xs ys n m) { } w ∧ (∀ (k : Nat) (x y : Int), k < n → xs.getD k 0 = x → ys.getD k 0 = y → List.take k xs = List.take k ys → (¬k < m → Sem.run Sagg.prog (binOp BinOp.lss 3 (Value.int IntKind.i64 ↑k) (Value.int IntKind.i64 ↑n)) w = Result.ok (Value.bool true) w ∧ Sem.run Sagg.prog (Instr.indexAt 22 (Value.slice a1 n c1) (Value.int IntKind.i64 ↑k)) w = Result.ok (Value.pointer (some { block := b1, off := o1 + k })) w ∧ Sem.run Sagg.prog (loadVar 5 { block := b1, off := o1 + k }) w = Result.ok (Value.int IntKind.u8 x) w ∧ Sem.run Sagg.prog (binOp BinOp.geq 3 (Value.int IntKind.i64 ↑k) (Value.int IntKind.i64 ↑m)) w = Result.ok (Value.bool true) w ∧ Sem.run Sagg.prog (binOp BinOp.lss 3 (Value.int IntKind.i64 ↑k) (Value.int IntKind.i64 ↑m)) w = Result.ok (Value.bool false) w ∧ (postB (ltB xs ys) w) (Ending.returned (Value.bool false)) w) ∧ (k < m → x = y → Sem.run Sagg.prog (binOp BinOp.lss 3 (Value.int IntKind.i64 ↑k) (Value.int IntKind.i64 ↑n)) w = Result.ok (Value.bool true) w ∧ Sem.run Sagg.prog (Instr.indexAt 22 (Value.slice a1 n c1) (Value.int IntKind.i64 ↑k)) w = Result.ok (Value.pointer (some { block := b1, off := o1 + k })) w ∧ Sem.run Sagg.prog (loadVar 5 { block := b1, off := o1 + k }) w = Result.ok (Value.int IntKind.u8 x) w ∧ Sem.run Sagg.prog (binOp BinOp.geq 3 (Value.int IntKind.i64 ↑k) (Value.int IntKind.i64 ↑m)) w = Result.ok (Value.bool false) w ∧ Sem.run Sagg.prog (Instr.indexAt 22 (Value.slice a2 m c2) (Value.int IntKind.i64 ↑k)) w = Result.ok (Value.pointer (some { block := b2, off := o2 + k })) w ∧ Sem.run Sagg.prog (loadVar 5 { block := b2, off := o2 + k }) w = Result.ok (Value.int IntKind.u8 y) w ∧ Sem.run Sagg.prog (binOp BinOp.neq 5 (Value.int IntKind.u8 x) (Value.int IntKind.u8 y)) w = Result.ok (Value.bool false) w ∧ Sem.run Sagg.prog (binOp BinOp.add 3 (Value.int IntKind.i64 ↑k) (Value.int IntKind.i64 1)) w = Result.ok (Value.int IntKind.i64 ↑(k + 1)) w ∧ (∃ k_1, k_1 ≤ n ∧ k_1 ≤ m ∧ [Value.int IntKind.i64 ↑(k + 1)] = [Value.int IntKind.i64 ↑k_1] ∧ w = w ∧ List.take k_1 xs = List.take k_1 ys) ∧ n - (((k + 1) : Nat) : Int).toNat < n - ((k : Nat) : Int).toNat) ∧ (k < m → y < x → Sem.run Sagg.prog (binOp BinOp.lss 3 (Value.int IntKind.i64 ↑k) (Value.int IntKind.i64 ↑n)) w = Result.ok (Value.bool true) w ∧ Sem.run Sagg.prog (Instr.indexAt 22 (Value.slice a1 n c1) (Value.int IntKind.i64 ↑k)) w = Result.ok (Value.pointer (some { block := b1, off := o1 + k })) w ∧ Sem.run Sagg.prog (loadVar 5 { block := b1, off := o1 + k }) w = Result.ok (Value.int IntKind.u8 x) w ∧ Sem.run Sagg.prog (binOp BinOp.geq 3 (Value.int IntKind.i64 ↑k) (Value.int IntKind.i64 ↑m)) w = Result.ok (Value.bool false) w ∧ Sem.run Sagg.prog (Instr.indexAt 22 (Value.slice a2 m c2) (Value.int IntKind.i64 ↑k)) w = Result.ok (Value.pointer (some { block := b2, off := o2 + k })) w ∧ Sem.run Sagg.prog (loadVar 5 { block := b2, off := o2 + k }) w = Result.ok (Value.int IntKind.u8 y) w ∧ Sem.run Sagg.prog (binOp BinOp.neq 5 (Value.int IntKind.u8 x) (Value.int IntKind.u8 y)) w = Result.ok (Value.bool true) w ∧ Sem.run Sagg.prog (binOp BinOp.lss 3 (Value.int IntKind.i64 ↑k) (Value.int IntKind.i64 ↑m)) w = Result.ok (Value.bool true) w ∧ Sem.run Sagg.prog (Instr.indexAt 22 (Value.slice a2 m c2) (Value.int IntKind.i64 ↑k)) w = Result.ok (Value.pointer (some { block := b2, off := o2 + k })) w ∧ Sem.run Sagg.prog (loadVar 5 { block := b2, off := o2 + k }) w = Result.ok (Value.int IntKind.u8 y) w ∧ Sem.run Sagg.prog (binOp BinOp.lss 5 (Value.int IntKind.u8 x) (Value.int IntKind.u8 y)) w = Result.ok (Value.bool false) w ∧ (postB (ltB xs ys) w) (Ending.returned (Value.bool false)) w) ∧ (k < m → x < y → Sem.run Sagg.prog (binOp BinOp.lss 3 (Value.int IntKind.i64 ↑k) (Value.int IntKind.i64 ↑n)) w = Result.ok (Value.bool true) w ∧ Sem.run Sagg.prog (Instr.indexAt 22 (Value.slice a1 n c1) (Value.int IntKind.i64 ↑k)) w = Result.ok (Value.pointer (some { block := b1, off := o1 + k })) w ∧ Sem.run Sagg.prog (loadVar 5 { block := b1, off := o1 + k }) w = Result.ok (Value.int IntKind.u8 x) w ∧ Sem.run Sagg.prog (binOp BinOp.geq 3 (Value.int IntKind.i64 ↑k) (Value.int IntKind.i64 ↑m)) w = Result.ok (Value.bool false) w ∧ Sem.run Sagg.prog (Instr.indexAt 22 (Value.slice a2 m c2) (Value.int IntKind.i64 ↑k)) w = Result.ok (Value.pointer (some { block := b2, off := o2 + k })) w ∧ Sem.run Sagg.prog (loadVar 5 { block := b2, off := o2 + k }) w = Result.ok (Value.int IntKind.u8 y) w ∧ Sem.run Sagg.prog (binOp BinOp.neq 5 (Value.int IntKind.u8 x) (Value.int IntKind.u8 y)) w = Result.ok (Value.bool true) w ∧ Sem.run Sagg.prog (binOp BinOp.lss 3 (Value.int IntKind.i64 ↑k) (Value.int IntKind.i64 ↑m)) w = Result.ok (Value.bool true) w ∧ Sem.run Sagg.prog (Instr.indexAt 22 (Value.slice a2 m c2) (Value.int IntKind.i64 ↑k)) w = Result.ok (Value.pointer (some { block := b2, off := o2 + k })) w ∧ Sem.run Sagg.prog (loadVar 5 { block := b2, off := o2 + k }) w = Result.ok (Value.int IntKind.u8 y) w ∧ Sem.run Sagg.prog (binOp BinOp.lss 5 (Value.int IntKind.u8 x) (Value.int IntKind.u8 y)) w = Result.ok (Value.bool true) w ∧ (postB (ltB xs ys) w) (Ending.returned (Value.bool true)) w)) ∧ ∀ (k : Nat), k = n → k ≤ m → List.take k xs = List.take k ys → Sem.run Sagg.prog (binOp BinOp.lss 3 (Value.int IntKind.i64 ↑k) (Value.int IntKind.i64 ↑n)) w = Result.ok (Value.bool false) w ∧ (postB (ltB xs ys) w) (Ending.returned (Value.bool false)) w) (by kernel_rfl) ?_
  exact ⟨⟨0, Nat.zero_le _, Nat.zero_le _, rfl, rfl, by simp⟩, (loop47_ok _ _ _ _ _ _), (fun k2 => (fun x3 => (fun y4 => (fun h5 => (fun h6 => (fun h7 => (fun h8 => ⟨(fun h9 => ⟨(lss_t (by omega)), (index_byte (i := k2) Sagg.underlying22 (s1 (by omega)).1 (by omega)), (load_byte ((s1 (by omega)).2 k2 (by omega)) (by assumption)), (geq_t (by omega)), (lss_f (by omega)), (show postB _ w (.returned (.bool false)) w from ⟨by rw [fin47_f (n := n) (m := m) (by omega) (by omega) (by assumption) (by omega)], rfl⟩)⟩), (fun h16 => (fun h17 => ⟨(lss_t (by omega)), (index_byte (i := k2) Sagg.underlying22 (s1 (by omega)).1 (by omega)), (load_byte ((s1 (by omega)).2 k2 (by omega)) (by assumption)), (geq_f (by omega)), (index_byte (i := k2) Sagg.underlying22 (s2 (by omega)).1 (by omega)), (load_byte ((s2 (by omega)).2 k2 (by omega)) (by assumption)), (neq_f (by omega)), (inc_i (by assumption) h63), ⟨_, Nat.succ_le_of_lt (by omega), Nat.succ_le_of_lt (by omega), rfl, rfl, take_nx (by assumption) (by omega) (by omega) (by omega)⟩, (by simp [intOf]; omega)⟩)), (fun h28 => (fun h29 => ⟨(lss_t (by omega)), (index_byte (i := k2) Sagg.underlying22 (s1 (by omega)).1 (by omega)), (load_byte ((s1 (by omega)).2 k2 (by omega)) (by assumption)), (geq_f (by omega)), (index_byte (i := k2) Sagg.underlying22 (s2 (by omega)).1 (by omega)), (load_byte ((s2 (by omega)).2 k2 (by omega)) (by assumption)), (neq_t (by omega)), (lss_t (by omega)), (index_byte (i := k2) Sagg.underlying22 (s2 (by omega)).1 (by omega)), (load_byte ((s2 (by omega)).2 k2 (by omega)) (by assumption)), (lss_f (by omega)), (show postB _ w (.returned (.bool false)) w from ⟨by rw [fin47_f (n := n) (m := m) (by omega) (by omega) (by assumption) (by omega)], rfl⟩)⟩)), (fun h42 => (fun h43 => ⟨(lss_t (by omega)), (index_byte (i := k2) Sagg.underlying22 (s1 (by omega)).1 (by omega)), (load_byte ((s1 (by omega)).2 k2 (by omega)) (by assumption)), (geq_f (by omega)), (index_byte (i := k2) Sagg.underlying22 (s2 (by omega)).1 (by omega)), (load_byte ((s2 (by omega)).2 k2 (by omega)) (by assumption)), (neq_t (by omega)), (lss_t (by omega)), (index_byte (i := k2) Sagg.underlying22 (s2 (by omega)).1 (by omega)), (load_byte ((s2 (by omega)).2 k2 (by omega)) (by assumption)), (lss_t (by omega)), (show postB _ w (.returned (.bool true)) w from ⟨by rw [fin47_t (n := n) (m := m) (by omega) (by omega) (by assumption) (by omega) (by omega)], rfl⟩)⟩))⟩))))))), (fun k56 => (fun h57 => (fun h58 => (fun h59 => ⟨(lss_f (by omega)), (show postB _ w (.returned (.bool false)) w from ⟨by rw [fin47_f (n := n) (m := m) (by omega) (by omega) (by assumption) (by omega)], rfl⟩)⟩))))⟩
end Go.Proofs.Ygcsag
