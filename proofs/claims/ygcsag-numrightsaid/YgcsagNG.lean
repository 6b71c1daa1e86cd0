/-
  'be64Holds', 'PutBE64', 'putHolds'.
-/
import Derived.Test.YgcsagNF
namespace Go.Proofs.Ygcsag
open Go.RowKit
set_option linter.unusedVariables false
set_option linter.unusedSimpArgs false

/-! ### be64Holds -/
theorem val_snoc (l : List Int) (x : Int) : valB (l ++ [x]) = valB l * 256 + x := by
  unfold valB
  rw [List.reverse_append]
  simp only [List.reverse_cons, List.reverse_nil, List.nil_append, List.cons_append, val]
  omega
structure Fold16 (P : List Int) (i V : Nat) : Prop where
  val : (V : Int) = valB (P.take i)
  lt : V < 256 ^ i
structure G16 where
  i : Nat := 0
  V : Nat := 0
  x : Nat := 0
  more : Bool := false
def G16.c1 (i V x : Nat) : G16 := { i := i, V := V, x := x, more := true }
def G16.c2 (V : Nat) : G16 := { i := 8, V := V, more := false }
def loop16 (P : List Int) : LoopTip G16 where
  slots := [9, 29]
  inv := fun _ w us w' => ∃ i V : Nat, i ≤ 8 ∧ us = [.int .u64 (V : Nat), .int .i64 (i : Nat)] ∧ w' = w ∧ Fold16 P i V
  T := fun _ w C => (∀ i V x : Nat, i < 8 → Fold16 P i V → P.getD i 0 = (x : Int) → x < 256 → C (G16.c1 i V x) [.int .u64 (V : Nat), .int .i64 (i : Nat)] w) ∧ (∀ V : Nat, Fold16 P 8 V → C (G16.c2 V) [.int .u64 (V : Nat), .int .i64 ((8 : Nat) : Int)] w)
  mu := fun _ us _ => 8 - (intOf (us.getLastD undef)).toNat
theorem loop16_ok {P : List Int} (hd : Dig P) (g : G16) (w : World) : LoopOK (loop16 P) g w := by
  rintro C ⟨h1, h2⟩ us w' - ⟨i, V, hi, rfl, rfl, hf⟩
  by_cases e : i < 8
  · have hb := hd.getD i
    exact ⟨_, h1 i V (P.getD i 0).toNat e hf (by omega) (by omega)⟩
  · obtain rfl : i = 8 := by omega
    exact ⟨_, h2 V hf⟩
def tips16n : Tips G16 where
  ops := [(15, { tr := some fun g w C => C g (.bool false) w }), (21, { val := some fun _ => .bool true })]
def tips16 (b o c k : Nat) (P : List Int) : Tips G16 where
  ops := [(15, { tr := some fun g w C => C g (.bool true) w }), (26, { val := some fun _ => .int .i64 (k + 8 : Nat) }), (27, { val := some fun _ => .slice (some ⟨b, o + k, none⟩) 8 (c - k) }), (30, { val := some fun g => .bool g.more }),
    (31, { val := some fun g => .pointer (some ⟨b, o + k + g.i, none⟩) }), (32, { val := some fun g => .int .u8 (g.x : Int) }), (34, { val := some fun g => .int .u64 (g.V * 256 : Nat) }), (36, { val := some fun g => .int .u64 (g.x : Int) }), (37, { val := some fun g => .int .u64 (g.V * 256 + g.x : Nat) }), (38, { val := some fun g => .int .i64 (g.i + 1 : Nat) }), (43, { val := some fun _ => .bool true })]
  loops := [(5, loop16 P)]
theorem fold16_next {P : List Int} {i V x : Nat} (hl : P.length = 8) (hi : i < 8) (h : Fold16 P i V) (hx : P.getD i 0 = (x : Int)) (h256 : x < 256) : Fold16 P (i + 1) (V * 256 + x) := by
  refine ⟨?_, ?_⟩
  · rw [List.take_add_one, List.getElem?_eq_getElem (by omega), Option.toList_some, val_snoc, ← h.val]
    rw [List.getD_eq_getElem?_getD, List.getElem?_eq_getElem (by omega), Option.getD_some] at hx
    rw [hx]
    omega
  · have := h.lt
    rw [Nat.pow_succ]
    omega
theorem fold16_small {P : List Int} {i V : Nat} (h : Fold16 P i V) (hi : i < 8) : V < 72057594037927936 := by
  have h1 := h.lt
  have h2 : 256 ^ i ≤ 256 ^ 7 := Nat.pow_le_pow_right (by omega) (by omega)
  have e : (256 : Nat) ^ 7 = 72057594037927936 := by decide
  omega
theorem fold16_eq {P : List Int} {X V : Nat} (hl : P.length = 8) (hX : (X : Int) = valB P) (h : Fold16 P 8 V) : (X : Int) = (V : Int) := by
  rw [hX, h.val, List.take_of_length_le (by omega)]

/-! ### PutBE64 -/
/-- The first j bytes of x written at k. -/
def putJ (zs : List Int) (k x : Nat) : Nat → List Int
  | 0 => zs
  | j + 1 => (putJ zs k x j).set (k + j) (((x / 256 ^ (7 - j) % 256 : Nat)) : Int)
theorem putJ_len (zs : List Int) (k x : Nat) : ∀ j, (putJ zs k x j).length = zs.length
  | 0 => rfl
  | j + 1 => by rw [putJ, List.length_set, putJ_len zs k x j]
theorem putJ_dig {zs : List Int} (h : Dig zs) (k x : Nat) : ∀ j, Dig (putJ zs k x j)
  | 0 => h
  | j + 1 => (putJ_dig h k x j).set _ (by omega)
theorem putJ_get (zs : List Int) (k x : Nat) (hk : k + 8 ≤ zs.length) : ∀ j, j ≤ 8 → ∀ i, (putJ zs k x j).getD i 0 = if k ≤ i ∧ i < k + j then ((x / 256 ^ (7 - (i - k)) % 256 : Nat) : Int) else zs.getD i 0
  | 0, _, i => by rw [putJ, if_neg (by omega)]
  | j + 1, hj, i => by
    have ih := putJ_get zs k x hk j (by omega) i
    rw [putJ]
    by_cases e : i = k + j
    · subst e
      rw [getD_set_self _ _ _ (by rw [putJ_len]; omega), if_pos (by omega)]
      congr 4
      omega
    · rw [getD_set_ne _ _ _ _ (by omega), ih]
      by_cases e2 : k ≤ i ∧ i < k + j
      · rw [if_pos e2, if_pos (by omega)]
      · rw [if_neg e2, if_neg (by omega)]
def byteV (n : Nat) : Tip G0 := { val := some fun _ => .int .u8 (n : Int) }
def tips18n : Tips G0 where
  ops := [(11, { tr := some fun g w C => C g (.bool false) w })]
def shr18 (x s : Nat) : Tip G0 := { val := some fun _ => .int .u64 (x / 2 ^ s : Nat) }
def byte18 (x j : Nat) : Tip G0 := { val := some fun _ => .int .u8 ((x / 256 ^ (7 - j) % 256 : Nat) : Int) }
def st18 (zs : List Int) (g k x j : Nat) : Tip G0 := { val := some fun _ => undef, wld := some fun _ w => w.setRow g (rowOf (putJ zs k x j)) }
def at18 (g k j : Nat) : Tip G0 := { val := some fun _ => .pointer (some ⟨g, k + j, none⟩) }
def tips18 (zs : List Int) (g n k x : Nat) : Tips G0 where
  ops := [(11, { tr := some fun g w C => C g (.bool true) w }), (16, { val := some fun _ => .int .i64 (k + 8 : Nat) }), (17, { val := some fun _ => .slice (some ⟨g, 0 + k, none⟩) 8 (n - k) }),
    (21, shr18 x 56), (22, byte18 x 0), (24, at18 g k 0), (1004006, st18 zs g k x 1), (27, shr18 x 48), (28, byte18 x 1), (30, at18 g k 1), (1005006, st18 zs g k x 2), (33, shr18 x 40), (34, byte18 x 2), (36, at18 g k 2), (1006006, st18 zs g k x 3), (39, shr18 x 32), (40, byte18 x 3), (42, at18 g k 3), (1007006, st18 zs g k x 4),
    (45, shr18 x 24), (46, byte18 x 4), (48, at18 g k 4), (1008006, st18 zs g k x 5), (51, shr18 x 16), (52, byte18 x 5), (54, at18 g k 5), (1009006, st18 zs g k x 6), (57, shr18 x 8), (58, byte18 x 6), (60, at18 g k 6), (1010006, st18 zs g k x 7), (63, byte18 x 7), (65, at18 g k 7), (1011005, st18 zs g k x 8)]
structure Put18 (zs : List Int) (g k x : Nat) (w w' : World) : Prop where
  below : Below g w w'
  row : w'.heap[g]? = some (.cells (rowOf (putJ zs k x 8)) 5 (0, 0))
def post18 (zs : List Int) (g k x : Nat) (w : World) : Ending → World → Prop := fun e w' => e = .returned (.bool true) ∧ Put18 zs g k x w w'
theorem index_at {g k j : Nat} {w : World} (h : j < 8) : (Instr.indexAt 81 (.pointer (some ⟨g, 0 + k, none⟩)) (.int .i64 (j : Int))).run Sagg.prog w = .ok (.pointer (some ⟨g, k + j, none⟩)) w := by
  have := index_arr (P := Sagg.prog) (t := 81) (g := g) (o := 0 + k) (i := j) (w := w) Sagg.underlying81 isz5 h
  rw [show 0 + k + j = k + j by omega] at this
  exact this
theorem conv18 {x s j : Nat} {w : World} (h : s = 8 * (7 - j)) : (convert 31 5 (.int .u64 ((x / 2 ^ s : Nat) : Int))).run Sagg.prog w = .ok (.int .u8 ((x / 256 ^ (7 - j) % 256 : Nat) : Int)) w := by
  refine conv_i Sagg.underlying31 Sagg.underlying5 ?_
  rw [wrap8, h, Nat.pow_mul, show (2 : Nat) ^ 8 = 256 by decide]
  exact (Int.natCast_emod _ _).symm
theorem conv18z {x : Nat} {w : World} : (convert 31 5 (.int .u64 (x : Int))).run Sagg.prog w = .ok (.int .u8 ((x / 256 ^ (7 - 7) % 256 : Nat) : Int)) w := by
  refine conv_i Sagg.underlying31 Sagg.underlying5 ?_
  rw [wrap8]
  simp
theorem store18 {w : World} {zs : List Int} {g k x j : Nat} (hg : w.heap[g]? = some (.cells (rowOf (putJ zs k x j)) 5 (0, 0))) (hk : k + j < zs.length) :
    (do storeVar 5 ⟨g, k + j, none⟩ (.int .u8 ((x / 256 ^ (7 - j) % 256 : Nat) : Int)); pure undef : Sem Value).run Sagg.prog w = .ok undef (w.setRow g (rowOf (putJ zs k x (j + 1)))) :=
  store_byte hg (by rw [putJ_len]; exact hk)
theorem row_set {w : World} {g : Nat} {old cs : Array Value} (h : w.heap[g]? = some (.cells old 5 (0, 0))) : (w.setRow g cs).heap[g]? = some (.cells cs 5 (0, 0)) := setRow_heap _ _ _ _ _ _ h
theorem slice8n {g n k : Nat} {w : World} (h : k + 8 ≤ n) : (Instr.sliceAt 22 (.slice (some ⟨g, 0, none⟩) n n) (some (.int .i64 (k : Int))) (some (.int .i64 ((k + 8 : Nat) : Int))) none).run Sagg.prog w = .ok (.slice (some ⟨g, 0 + k, none⟩) 8 (n - k)) w := slice8 h (Nat.le_refl _)

set_option maxRecDepth 100000 in
set_option maxHeartbeats 8000000 in
theorem be64HoldsNo_core (a : Option Addr) (n c : Nat) (off : Int) (w : World) (hn : n ≤ 9223372036854775807) (hf : ¬ Fits n off) : Calls Sagg.prog 16 #[.slice a n c, .int .i64 off, .int .u64 0, .bool false] w (postV (.bool true) w) := by
  refine CX_calls (tips16n) {} (by kernel_rfl) Sagg.func16 rfl _ rfl (by kernel_rfl) ?_
  refine of_eq (p := (CallOK Sagg.prog 41 { toList := [Value.int IntKind.i64 ↑n, Value.int IntKind.i64 off] } w fun (C : G16 → Value → World → Prop) => C { } (Value.bool false) w) ∧ Sem.run Sagg.prog (binOp BinOp.eql 31 (Value.int IntKind.u64 0) (Value.int IntKind.u64 0)) w = Result.ok (Value.bool true) w ∧ (postV (.bool true) w) (Ending.returned (Value.bool true)) w) (by kernel_rfl) ?_
  exact ⟨(callSame (fits_calls n off w hn false (no_if hf))), (eql_t rfl), ⟨rfl, rfl⟩⟩

set_option maxRecDepth 100000 in
set_option maxHeartbeats 8000000 in
theorem be64HoldsYes_core (b o n c k X : Nat) (P : List Int) (w : World) (hn : n ≤ c) (hc : c ≤ 9223372036854775807) (hk : k + 8 ≤ n) (hl : P.length = 8) (hd : Dig P) (hr : w.rangeAt b (o + k) (bcells P)) (hX : (X : Int) = valB P) : Calls Sagg.prog 16 #[.slice (some ⟨b, o, none⟩) n c, .int .i64 (k : Int), .int .u64 (X : Int), .bool true] w (postV (.bool true) w) := by
  refine CX_calls (tips16 b o c k P) {} (by kernel_rfl) Sagg.func16 rfl _ rfl (by kernel_rfl) ?_
  refine of_eq (p := (CallOK Sagg.prog 41 { toList := [Value.int IntKind.i64 ↑n, Value.int IntKind.i64 ↑k] } w fun (C : G16 → Value → World → Prop) => C { } (Value.bool true) w) ∧ Sem.run Sagg.prog (binOp BinOp.add 3 (Value.int IntKind.i64 ↑k) (Value.int IntKind.i64 8)) w = Result.ok (Value.int IntKind.i64 ↑(k + 8)) w ∧ Sem.run Sagg.prog (Instr.sliceAt 22 (Value.slice (some { block := b, off := o }) n c) (some (Value.int IntKind.i64 ↑k)) (some (Value.int IntKind.i64 ↑(k + 8))) none) w = Result.ok (Value.slice (some { block := b, off := o + k }) 8 (c - k)) w ∧ (∃ (i : Nat), ∃ (V : Nat), i ≤ 8 ∧ [Value.int IntKind.u64 0, Value.int IntKind.i64 0] = [Value.int IntKind.u64 ↑V, Value.int IntKind.i64 ↑i] ∧ w = w ∧ Fold16 P i V) ∧ LoopOK (loop16 P) { } w ∧ (∀ (i V x : Nat), i < 8 → Fold16 P i V → P.getD i 0 = ↑x → x < 256 → Sem.run Sagg.prog (binOp BinOp.lss 3 (Value.int IntKind.i64 ↑i) (Value.int IntKind.i64 ↑8)) w = Result.ok (Value.bool true) w ∧ Sem.run Sagg.prog (Instr.indexAt 22 (Value.slice (some { block := b, off := o + k }) 8 (c - k)) (Value.int IntKind.i64 ↑i)) w = Result.ok (Value.pointer (some { block := b, off := o + k + i })) w ∧ Sem.run Sagg.prog (loadVar 5 { block := b, off := o + k + i }) w = Result.ok (Value.int IntKind.u8 ↑x) w ∧ Sem.run Sagg.prog (binOp BinOp.mul 31 (Value.int IntKind.u64 ↑V) (Value.int IntKind.u64 256)) w = Result.ok (Value.int IntKind.u64 ↑(V * 256)) w ∧ Sem.run Sagg.prog (convert 5 31 (Value.int IntKind.u8 ↑x)) w = Result.ok (Value.int IntKind.u64 ↑x) w ∧ Sem.run Sagg.prog (binOp BinOp.add 31 (Value.int IntKind.u64 ↑(V * 256)) (Value.int IntKind.u64 ↑x)) w = Result.ok (Value.int IntKind.u64 ↑(V * 256 + x)) w ∧ Sem.run Sagg.prog (binOp BinOp.add 3 (Value.int IntKind.i64 ↑i) (Value.int IntKind.i64 1)) w = Result.ok (Value.int IntKind.i64 ↑(i + 1)) w ∧ (∃ (i_1 : Nat), ∃ (V_1 : Nat), i_1 ≤ 8 ∧ [Value.int IntKind.u64 ↑(V * 256 + x), Value.int IntKind.i64 ↑(i + 1)] = [Value.int IntKind.u64 ↑V_1, Value.int IntKind.i64 ↑i_1] ∧ w = w ∧ Fold16 P i_1 V_1) ∧ 8 - (((i + 1) : Nat) : Int).toNat < 8 - ((i : Nat) : Int).toNat) ∧ ∀ (V : Nat), Fold16 P 8 V → Sem.run Sagg.prog (binOp BinOp.lss 3 (Value.int IntKind.i64 ↑8) (Value.int IntKind.i64 ↑8)) w = Result.ok (Value.bool false) w ∧ Sem.run Sagg.prog (binOp BinOp.eql 31 (Value.int IntKind.u64 ↑X) (Value.int IntKind.u64 ↑V)) w = Result.ok (Value.bool true) w ∧ (postV (.bool true) w) (Ending.returned (Value.bool true)) w) (by kernel_rfl) ?_
  exact ⟨(callSame (fits_calls n k w (by omega) true ⟨fun _ => ⟨by omega, by omega⟩, fun _ => rfl⟩)), (addN (b := 8) (by omega)), (slice8 hk hn), ⟨0, 0, by omega, rfl, rfl, rfl, by decide⟩, (loop16_ok hd _ _), (fun i5 => (fun V6 => (fun x7 => (fun h8 => (fun h9 => (fun h10 => (fun h11 => ⟨(lss_t (by omega)), (index_byte Sagg.underlying22 rfl (by omega)), (load_byte (hr _ _ (bcells_get _ _ (by omega))) (by assumption)), (mulU (b := 256) rfl (by have := fold16_small (show Fold16 _ _ _ by assumption) (by omega); omega)), (conv_up (by assumption)), (addU rfl (by have := fold16_small (show Fold16 _ _ _ by assumption) (by omega); omega)), (inc_i (m := 8) (by omega) (by omega)), ⟨_, _, Nat.succ_le_of_lt (by omega), rfl, rfl, fold16_next hl (by omega) (by assumption) (by assumption) (by assumption)⟩, (by simp [intOf]; omega)⟩))))))), (fun V21 => (fun h22 => ⟨(lss_f (by omega)), (eql_t (fold16_eq hl hX (show Fold16 _ _ _ by assumption))), ⟨rfl, rfl⟩⟩))⟩

set_option maxRecDepth 100000 in
set_option maxHeartbeats 8000000 in
theorem putNo_core (a : Option Addr) (n c : Nat) (off : Int) (x : Nat) (w : World) (hn : n ≤ 9223372036854775807) (hf : ¬ Fits n off) : Calls Sagg.prog 18 #[.slice a n c, .int .i64 off, .int .u64 (x : Int)] w (postV (.bool false) w) := by
  refine CX_calls (tips18n) {} (by kernel_rfl) Sagg.func18 rfl _ rfl (by kernel_rfl) ?_
  refine of_eq (p := (CallOK Sagg.prog 40 { toList := [Value.int IntKind.i64 ↑n, Value.int IntKind.i64 off] } w fun (C : G0 → Value → World → Prop) => C { } (Value.bool false) w) ∧ (postV (.bool false) w) (Ending.returned (Value.bool false)) w) (by kernel_rfl) ?_
  exact ⟨(callSame (inside_calls n off w hn false (no_if hf))), ⟨rfl, rfl⟩⟩

set_option maxRecDepth 100000 in
set_option maxHeartbeats 8000000 in
theorem putYes_core (g n k x : Nat) (zs : List Int) (w : World) (hn : n ≤ 9223372036854775807) (hk : k + 8 ≤ n) (hl : zs.length = n) (hx : x < 18446744073709551616) (hr : w.heap[g]? = some (.cells (rowOf zs) 5 (0, 0))) : Calls Sagg.prog 18 #[.slice (some ⟨g, 0, none⟩) n n, .int .i64 (k : Int), .int .u64 (x : Int)] w (post18 zs g k x w) := by
  refine CX_calls (tips18 zs g n k x) {} (by kernel_rfl) Sagg.func18 rfl _ rfl (by kernel_rfl) ?_
  refine of_eq (p := (CallOK Sagg.prog 40 { toList := [Value.int IntKind.i64 ↑n, Value.int IntKind.i64 ↑k] } w fun (C : G0 → Value → World → Prop) => C { } (Value.bool true) w) ∧
  Sem.run Sagg.prog (binOp BinOp.add 3 (Value.int IntKind.i64 ↑k) (Value.int IntKind.i64 8)) w = Result.ok (Value.int IntKind.i64 ↑(k + 8)) w ∧
    Sem.run Sagg.prog (Instr.sliceAt 22 (Value.slice (some { block := g, off := 0 }) n n) (some (Value.int IntKind.i64 ↑k)) (some (Value.int IntKind.i64 ↑(k + 8))) none) w = Result.ok (Value.slice (some { block := g, off := 0 + k }) 8 (n - k)) w ∧
      Sem.run Sagg.prog (binOp BinOp.shr 31 (Value.int IntKind.u64 ↑x) (Value.int IntKind.u64 56)) w = Result.ok (Value.int IntKind.u64 ↑(x / 72057594037927936)) w ∧
        Sem.run Sagg.prog (convert 31 5 (Value.int IntKind.u64 ↑(x / 72057594037927936))) w = Result.ok (Value.int IntKind.u8 ↑(x / 72057594037927936 % 256)) w ∧
          Sem.run Sagg.prog (Instr.indexAt 81 (Value.pointer (some { block := g, off := 0 + k })) (Value.int IntKind.i64 0)) w = Result.ok (Value.pointer (some { block := g, off := k + 0 })) w ∧
            Sem.run Sagg.prog
                  (do
                    storeVar 5 { block := g, off := k + 0 } (Value.int IntKind.u8 ↑(x / 72057594037927936 % 256))
                    pure undef)
                  w =
                Result.ok (Value.tuple { toList := [] }) (w.setRow g { toList := List.map (Value.int IntKind.u8) (putJ zs k x 1) }) ∧
              Sem.run Sagg.prog (binOp BinOp.shr 31 (Value.int IntKind.u64 ↑x) (Value.int IntKind.u64 48)) (w.setRow g { toList := List.map (Value.int IntKind.u8) (putJ zs k x 1) }) = Result.ok (Value.int IntKind.u64 ↑(x / 281474976710656)) (w.setRow g { toList := List.map (Value.int IntKind.u8) (putJ zs k x 1) }) ∧
                Sem.run Sagg.prog (convert 31 5 (Value.int IntKind.u64 ↑(x / 281474976710656))) (w.setRow g { toList := List.map (Value.int IntKind.u8) (putJ zs k x 1) }) = Result.ok (Value.int IntKind.u8 ↑(x / 281474976710656 % 256)) (w.setRow g { toList := List.map (Value.int IntKind.u8) (putJ zs k x 1) }) ∧
                  Sem.run Sagg.prog (Instr.indexAt 81 (Value.pointer (some { block := g, off := 0 + k })) (Value.int IntKind.i64 1)) (w.setRow g { toList := List.map (Value.int IntKind.u8) (putJ zs k x 1) }) = Result.ok (Value.pointer (some { block := g, off := k + 1 })) (w.setRow g { toList := List.map (Value.int IntKind.u8) (putJ zs k x 1) }) ∧
                    Sem.run Sagg.prog
                          (do
                            storeVar 5 { block := g, off := k + 1 } (Value.int IntKind.u8 ↑(x / 281474976710656 % 256))
                            pure undef)
                          (w.setRow g { toList := List.map (Value.int IntKind.u8) (putJ zs k x 1) }) =
                        Result.ok (Value.tuple { toList := [] }) ((w.setRow g { toList := List.map (Value.int IntKind.u8) (putJ zs k x 1) }).setRow g { toList := List.map (Value.int IntKind.u8) (putJ zs k x 2) }) ∧
                      Sem.run Sagg.prog (binOp BinOp.shr 31 (Value.int IntKind.u64 ↑x) (Value.int IntKind.u64 40)) ((w.setRow g { toList := List.map (Value.int IntKind.u8) (putJ zs k x 1) }).setRow g { toList := List.map (Value.int IntKind.u8) (putJ zs k x 2) }) = Result.ok (Value.int IntKind.u64 ↑(x / 1099511627776)) ((w.setRow g { toList := List.map (Value.int IntKind.u8) (putJ zs k x 1) }).setRow g { toList := List.map (Value.int IntKind.u8) (putJ zs k x 2) }) ∧
                        Sem.run Sagg.prog (convert 31 5 (Value.int IntKind.u64 ↑(x / 1099511627776))) ((w.setRow g { toList := List.map (Value.int IntKind.u8) (putJ zs k x 1) }).setRow g { toList := List.map (Value.int IntKind.u8) (putJ zs k x 2) }) = Result.ok (Value.int IntKind.u8 ↑(x / 1099511627776 % 256)) ((w.setRow g { toList := List.map (Value.int IntKind.u8) (putJ zs k x 1) }).setRow g { toList := List.map (Value.int IntKind.u8) (putJ zs k x 2) }) ∧
                          Sem.run Sagg.prog (Instr.indexAt 81 (Value.pointer (some { block := g, off := 0 + k })) (Value.int IntKind.i64 2)) ((w.setRow g { toList := List.map (Value.int IntKind.u8) (putJ zs k x 1) }).setRow g { toList := List.map (Value.int IntKind.u8) (putJ zs k x 2) }) = Result.ok (Value.pointer (some { block := g, off := k + 2 })) ((w.setRow g { toList := List.map (Value.int IntKind.u8) (putJ zs k x 1) }).setRow g { toList := List.map (Value.int IntKind.u8) (putJ zs k x 2) }) ∧
                            Sem.run Sagg.prog
                                  (do
                                    storeVar 5 { block := g, off := k + 2 } (Value.int IntKind.u8 ↑(x / 1099511627776 % 256))
                                    pure undef)
                                  ((w.setRow g { toList := List.map (Value.int IntKind.u8) (putJ zs k x 1) }).setRow g { toList := List.map (Value.int IntKind.u8) (putJ zs k x 2) }) =
                                Result.ok (Value.tuple { toList := [] }) (((w.setRow g { toList := List.map (Value.int IntKind.u8) (putJ zs k x 1) }).setRow g { toList := List.map (Value.int IntKind.u8) (putJ zs k x 2) }).setRow g { toList := List.map (Value.int IntKind.u8) (putJ zs k x 3) }) ∧
                              Sem.run Sagg.prog (binOp BinOp.shr 31 (Value.int IntKind.u64 ↑x) (Value.int IntKind.u64 32)) (((w.setRow g { toList := List.map (Value.int IntKind.u8) (putJ zs k x 1) }).setRow g { toList := List.map (Value.int IntKind.u8) (putJ zs k x 2) }).setRow g { toList := List.map (Value.int IntKind.u8) (putJ zs k x 3) }) = Result.ok (Value.int IntKind.u64 ↑(x / 4294967296)) (((w.setRow g { toList := List.map (Value.int IntKind.u8) (putJ zs k x 1) }).setRow g { toList := List.map (Value.int IntKind.u8) (putJ zs k x 2) }).setRow g { toList := List.map (Value.int IntKind.u8) (putJ zs k x 3) }) ∧
                                Sem.run Sagg.prog (convert 31 5 (Value.int IntKind.u64 ↑(x / 4294967296))) (((w.setRow g { toList := List.map (Value.int IntKind.u8) (putJ zs k x 1) }).setRow g { toList := List.map (Value.int IntKind.u8) (putJ zs k x 2) }).setRow g { toList := List.map (Value.int IntKind.u8) (putJ zs k x 3) }) = Result.ok (Value.int IntKind.u8 ↑(x / 4294967296 % 256)) (((w.setRow g { toList := List.map (Value.int IntKind.u8) (putJ zs k x 1) }).setRow g { toList := List.map (Value.int IntKind.u8) (putJ zs k x 2) }).setRow g { toList := List.map (Value.int IntKind.u8) (putJ zs k x 3) }) ∧
                                  Sem.run Sagg.prog (Instr.indexAt 81 (Value.pointer (some { block := g, off := 0 + k })) (Value.int IntKind.i64 3)) (((w.setRow g { toList := List.map (Value.int IntKind.u8) (putJ zs k x 1) }).setRow g { toList := List.map (Value.int IntKind.u8) (putJ zs k x 2) }).setRow g { toList := List.map (Value.int IntKind.u8) (putJ zs k x 3) }) = Result.ok (Value.pointer (some { block := g, off := k + 3 })) (((w.setRow g { toList := List.map (Value.int IntKind.u8) (putJ zs k x 1) }).setRow g { toList := List.map (Value.int IntKind.u8) (putJ zs k x 2) }).setRow g { toList := List.map (Value.int IntKind.u8) (putJ zs k x 3) }) ∧
                                    Sem.run Sagg.prog
                                          (do
                                            storeVar 5 { block := g, off := k + 3 } (Value.int IntKind.u8 ↑(x / 4294967296 % 256))
                                            pure undef)
                                          (((w.setRow g { toList := List.map (Value.int IntKind.u8) (putJ zs k x 1) }).setRow g { toList := List.map (Value.int IntKind.u8) (putJ zs k x 2) }).setRow g { toList := List.map (Value.int IntKind.u8) (putJ zs k x 3) }) =
                                        Result.ok (Value.tuple { toList := [] }) ((((w.setRow g { toList := List.map (Value.int IntKind.u8) (putJ zs k x 1) }).setRow g { toList := List.map (Value.int IntKind.u8) (putJ zs k x 2) }).setRow g { toList := List.map (Value.int IntKind.u8) (putJ zs k x 3) }).setRow g { toList := List.map (Value.int IntKind.u8) (putJ zs k x 4) }) ∧
                                      Sem.run Sagg.prog (binOp BinOp.shr 31 (Value.int IntKind.u64 ↑x) (Value.int IntKind.u64 24)) ((((w.setRow g { toList := List.map (Value.int IntKind.u8) (putJ zs k x 1) }).setRow g { toList := List.map (Value.int IntKind.u8) (putJ zs k x 2) }).setRow g { toList := List.map (Value.int IntKind.u8) (putJ zs k x 3) }).setRow g { toList := List.map (Value.int IntKind.u8) (putJ zs k x 4) }) = Result.ok (Value.int IntKind.u64 ↑(x / 16777216)) ((((w.setRow g { toList := List.map (Value.int IntKind.u8) (putJ zs k x 1) }).setRow g { toList := List.map (Value.int IntKind.u8) (putJ zs k x 2) }).setRow g { toList := List.map (Value.int IntKind.u8) (putJ zs k x 3) }).setRow g { toList := List.map (Value.int IntKind.u8) (putJ zs k x 4) }) ∧
                                        Sem.run Sagg.prog (convert 31 5 (Value.int IntKind.u64 ↑(x / 16777216))) ((((w.setRow g { toList := List.map (Value.int IntKind.u8) (putJ zs k x 1) }).setRow g { toList := List.map (Value.int IntKind.u8) (putJ zs k x 2) }).setRow g { toList := List.map (Value.int IntKind.u8) (putJ zs k x 3) }).setRow g { toList := List.map (Value.int IntKind.u8) (putJ zs k x 4) }) = Result.ok (Value.int IntKind.u8 ↑(x / 16777216 % 256)) ((((w.setRow g { toList := List.map (Value.int IntKind.u8) (putJ zs k x 1) }).setRow g { toList := List.map (Value.int IntKind.u8) (putJ zs k x 2) }).setRow g { toList := List.map (Value.int IntKind.u8) (putJ zs k x 3) }).setRow g { toList := List.map (Value.int IntKind.u8) (putJ zs k x 4) }) ∧
                                          Sem.run Sagg.prog (Instr.indexAt 81 (Value.pointer (some { block := g, off := 0 + k })) (Value.int IntKind.i64 4)) ((((w.setRow g { toList := List.map (Value.int IntKind.u8) (putJ zs k x 1) }).setRow g { toList := List.map (Value.int IntKind.u8) (putJ zs k x 2) }).setRow g { toList := List.map (Value.int IntKind.u8) (putJ zs k x 3) }).setRow g { toList := List.map (Value.int IntKind.u8) (putJ zs k x 4) }) = Result.ok (Value.pointer (some { block := g, off := k + 4 })) ((((w.setRow g { toList := List.map (Value.int IntKind.u8) (putJ zs k x 1) }).setRow g { toList := List.map (Value.int IntKind.u8) (putJ zs k x 2) }).setRow g { toList := List.map (Value.int IntKind.u8) (putJ zs k x 3) }).setRow g { toList := List.map (Value.int IntKind.u8) (putJ zs k x 4) }) ∧
                                            Sem.run Sagg.prog
                                                  (do
                                                    storeVar 5 { block := g, off := k + 4 } (Value.int IntKind.u8 ↑(x / 16777216 % 256))
                                                    pure undef)
                                                  ((((w.setRow g { toList := List.map (Value.int IntKind.u8) (putJ zs k x 1) }).setRow g { toList := List.map (Value.int IntKind.u8) (putJ zs k x 2) }).setRow g { toList := List.map (Value.int IntKind.u8) (putJ zs k x 3) }).setRow g { toList := List.map (Value.int IntKind.u8) (putJ zs k x 4) }) =
                                                Result.ok (Value.tuple { toList := [] }) (((((w.setRow g { toList := List.map (Value.int IntKind.u8) (putJ zs k x 1) }).setRow g { toList := List.map (Value.int IntKind.u8) (putJ zs k x 2) }).setRow g { toList := List.map (Value.int IntKind.u8) (putJ zs k x 3) }).setRow g { toList := List.map (Value.int IntKind.u8) (putJ zs k x 4) }).setRow g { toList := List.map (Value.int IntKind.u8) (putJ zs k x 5) }) ∧
                                              Sem.run Sagg.prog (binOp BinOp.shr 31 (Value.int IntKind.u64 ↑x) (Value.int IntKind.u64 16)) (((((w.setRow g { toList := List.map (Value.int IntKind.u8) (putJ zs k x 1) }).setRow g { toList := List.map (Value.int IntKind.u8) (putJ zs k x 2) }).setRow g { toList := List.map (Value.int IntKind.u8) (putJ zs k x 3) }).setRow g { toList := List.map (Value.int IntKind.u8) (putJ zs k x 4) }).setRow g { toList := List.map (Value.int IntKind.u8) (putJ zs k x 5) }) = Result.ok (Value.int IntKind.u64 ↑(x / 65536)) (((((w.setRow g { toList := List.map (Value.int IntKind.u8) (putJ zs k x 1) }).setRow g { toList := List.map (Value.int IntKind.u8) (putJ zs k x 2) }).setRow g { toList := List.map (Value.int IntKind.u8) (putJ zs k x 3) }).setRow g { toList := List.map (Value.int IntKind.u8) (putJ zs k x 4) }).setRow g { toList := List.map (Value.int IntKind.u8) (putJ zs k x 5) }) ∧
                                                Sem.run Sagg.prog (convert 31 5 (Value.int IntKind.u64 ↑(x / 65536))) (((((w.setRow g { toList := List.map (Value.int IntKind.u8) (putJ zs k x 1) }).setRow g { toList := List.map (Value.int IntKind.u8) (putJ zs k x 2) }).setRow g { toList := List.map (Value.int IntKind.u8) (putJ zs k x 3) }).setRow g { toList := List.map (Value.int IntKind.u8) (putJ zs k x 4) }).setRow g { toList := List.map (Value.int IntKind.u8) (putJ zs k x 5) }) = Result.ok (Value.int IntKind.u8 ↑(x / 65536 % 256)) (((((w.setRow g { toList := List.map (Value.int IntKind.u8) (putJ zs k x 1) }).setRow g { toList := List.map (Value.int IntKind.u8) (putJ zs k x 2) }).setRow g { toList := List.map (Value.int IntKind.u8) (putJ zs k x 3) }).setRow g { toList := List.map (Value.int IntKind.u8) (putJ zs k x 4) }).setRow g { toList := List.map (Value.int IntKind.u8) (putJ zs k x 5) }) ∧
                                                  Sem.run Sagg.prog (Instr.indexAt 81 (Value.pointer (some { block := g, off := 0 + k })) (Value.int IntKind.i64 5)) (((((w.setRow g { toList := List.map (Value.int IntKind.u8) (putJ zs k x 1) }).setRow g { toList := List.map (Value.int IntKind.u8) (putJ zs k x 2) }).setRow g { toList := List.map (Value.int IntKind.u8) (putJ zs k x 3) }).setRow g { toList := List.map (Value.int IntKind.u8) (putJ zs k x 4) }).setRow g { toList := List.map (Value.int IntKind.u8) (putJ zs k x 5) }) = Result.ok (Value.pointer (some { block := g, off := k + 5 })) (((((w.setRow g { toList := List.map (Value.int IntKind.u8) (putJ zs k x 1) }).setRow g { toList := List.map (Value.int IntKind.u8) (putJ zs k x 2) }).setRow g { toList := List.map (Value.int IntKind.u8) (putJ zs k x 3) }).setRow g { toList := List.map (Value.int IntKind.u8) (putJ zs k x 4) }).setRow g { toList := List.map (Value.int IntKind.u8) (putJ zs k x 5) }) ∧
                                                    Sem.run Sagg.prog
                                                          (do
                                                            storeVar 5 { block := g, off := k + 5 } (Value.int IntKind.u8 ↑(x / 65536 % 256))
                                                            pure undef)
                                                          (((((w.setRow g { toList := List.map (Value.int IntKind.u8) (putJ zs k x 1) }).setRow g { toList := List.map (Value.int IntKind.u8) (putJ zs k x 2) }).setRow g { toList := List.map (Value.int IntKind.u8) (putJ zs k x 3) }).setRow g { toList := List.map (Value.int IntKind.u8) (putJ zs k x 4) }).setRow g { toList := List.map (Value.int IntKind.u8) (putJ zs k x 5) }) =
                                                        Result.ok (Value.tuple { toList := [] }) ((((((w.setRow g { toList := List.map (Value.int IntKind.u8) (putJ zs k x 1) }).setRow g { toList := List.map (Value.int IntKind.u8) (putJ zs k x 2) }).setRow g { toList := List.map (Value.int IntKind.u8) (putJ zs k x 3) }).setRow g { toList := List.map (Value.int IntKind.u8) (putJ zs k x 4) }).setRow g { toList := List.map (Value.int IntKind.u8) (putJ zs k x 5) }).setRow g { toList := List.map (Value.int IntKind.u8) (putJ zs k x 6) }) ∧
                                                      Sem.run Sagg.prog (binOp BinOp.shr 31 (Value.int IntKind.u64 ↑x) (Value.int IntKind.u64 8)) ((((((w.setRow g { toList := List.map (Value.int IntKind.u8) (putJ zs k x 1) }).setRow g { toList := List.map (Value.int IntKind.u8) (putJ zs k x 2) }).setRow g { toList := List.map (Value.int IntKind.u8) (putJ zs k x 3) }).setRow g { toList := List.map (Value.int IntKind.u8) (putJ zs k x 4) }).setRow g { toList := List.map (Value.int IntKind.u8) (putJ zs k x 5) }).setRow g { toList := List.map (Value.int IntKind.u8) (putJ zs k x 6) }) = Result.ok (Value.int IntKind.u64 ↑(x / 256)) ((((((w.setRow g { toList := List.map (Value.int IntKind.u8) (putJ zs k x 1) }).setRow g { toList := List.map (Value.int IntKind.u8) (putJ zs k x 2) }).setRow g { toList := List.map (Value.int IntKind.u8) (putJ zs k x 3) }).setRow g { toList := List.map (Value.int IntKind.u8) (putJ zs k x 4) }).setRow g { toList := List.map (Value.int IntKind.u8) (putJ zs k x 5) }).setRow g { toList := List.map (Value.int IntKind.u8) (putJ zs k x 6) }) ∧
                                                        Sem.run Sagg.prog (convert 31 5 (Value.int IntKind.u64 ↑(x / 256))) ((((((w.setRow g { toList := List.map (Value.int IntKind.u8) (putJ zs k x 1) }).setRow g { toList := List.map (Value.int IntKind.u8) (putJ zs k x 2) }).setRow g { toList := List.map (Value.int IntKind.u8) (putJ zs k x 3) }).setRow g { toList := List.map (Value.int IntKind.u8) (putJ zs k x 4) }).setRow g { toList := List.map (Value.int IntKind.u8) (putJ zs k x 5) }).setRow g { toList := List.map (Value.int IntKind.u8) (putJ zs k x 6) }) = Result.ok (Value.int IntKind.u8 ↑(x / 256 % 256)) ((((((w.setRow g { toList := List.map (Value.int IntKind.u8) (putJ zs k x 1) }).setRow g { toList := List.map (Value.int IntKind.u8) (putJ zs k x 2) }).setRow g { toList := List.map (Value.int IntKind.u8) (putJ zs k x 3) }).setRow g { toList := List.map (Value.int IntKind.u8) (putJ zs k x 4) }).setRow g { toList := List.map (Value.int IntKind.u8) (putJ zs k x 5) }).setRow g { toList := List.map (Value.int IntKind.u8) (putJ zs k x 6) }) ∧
                                                          Sem.run Sagg.prog (Instr.indexAt 81 (Value.pointer (some { block := g, off := 0 + k })) (Value.int IntKind.i64 6)) ((((((w.setRow g { toList := List.map (Value.int IntKind.u8) (putJ zs k x 1) }).setRow g { toList := List.map (Value.int IntKind.u8) (putJ zs k x 2) }).setRow g { toList := List.map (Value.int IntKind.u8) (putJ zs k x 3) }).setRow g { toList := List.map (Value.int IntKind.u8) (putJ zs k x 4) }).setRow g { toList := List.map (Value.int IntKind.u8) (putJ zs k x 5) }).setRow g { toList := List.map (Value.int IntKind.u8) (putJ zs k x 6) }) = Result.ok (Value.pointer (some { block := g, off := k + 6 })) ((((((w.setRow g { toList := List.map (Value.int IntKind.u8) (putJ zs k x 1) }).setRow g { toList := List.map (Value.int IntKind.u8) (putJ zs k x 2) }).setRow g { toList := List.map (Value.int IntKind.u8) (putJ zs k x 3) }).setRow g { toList := List.map (Value.int IntKind.u8) (putJ zs k x 4) }).setRow g { toList := List.map (Value.int IntKind.u8) (putJ zs k x 5) }).setRow g { toList := List.map (Value.int IntKind.u8) (putJ zs k x 6) }) ∧
                                                            Sem.run Sagg.prog
                                                                  (do
                                                                    storeVar 5 { block := g, off := k + 6 } (Value.int IntKind.u8 ↑(x / 256 % 256))
                                                                    pure undef)
                                                                  ((((((w.setRow g { toList := List.map (Value.int IntKind.u8) (putJ zs k x 1) }).setRow g { toList := List.map (Value.int IntKind.u8) (putJ zs k x 2) }).setRow g { toList := List.map (Value.int IntKind.u8) (putJ zs k x 3) }).setRow g { toList := List.map (Value.int IntKind.u8) (putJ zs k x 4) }).setRow g { toList := List.map (Value.int IntKind.u8) (putJ zs k x 5) }).setRow g { toList := List.map (Value.int IntKind.u8) (putJ zs k x 6) }) =
                                                                Result.ok (Value.tuple { toList := [] }) (((((((w.setRow g { toList := List.map (Value.int IntKind.u8) (putJ zs k x 1) }).setRow g { toList := List.map (Value.int IntKind.u8) (putJ zs k x 2) }).setRow g { toList := List.map (Value.int IntKind.u8) (putJ zs k x 3) }).setRow g { toList := List.map (Value.int IntKind.u8) (putJ zs k x 4) }).setRow g { toList := List.map (Value.int IntKind.u8) (putJ zs k x 5) }).setRow g { toList := List.map (Value.int IntKind.u8) (putJ zs k x 6) }).setRow g { toList := List.map (Value.int IntKind.u8) (putJ zs k x 7) }) ∧
                                                              Sem.run Sagg.prog (convert 31 5 (Value.int IntKind.u64 ↑x)) (((((((w.setRow g { toList := List.map (Value.int IntKind.u8) (putJ zs k x 1) }).setRow g { toList := List.map (Value.int IntKind.u8) (putJ zs k x 2) }).setRow g { toList := List.map (Value.int IntKind.u8) (putJ zs k x 3) }).setRow g { toList := List.map (Value.int IntKind.u8) (putJ zs k x 4) }).setRow g { toList := List.map (Value.int IntKind.u8) (putJ zs k x 5) }).setRow g { toList := List.map (Value.int IntKind.u8) (putJ zs k x 6) }).setRow g { toList := List.map (Value.int IntKind.u8) (putJ zs k x 7) }) = Result.ok (Value.int IntKind.u8 ↑(x / 1 % 256)) (((((((w.setRow g { toList := List.map (Value.int IntKind.u8) (putJ zs k x 1) }).setRow g { toList := List.map (Value.int IntKind.u8) (putJ zs k x 2) }).setRow g { toList := List.map (Value.int IntKind.u8) (putJ zs k x 3) }).setRow g { toList := List.map (Value.int IntKind.u8) (putJ zs k x 4) }).setRow g { toList := List.map (Value.int IntKind.u8) (putJ zs k x 5) }).setRow g { toList := List.map (Value.int IntKind.u8) (putJ zs k x 6) }).setRow g { toList := List.map (Value.int IntKind.u8) (putJ zs k x 7) }) ∧
                                                                Sem.run Sagg.prog (Instr.indexAt 81 (Value.pointer (some { block := g, off := 0 + k })) (Value.int IntKind.i64 7)) (((((((w.setRow g { toList := List.map (Value.int IntKind.u8) (putJ zs k x 1) }).setRow g { toList := List.map (Value.int IntKind.u8) (putJ zs k x 2) }).setRow g { toList := List.map (Value.int IntKind.u8) (putJ zs k x 3) }).setRow g { toList := List.map (Value.int IntKind.u8) (putJ zs k x 4) }).setRow g { toList := List.map (Value.int IntKind.u8) (putJ zs k x 5) }).setRow g { toList := List.map (Value.int IntKind.u8) (putJ zs k x 6) }).setRow g { toList := List.map (Value.int IntKind.u8) (putJ zs k x 7) }) = Result.ok (Value.pointer (some { block := g, off := k + 7 })) (((((((w.setRow g { toList := List.map (Value.int IntKind.u8) (putJ zs k x 1) }).setRow g { toList := List.map (Value.int IntKind.u8) (putJ zs k x 2) }).setRow g { toList := List.map (Value.int IntKind.u8) (putJ zs k x 3) }).setRow g { toList := List.map (Value.int IntKind.u8) (putJ zs k x 4) }).setRow g { toList := List.map (Value.int IntKind.u8) (putJ zs k x 5) }).setRow g { toList := List.map (Value.int IntKind.u8) (putJ zs k x 6) }).setRow g { toList := List.map (Value.int IntKind.u8) (putJ zs k x 7) }) ∧
                                                                  Sem.run Sagg.prog
                                                                        (do
                                                                          storeVar 5 { block := g, off := k + 7 } (Value.int IntKind.u8 ↑(x / 1 % 256))
                                                                          pure undef)
                                                                        (((((((w.setRow g { toList := List.map (Value.int IntKind.u8) (putJ zs k x 1) }).setRow g { toList := List.map (Value.int IntKind.u8) (putJ zs k x 2) }).setRow g { toList := List.map (Value.int IntKind.u8) (putJ zs k x 3) }).setRow g { toList := List.map (Value.int IntKind.u8) (putJ zs k x 4) }).setRow g { toList := List.map (Value.int IntKind.u8) (putJ zs k x 5) }).setRow g { toList := List.map (Value.int IntKind.u8) (putJ zs k x 6) }).setRow g { toList := List.map (Value.int IntKind.u8) (putJ zs k x 7) }) =
                                                                      Result.ok (Value.tuple { toList := [] }) ((((((((w.setRow g { toList := List.map (Value.int IntKind.u8) (putJ zs k x 1) }).setRow g { toList := List.map (Value.int IntKind.u8) (putJ zs k x 2) }).setRow g { toList := List.map (Value.int IntKind.u8) (putJ zs k x 3) }).setRow g { toList := List.map (Value.int IntKind.u8) (putJ zs k x 4) }).setRow g { toList := List.map (Value.int IntKind.u8) (putJ zs k x 5) }).setRow g { toList := List.map (Value.int IntKind.u8) (putJ zs k x 6) }).setRow g { toList := List.map (Value.int IntKind.u8) (putJ zs k x 7) }).setRow g { toList := List.map (Value.int IntKind.u8) (putJ zs k x 8) }) ∧
                                                                    (post18 zs g k x w) (Ending.returned (Value.bool true)) ((((((((w.setRow g { toList := List.map (Value.int IntKind.u8) (putJ zs k x 1) }).setRow g { toList := List.map (Value.int IntKind.u8) (putJ zs k x 2) }).setRow g { toList := List.map (Value.int IntKind.u8) (putJ zs k x 3) }).setRow g { toList := List.map (Value.int IntKind.u8) (putJ zs k x 4) }).setRow g { toList := List.map (Value.int IntKind.u8) (putJ zs k x 5) }).setRow g { toList := List.map (Value.int IntKind.u8) (putJ zs k x 6) }).setRow g { toList := List.map (Value.int IntKind.u8) (putJ zs k x 7) }).setRow g { toList := List.map (Value.int IntKind.u8) (putJ zs k x 8) })) (by kernel_rfl) ?_
  exact ⟨(callSame (inside_calls n k w (by omega) true ⟨fun _ => ⟨by omega, by omega⟩, fun _ => rfl⟩)), (addN (b := 8) (by omega)), (slice8n hk), (shrU (s := 56) (by omega) rfl), (conv18 (s := 56) (j := 0) (by decide)), (index_at (j := 0) (by omega)), (store18 (j := 0) hr (by omega)), (shrU (s := 48) (by omega) rfl), (conv18 (s := 48) (j := 1) (by decide)), (index_at (j := 1) (by omega)), (store18 (j := 1) (row_set hr) (by omega)), (shrU (s := 40) (by omega) rfl), (conv18 (s := 40) (j := 2) (by decide)), (index_at (j := 2) (by omega)), (store18 (j := 2) (row_set (row_set hr)) (by omega)), (shrU (s := 32) (by omega) rfl), (conv18 (s := 32) (j := 3) (by decide)), (index_at (j := 3) (by omega)), (store18 (j := 3) (row_set (row_set (row_set hr))) (by omega)), (shrU (s := 24) (by omega) rfl), (conv18 (s := 24) (j := 4) (by decide)), (index_at (j := 4) (by omega)), (store18 (j := 4) (row_set (row_set (row_set (row_set hr)))) (by omega)), (shrU (s := 16) (by omega) rfl), (conv18 (s := 16) (j := 5) (by decide)), (index_at (j := 5) (by omega)), (store18 (j := 5) (row_set (row_set (row_set (row_set (row_set hr))))) (by omega)), (shrU (s := 8) (by omega) rfl), (conv18 (s := 8) (j := 6) (by decide)), (index_at (j := 6) (by omega)), (store18 (j := 6) (row_set (row_set (row_set (row_set (row_set (row_set hr)))))) (by omega)), conv18z, (index_at (j := 7) (by omega)), (store18 (j := 7) (row_set (row_set (row_set (row_set (row_set (row_set (row_set hr))))))) (by omega)), ⟨rfl, (kept_row (kept_row (kept_row (kept_row (kept_row (kept_row (kept_row (kept_row (Below.refl _ _) (Nat.le_refl _) _) (Nat.le_refl _) _) (Nat.le_refl _) _) (Nat.le_refl _) _) (Nat.le_refl _) _) (Nat.le_refl _) _) (Nat.le_refl _) _) (Nat.le_refl _) _), (row_set (row_set (row_set (row_set (row_set (row_set (row_set (row_set hr))))))))⟩⟩
end Go.Proofs.Ygcsag
