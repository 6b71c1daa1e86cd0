/-
  'wordsHolds', 'div64Holds', 'Div64'.
-/
import Derived.Test.YgcsagNH
import Derived.Test.YgcsagNatD
namespace Go.Proofs.Ygcsag
open Go.RowKit
set_option linter.unusedVariables false
set_option linter.unusedSimpArgs false

theorem words_calls (n : Nat) (w : World) (hn : n < 18446744073709551616) : Calls Sagg.prog 21 #[.int .u64 (n : Int)] w fun e w' => e = .returned (.int .u64 ((n + 31) / 32 : Nat)) ∧ w' = w := words_core n w hn

theorem isN_later {w w' : World} {v : Value} {n : Int} (h : IsN w v n) (hb : Below w.heap.size w w') : IsN w' v n := by
  obtain ⟨zs, h1, h2, h3, h4⟩ := h
  exact ⟨zs, h1.ext hb, h2, h3, h4⟩
theorem isN_slice {w : World} {v : Value} {n : Int} (h : IsN w v n) : ∃ a len cap zs, v = .slice a len cap ∧ zs.length = len ∧ len ≤ cap ∧ cap ≤ maxLen ∧ ByteRow w a zs ∧ val zs = n ∧ Norm zs := by
  obtain ⟨zs, ⟨a, cap, hv, h1, h2, hr⟩, hn, hval, h0⟩ := h
  exact ⟨a, _, cap, zs, hv, rfl, h1, h2, hr, hval, hn⟩
theorem len_le {zs : List Int} {N : Int} (hd : Dig zs) (hn : Norm zs) (hv : val zs = N) (hN : N < 256 ^ 200) : zs.length ≤ 200 := by
  rcases Nat.lt_or_ge 200 zs.length with h | h
  · have := val_lb hd hn (k := zs.length - 1) (by omega)
    have h2 := pow256_le (show 200 ≤ zs.length - 1 by omega)
    have : (256 : Int) ^ 200 ≤ N := by rw [← hv]; exact Int.le_trans h2 this
    exact absurd hN (by omega)
  · exact h
/-- A call that returns a number. -/
def numK {Γ : Type} (n : Int) (g : Γ) (w : World) (C : Γ → Value → World → Prop) : Prop := ∀ v W', IsN W' v n → Below w.heap.size w W' → C g v W'
theorem numK_ok {Γ : Type} {f : FuncId} {args : Array Value} {w : World} {n : Int} {g : Γ} (h : Calls Sagg.prog f args w fun e w' => ∃ v, e = .returned v ∧ IsN w' v n ∧ Below w.heap.size w w') : CallOK Sagg.prog f args w fun C : Γ → Value → World → Prop => numK n g w C := by
  intro C hC
  refine h.mono ?_
  rintro e w' ⟨v, rfl, hn, hb⟩
  exact ⟨g, v, rfl, hC v w' hn hb⟩
theorem pow2N (k : Nat) (hk : k < 65536) (w : World) : Calls Sagg.prog 10 #[.int .u16 (k : Int)] w fun e w' => ∃ v, e = .returned v ∧ IsN w' v (2 ^ k) ∧ Below w.heap.size w w' := by
  refine (pow2_calls k hk w).mono ?_
  rintro e w' ⟨rfl, rfl⟩
  refine ⟨_, rfl, ⟨powDigits k, ?_, norm_powDigits k, val_powDigits k, fun e => ?_⟩, (Below.refl _ _).alloc (Nat.le_refl _) _⟩
  · have hr : RowAt (w.alloc (.cells (rowOf (powDigits k)) 5)) w.heap.size (powDigits k) := RowAt.alloc _
    have hi := hr.isB (dig_powDigits k) (by rw [powDigits_length]; unfold maxLen; omega)
    rwa [powDigits_length] at hi
  · have := congrArg List.length e
    rw [powDigits_length] at this
    simp at this
theorem mulN {w : World} {u v : Value} {a b : Int} (h1 : IsN w u a) (h2 : IsN w v b) (ha : a < 256 ^ 200) (hb : b < 256 ^ 200) : Calls Sagg.prog 37 #[u, v] w fun e w' => ∃ z, e = .returned z ∧ IsN w' z (a * b) ∧ Below w.heap.size w w' := by
  obtain ⟨a1, n1, c1, z1, rfl, l1, lc1, m1, r1, v1, k1⟩ := isN_slice h1
  obtain ⟨a2, n2, c2, z2, rfl, l2, lc2, m2, r2, v2, k2⟩ := isN_slice h2
  have b1 := len_le r1.1 k1 v1 ha
  have b2 := len_le r2.1 k2 v2 hb
  rw [← v1, ← v2]
  exact mul_calls a1 a2 n1 c1 n2 c2 z1 z2 w l1 l2 lc1 lc2 m1 m2 (by omega) r1 r2
theorem sumN {w : World} {u v : Value} {a b : Int} (h1 : IsN w u a) (h2 : IsN w v b) (ha : a < 256 ^ 200) (hb : b < 256 ^ 200) : Calls Sagg.prog 9 #[u, v] w fun e w' => ∃ z, e = .returned z ∧ IsN w' z (a + b) ∧ Below w.heap.size w w' := by
  obtain ⟨a1, n1, c1, z1, rfl, l1, lc1, m1, r1, v1, k1⟩ := isN_slice h1
  obtain ⟨a2, n2, c2, z2, rfl, l2, lc2, m2, r2, v2, k2⟩ := isN_slice h2
  have b1 := len_le r1.1 k1 v1 ha
  have b2 := len_le r2.1 k2 v2 hb
  rw [← v1, ← v2]
  exact add_calls a1 a2 n1 c1 n2 c2 z1 z2 w l1 l2 lc1 lc2 m1 m2 (by omega) (by omega) r1 r2
/-- A comparison of equals. -/
def cmpK {Γ : Type} (g : Γ) (w : World) (C : Γ → Value → World → Prop) : Prop := ∀ W', Below w.heap.size w W' → C g (.int .i8 0) W'
theorem cmpK_ok {Γ : Type} {w : World} {u v : Value} {a b : Int} {g : Γ} (h1 : IsN w u a) (h2 : IsN w v b) (e : a = b) : CallOK Sagg.prog 39 #[u, v] w fun C : Γ → Value → World → Prop => cmpK g w C := by
  intro C hC
  obtain ⟨a1, n1, c1, z1, rfl, l1, lc1, m1, r1, v1, k1⟩ := isN_slice h1
  obtain ⟨a2, n2, c2, z2, rfl, l2, lc2, m2, r2, v2, k2⟩ := isN_slice h2
  refine (cmp_calls a1 a2 n1 c1 n2 c2 z1 z2 w l1 l2 lc1 lc2 m1 m2 r1 r2).mono ?_
  rintro e w' ⟨rfl, m, rfl⟩
  refine ⟨g, _, rfl, ?_⟩
  have : cmpI (val z1) (val z2) = 0 := by unfold cmpI; rw [v1, v2, ‹a = b›]; simp
  rw [this]
  exact hC _ (kept_drew (Below.refl _ _) m)

/-! ### wordsHolds -/
structure G20 where
  z : Bool := false
  h : Nat := 0
def G20.at (g : G20) (W : World) : G20 := { g with h := W.heap.size }
def G20.t : G20 := { z := true }
def G20.f : G20 := { z := false }
def cut20 (n : Nat) (w : World) (C : G20 → World → Prop) : Prop := (n % 32 = 0 → C G20.t w) ∧ (n % 32 ≠ 0 → C G20.f w)
theorem cut20_ok (n : Nat) (w : World) : CutOK (cut20 n w) w := by
  rintro C ⟨h1, h2⟩
  by_cases e : n % 32 = 0
  · exact ⟨_, h1 e⟩
  · exact ⟨_, h2 e⟩
def dmT (n : Nat) (g : G20) (w : World) (C : G20 → Value → World → Prop) : Prop := ∀ q W', IsN W' q ((n / 32 : Nat) : Int) → Below w.heap.size w W' → match g.z with
  | true => C (g.at W') (.tuple #[q, .slice none 0 0, .bool true]) W'
  | false => ∀ a l c, 0 < l → C (g.at W') (.tuple #[q, .slice a l c, .bool true]) W'
def byteSl (x : Int) : Tip G20 := { val := some fun g => .slice (some ⟨g.h, 0, none⟩) 1 1, wld := some fun _ w => w.alloc (.cells #[.int .u8 x] 5) }
def numH (n : Int) (g : G20) (w : World) (C : G20 → Value → World → Prop) : Prop := ∀ v W', IsN W' v n → Below w.heap.size w W' → C (g.at W') v W'
theorem numH_ok {f : FuncId} {args : Array Value} {w : World} {n : Int} {g : G20} (h : Calls Sagg.prog f args w fun e w' => ∃ v, e = .returned v ∧ IsN w' v n ∧ Below w.heap.size w w') : CallOK Sagg.prog f args w fun C => numH n g w C := by
  intro C hC
  refine h.mono ?_
  rintro e w' ⟨v, rfl, hn, hb⟩
  exact ⟨_, v, rfl, hC v w' hn hb⟩
theorem build_one (x : Int) (w : World) (t : TypeId) (h : (Instr.buildSlice t 1 #[(0, .int .u8 x)]).run Sagg.prog w = .ok (.slice (some ⟨w.heap.size, 0, none⟩) 1 1) (w.alloc (.cells #[.int .u8 x] 5))) (hx : 0 < x ∧ x < 256) : IsN (w.alloc (.cells #[.int .u8 x] 5)) (.slice (some ⟨w.heap.size, 0, none⟩) 1 1) x := by
  have h0 : (w.alloc (.cells #[.int .u8 x] 5)).heap[w.heap.size]? = some (.cells (rowOf [x]) 5 (0, 0)) := alloc_row
  have := row_isN (zs := [x]) h0 (Dig.cons ⟨by omega, hx.2⟩ Dig.nil) (by simp [Norm]; omega) (by simp) (by simp [maxLen])
  simpa [val] using this
theorem build32 (w : World) : (Instr.buildSlice 25 1 #[(0, .int .u8 32)]).run Sagg.prog w = .ok (.slice (some ⟨w.heap.size, 0, none⟩) 1 1) (w.alloc (.cells #[.int .u8 32] 5)) := by kernel_rfl
theorem build1 (w : World) : (Instr.buildSlice 25 1 #[(0, .int .u8 1)]).run Sagg.prog w = .ok (.slice (some ⟨w.heap.size, 0, none⟩) 1 1) (w.alloc (.cells #[.int .u8 1] 5)) := by kernel_rfl
theorem dm_ok {n : Nat} {w : World} {u v : Value} {g : G20} (hn : n < 18446744073709551616) (h1 : IsN w u (n : Int)) (h2 : IsN w v 32) (hg : g.z = true ↔ n % 32 = 0) : CallOK Sagg.prog 35 #[u, v] w fun C => dmT n g w C := by
  intro C hC
  obtain ⟨a1, n1, c1, z1, rfl, l1, lc1, m1, r1, v1, k1⟩ := isN_slice h1
  obtain ⟨a2, n2, c2, z2, rfl, l2, lc2, m2, r2, v2, k2⟩ := isN_slice h2
  have b1 := len_le r1.1 k1 v1 (Int.lt_trans (show (n : Int) < 18446744073709551616 by omega) (by decide))
  have b2 := len_le r2.1 k2 v2 (by decide)
  refine (divmod_calls a1 a2 n1 c1 n2 c2 z1 z2 w l1 l2 lc1 lc2 m1 m2 (by omega) (by omega) r1 r2 (by rw [v2]; omega)).mono ?_
  rintro e w' ⟨q, r, rfl, hq, hr, hb⟩
  rw [v1, v2] at hq hr
  have hT := hC q w' (by rw [Int.natCast_ediv]; exact hq) hb
  cases hz : g.z with
  | true =>
    rw [hz] at hT
    obtain ⟨zs, hB, hnm, hv, h0⟩ := hr
    have e0 : (n : Int) % 32 = 0 := by have := hg.1 hz; omega
    rw [e0] at hv
    exact ⟨g.at w', _, rfl, by rw [h0 (norm_zero hB.dig hnm hv)]; exact hT⟩
  | false =>
    rw [hz] at hT
    obtain ⟨a3, n3, c3, z3, rfl, l3, lc3, m3, r3, v3, k3⟩ := isN_slice hr
    refine ⟨g.at w', _, rfl, hT a3 n3 c3 ?_⟩
    rcases Nat.eq_zero_or_pos n3 with h0 | h0
    · exfalso
      rw [h0] at l3
      rw [List.length_eq_zero_iff.1 l3] at v3
      have : n % 32 = 0 := by simp [val] at v3; omega
      rw [hg.2 this] at hz
      cases hz
    · exact h0
def tips20 (n wv : Nat) : Tips G20 where
  ops := [(10, { tr := some fun g w C => numH (n : Int) g w C }), (11, byteSl 32), (20, byteSl 1), (12, { tr := some fun g w C => dmT n g w C }), (18, { val := some fun g => .bool (!g.z) }), (21, { tr := some fun g w C => numK ((n / 32 : Nat) + 1 : Int) g w C }), (24, { tr := some fun g w C => numK (wv : Int) g w C }), (25, { tr := some fun g w C => cmpK g w C })]
  cuts := [(1, fun _ w C => cut20 n w C)]
theorem bel_tr2 {a b c : World} (h : Below a.heap.size a b) (k : Below b.heap.size b c) : Below a.heap.size a c := h.trans (Below.mono ⟨k.os, k.tape, k.output, k.size, k.block⟩ h.size)
theorem bel_alloc {a b c : World} {o : Obj} (h : Below a.heap.size a b) (k : Below (b.alloc o).heap.size (b.alloc o) c) : Below a.heap.size a c := bel_tr2 (bel_tr2 h ((Below.refl _ _).alloc (Nat.le_refl _) o)) k
theorem small200 {n : Nat} (h : n < 36893488147419103232) : (n : Int) < 256 ^ 200 := Int.lt_trans (show (n : Int) < 36893488147419103232 by omega) (by decide)

set_option maxRecDepth 100000 in
set_option maxHeartbeats 8000000 in
theorem wordsHolds_core (n wv : Nat) (w : World) (hn : n < 18446744073709551616) (hw : wv = (n + 31) / 32) : Calls Sagg.prog 20 #[.int .u64 (n : Int), .int .u64 (wv : Int)] w (postR2 w) := by
  refine CX_calls (tips20 n wv) {} (by kernel_rfl) Sagg.func20 rfl _ rfl (by kernel_rfl) ?_
  refine of_eq (p := CutOK (fun (C : G20 → World → Prop) => cut20 n w C) w ∧ (n % 32 = 0 → (CallOK Sagg.prog 38 { toList := [Value.int IntKind.u64 ↑n] } w fun (C : G20 → Value → World → Prop) => numH (↑n) G20.t w C) ∧ ∀ (v : Value) (W' : World), IsN W' v ↑n → Below w.heap.size w W' → Sem.run Sagg.prog (Instr.buildSlice 25 1 { toList := [(0, Value.int IntKind.u8 32)] }) W' = Result.ok (Value.slice (some { block := W'.heap.size, off := 0 }) 1 1) (W'.alloc (Obj.cells { toList := [Value.int IntKind.u8 32] } 5)) ∧ (CallOK Sagg.prog 35 { toList := [v, Value.slice (some { block := W'.heap.size, off := 0 }) 1 1] } (W'.alloc (Obj.cells { toList := [Value.int IntKind.u8 32] } 5)) fun (C : G20 → Value → World → Prop) => dmT n (G20.t.at W') (W'.alloc (Obj.cells #[Value.int IntKind.u8 32] 5)) C) ∧ ∀ (q : Value) (W'_1 : World), IsN W'_1 q ↑(n / 32) → Below (W'.heap.push (Obj.cells #[Value.int IntKind.u8 32] 5)).size (W'.alloc (Obj.cells #[Value.int IntKind.u8 32] 5)) W'_1 → Sem.run Sagg.prog (binOp BinOp.gtr 3 (Value.int IntKind.i64 ↑0) (Value.int IntKind.i64 0)) W'_1 = Result.ok (Value.bool false) W'_1 ∧ (CallOK Sagg.prog 38 { toList := [Value.int IntKind.u64 ↑wv] } W'_1 fun (C : G20 → Value → World → Prop) => numK (↑wv) ((G20.t.at W').at W'_1) W'_1 C) ∧ ∀ (v : Value) (W'_2 : World), IsN W'_2 v ↑wv → Below W'_1.heap.size W'_1 W'_2 → (CallOK Sagg.prog 39 { toList := [q, v] } W'_2 fun (C : G20 → Value → World → Prop) => cmpK ((G20.t.at W').at W'_1) W'_2 C) ∧ ∀ (W' : World), Below W'_2.heap.size W'_2 W' → (postR2 w) (Ending.returned (Value.bool true)) W') ∧ (n % 32 ≠ 0 → (CallOK Sagg.prog 38 { toList := [Value.int IntKind.u64 ↑n] } w fun (C : G20 → Value → World → Prop) => numH (↑n) G20.f w C) ∧ ∀ (v : Value) (W' : World), IsN W' v ↑n → Below w.heap.size w W' → Sem.run Sagg.prog (Instr.buildSlice 25 1 { toList := [(0, Value.int IntKind.u8 32)] }) W' = Result.ok (Value.slice (some { block := W'.heap.size, off := 0 }) 1 1) (W'.alloc (Obj.cells { toList := [Value.int IntKind.u8 32] } 5)) ∧ (CallOK Sagg.prog 35 { toList := [v, Value.slice (some { block := W'.heap.size, off := 0 }) 1 1] } (W'.alloc (Obj.cells { toList := [Value.int IntKind.u8 32] } 5)) fun (C : G20 → Value → World → Prop) => dmT n (G20.f.at W') (W'.alloc (Obj.cells #[Value.int IntKind.u8 32] 5)) C) ∧ ∀ (q : Value) (W'_1 : World), IsN W'_1 q ↑(n / 32) → Below (W'.heap.push (Obj.cells #[Value.int IntKind.u8 32] 5)).size (W'.alloc (Obj.cells #[Value.int IntKind.u8 32] 5)) W'_1 → ∀ (a : Option Addr) (l c : Nat), 0 < l → Sem.run Sagg.prog (binOp BinOp.gtr 3 (Value.int IntKind.i64 ↑l) (Value.int IntKind.i64 0)) W'_1 = Result.ok (Value.bool true) W'_1 ∧ Sem.run Sagg.prog (Instr.buildSlice 25 1 { toList := [(0, Value.int IntKind.u8 1)] }) W'_1 = Result.ok (Value.slice (some { block := W'_1.heap.size, off := 0 }) 1 1) (W'_1.alloc (Obj.cells { toList := [Value.int IntKind.u8 1] } 5)) ∧ (CallOK Sagg.prog 9 { toList := [q, Value.slice (some { block := W'_1.heap.size, off := 0 }) 1 1] } (W'_1.alloc (Obj.cells { toList := [Value.int IntKind.u8 1] } 5)) fun (C : G20 → Value → World → Prop) => numK (↑(n / 32) + 1) ((G20.f.at W').at W'_1) (W'_1.alloc (Obj.cells #[Value.int IntKind.u8 1] 5)) C) ∧ ∀ (v : Value) (W'_2 : World), IsN W'_2 v (↑(n / 32) + 1) → Below (W'_1.heap.push (Obj.cells #[Value.int IntKind.u8 1] 5)).size (W'_1.alloc (Obj.cells #[Value.int IntKind.u8 1] 5)) W'_2 → (CallOK Sagg.prog 38 { toList := [Value.int IntKind.u64 ↑wv] } W'_2 fun (C : G20 → Value → World → Prop) => numK (↑wv) ((G20.f.at W').at W'_1) W'_2 C) ∧ ∀ (v_1 : Value) (W'_3 : World), IsN W'_3 v_1 ↑wv → Below W'_2.heap.size W'_2 W'_3 → (CallOK Sagg.prog 39 { toList := [v, v_1] } W'_3 fun (C : G20 → Value → World → Prop) => cmpK ((G20.f.at W').at W'_1) W'_3 C) ∧ ∀ (W' : World), Below W'_3.heap.size W'_3 W' → (postR2 w) (Ending.returned (Value.bool true)) W')) (by kernel_rfl) ?_
  exact ⟨(cut20_ok _ _), (fun h1 => ⟨(numH_ok (fromU64_calls n _ (by omega))), (fun v3 => (fun W'4 => (fun h5 => (fun h6 => ⟨(build32 _), (dm_ok (w := W'4.alloc (.cells #[.int .u8 32] 5)) hn (isN_later h5 ((Below.refl _ _).alloc (Nat.le_refl _) _)) (build_one 32 W'4 25 (build32 _) (by omega)) ⟨fun _ => by assumption, fun _ => rfl⟩), (fun q9 => (fun W'10 => (fun h11 => (fun h12 => ⟨(gtr_f (by omega)), (numK_ok (fromU64_calls wv _ (by omega))), (fun v15 => (fun W'16 => (fun h17 => (fun h18 => ⟨(cmpK_ok (isN_later h11 h18) h17 (by omega)), (fun W'20 => (fun h21 => ⟨rfl, (bel_tr2 (bel_tr2 (bel_alloc (bel_tr2 (Below.refl _ _) h6) h12) h18) h21)⟩))⟩))))⟩))))⟩))))⟩), (fun h23 => ⟨(numH_ok (fromU64_calls n _ (by omega))), (fun v25 => (fun W'26 => (fun h27 => (fun h28 => ⟨(build32 _), (dm_ok (w := W'26.alloc (.cells #[.int .u8 32] 5)) hn (isN_later h27 ((Below.refl _ _).alloc (Nat.le_refl _) _)) (build_one 32 W'26 25 (build32 _) (by omega)) (no_if (by assumption))), (fun q31 => (fun W'32 => (fun h33 => (fun h34 => (fun a35 => (fun l36 => (fun c37 => (fun h38 => ⟨(gtr_t (by omega)), (build1 _), (numK_ok (sumN (w := W'32.alloc (.cells #[.int .u8 1] 5)) (isN_later h33 ((Below.refl _ _).alloc (Nat.le_refl _) _)) (build_one 1 W'32 25 (build1 _) (by omega)) (small200 (by omega)) (by decide))), (fun v42 => (fun W'43 => (fun h44 => (fun h45 => ⟨(numK_ok (fromU64_calls wv _ (by omega))), (fun v47 => (fun W'48 => (fun h49 => (fun h50 => ⟨(cmpK_ok (isN_later h44 h50) h49 (by omega)), (fun W'52 => (fun h53 => ⟨rfl, (bel_tr2 (bel_tr2 (bel_alloc (bel_alloc (bel_tr2 (Below.refl _ _) h28) h34) h45) h50) h53)⟩))⟩))))⟩))))⟩))))))))⟩))))⟩)⟩
end Go.Proofs.Ygcsag
