/-
  'Div64', 'div64Holds', 'NumRight'.
-/
import Derived.Test.YgcsagNI
namespace Go.Proofs.Ygcsag
open Go.RowKit
set_option linter.unusedVariables false
set_option linter.unusedSimpArgs false

theorem wordsHolds_calls (n : Nat) (w : World) (hn : n < 18446744073709551616) : Calls Sagg.prog 20 #[.int .u64 (n : Int), .int .u64 ((n + 31) / 32 : Nat)] w fun e w' => e = .returned (.bool true) ∧ Below w.heap.size w w' := wordsHolds_core n _ w hn rfl

structure G13 where
  z : Bool := false
def G13.t : G13 := { z := true }
def G13.f : G13 := { z := false }
def cut13 (y : Nat) (w : World) (C : G13 → World → Prop) : Prop := (y = 0 → C G13.t w) ∧ (0 < y → C G13.f w)
theorem cut13_ok (y : Nat) (w : World) : CutOK (cut13 y w) w := by
  rintro C ⟨h1, h2⟩
  by_cases e : y = 0
  · exact ⟨_, h1 e⟩
  · exact ⟨_, h2 (by omega)⟩
def tips13n (y : Nat) : Tips G13 where
  ops := [(10, { val := some fun g => .bool g.z }), (14, { val := some fun _ => .bool true })]
  cuts := [(1, fun _ w C => cut13 y w C)]
def divT (hi lo y : Nat) (g : G13) (w : World) (C : G13 → Value → World → Prop) : Prop := ∀ (q r m : Nat), q * y + r = hi * 18446744073709551616 + lo → r < y → C g (.tuple #[.int .u64 (q : Int), .int .u64 (r : Int)]) (w.drewN m)
def tips13 (hi lo y : Nat) : Tips G13 where
  ops := [(10, { val := some fun _ => .bool false }), (14, { val := some fun _ => .bool false }), (20, { tr := some fun g w C => divT hi lo y g w C })]
theorem div_ok {hi lo y : Nat} {w : World} {g : G13} (hlt : hi < y) (hy : y < 18446744073709551616) (hlo : lo < 18446744073709551616) : CallOK Sagg.prog 36 #[.int .u64 (hi : Int), .int .u64 (lo : Int), .int .u64 (y : Int)] w fun C => divT hi lo y g w C := by
  intro C hC
  refine (bitsDiv64_calls hi lo y w hlt hy hlo).mono ?_
  rintro e w' ⟨q, r, rfl, ⟨h1, h2⟩, m, rfl⟩
  exact ⟨g, _, rfl, hC q r m h1 h2⟩
/-- What Div64 answers. -/
structure DivRes (hi lo y q r : Nat) (ok : Bool) : Prop where
  yes : hi < y → ok = true ∧ q * y + r = hi * 18446744073709551616 + lo ∧ r < y
  no : ¬ hi < y → ok = false ∧ q = 0 ∧ r = 0
def post13 (hi lo y : Nat) (w : World) : Ending → World → Prop := fun e w' => ∃ q r ok, e = .returned (.tuple #[.int .u64 ((q : Nat) : Int), .int .u64 ((r : Nat) : Int), .bool ok]) ∧ DivRes hi lo y q r ok ∧ ∃ n, w' = w.drewN n
def tips14n (y : Nat) : Tips G13 where
  ops := [(16, { val := some fun g => .bool g.z }), (20, { val := some fun _ => .bool true }), (26, { val := some fun _ => .bool true }), (30, { val := some fun _ => .bool true })]
  cuts := [(1, fun _ w C => cut13 y w C)]
def tips14 (hi lo y q r : Nat) : Tips G13 where
  ops := [(16, { val := some fun _ => .bool false }), (20, { val := some fun _ => .bool false }), (33, { tr := some fun g w C => numK (hi : Int) g w C }), (34, { tr := some fun g w C => numK (2 ^ 64) g w C }), (35, { tr := some fun g w C => numK ((hi : Int) * 2 ^ 64) g w C }), (37, { tr := some fun g w C => numK (lo : Int) g w C }), (38, { tr := some fun g w C => numK ((hi : Int) * 2 ^ 64 + lo) g w C }),
    (40, { tr := some fun g w C => numK (q : Int) g w C }), (42, { tr := some fun g w C => numK (y : Int) g w C }), (43, { tr := some fun g w C => numK ((q : Int) * y) g w C }), (45, { tr := some fun g w C => numK (r : Int) g w C }), (46, { tr := some fun g w C => numK ((q : Int) * y + r) g w C }), (51, { val := some fun _ => .bool true }), (56, { tr := some fun g w C => cmpK g w C })]
theorem prod_small {a b : Nat} (ha : a < 18446744073709551616) (hb : b < 18446744073709551616) : (a : Int) * b < 256 ^ 200 := by
  have h1 : a * b < 18446744073709551616 * 18446744073709551616 := Nat.mul_lt_mul'' ha hb
  rw [← Int.natCast_mul]
  exact Int.lt_trans (show ((a * b : Nat) : Int) < 18446744073709551616 * 18446744073709551616 by omega) (by decide)
theorem hi_small {a : Nat} (ha : a < 18446744073709551616) : (a : Int) * 2 ^ 64 < 256 ^ 200 := by
  have : (a : Int) * 2 ^ 64 < 18446744073709551616 * 18446744073709551616 := by
    have e : (2 : Int) ^ 64 = 18446744073709551616 := by decide
    rw [e]
    omega
  exact Int.lt_trans this (by decide)
theorem same_num {hi lo y q r : Nat} (h : q * y + r = hi * 18446744073709551616 + lo) : (hi : Int) * 2 ^ 64 + lo = (q : Int) * y + r := by
  have e : (2 : Int) ^ 64 = 18446744073709551616 := by decide
  rw [e, ← Int.natCast_mul]
  omega
theorem quo_small {hi lo y q r : Nat} (hlt : hi < y) (hlo : lo < 18446744073709551616) (h : q * y + r = hi * 18446744073709551616 + lo) : q < 18446744073709551616 := by
  rcases Nat.lt_or_ge q 18446744073709551616 with h1 | h1
  · exact h1
  · exfalso
    have : 18446744073709551616 * y ≤ q * y := Nat.mul_le_mul_right _ h1
    omega

set_option maxRecDepth 100000 in
set_option maxHeartbeats 8000000 in
theorem divNo_core (hi lo y : Nat) (w : World) (h : ¬ hi < y) : Calls Sagg.prog 13 #[.int .u64 (hi : Int), .int .u64 (lo : Int), .int .u64 (y : Int)] w (post13 hi lo y w) := by
  refine CX_calls (tips13n y) {} (by kernel_rfl) Sagg.func13 rfl _ rfl (by kernel_rfl) ?_
  refine of_eq (p := CutOK (fun (C : G13 → World → Prop) => cut13 y w C) w ∧ (y = 0 → Sem.run Sagg.prog (binOp BinOp.eql 31 (Value.int IntKind.u64 ↑y) (Value.int IntKind.u64 0)) w = Result.ok (Value.bool true) w ∧ (post13 hi lo y w) (Ending.returned (Value.tuple { toList := [Value.int IntKind.u64 0, Value.int IntKind.u64 0, Value.bool false] })) w) ∧ (0 < y → Sem.run Sagg.prog (binOp BinOp.eql 31 (Value.int IntKind.u64 ↑y) (Value.int IntKind.u64 0)) w = Result.ok (Value.bool false) w ∧ Sem.run Sagg.prog (binOp BinOp.geq 31 (Value.int IntKind.u64 ↑hi) (Value.int IntKind.u64 ↑y)) w = Result.ok (Value.bool true) w ∧ (post13 hi lo y w) (Ending.returned (Value.tuple { toList := [Value.int IntKind.u64 0, Value.int IntKind.u64 0, Value.bool false] })) w)) (by kernel_rfl) ?_
  exact ⟨(cut13_ok _ _), (fun h1 => ⟨(eql_t (by omega)), ⟨0, 0, false, rfl, ⟨fun h1 => absurd h1 h, fun _ => ⟨rfl, rfl, rfl⟩⟩, 0, rfl⟩⟩), (fun h4 => ⟨(eql_f (by omega)), (geq_t (by omega)), ⟨0, 0, false, rfl, ⟨fun h1 => absurd h1 h, fun _ => ⟨rfl, rfl, rfl⟩⟩, 0, rfl⟩⟩)⟩

set_option maxRecDepth 100000 in
set_option maxHeartbeats 8000000 in
theorem divYes_core (hi lo y : Nat) (w : World) (h : hi < y) (hy : y < 18446744073709551616) (hlo : lo < 18446744073709551616) : Calls Sagg.prog 13 #[.int .u64 (hi : Int), .int .u64 (lo : Int), .int .u64 (y : Int)] w (post13 hi lo y w) := by
  refine CX_calls (tips13 hi lo y) {} (by kernel_rfl) Sagg.func13 rfl _ rfl (by kernel_rfl) ?_
  refine of_eq (p := Sem.run Sagg.prog (binOp BinOp.eql 31 (Value.int IntKind.u64 ↑y) (Value.int IntKind.u64 0)) w = Result.ok (Value.bool false) w ∧ Sem.run Sagg.prog (binOp BinOp.geq 31 (Value.int IntKind.u64 ↑hi) (Value.int IntKind.u64 ↑y)) w = Result.ok (Value.bool false) w ∧ (CallOK Sagg.prog 36 { toList := [Value.int IntKind.u64 ↑hi, Value.int IntKind.u64 ↑lo, Value.int IntKind.u64 ↑y] } w fun (C : G13 → Value → World → Prop) => divT hi lo y { } w C) ∧ ∀ (q r m : Nat), q * y + r = hi * 18446744073709551616 + lo → r < y → (post13 hi lo y w) (Ending.returned (Value.tuple { toList := [Value.int IntKind.u64 ↑q, Value.int IntKind.u64 ↑r, Value.bool true] })) (w.drewN m)) (by kernel_rfl) ?_
  exact ⟨(eql_f (by omega)), (geq_f (by omega)), (div_ok h hy hlo), (fun q3 => (fun r4 => (fun m5 => (fun h6 => (fun h7 => ⟨_, _, true, rfl, ⟨fun _ => ⟨rfl, (by assumption), (by assumption)⟩, fun h1 => absurd h h1⟩, _, rfl⟩)))))⟩

set_option maxRecDepth 100000 in
set_option maxHeartbeats 8000000 in
theorem divHoldsNo_core (hi lo y : Nat) (w : World) (h : ¬ hi < y) : Calls Sagg.prog 14 #[.int .u64 (hi : Int), .int .u64 (lo : Int), .int .u64 (y : Int), .int .u64 0, .int .u64 0, .bool false] w (postR2 w) := by
  refine CX_calls (tips14n y) {} (by kernel_rfl) Sagg.func14 rfl _ rfl (by kernel_rfl) ?_
  refine of_eq (p := CutOK (fun (C : G13 → World → Prop) => cut13 y w C) w ∧ (y = 0 → Sem.run Sagg.prog (binOp BinOp.eql 31 (Value.int IntKind.u64 ↑y) (Value.int IntKind.u64 0)) w = Result.ok (Value.bool true) w ∧ Sem.run Sagg.prog (binOp BinOp.eql 31 (Value.int IntKind.u64 0) (Value.int IntKind.u64 0)) w = Result.ok (Value.bool true) w ∧ Sem.run Sagg.prog (binOp BinOp.eql 31 (Value.int IntKind.u64 0) (Value.int IntKind.u64 0)) w = Result.ok (Value.bool true) w ∧ (postR2 w) (Ending.returned (Value.bool true)) w) ∧ (0 < y → Sem.run Sagg.prog (binOp BinOp.eql 31 (Value.int IntKind.u64 ↑y) (Value.int IntKind.u64 0)) w = Result.ok (Value.bool false) w ∧ Sem.run Sagg.prog (binOp BinOp.geq 31 (Value.int IntKind.u64 ↑hi) (Value.int IntKind.u64 ↑y)) w = Result.ok (Value.bool true) w ∧ Sem.run Sagg.prog (binOp BinOp.eql 31 (Value.int IntKind.u64 0) (Value.int IntKind.u64 0)) w = Result.ok (Value.bool true) w ∧ Sem.run Sagg.prog (binOp BinOp.eql 31 (Value.int IntKind.u64 0) (Value.int IntKind.u64 0)) w = Result.ok (Value.bool true) w ∧ (postR2 w) (Ending.returned (Value.bool true)) w)) (by kernel_rfl) ?_
  exact ⟨(cut13_ok _ _), (fun h1 => ⟨(eql_t (by omega)), (eql_t rfl), (eql_t rfl), ⟨rfl, Below.refl _ _⟩⟩), (fun h6 => ⟨(eql_f (by omega)), (geq_t (by omega)), (eql_t rfl), (eql_t rfl), ⟨rfl, Below.refl _ _⟩⟩)⟩

set_option maxRecDepth 100000 in
set_option maxHeartbeats 8000000 in
theorem divHoldsYes_core (hi lo y q r : Nat) (w : World) (h : hi < y) (hy : y < 18446744073709551616) (hlo : lo < 18446744073709551616) (he : q * y + r = hi * 18446744073709551616 + lo) (hr : r < y) : Calls Sagg.prog 14 #[.int .u64 (hi : Int), .int .u64 (lo : Int), .int .u64 (y : Int), .int .u64 (q : Int), .int .u64 (r : Int), .bool true] w (postR2 w) := by
  refine CX_calls (tips14 hi lo y q r) {} (by kernel_rfl) Sagg.func14 rfl _ rfl (by kernel_rfl) ?_
  refine of_eq (p := Sem.run Sagg.prog (binOp BinOp.eql 31 (Value.int IntKind.u64 ↑y) (Value.int IntKind.u64 0)) w = Result.ok (Value.bool false) w ∧ Sem.run Sagg.prog (binOp BinOp.geq 31 (Value.int IntKind.u64 ↑hi) (Value.int IntKind.u64 ↑y)) w = Result.ok (Value.bool false) w ∧ (CallOK Sagg.prog 38 { toList := [Value.int IntKind.u64 ↑hi] } w fun (C : G13 → Value → World → Prop) => numK ↑hi { } w C) ∧ ∀ (v : Value) (W' : World), IsN W' v ↑hi → Below w.heap.size w W' → (CallOK Sagg.prog 10 { toList := [Value.int IntKind.u16 64] } W' fun (C : G13 → Value → World → Prop) => numK (2 ^ 64) { } W' C) ∧ ∀ (v_1 : Value) (W'_1 : World), IsN W'_1 v_1 (2 ^ 64) → Below W'.heap.size W' W'_1 → (CallOK Sagg.prog 37 { toList := [v, v_1] } W'_1 fun (C : G13 → Value → World → Prop) => numK (↑hi * 2 ^ 64) { } W'_1 C) ∧ ∀ (v : Value) (W' : World), IsN W' v (↑hi * 2 ^ 64) → Below W'_1.heap.size W'_1 W' → (CallOK Sagg.prog 38 { toList := [Value.int IntKind.u64 ↑lo] } W' fun (C : G13 → Value → World → Prop) => numK ↑lo { } W' C) ∧ ∀ (v_2 : Value) (W'_2 : World), IsN W'_2 v_2 ↑lo → Below W'.heap.size W' W'_2 → (CallOK Sagg.prog 9 { toList := [v, v_2] } W'_2 fun (C : G13 → Value → World → Prop) => numK (↑hi * 2 ^ 64 + ↑lo) { } W'_2 C) ∧ ∀ (v : Value) (W' : World), IsN W' v (↑hi * 2 ^ 64 + ↑lo) → Below W'_2.heap.size W'_2 W' → (CallOK Sagg.prog 38 { toList := [Value.int IntKind.u64 ↑q] } W' fun (C : G13 → Value → World → Prop) => numK ↑q { } W' C) ∧ ∀ (v_3 : Value) (W'_3 : World), IsN W'_3 v_3 ↑q → Below W'.heap.size W' W'_3 → (CallOK Sagg.prog 38 { toList := [Value.int IntKind.u64 ↑y] } W'_3 fun (C : G13 → Value → World → Prop) => numK ↑y { } W'_3 C) ∧ ∀ (v_4 : Value) (W' : World), IsN W' v_4 ↑y → Below W'_3.heap.size W'_3 W' → (CallOK Sagg.prog 37 { toList := [v_3, v_4] } W' fun (C : G13 → Value → World → Prop) => numK (↑q * ↑y) { } W' C) ∧ ∀ (v_5 : Value) (W'_4 : World), IsN W'_4 v_5 (↑q * ↑y) → Below W'.heap.size W' W'_4 → (CallOK Sagg.prog 38 { toList := [Value.int IntKind.u64 ↑r] } W'_4 fun (C : G13 → Value → World → Prop) => numK ↑r { } W'_4 C) ∧ ∀ (v_6 : Value) (W' : World), IsN W' v_6 ↑r → Below W'_4.heap.size W'_4 W' → (CallOK Sagg.prog 9 { toList := [v_5, v_6] } W' fun (C : G13 → Value → World → Prop) => numK (↑q * ↑y + ↑r) { } W' C) ∧ ∀ (v_7 : Value) (W'_5 : World), IsN W'_5 v_7 (↑q * ↑y + ↑r) → Below W'.heap.size W' W'_5 → Sem.run Sagg.prog (binOp BinOp.lss 31 (Value.int IntKind.u64 ↑r) (Value.int IntKind.u64 ↑y)) W'_5 = Result.ok (Value.bool true) W'_5 ∧ (CallOK Sagg.prog 39 { toList := [v, v_7] } W'_5 fun (C : G13 → Value → World → Prop) => cmpK { } W'_5 C) ∧ ∀ (W' : World), Below W'_5.heap.size W'_5 W' → (postR2 w) (Ending.returned (Value.bool true)) W') (by kernel_rfl) ?_
  exact ⟨(eql_f (by omega)), (geq_f (by omega)), (numK_ok (fromU64_calls hi _ (by first | omega | exact quo_small h hlo he))), (fun v3 => (fun W'4 => (fun h5 => (fun h6 => ⟨(numK_ok (pow2N 64 (by omega) _)), (fun v8 => (fun W'9 => (fun h10 => (fun h11 => ⟨(numK_ok (mulN (isN_later h5 h11) h10 (small200 (by omega)) (by decide))), (fun v13 => (fun W'14 => (fun h15 => (fun h16 => ⟨(numK_ok (fromU64_calls lo _ (by first | omega | exact quo_small h hlo he))), (fun v18 => (fun W'19 => (fun h20 => (fun h21 => ⟨(numK_ok (sumN (isN_later h15 h21) h20 (hi_small (by omega)) (small200 (by omega)))), (fun v23 => (fun W'24 => (fun h25 => (fun h26 => ⟨(numK_ok (fromU64_calls q _ (by first | omega | exact quo_small h hlo he))), (fun v28 => (fun W'29 => (fun h30 => (fun h31 => ⟨(numK_ok (fromU64_calls y _ (by first | omega | exact quo_small h hlo he))), (fun v33 => (fun W'34 => (fun h35 => (fun h36 => ⟨(numK_ok (mulN (isN_later h30 h36) h35 (small200 (by have := quo_small h hlo he; omega)) (small200 (by omega)))), (fun v38 => (fun W'39 => (fun h40 => (fun h41 => ⟨(numK_ok (fromU64_calls r _ (by first | omega | exact quo_small h hlo he))), (fun v43 => (fun W'44 => (fun h45 => (fun h46 => ⟨(numK_ok (sumN (isN_later h40 h46) h45 (prod_small (quo_small h hlo he) hy) (small200 (by omega)))), (fun v48 => (fun W'49 => (fun h50 => (fun h51 => ⟨(lss_t (by omega)), (cmpK_ok (isN_later (isN_later (isN_later (isN_later (isN_later h25 h31) h36) h41) h46) h51) h50 (same_num he)), (fun W'54 => (fun h55 => ⟨rfl, (bel_tr2 (bel_tr2 (bel_tr2 (bel_tr2 (bel_tr2 (bel_tr2 (bel_tr2 (bel_tr2 (bel_tr2 (bel_tr2 h6 h11) h16) h21) h26) h31) h36) h41) h46) h51) h55)⟩))⟩))))⟩))))⟩))))⟩))))⟩))))⟩))))⟩))))⟩))))⟩))))⟩))))⟩

theorem div64_calls (hi lo y : Nat) (w : World) (hy : y < 18446744073709551616) (hlo : lo < 18446744073709551616) : Calls Sagg.prog 13 #[.int .u64 (hi : Int), .int .u64 (lo : Int), .int .u64 (y : Int)] w (post13 hi lo y w) := by
  by_cases h : hi < y
  · exact divYes_core hi lo y w h hy hlo
  · exact divNo_core hi lo y w h
theorem divHolds_calls {hi lo y q r : Nat} {ok : Bool} (w : World) (hy : y < 18446744073709551616) (hlo : lo < 18446744073709551616) (hd : DivRes hi lo y q r ok) : Calls Sagg.prog 14 #[.int .u64 (hi : Int), .int .u64 (lo : Int), .int .u64 (y : Int), .int .u64 (q : Int), .int .u64 (r : Int), .bool ok] w (postR2 w) := by
  by_cases h : hi < y
  · obtain ⟨rfl, he, hr⟩ := hd.yes h
    exact divHoldsYes_core hi lo y q r w h hy hlo he hr
  · obtain ⟨rfl, rfl, rfl⟩ := hd.no h
    exact divHoldsNo_core hi lo y w h
end Go.Proofs.Ygcsag
