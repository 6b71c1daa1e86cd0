/-
  'inside', 'fits', 'Words', 'Norm', 'FromU64'.
-/
import Derived.Test.YgcsagNA
import Derived.Test.YgcsagWC
import Derived.Laws.CopyRow
import Derived.Laws.IdiomCopy
namespace Go.Proofs.Ygcsag
open Go.RowKit
set_option linter.unusedVariables false
set_option linter.unusedSimpArgs false

structure G40 where
  a : Bool := false
  b : Bool := false
  c : Bool := false
def G40.c1 : G40 := { a := false }
def G40.c2 : G40 := { a := true, b := false }
def G40.c3 : G40 := { a := true, b := true, c := false }
def G40.c4 : G40 := { a := true, b := true, c := true }
def cut40 (n : Nat) (off : Int) (w : World) (C : G40 → World → Prop) : Prop := (off < 0 → C G40.c1 w) ∧ (0 ≤ off → n < 8 → C G40.c2 w) ∧ (0 ≤ off → 8 ≤ n → (n : Int) - 8 < off → C G40.c3 w) ∧ (0 ≤ off → 8 ≤ n → off ≤ (n : Int) - 8 → C G40.c4 w)
theorem cut40_ok (n : Nat) (off : Int) (w : World) : CutOK (cut40 n off w) w := by
  rintro C ⟨h1, h2, h3, h4⟩
  by_cases e1 : 0 ≤ off
  case neg => exact ⟨_, h1 (by omega)⟩
  by_cases e2 : 8 ≤ n
  case neg => exact ⟨_, h2 e1 (by omega)⟩
  by_cases e3 : off ≤ (n : Int) - 8
  · exact ⟨_, h4 e1 e2 e3⟩
  · exact ⟨_, h3 e1 e2 (by omega)⟩
def cut41 (n : Nat) (off : Int) (w : World) (C : G40 → World → Prop) : Prop := (n < 8 → C G40.c1 w) ∧ (8 ≤ n → off < 0 → C G40.c2 w) ∧ (0 ≤ off → 8 ≤ n → (n : Int) - 8 < off → C G40.c3 w) ∧ (0 ≤ off → 8 ≤ n → off ≤ (n : Int) - 8 → C G40.c4 w)
theorem cut41_ok (n : Nat) (off : Int) (w : World) : CutOK (cut41 n off w) w := by
  rintro C ⟨h1, h2, h3, h4⟩
  by_cases e2 : 8 ≤ n
  case neg => exact ⟨_, h1 (by omega)⟩
  by_cases e1 : 0 ≤ off
  case neg => exact ⟨_, h2 e2 (by omega)⟩
  by_cases e3 : off ≤ (n : Int) - 8
  · exact ⟨_, h4 e1 e2 e3⟩
  · exact ⟨_, h3 e1 e2 (by omega)⟩
def tips40 (n : Nat) (off : Int) : Tips G40 where
  ops := [(6, { val := some fun g => .bool g.a }), (9, { val := some fun g => .bool g.b }), (14, { val := some fun _ => .int .i64 ((n : Int) - 8) }), (15, { val := some fun g => .bool g.c })]
  cuts := [(1, fun _ w C => cut40 n off w C)]
def tips41 (n : Nat) (off : Int) : Tips G40 where
  ops := [(6, { val := some fun g => .bool g.a }), (9, { val := some fun g => .bool g.b }), (13, { val := some fun _ => .int .i64 ((n : Int) - 8) }), (15, { val := some fun g => .bool g.c })]
  cuts := [(1, fun _ w C => cut41 n off w C)]
theorem sub8 {n : Nat} {t : TypeId} {w : World} (h : n ≤ 9223372036854775807) : (binOp .sub t (.int .i64 (n : Int)) (.int .i64 8)).run Sagg.prog w = .ok (.int .i64 ((n : Int) - 8)) w := sub_i (wrap64 (by omega) (by omega))
def Fits (n : Nat) (off : Int) : Prop := 0 ≤ off ∧ off + 8 ≤ n
theorem finB {eb b : Bool} {p : Prop} {w : World} (heb : eb = true ↔ p) (h : b = true ↔ p) : postB eb w (.returned (.bool b)) w := by
  have : eb = b := by cases eb <;> cases b <;> simp_all
  rw [this]
  exact ⟨rfl, rfl⟩

structure G21 where
  z : Bool := false
def cut21 (n : Nat) (w : World) (C : G21 → World → Prop) : Prop := (n % 32 = 0 → C { z := true } w) ∧ (n % 32 ≠ 0 → C { z := false } w)
theorem cut21_ok (n : Nat) (w : World) : CutOK (cut21 n w) w := by
  rintro C ⟨h1, h2⟩
  by_cases e : n % 32 = 0
  · exact ⟨_, h1 e⟩
  · exact ⟨_, h2 e⟩
def tips21 (n : Nat) : Tips G21 where
  ops := [(4, { val := some fun _ => .int .u64 (n % 32 : Nat) }), (5, { val := some fun g => .bool (!g.z) }), (7, { val := some fun _ => .int .u64 (n / 32 : Nat) }), (8, { val := some fun _ => .int .u64 (n / 32 + 1 : Nat) }), (10, { val := some fun _ => .int .u64 (n / 32 : Nat) })]
  cuts := [(1, fun _ w C => cut21 n w C)]
def postV (v : Value) (w : World) : Ending → World → Prop := fun e w' => e = .returned v ∧ w' = w

/-- A copy into a fresh row. -/
theorem copy_new {dT sT ty : TypeId} {fl : Array Bool} {g n c sc : Nat} {a : Option Addr} {zs cur : List Int} {w : World} (hu : Sagg.prog.underlying dT = some (.slice 5)) (hg : w.heap[g]? = some (.cells (rowOf cur) 5 (0, 0))) (hc : cur.length = n) (hl : zs.length = n) (hr : ByteRow w a zs) :
    (do match ← builtin .copy #[dT, sT] ty fl #[.slice (some ⟨g, 0, none⟩) n c, .slice a n sc] with
        | .value v => pure v
        | _ => stuck "no value" : Sem Value).run Sagg.prog w = .ok (.int .i64 (n : Int)) (w.setRow g (rowOf zs)) := by
  have key : (Builtin.copy_ #[dT, sT] ty #[.slice (some ⟨g, 0, none⟩) n c, .slice a n sc]).run Sagg.prog w = .ok (.int .i64 (n : Int)) (w.setRow g (rowOf zs)) := by
    rcases hr.2 with h0 | ⟨b, off, rfl, hcell⟩
    · have hn : n = 0 := by rw [← hl, h0]; rfl
      subst hn
      rw [run_copy_none w dT sT ty 5 _ _ 0 c 0 sc hu isz5 rfl]
      have : rowOf zs = rowOf cur := by rw [h0, List.length_eq_zero_iff.1 hc]
      rw [this, setRow_self w g (rowOf cur) 5 (0, 0) hg]
      rfl
    · have := run_copy_row (P := Sagg.prog) w dT sT ty 5 g 0 n c ⟨b, off, none⟩ n sc (rowOf cur) 5 (bcells zs) hu isz5 hg (by rw [bcells_length, hl]; simp) (fun j v hv => by
          have hj : j < zs.length := by have := (List.getElem?_eq_some_iff.1 hv).1; rwa [bcells_length] at this
          rw [bcells_get _ _ hj] at hv
          cases hv
          rw [WideShapes.add_plain]
          exact hcell j hj) (by rw [bcells_length, rowOf_size]; omega) (fun v hv => by
          obtain ⟨k, _, rfl⟩ := List.mem_map.1 hv
          rfl)
      rw [this]
      have e : ((rowOf cur).toList.take 0 ++ bcells zs ++ (rowOf cur).toList.drop (0 + (bcells zs).length)).toArray = rowOf zs := by
        rw [List.drop_eq_nil_of_le (by rw [bcells_length]; have := rowOf_size cur; simp at this ⊢; omega)]
        simp [rowOf, bcells]
      rw [e, bcells_length, hl]
      rfl
  have hb : (builtin .copy #[dT, sT] ty fl #[.slice (some ⟨g, 0, none⟩) n c, .slice a n sc]) = (do pure (.value (← Builtin.copy_ #[dT, sT] ty #[.slice (some ⟨g, 0, none⟩) n c, .slice a n sc]))) := rfl
  simp [hb, key]

/-! ### Norm -/
structure G61 where
  z : Bool := false
def cut61 (zs : List Int) (w : World) (C : G61 → World → Prop) : Prop := ((trimL zs).length = 0 → C { z := true } w) ∧ ((trimL zs).length ≠ 0 → C { z := false } w)
theorem cut61_ok (zs : List Int) (w : World) : CutOK (cut61 zs w) w := by
  rintro C ⟨h1, h2⟩
  by_cases e : (trimL zs).length = 0
  · exact ⟨_, h1 e⟩
  · exact ⟨_, h2 e⟩
def tips61 (a : Option Addr) (zs : List Int) (m : Nat) (w0 : World) : Tips G61 where
  ops := [(5, { tr := some fun g w C => C g (.slice a m m) w }), (8, { val := some fun g => .bool g.z }), (11, { val := some fun _ => .slice (some ⟨w0.heap.size, 0, none⟩) m m, wld := some fun _ w => w.alloc (.cells (rowOf (zeros m)) 5) }),
    (14, { val := some fun _ => .int .i64 (m : Int), wld := some fun _ w => w.setRow w0.heap.size (rowOf (trimL zs)) })]
  cuts := [(1, fun _ w C => cut61 zs w C)]
def postN (n : Int) (w : World) : Ending → World → Prop := fun e w' => ∃ v, e = .returned v ∧ IsN w' v n ∧ Below w.heap.size w w'
theorem callSame {Γ : Type} {P : Program} {f : FuncId} {args : Array Value} {w : World} {g : Γ} {v : Value} (h : Calls P f args w fun e w' => e = .returned v ∧ w' = w) : CallOK P f args w fun C : Γ → Value → World → Prop => C g v w :=
  fun C hC => h.mono fun e w' ⟨h1, h2⟩ => ⟨g, v, h1, by rw [h2]; exact hC⟩
theorem nil_isN {w : World} : IsN w (.slice none 0 0) 0 := ⟨[], ⟨none, 0, rfl, Nat.le_refl _, by unfold maxLen; omega, ByteRow.nil _ _⟩, by simp [Norm], rfl, fun _ => rfl⟩
theorem fin61_z {zs : List Int} {w : World} (h : (trimL zs).length = 0) : postN (val zs) w (.returned (.slice none 0 0)) w := by
  refine ⟨_, rfl, ?_, Below.refl _ _⟩
  have := val_trimL zs
  rw [List.length_eq_zero_iff.1 h] at this
  rw [← this]
  exact nil_isN
theorem row_isN {W : World} {g : Nat} {zs : List Int} (hr : W.heap[g]? = some (.cells (rowOf zs) 5 (0, 0))) (hd : Dig zs) (hn : Norm zs) (h0 : zs.length ≠ 0) (hm : zs.length ≤ maxLen) : IsN W (.slice (some ⟨g, 0, none⟩) zs.length zs.length) (val zs) :=
  ⟨zs, RowAt.isB hr hd hm, hn, rfl, fun e => absurd (by rw [e]; rfl) h0⟩
theorem alloc_row {w : World} {o : Obj} : (w.alloc o).heap[w.heap.size]? = some o := by
  show (w.heap.push _)[w.heap.size]? = _
  simp
theorem fin61_n {zs : List Int} {m : Nat} {w : World} (hm : (trimL zs).length = m) (hd : Dig zs) (h : (trimL zs).length ≠ 0) (hM : m ≤ 281474976710000) : postN (val zs) w (.returned (.slice (some ⟨w.heap.size, 0, none⟩) m m)) ((w.alloc (.cells (rowOf (zeros m)) 5)).setRow w.heap.size (rowOf (trimL zs))) := by
  refine ⟨_, rfl, ?_, kept_row ((Below.refl _ _).alloc (Nat.le_refl _) _) (Nat.le_refl _) _⟩
  rw [← val_trimL zs, ← hm]
  exact row_isN (setRow_heap _ _ _ _ _ _ alloc_row) hd.trimL (norm_trimL zs) h (by unfold maxLen; omega)
theorem no_if {p : Prop} (h : ¬ p) : false = true ↔ p := ⟨fun e => (by cases e), fun e => absurd e h⟩
theorem eqlen {m : Nat} {t : TypeId} {w : World} {b : Bool} (h : b = true ↔ m = 0) : (binOp .eql t (.int .i64 (m : Int)) (.int .i64 0)).run Sagg.prog w = .ok (.bool b) w := by
  cases b with
  | true => exact eql_t (by have := h.1 rfl; omega)
  | false => exact eql_f (fun e => by have := h.2 (by omega); cases this)

set_option maxRecDepth 100000 in
set_option maxHeartbeats 8000000 in
theorem inside_core (n : Nat) (off : Int) (w : World) (hn : n ≤ 9223372036854775807) (eb : Bool) (heb : eb = true ↔ Fits n off) : Calls Sagg.prog 40 #[.int .i64 (n : Int), .int .i64 off] w (postB eb w) := by
  refine CX_calls (tips40 n off) {} (by kernel_rfl) Sagg.func40 rfl _ rfl (by kernel_rfl) ?_
  refine of_eq (p := CutOK (fun (C : G40 → World → Prop) => cut40 n off w C) w ∧ (off < 0 → Sem.run Sagg.prog (binOp BinOp.geq 3 (Value.int IntKind.i64 off) (Value.int IntKind.i64 0)) w = Result.ok (Value.bool false) w ∧ (postB eb w) (Ending.returned (Value.bool false)) w) ∧ (0 ≤ off → n < 8 → Sem.run Sagg.prog (binOp BinOp.geq 3 (Value.int IntKind.i64 off) (Value.int IntKind.i64 0)) w = Result.ok (Value.bool true) w ∧ Sem.run Sagg.prog (binOp BinOp.geq 3 (Value.int IntKind.i64 ↑n) (Value.int IntKind.i64 8)) w = Result.ok (Value.bool false) w ∧ (postB eb w) (Ending.returned (Value.bool false)) w) ∧ (0 ≤ off → 8 ≤ n → ↑n - 8 < off → Sem.run Sagg.prog (binOp BinOp.geq 3 (Value.int IntKind.i64 off) (Value.int IntKind.i64 0)) w = Result.ok (Value.bool true) w ∧ Sem.run Sagg.prog (binOp BinOp.geq 3 (Value.int IntKind.i64 ↑n) (Value.int IntKind.i64 8)) w = Result.ok (Value.bool true) w ∧ Sem.run Sagg.prog (binOp BinOp.sub 3 (Value.int IntKind.i64 ↑n) (Value.int IntKind.i64 8)) w = Result.ok (Value.int IntKind.i64 (↑n - 8)) w ∧ Sem.run Sagg.prog (binOp BinOp.leq 3 (Value.int IntKind.i64 off) (Value.int IntKind.i64 (↑n - 8))) w = Result.ok (Value.bool false) w ∧ (postB eb w) (Ending.returned (Value.bool false)) w) ∧ (0 ≤ off → 8 ≤ n → off ≤ ↑n - 8 → Sem.run Sagg.prog (binOp BinOp.geq 3 (Value.int IntKind.i64 off) (Value.int IntKind.i64 0)) w = Result.ok (Value.bool true) w ∧ Sem.run Sagg.prog (binOp BinOp.geq 3 (Value.int IntKind.i64 ↑n) (Value.int IntKind.i64 8)) w = Result.ok (Value.bool true) w ∧ Sem.run Sagg.prog (binOp BinOp.sub 3 (Value.int IntKind.i64 ↑n) (Value.int IntKind.i64 8)) w = Result.ok (Value.int IntKind.i64 (↑n - 8)) w ∧ Sem.run Sagg.prog (binOp BinOp.leq 3 (Value.int IntKind.i64 off) (Value.int IntKind.i64 (↑n - 8))) w = Result.ok (Value.bool true) w ∧ (postB eb w) (Ending.returned (Value.bool true)) w)) (by kernel_rfl) ?_
  exact ⟨(cut40_ok _ _ _), (fun h1 => ⟨(geq_f (by omega)), (finB (b := false) heb (no_if (fun e => by have h1 := e.1; have h2 := e.2; omega)))⟩), (fun h4 => (fun h5 => ⟨(geq_t (by omega)), (geq_f (by omega)), (finB (b := false) heb (no_if (fun e => by have h1 := e.1; have h2 := e.2; omega)))⟩)), (fun h9 => (fun h10 => (fun h11 => ⟨(geq_t (by omega)), (geq_t (by omega)), (sub8 hn), (leq_f (by omega)), (finB (b := false) heb (no_if (fun e => by have h1 := e.1; have h2 := e.2; omega)))⟩))), (fun h17 => (fun h18 => (fun h19 => ⟨(geq_t (by omega)), (geq_t (by omega)), (sub8 hn), (leq_t (by omega)), (finB (b := true) heb ⟨fun _ => ⟨by omega, by omega⟩, fun _ => rfl⟩)⟩)))⟩

set_option maxRecDepth 100000 in
set_option maxHeartbeats 8000000 in
theorem fits_core (n : Nat) (off : Int) (w : World) (hn : n ≤ 9223372036854775807) (eb : Bool) (heb : eb = true ↔ Fits n off) : Calls Sagg.prog 41 #[.int .i64 (n : Int), .int .i64 off] w (postB eb w) := by
  refine CX_calls (tips41 n off) {} (by kernel_rfl) Sagg.func41 rfl _ rfl (by kernel_rfl) ?_
  refine of_eq (p := CutOK (fun (C : G40 → World → Prop) => cut41 n off w C) w ∧ (n < 8 → Sem.run Sagg.prog (binOp BinOp.geq 3 (Value.int IntKind.i64 ↑n) (Value.int IntKind.i64 8)) w = Result.ok (Value.bool false) w ∧ (postB eb w) (Ending.returned (Value.bool false)) w) ∧ (8 ≤ n → off < 0 → Sem.run Sagg.prog (binOp BinOp.geq 3 (Value.int IntKind.i64 ↑n) (Value.int IntKind.i64 8)) w = Result.ok (Value.bool true) w ∧ Sem.run Sagg.prog (binOp BinOp.geq 3 (Value.int IntKind.i64 off) (Value.int IntKind.i64 0)) w = Result.ok (Value.bool false) w ∧ (postB eb w) (Ending.returned (Value.bool false)) w) ∧ (0 ≤ off → 8 ≤ n → ↑n - 8 < off → Sem.run Sagg.prog (binOp BinOp.geq 3 (Value.int IntKind.i64 ↑n) (Value.int IntKind.i64 8)) w = Result.ok (Value.bool true) w ∧ Sem.run Sagg.prog (binOp BinOp.geq 3 (Value.int IntKind.i64 off) (Value.int IntKind.i64 0)) w = Result.ok (Value.bool true) w ∧ Sem.run Sagg.prog (binOp BinOp.sub 3 (Value.int IntKind.i64 ↑n) (Value.int IntKind.i64 8)) w = Result.ok (Value.int IntKind.i64 (↑n - 8)) w ∧ Sem.run Sagg.prog (binOp BinOp.geq 3 (Value.int IntKind.i64 (↑n - 8)) (Value.int IntKind.i64 off)) w = Result.ok (Value.bool false) w ∧ (postB eb w) (Ending.returned (Value.bool false)) w) ∧ (0 ≤ off → 8 ≤ n → off ≤ ↑n - 8 → Sem.run Sagg.prog (binOp BinOp.geq 3 (Value.int IntKind.i64 ↑n) (Value.int IntKind.i64 8)) w = Result.ok (Value.bool true) w ∧ Sem.run Sagg.prog (binOp BinOp.geq 3 (Value.int IntKind.i64 off) (Value.int IntKind.i64 0)) w = Result.ok (Value.bool true) w ∧ Sem.run Sagg.prog (binOp BinOp.sub 3 (Value.int IntKind.i64 ↑n) (Value.int IntKind.i64 8)) w = Result.ok (Value.int IntKind.i64 (↑n - 8)) w ∧ Sem.run Sagg.prog (binOp BinOp.geq 3 (Value.int IntKind.i64 (↑n - 8)) (Value.int IntKind.i64 off)) w = Result.ok (Value.bool true) w ∧ (postB eb w) (Ending.returned (Value.bool true)) w)) (by kernel_rfl) ?_
  exact ⟨(cut41_ok _ _ _), (fun h1 => ⟨(geq_f (by omega)), (finB (b := false) heb (no_if (fun e => by have h1 := e.1; have h2 := e.2; omega)))⟩), (fun h4 => (fun h5 => ⟨(geq_t (by omega)), (geq_f (by omega)), (finB (b := false) heb (no_if (fun e => by have h1 := e.1; have h2 := e.2; omega)))⟩)), (fun h9 => (fun h10 => (fun h11 => ⟨(geq_t (by omega)), (geq_t (by omega)), (sub8 hn), (geq_f (by omega)), (finB (b := false) heb (no_if (fun e => by have h1 := e.1; have h2 := e.2; omega)))⟩))), (fun h17 => (fun h18 => (fun h19 => ⟨(geq_t (by omega)), (geq_t (by omega)), (sub8 hn), (geq_t (by omega)), (finB (b := true) heb ⟨fun _ => ⟨by omega, by omega⟩, fun _ => rfl⟩)⟩)))⟩

set_option maxRecDepth 100000 in
set_option maxHeartbeats 8000000 in
theorem words_core (n : Nat) (w : World) (hn : n < 18446744073709551616) : Calls Sagg.prog 21 #[.int .u64 (n : Int)] w (postV (.int .u64 ((n + 31) / 32 : Nat)) w) := by
  refine CX_calls (tips21 n) {} (by kernel_rfl) Sagg.func21 rfl _ rfl (by kernel_rfl) ?_
  refine of_eq (p := CutOK (fun (C : G21 → World → Prop) => cut21 n w C) w ∧ (n % 32 = 0 → Sem.run Sagg.prog (binOp BinOp.rem 31 (Value.int IntKind.u64 ↑n) (Value.int IntKind.u64 32)) w = Result.ok (Value.int IntKind.u64 ↑(n % 32)) w ∧ Sem.run Sagg.prog (binOp BinOp.neq 31 (Value.int IntKind.u64 ↑(n % 32)) (Value.int IntKind.u64 0)) w = Result.ok (Value.bool false) w ∧ Sem.run Sagg.prog (binOp BinOp.quo 31 (Value.int IntKind.u64 ↑n) (Value.int IntKind.u64 32)) w = Result.ok (Value.int IntKind.u64 ↑(n / 32)) w ∧ (postV (.int .u64 ((n + 31) / 32 : Nat)) w) (Ending.returned (Value.int IntKind.u64 ↑(n / 32))) w) ∧ (n % 32 ≠ 0 → Sem.run Sagg.prog (binOp BinOp.rem 31 (Value.int IntKind.u64 ↑n) (Value.int IntKind.u64 32)) w = Result.ok (Value.int IntKind.u64 ↑(n % 32)) w ∧ Sem.run Sagg.prog (binOp BinOp.neq 31 (Value.int IntKind.u64 ↑(n % 32)) (Value.int IntKind.u64 0)) w = Result.ok (Value.bool true) w ∧ Sem.run Sagg.prog (binOp BinOp.quo 31 (Value.int IntKind.u64 ↑n) (Value.int IntKind.u64 32)) w = Result.ok (Value.int IntKind.u64 ↑(n / 32)) w ∧ Sem.run Sagg.prog (binOp BinOp.add 31 (Value.int IntKind.u64 ↑(n / 32)) (Value.int IntKind.u64 1)) w = Result.ok (Value.int IntKind.u64 ↑(n / 32 + 1)) w ∧ (postV (.int .u64 ((n + 31) / 32 : Nat)) w) (Ending.returned (Value.int IntKind.u64 ↑(n / 32 + 1))) w)) (by kernel_rfl) ?_
  exact ⟨(cut21_ok _ _), (fun h1 => ⟨(remU (b := 32) (by omega) rfl), (neq_f (by omega)), (quoU (b := 32) (by omega) rfl hn), ⟨by congr 3; omega, rfl⟩⟩), (fun h6 => ⟨(remU (b := 32) (by omega) rfl), (neq_t (by omega)), (quoU (b := 32) (by omega) rfl hn), (addU (b := 1) rfl (by omega)), ⟨by congr 3; omega, rfl⟩⟩)⟩

set_option maxRecDepth 100000 in
set_option maxHeartbeats 8000000 in
theorem norm_core (a : Option Addr) (n c m : Nat) (zs : List Int) (w : World) (hl : zs.length = n) (hlc : n ≤ c) (hm : c ≤ maxLen) (hr : ByteRow w a zs) (ht : (trimL zs).length = m) (hM : m ≤ 281474976710000) : Calls Sagg.prog 61 #[.slice a n c] w (postN (val zs) w) := by
  refine CX_calls (tips61 a zs m w) {} (by kernel_rfl) Sagg.func61 rfl _ rfl (by kernel_rfl) ?_
  refine of_eq (p := CutOK (fun (C : G61 → World → Prop) => cut61 zs w C) w ∧
  ((trimL zs).length = 0 → (CallOK Sagg.prog 33 { toList := [Value.slice a n c] } w fun (C : G61 → Value → World → Prop) => C { z := true } (Value.slice a m m) w) ∧ Sem.run Sagg.prog (binOp BinOp.eql 3 (Value.int IntKind.i64 ↑m) (Value.int IntKind.i64 0)) w = Result.ok (Value.bool true) w ∧ (postN (val zs) w) (Ending.returned (Value.slice none 0 0)) w) ∧
    ((trimL zs).length ≠ 0 →
      (CallOK Sagg.prog 33 { toList := [Value.slice a n c] } w fun (C : G61 → Value → World → Prop) => C { } (Value.slice a m m) w) ∧
        Sem.run Sagg.prog (binOp BinOp.eql 3 (Value.int IntKind.i64 ↑m) (Value.int IntKind.i64 0)) w = Result.ok (Value.bool false) w ∧
          Sem.run Sagg.prog (Instr.makeSlice 25 (Value.int IntKind.i64 ↑m) (Value.int IntKind.i64 ↑m)) w = Result.ok (Value.slice (some { block := w.heap.size, off := 0 }) m m) (w.alloc (Obj.cells { toList := List.map (Value.int IntKind.u8) (zeros m) } 5)) ∧
            Sem.run Sagg.prog
                  (do
                    let __do_lift ← builtin Builtin.copy { toList := [25, 25] } 3 { toList := [false, false] } { toList := [(Value.slice (some { block := w.heap.size, off := 0 }) m m), (Value.slice a m m)] }
                    match __do_lift with
                      | Next.value v => pure v
                      | x => stuck "no value")
                  (w.alloc (Obj.cells { toList := List.map (Value.int IntKind.u8) (zeros m) } 5)) =
                Result.ok (Value.int IntKind.i64 ↑m) ((w.alloc (Obj.cells { toList := List.map (Value.int IntKind.u8) (zeros m) } 5)).setRow w.heap.size { toList := List.map (Value.int IntKind.u8) (trimL zs) }) ∧
              (postN (val zs) w) (Ending.returned (Value.slice (some { block := w.heap.size, off := 0 }) m m)) ((w.alloc (Obj.cells { toList := List.map (Value.int IntKind.u8) (zeros m) } 5)).setRow w.heap.size { toList := List.map (Value.int IntKind.u8) (trimL zs) }))) (by kernel_rfl) ?_
  exact ⟨(cut61_ok _ _), (fun h1 => ⟨(callSame (by have := trim_calls a n c zs w hl hlc hm hr; rwa [ht] at this)), (eqlen ⟨fun _ => by omega, fun _ => rfl⟩), (fin61_z (by assumption))⟩), (fun h5 => ⟨(callSame (by have := trim_calls a n c zs w hl hlc hm hr; rwa [ht] at this)), (eqlen (no_if (by omega))), (make_n (by omega)), (copy_new Sagg.underlying25 alloc_row (zeros_length _) ht (hr.trimL.ext ((Below.refl _ _).alloc (Nat.le_refl _) _))), (fin61_n ht hr.1 (by assumption) hM)⟩)⟩
end Go.Proofs.Ygcsag
