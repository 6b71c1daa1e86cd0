/-
  'copyBytes', 'BE64', 'be64Holds'.
-/
import Derived.Test.YgcsagND
namespace Go.Proofs.Ygcsag
open Go.RowKit
set_option linter.unusedVariables false
set_option linter.unusedSimpArgs false

theorem make_t {t : TypeId} {n : Nat} {w : World} (ht : Sagg.prog.underlying t = some (.slice 5)) (h : n ≤ 281474976710000) : (Instr.makeSlice t (.int .i64 (n : Int)) (.int .i64 (n : Int))).run Sagg.prog w = .ok (.slice (some ⟨w.heap.size, 0, none⟩) n n) (w.alloc (.cells (rowOf (zeros n)) 5)) := by
  have := make_bytes ht (n : Int) (by omega) (by omega) w
  rwa [Int.toNat_natCast] at this
structure G0 where
  q : Bool := false
def tips17 (n : Nat) (zs : List Int) (w0 : World) : Tips G0 where
  ops := [(8, { val := some fun _ => .slice (some ⟨w0.heap.size, 0, none⟩) n n, wld := some fun _ w => w.alloc (.cells (rowOf (zeros n)) 5) }), (11, { val := some fun _ => .int .i64 (n : Int), wld := some fun _ w => w.setRow w0.heap.size (rowOf zs) })]
/-- What a copy is. -/
structure Copied (zs : List Int) (n : Nat) (v : Value) (w w' : World) : Prop where
  below : Below w.heap.size w w'
  val : v = .slice none 0 0 ∧ n = 0 ∨ v = .slice (some ⟨w.heap.size, 0, none⟩) n n ∧ w'.heap[w.heap.size]? = some (.cells (rowOf zs) 5 (0, 0))
def post17 (zs : List Int) (n : Nat) (w : World) : Ending → World → Prop := fun e w' => ∃ v, e = .returned v ∧ Copied zs n v w w'
theorem slice8 {b o n c k : Nat} {w : World} (h : k + 8 ≤ n) (hc : n ≤ c) : (Instr.sliceAt 22 (.slice (some ⟨b, o, none⟩) n c) (some (.int .i64 (k : Int))) (some (.int .i64 ((k + 8 : Nat) : Int))) none).run Sagg.prog w = .ok (.slice (some ⟨b, o + k, none⟩) 8 (c - k)) w := by
  have hu : Sagg.prog.underlying 22 = some (.slice (Sagg.prog.elem 22)) := by kernel_rfl
  rw [run_sliceAt_slice (P := Sagg.prog) w 22 _ _ _ _ hu, run_slice_lh (P := Sagg.prog) w 22 _ n c hu .i64 .i64 (k : Int) ((k + 8 : Nat) : Int) (by omega) (by omega) (by omega)]
  have hs : (sizeOf (Sagg.prog.elem 22)).run Sagg.prog w = .ok 1 w := by kernel_rfl
  rw [hs]
  have h1 : ¬ c = k := by omega
  have h2 : k + 8 - k = 8 := by omega
  simp only [Result.andThen_ok, sliced, Int.toNat_natCast, h1, if_false, Option.map_some, Nat.mul_one, WideShapes.add_plain, h2]

set_option maxRecDepth 100000 in
set_option maxHeartbeats 8000000 in
theorem copyNil_core (n c : Nat) (zs : List Int) (w : World) (hz : n = 0) : Calls Sagg.prog 17 #[.slice none n c] w (post17 zs n w) := by
  refine CX_calls (tips17 n zs w) {} (by kernel_rfl) Sagg.func17 rfl _ rfl (by kernel_rfl) ?_
  refine of_eq (p := (post17 zs n w) (Ending.returned (Value.slice none 0 0)) w) (by kernel_rfl) ?_
  exact ⟨_, rfl, Below.refl _ _, .inl ⟨rfl, hz⟩⟩

set_option maxRecDepth 100000 in
set_option maxHeartbeats 8000000 in
theorem copySome_core (p : Addr) (n c : Nat) (zs : List Int) (w : World) (hl : zs.length = n) (hn : n ≤ 281474976710000) (hr : ByteRow w (some p) zs) : Calls Sagg.prog 17 #[.slice (some p) n c] w (post17 zs n w) := by
  refine CX_calls (tips17 n zs w) {} (by kernel_rfl) Sagg.func17 rfl _ rfl (by kernel_rfl) ?_
  refine of_eq (p := Sem.run Sagg.prog (Instr.makeSlice 22 (Value.int IntKind.i64 ↑n) (Value.int IntKind.i64 ↑n)) w = Result.ok (Value.slice (some { block := w.heap.size, off := 0 }) n n) (w.alloc (Obj.cells { toList := List.map (Value.int IntKind.u8) (zeros n) } 5)) ∧
  Sem.run Sagg.prog
        (do
          let __do_lift ← builtin Builtin.copy { toList := [22, 22] } 3 { toList := [false, false] } { toList := [(Value.slice (some { block := w.heap.size, off := 0 }) n n), (Value.slice (some p) n c)] }
          match __do_lift with
            | Next.value v => pure v
            | x => stuck "no value")
        (w.alloc (Obj.cells { toList := List.map (Value.int IntKind.u8) (zeros n) } 5)) =
      Result.ok (Value.int IntKind.i64 ↑n) ((w.alloc (Obj.cells { toList := List.map (Value.int IntKind.u8) (zeros n) } 5)).setRow w.heap.size { toList := List.map (Value.int IntKind.u8) zs }) ∧
    (post17 zs n w) (Ending.returned (Value.slice (some { block := w.heap.size, off := 0 }) n n)) ((w.alloc (Obj.cells { toList := List.map (Value.int IntKind.u8) (zeros n) } 5)).setRow w.heap.size { toList := List.map (Value.int IntKind.u8) zs })) (by kernel_rfl) ?_
  exact ⟨(make_t Sagg.underlying22 hn), (copy_new Sagg.underlying22 alloc_row (zeros_length _) hl (hr.ext ((Below.refl _ _).alloc (Nat.le_refl _) _))), ⟨_, rfl, kept_row ((Below.refl _ _).alloc (Nat.le_refl _) _) (Nat.le_refl _) _, .inr ⟨rfl, setRow_heap _ _ _ _ _ _ alloc_row⟩⟩⟩

theorem copyBytes_calls (a : Option Addr) (n c : Nat) (zs : List Int) (w : World) (hl : zs.length = n) (hn : n ≤ 281474976710000) (hr : ByteRow w a zs) : Calls Sagg.prog 17 #[.slice a n c] w fun e w' => ∃ v, e = .returned v ∧ Copied zs n v w w' := by
  cases a with
  | none =>
    refine copyNil_core n c zs w ?_
    rcases hr.2 with h | ⟨b, off, h, _⟩
    · rw [← hl, h]; rfl
    · cases h
  | some p => exact copySome_core p n c zs w hl hn hr
end Go.Proofs.Ygcsag
