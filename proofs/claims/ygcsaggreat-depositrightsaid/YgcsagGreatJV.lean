/-
  'write' AND 'grow' (rows of unknown length).
-/
import Derived.Test.YgcsagGreatJU
namespace Go.Proofs.YgcsagGreat
open Go.RowKit
set_option linter.unusedVariables false
set_option linter.unusedSimpArgs false

structure G132 where
  gd : Nat := 0
def tips132 (gF oF gM m : Nat) (b off l c : Nat) (zs : List Int) : Tips G132 where
  ops := [(13, { val := some fun _ => .slice (some ⟨gM, 0, none⟩) m m }), (22, { val := some fun _ => .slice (some ⟨gM, 0, none⟩) m m }),
    (15, { tr := some fun g w C => ∀ W, Below w.heap.size w W → (0 < m → C g (.tuple #[.int .i64 0, .bool true]) W) ∧ (m ≤ 0 → C g (.tuple #[.int .i64 0, .bool false]) W) }),
    (24, { val := some fun _ => .slice (some ⟨gM, 0, none⟩) m m }),
    (26, { val := some fun _ => .int .i64 (l : Int), wld := some fun g w => w.setRow gM (rowOf (cutR zs 0 m)) })]
/-- All old memory but one block is kept. -/
structure BelowX (g : Nat) (w w' : World) : Prop where
  os : w'.os = w.os
  tape : w'.tape = w.tape
  output : w'.output = w.output
  size : w.heap.size ≤ w'.heap.size
  block : ∀ k, k < w.heap.size → k ≠ g → w'.heap[k]? = w.heap[k]?
theorem belowX_row {g : Nat} {w w' : World} (h : Below w.heap.size w w') (cs : Array Value) : BelowX g w (w'.setRow g cs) :=
  ⟨h.os, h.tape, h.output, by rw [setRow_size]; exact h.size, fun k hk hne => by rw [setRow_other _ _ _ _ hne]; exact h.block k hk⟩
def post132 (gM m : Nat) (zs : List Int) (w : World) : Ending → World → Prop := fun e w' => e = .returned (.tuple #[]) ∧ BelowX gM w w' ∧ w'.heap[gM]? = some (.cells (rowOf (cutR zs 0 m)) 5 (0, 0))
theorem agg30' (w : World) : (isAgg 30).run Sagg.prog w = .ok false w := by kernel_rfl
theorem place_call0 {Γ : Type} {γ1 γ2 : Γ} {v : Value} {l : Nat} {w : World} (h : EX.nmN w v 0) (hl : l < 9223372036854775808) :
    CallOK Sagg.prog 126 #[v, .int .i64 (l : Int)] w fun C : Γ → Value → World → Prop => ∀ W, Below w.heap.size w W → (0 < l → C γ1 (.tuple #[.int .i64 0, .bool true]) W) ∧ (l ≤ 0 → C γ2 (.tuple #[.int .i64 0, .bool false]) W) := by
  by_cases hlt : 0 < l
  · exact callOK_of (place_lt v 0 w h l hl (by omega)) (fun C hC W hb => ⟨_, (hC W hb).1 hlt⟩)
  · exact callOK_of (place_ge v 0 w h l hl (by omega)) (fun C hC W hb => ⟨_, (hC W hb).2 (by omega)⟩)
theorem slice_all {b l : Nat} {w : World} (h : 0 < l) : (Instr.sliceAt 30 (.slice (some ⟨b, 0, none⟩) l l) (some (.int .i64 0)) none none).run Sagg.prog w = .ok (.slice (some ⟨b, 0, none⟩) l l) w := slice_from (k := 0) h (Nat.le_refl _)
theorem copy_all {g b off l c n : Nat} {zs : List Int} {w : World} (hln : l ≤ n) (hg : w.heap[g]? = some (.cells (rowOf (zeros n)) 5 (0, 0))) (hl : zs.length = l) (hcell : ∀ i, i < zs.length → w.cell? ⟨b, off + i, none⟩ = some (.int .u8 (zs.getD i 0))) :
    (do match ← builtin .copy #[30, 30] 3 #[false, false] #[.slice (some ⟨g, 0, none⟩) n n, .slice (some ⟨b, off, none⟩) l c] with
        | .value v => pure v
        | _ => stuck "no value" : Sem Value).run Sagg.prog w = .ok (.int .i64 (l : Int)) (w.setRow g (rowOf (cutR zs 0 n))) := copy_cut (o := 0) (c := c) (by omega) hg hl hcell

set_option maxRecDepth 100000 in
set_option maxHeartbeats 8000000 in
theorem write_core (gF oF gM m b off l c : Nat) (zs : List Int) (ov : Value) (w : World) (hm : 0 < m) (hm63 : m < 9223372036854775808) (hl : zs.length = l) (hlm : l ≤ m) (hM : w.heap[gM]? = some (.cells (rowOf (zeros m)) 5 (0, 0))) (hF : w.cell? ⟨gF, oF + 9, none⟩ = some (.slice (some ⟨gM, 0, none⟩) m m)) (h0 : EX.nmN w ov 0) (hr : ∀ i, i < zs.length → w.cell? ⟨b, off + i, none⟩ = some (.int .u8 (zs.getD i 0))) : Calls Sagg.prog 132 #[.pointer (some ⟨gF, oF, none⟩), ov, .slice (some ⟨b, off, none⟩) l c] w (post132 gM m zs w) := by
  refine CX_calls (tips132 gF oF gM m b off l c zs) {} (by kernel_rfl) Sagg.func132 rfl _ rfl (by kernel_rfl) ?_
  refine of_eq (p := Sem.run Sagg.prog (loadVar 30 { block := gF, off := oF + 9 }) w = Result.ok (Value.slice (some { block := gM, off := 0 }) m m) w ∧
  (CallOK Sagg.prog 126 { toList := [ov, Value.int IntKind.i64 ↑m] } w fun (C : G132 → Value → World → Prop) => ∀ (W : World), Below w.heap.size w W → (0 < m → C { } (Value.tuple #[Value.int IntKind.i64 0, Value.bool true]) W) ∧ (m ≤ 0 → C { } (Value.tuple #[Value.int IntKind.i64 0, Value.bool false]) W)) ∧
    ∀ (W : World),
      Below w.heap.size w W →
        (0 < m →
            Sem.run Sagg.prog (loadVar 30 { block := gF, off := oF + 9 }) W = Result.ok (Value.slice (some { block := gM, off := 0 }) m m) W ∧
              Sem.run Sagg.prog (Instr.sliceAt 30 (Value.slice (some { block := gM, off := 0 }) m m) (some (Value.int IntKind.i64 0)) none none) W = Result.ok (Value.slice (some { block := gM, off := 0 }) m m) W ∧
                Sem.run Sagg.prog
                      (do
                        let __do_lift ← builtin Builtin.copy { toList := [30, 30] } 3 { toList := [false, false] } { toList := [(Value.slice (some { block := gM, off := 0 }) m m), (Value.slice (some { block := b, off := off }) l c)] }
                        match __do_lift with
                          | Next.value v => pure v
                          | x => stuck "no value")
                      W =
                    Result.ok (Value.int IntKind.i64 ↑l) (W.setRow gM { toList := List.map (Value.int IntKind.u8) (cutR zs 0 m) }) ∧
                  (post132 gM m zs w) (Ending.returned (Value.tuple { toList := [] })) (W.setRow gM { toList := List.map (Value.int IntKind.u8) (cutR zs 0 m) })) ∧
          (m ≤ 0 → (post132 gM m zs w) (Ending.returned (Value.tuple { toList := [] })) W)) (by kernel_rfl) ?_
  exact ⟨(load_one agg30' hF), (place_call0 h0 hm63), (fun W2 => (fun h3 => ⟨(fun h4 => ⟨(load_one agg30' (kept_cell (show Below w.heap.size w W2 by assumption) hF)), (slice_all hm), (copy_all hlm (((show Below w.heap.size w W2 by assumption).block gM (by exact (Array.getElem?_eq_some_iff.1 hM).1)).trans hM) hl (fun i hi => kept_cell (show Below w.heap.size w W2 by assumption) (hr i hi))), ⟨rfl, belowX_row (show Below w.heap.size w W2 by assumption) _, setRow_heap _ _ _ _ _ _ (((show Below w.heap.size w W2 by assumption).block gM (by exact (Array.getElem?_eq_some_iff.1 hM).1)).trans hM)⟩⟩), (fun h9 => (by omega))⟩))⟩
end Go.Proofs.YgcsagGreat
