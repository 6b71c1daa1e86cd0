/-
  'copyBytes' AND 'laid' (rows of unknown length).
-/
import Derived.Test.YgcsagGreatJX
import Derived.Test.YgcsagGreatKa
namespace Go.Proofs.YgcsagGreat
open Go.RowKit
set_option linter.unusedVariables false
set_option linter.unusedSimpArgs false

/-- The first i bytes of the cut are laid. -/
def partR (zs : List Int) (o n i : Nat) : List Int := (List.range n).map fun j => if j < i then zs.getD (o + j) 0 else 0
structure G58 where
  gd : Nat := 0
  i : Nat := 0
  q : Bool := false
  r : Bool := false
  x : Int := 0
structure Laid (zs : List Int) (o n g i : Nat) (w W : World) : Prop where
  below : Below w.heap.size w W
  row : W.heap[g]? = some (.cells (rowOf (partR zs o n i)) 5 (0, 0))
def loop58 (zs : List Int) (o n : Nat) (w0 : World) : LoopTip G58 where
  slots := [12]
  inv := fun γ _ us W => ∃ i : Nat, i ≤ n ∧ us = [.int .i64 i] ∧ Laid zs o n γ.gd i w0 W
  T := fun γ _ C => (∀ (i : Nat) (W : World), i < n → Laid zs o n γ.gd i w0 W → ((o + i < zs.length → ∀ x, zs.getD (o + i) 0 = x → C { γ with i := i, q := true, r := true, x := x } [.int .i64 i] W) ∧ (zs.length ≤ o + i → C { γ with i := i, q := true, r := false, x := 0 } [.int .i64 i] W))) ∧ (∀ W, Laid zs o n γ.gd n w0 W → C { γ with q := false } [.int .i64 n] W)
  mu := fun _ us _ => n - (intOf (us.getLastD undef)).toNat
def tips58 (b off l o n : Nat) (zs : List Int) (w0 : World) : Tips G58 where
  ops := [(14, { tr := some fun g w C => ∀ W gd, w.heap.size ≤ gd → Below w.heap.size w W → W.heap[gd]? = some (.cells (rowOf (zeros n)) 5 (0, 0)) → C { g with gd := gd } (.slice (some ⟨gd, 0, none⟩) n n) W }),
    (17, { val := some fun g => .bool g.q }), (23, { val := some fun g => .int .i64 (g.i : Int) }), (24, { val := some fun g => .pointer (some ⟨g.gd, 0 + g.i, none⟩) }),
    (1005005, { val := some fun _ => undef, wld := some fun g w => w.setRow g.gd (rowOf ((partR zs o n g.i).set (0 + g.i) 0)) }),
    (26, { val := some fun _ => .bool true }), (30, { val := some fun g => .int .i64 (o + g.i : Nat) }), (33, { val := some fun g => .bool g.r }),
    (38, { val := some fun g => .int .i64 (g.i : Int) }), (42, { val := some fun g => .int .i64 (o + g.i : Nat) }), (43, { val := some fun g => .pointer (some ⟨b, off + (o + g.i), none⟩) }), (44, { val := some fun g => .int .u8 g.x }),
    (45, { val := some fun g => .pointer (some ⟨g.gd, 0 + g.i, none⟩) }), (1007011, { val := some fun _ => undef, wld := some fun g w => w.setRow g.gd (rowOf (((partR zs o n g.i).set (0 + g.i) 0).set (0 + g.i) g.x)) }),
    (19, { val := some fun g => .int .i64 (g.i + 1 : Nat) })]
  loops := [(3, loop58 zs o n w0)]
def post25 (zs : List Int) (n : Nat) (w : World) : Ending → World → Prop := fun e w' => e = .returned (.slice (some ⟨w.heap.size, 0, none⟩) n n) ∧ Below w.heap.size w w' ∧ w'.heap[w.heap.size]? = some (.cells (rowOf zs) 5 (0, 0))
set_option maxRecDepth 100000 in
set_option maxHeartbeats 8000000 in
theorem copyB_core (p : Addr) (n c : Nat) (zs : List Int) (w : World) (hl : zs.length = n) (hn : n ≤ 281474976710000) (hr : ByteRow w (some p) zs) : Calls Sagg.prog 25 #[.slice (some p) n c] w (post25 zs n w) := by
  refine CX_calls (tips17 n zs w) {} (by kernel_rfl) Sagg.func25 rfl _ rfl (by kernel_rfl) ?_
  refine of_eq (p := Sem.run Sagg.prog (Instr.makeSlice 30 (Value.int IntKind.i64 ↑n) (Value.int IntKind.i64 ↑n)) w = Result.ok (Value.slice (some { block := w.heap.size, off := 0 }) n n) (w.alloc (Obj.cells { toList := List.map (Value.int IntKind.u8) (zeros n) } 5)) ∧
  Sem.run Sagg.prog
        (do
          let __do_lift ← builtin Builtin.copy { toList := [30, 30] } 3 { toList := [false, false] } { toList := [(Value.slice (some { block := w.heap.size, off := 0 }) n n), (Value.slice (some p) n c)] }
          match __do_lift with
            | Next.value v => pure v
            | x => stuck "no value")
        (w.alloc (Obj.cells { toList := List.map (Value.int IntKind.u8) (zeros n) } 5)) =
      Result.ok (Value.int IntKind.i64 ↑n) ((w.alloc (Obj.cells { toList := List.map (Value.int IntKind.u8) (zeros n) } 5)).setRow w.heap.size { toList := List.map (Value.int IntKind.u8) zs }) ∧
    (post25 zs n w) (Ending.returned (Value.slice (some { block := w.heap.size, off := 0 }) n n)) ((w.alloc (Obj.cells { toList := List.map (Value.int IntKind.u8) (zeros n) } 5)).setRow w.heap.size { toList := List.map (Value.int IntKind.u8) zs })) (by kernel_rfl) ?_
  exact ⟨(make_t Sagg.underlying30 hn), (copy_new Sagg.underlying30 alloc_row (zeros_length _) hl (hr.ext ((Below.refl _ _).alloc (Nat.le_refl _) _))), ⟨rfl, kept_row ((Below.refl _ _).alloc (Nat.le_refl _) _) (Nat.le_refl _) _, setRow_heap _ _ _ _ _ _ alloc_row⟩⟩


set_option maxRecDepth 100000 in
set_option maxHeartbeats 8000000 in
theorem bytesB_core (p : Addr) (n c : Nat) (zs : List Int) (w : World) (hl : zs.length = n) (hn : n ≤ 281474976710000) (hr : ByteRow w (some p) zs) : Calls Sagg.prog 50 #[.slice (some p) n c] w (post25 zs n w) := by
  refine CX_calls (tips17 n zs w) {} (by kernel_rfl) Sagg.func50 rfl _ rfl (by kernel_rfl) ?_
  refine of_eq (p := Sem.run Sagg.prog (Instr.makeSlice 30 (Value.int IntKind.i64 ↑n) (Value.int IntKind.i64 ↑n)) w = Result.ok (Value.slice (some { block := w.heap.size, off := 0 }) n n) (w.alloc (Obj.cells { toList := List.map (Value.int IntKind.u8) (zeros n) } 5)) ∧
  Sem.run Sagg.prog
        (do
          let __do_lift ← builtin Builtin.copy { toList := [30, 30] } 3 { toList := [false, false] } { toList := [(Value.slice (some { block := w.heap.size, off := 0 }) n n), (Value.slice (some p) n c)] }
          match __do_lift with
            | Next.value v => pure v
            | x => stuck "no value")
        (w.alloc (Obj.cells { toList := List.map (Value.int IntKind.u8) (zeros n) } 5)) =
      Result.ok (Value.int IntKind.i64 ↑n) ((w.alloc (Obj.cells { toList := List.map (Value.int IntKind.u8) (zeros n) } 5)).setRow w.heap.size { toList := List.map (Value.int IntKind.u8) zs }) ∧
    (post25 zs n w) (Ending.returned (Value.slice (some { block := w.heap.size, off := 0 }) n n)) ((w.alloc (Obj.cells { toList := List.map (Value.int IntKind.u8) (zeros n) } 5)).setRow w.heap.size { toList := List.map (Value.int IntKind.u8) zs })) (by kernel_rfl) ?_
  exact ⟨(make_t Sagg.underlying30 hn), (copy_new Sagg.underlying30 alloc_row (zeros_length _) hl (hr.ext ((Below.refl _ _).alloc (Nat.le_refl _) _))), ⟨rfl, kept_row ((Below.refl _ _).alloc (Nat.le_refl _) _) (Nat.le_refl _) _, setRow_heap _ _ _ _ _ _ alloc_row⟩⟩


theorem copyB_call {Γ : Type} {γ : Nat → Γ} {gb n : Nat} {w : World} (hn : n ≤ 281474976710000) (hg : w.heap[gb]? = some (.cells (rowOf (zeros n)) 5 (0, 0))) :
    CallOK Sagg.prog 25 #[.slice (some ⟨gb, 0, none⟩) n n] w fun C : Γ → Value → World → Prop => ∀ (W : World) (gd : Nat), w.heap.size ≤ gd → Below w.heap.size w W → W.heap[gd]? = some (.cells (rowOf (zeros n)) 5 (0, 0)) → C (γ gd) (.slice (some ⟨gd, 0, none⟩) n n) W := by
  intro C hC
  refine (copyB_core ⟨gb, 0, none⟩ n n (zeros n) w (zeros_length n) hn ⟨?_, .inr ⟨gb, 0, rfl, fun i hi => ?_⟩⟩).mono ?_
  · intro x hx
    have := List.eq_of_mem_replicate hx
    omega
  · unfold World.cell?
    rw [hg]
    simp [rowOf_get _ _ hi]
  · rintro e w' ⟨rfl, hb, hrow⟩
    exact ⟨_, _, rfl, hC w' w.heap.size (Nat.le_refl _) hb hrow⟩
theorem part_len (zs : List Int) (o n i : Nat) : (partR zs o n i).length = n := by simp [partR]
theorem part_zero (zs : List Int) (o n : Nat) : zeros n = partR zs o n 0 := by
  unfold zeros partR
  symm
  rw [List.eq_replicate_iff]
  exact ⟨by simp, fun b hb => by obtain ⟨i, _, rfl⟩ := List.mem_map.1 hb; simp⟩
theorem part_all (zs : List Int) (o n : Nat) : partR zs o n n = cutR zs o n := by
  unfold partR cutR
  apply List.map_congr_left
  intro j hj
  rw [if_pos (List.mem_range.1 hj)]
theorem part_next {zs : List Int} {o n i : Nat} {x : Int} (hi : i < n) (hx : zs.getD (o + i) 0 = x) : (partR zs o n i).set (0 + i) x = partR zs o n (i + 1) := by
  rw [Nat.zero_add]
  unfold partR
  apply List.ext_getElem?
  intro j
  rw [List.getElem?_set]
  by_cases hj : j < n
  · by_cases e : i = j
    · subst e
      rw [if_pos rfl, if_pos (by simpa using hj), List.getElem?_map, List.getElem?_range hj, Option.map_some, if_pos (by omega), hx]
    · rw [if_neg e, List.getElem?_map, List.getElem?_map, List.getElem?_range hj, Option.map_some, Option.map_some]
      by_cases h2 : j < i
      · rw [if_pos h2, if_pos (by omega)]
      · rw [if_neg h2, if_neg (by omega)]
  · by_cases e : i = j
    · omega
    · rw [if_neg e, List.getElem?_eq_none (by simp; omega), List.getElem?_eq_none (by simp; omega)]
theorem part_next2 {zs : List Int} {o n i : Nat} {x : Int} (hi : i < n) (hx : zs.getD (o + i) 0 = x) : ((partR zs o n i).set (0 + i) 0).set (0 + i) x = partR zs o n (i + 1) := by
  rw [List.set_set, part_next hi hx]
theorem getD_out {zs : List Int} {k : Nat} (h : zs.length ≤ k) : zs.getD k 0 = 0 := by simp [List.getD_eq_getElem?_getD, h]
theorem loop58_ok (zs : List Int) (o n : Nat) (w0 : World) (g : G58) (w : World) : LoopOK (loop58 zs o n w0) g w := by
  rintro C ⟨h1, h2⟩ us w' - ⟨i, hi, rfl, hm⟩
  by_cases hlt : i < n
  · by_cases hz : o + i < zs.length
    · exact ⟨_, (h1 i w' hlt hm).1 hz _ rfl⟩
    · exact ⟨_, (h1 i w' hlt hm).2 (by omega)⟩
  · obtain rfl : i = n := by omega
    exact ⟨_, h2 w' hm⟩
def post58 (zs : List Int) (o n : Nat) (w : World) : Ending → World → Prop := fun e w' => ∃ g, w.heap.size ≤ g ∧ e = .returned (.slice (some ⟨g, 0, none⟩) n n) ∧ w'.heap[g]? = some (.cells (rowOf (cutR zs o n)) 5 (0, 0)) ∧ Below w.heap.size w w'

set_option maxRecDepth 100000 in
set_option maxHeartbeats 8000000 in
theorem laid_core (gb : Nat) (sa : Option Addr) (b off l c o n : Nat) (zs : List Int) (w : World) (hn : n ≤ 100000) (ho : o ≤ 100000) (hl : zs.length = l) (hg : w.heap[gb]? = some (.cells (rowOf (zeros n)) 5 (0, 0))) (hs : 0 < l → sa = some ⟨b, off, none⟩) (hr : ∀ i, i < zs.length → w.cell? ⟨b, off + i, none⟩ = some (.int .u8 (zs.getD i 0))) : Calls Sagg.prog 58 #[.slice (some ⟨gb, 0, none⟩) n n, .int .i64 0, .int .i64 (o : Int), .int .i64 (n : Int), .slice sa l c] w (post58 zs o n w) := by
  refine CX_calls (tips58 b off l o n zs w) {} (by kernel_rfl) Sagg.func58 rfl _ rfl (by kernel_rfl) ?_
  refine of_eq (p := (CallOK Sagg.prog 25 { toList := [Value.slice (some { block := gb, off := 0 }) n n] } w fun (C : G58 → Value → World → Prop) => ∀ (W : World) (gd : Nat), w.heap.size ≤ gd → Below w.heap.size w W → W.heap[gd]? = some (Obj.cells (rowOf (zeros n)) 5) → C { gd := gd } (Value.slice (some { block := gd, off := 0 }) n n) W) ∧
  ∀ (W : World) (gd : Nat),
    w.heap.size ≤ gd →
      Below w.heap.size w W →
        W.heap[gd]? = some (Obj.cells (rowOf (zeros n)) 5) →
          (∃ (i : Nat), i ≤ n ∧ [Value.int IntKind.i64 0] = [Value.int IntKind.i64 ↑i] ∧ Laid zs o n gd i w W) ∧
            LoopOK (loop58 zs o n w) { gd := gd } W ∧
              (∀ (i : Nat) (W : World),
                  i < n →
                    Laid zs o n gd i w W →
                      (o + i < zs.length →
                          ∀ (x : Int),
                            zs.getD (o + i) 0 = x →
                              Sem.run Sagg.prog (binOp BinOp.lss 3 (Value.int IntKind.i64 ↑i) (Value.int IntKind.i64 ↑n)) W = Result.ok (Value.bool true) W ∧
                                Sem.run Sagg.prog (binOp BinOp.add 3 (Value.int IntKind.i64 0) (Value.int IntKind.i64 ↑i)) W = Result.ok (Value.int IntKind.i64 ↑i) W ∧
                                  Sem.run Sagg.prog (Instr.indexAt 30 (Value.slice (some { block := gd, off := 0 }) n n) (Value.int IntKind.i64 ↑i)) W = Result.ok (Value.pointer (some { block := gd, off := 0 + i })) W ∧
                                    Sem.run Sagg.prog
                                          (do
                                            storeVar 5 { block := gd, off := 0 + i } (Value.int IntKind.u8 0)
                                            pure undef)
                                          W =
                                        Result.ok (Value.tuple { toList := [] }) (W.setRow gd { toList := List.map (Value.int IntKind.u8) ((partR zs o n i).set (0 + i) 0) }) ∧
                                      Sem.run Sagg.prog (binOp BinOp.geq 3 (Value.int IntKind.i64 ↑o) (Value.int IntKind.i64 0)) (W.setRow gd { toList := List.map (Value.int IntKind.u8) ((partR zs o n i).set (0 + i) 0) }) = Result.ok (Value.bool true) (W.setRow gd { toList := List.map (Value.int IntKind.u8) ((partR zs o n i).set (0 + i) 0) }) ∧
                                        Sem.run Sagg.prog (binOp BinOp.add 3 (Value.int IntKind.i64 ↑o) (Value.int IntKind.i64 ↑i)) (W.setRow gd { toList := List.map (Value.int IntKind.u8) ((partR zs o n i).set (0 + i) 0) }) = Result.ok (Value.int IntKind.i64 ↑(o + i)) (W.setRow gd { toList := List.map (Value.int IntKind.u8) ((partR zs o n i).set (0 + i) 0) }) ∧
                                          Sem.run Sagg.prog (binOp BinOp.lss 3 (Value.int IntKind.i64 ↑(o + i)) (Value.int IntKind.i64 ↑l)) (W.setRow gd { toList := List.map (Value.int IntKind.u8) ((partR zs o n i).set (0 + i) 0) }) = Result.ok (Value.bool true) (W.setRow gd { toList := List.map (Value.int IntKind.u8) ((partR zs o n i).set (0 + i) 0) }) ∧
                                            Sem.run Sagg.prog (binOp BinOp.add 3 (Value.int IntKind.i64 0) (Value.int IntKind.i64 ↑i)) (W.setRow gd { toList := List.map (Value.int IntKind.u8) ((partR zs o n i).set (0 + i) 0) }) = Result.ok (Value.int IntKind.i64 ↑i) (W.setRow gd { toList := List.map (Value.int IntKind.u8) ((partR zs o n i).set (0 + i) 0) }) ∧
                                              Sem.run Sagg.prog (binOp BinOp.add 3 (Value.int IntKind.i64 ↑o) (Value.int IntKind.i64 ↑i)) (W.setRow gd { toList := List.map (Value.int IntKind.u8) ((partR zs o n i).set (0 + i) 0) }) = Result.ok (Value.int IntKind.i64 ↑(o + i)) (W.setRow gd { toList := List.map (Value.int IntKind.u8) ((partR zs o n i).set (0 + i) 0) }) ∧
                                                Sem.run Sagg.prog (Instr.indexAt 30 (Value.slice sa l c) (Value.int IntKind.i64 ↑(o + i))) (W.setRow gd { toList := List.map (Value.int IntKind.u8) ((partR zs o n i).set (0 + i) 0) }) = Result.ok (Value.pointer (some { block := b, off := off + (o + i) })) (W.setRow gd { toList := List.map (Value.int IntKind.u8) ((partR zs o n i).set (0 + i) 0) }) ∧
                                                  Sem.run Sagg.prog (loadVar 5 { block := b, off := off + (o + i) }) (W.setRow gd { toList := List.map (Value.int IntKind.u8) ((partR zs o n i).set (0 + i) 0) }) = Result.ok (Value.int IntKind.u8 x) (W.setRow gd { toList := List.map (Value.int IntKind.u8) ((partR zs o n i).set (0 + i) 0) }) ∧
                                                    Sem.run Sagg.prog (Instr.indexAt 30 (Value.slice (some { block := gd, off := 0 }) n n) (Value.int IntKind.i64 ↑i)) (W.setRow gd { toList := List.map (Value.int IntKind.u8) ((partR zs o n i).set (0 + i) 0) }) = Result.ok (Value.pointer (some { block := gd, off := 0 + i })) (W.setRow gd { toList := List.map (Value.int IntKind.u8) ((partR zs o n i).set (0 + i) 0) }) ∧
                                                      Sem.run Sagg.prog
                                                            (do
                                                              storeVar 5 { block := gd, off := 0 + i } (Value.int IntKind.u8 x)
                                                              pure undef)
                                                            (W.setRow gd { toList := List.map (Value.int IntKind.u8) ((partR zs o n i).set (0 + i) 0) }) =
                                                          Result.ok (Value.tuple { toList := [] }) ((W.setRow gd { toList := List.map (Value.int IntKind.u8) ((partR zs o n i).set (0 + i) 0) }).setRow gd { toList := List.map (Value.int IntKind.u8) (((partR zs o n i).set (0 + i) 0).set (0 + i) x) }) ∧
                                                        Sem.run Sagg.prog (binOp BinOp.add 3 (Value.int IntKind.i64 ↑i) (Value.int IntKind.i64 1)) ((W.setRow gd { toList := List.map (Value.int IntKind.u8) ((partR zs o n i).set (0 + i) 0) }).setRow gd { toList := List.map (Value.int IntKind.u8) (((partR zs o n i).set (0 + i) 0).set (0 + i) x) }) = Result.ok (Value.int IntKind.i64 ↑(i + 1)) ((W.setRow gd { toList := List.map (Value.int IntKind.u8) ((partR zs o n i).set (0 + i) 0) }).setRow gd { toList := List.map (Value.int IntKind.u8) (((partR zs o n i).set (0 + i) 0).set (0 + i) x) }) ∧ (∃ (i_1 : Nat), i_1 ≤ n ∧ [Value.int IntKind.i64 ↑(i + 1)] = [Value.int IntKind.i64 ↑i_1] ∧ Laid zs o n gd i_1 w ((W.setRow gd { toList := List.map (Value.int IntKind.u8) ((partR zs o n i).set (0 + i) 0) }).setRow gd { toList := List.map (Value.int IntKind.u8) (((partR zs o n i).set (0 + i) 0).set (0 + i) x) })) ∧ n - (((i + 1) : Nat) : Int).toNat < n - ((i : Nat) : Int).toNat) ∧
                        (zs.length ≤ o + i →
                          Sem.run Sagg.prog (binOp BinOp.lss 3 (Value.int IntKind.i64 ↑i) (Value.int IntKind.i64 ↑n)) W = Result.ok (Value.bool true) W ∧
                            Sem.run Sagg.prog (binOp BinOp.add 3 (Value.int IntKind.i64 0) (Value.int IntKind.i64 ↑i)) W = Result.ok (Value.int IntKind.i64 ↑i) W ∧
                              Sem.run Sagg.prog (Instr.indexAt 30 (Value.slice (some { block := gd, off := 0 }) n n) (Value.int IntKind.i64 ↑i)) W = Result.ok (Value.pointer (some { block := gd, off := 0 + i })) W ∧
                                Sem.run Sagg.prog
                                      (do
                                        storeVar 5 { block := gd, off := 0 + i } (Value.int IntKind.u8 0)
                                        pure undef)
                                      W =
                                    Result.ok (Value.tuple { toList := [] }) (W.setRow gd { toList := List.map (Value.int IntKind.u8) ((partR zs o n i).set (0 + i) 0) }) ∧
                                  Sem.run Sagg.prog (binOp BinOp.geq 3 (Value.int IntKind.i64 ↑o) (Value.int IntKind.i64 0)) (W.setRow gd { toList := List.map (Value.int IntKind.u8) ((partR zs o n i).set (0 + i) 0) }) = Result.ok (Value.bool true) (W.setRow gd { toList := List.map (Value.int IntKind.u8) ((partR zs o n i).set (0 + i) 0) }) ∧ Sem.run Sagg.prog (binOp BinOp.add 3 (Value.int IntKind.i64 ↑o) (Value.int IntKind.i64 ↑i)) (W.setRow gd { toList := List.map (Value.int IntKind.u8) ((partR zs o n i).set (0 + i) 0) }) = Result.ok (Value.int IntKind.i64 ↑(o + i)) (W.setRow gd { toList := List.map (Value.int IntKind.u8) ((partR zs o n i).set (0 + i) 0) }) ∧ Sem.run Sagg.prog (binOp BinOp.lss 3 (Value.int IntKind.i64 ↑(o + i)) (Value.int IntKind.i64 ↑l)) (W.setRow gd { toList := List.map (Value.int IntKind.u8) ((partR zs o n i).set (0 + i) 0) }) = Result.ok (Value.bool false) (W.setRow gd { toList := List.map (Value.int IntKind.u8) ((partR zs o n i).set (0 + i) 0) }) ∧ Sem.run Sagg.prog (binOp BinOp.add 3 (Value.int IntKind.i64 ↑i) (Value.int IntKind.i64 1)) (W.setRow gd { toList := List.map (Value.int IntKind.u8) ((partR zs o n i).set (0 + i) 0) }) = Result.ok (Value.int IntKind.i64 ↑(i + 1)) (W.setRow gd { toList := List.map (Value.int IntKind.u8) ((partR zs o n i).set (0 + i) 0) }) ∧ (∃ (i_1 : Nat), i_1 ≤ n ∧ [Value.int IntKind.i64 ↑(i + 1)] = [Value.int IntKind.i64 ↑i_1] ∧ Laid zs o n gd i_1 w (W.setRow gd { toList := List.map (Value.int IntKind.u8) ((partR zs o n i).set (0 + i) 0) })) ∧ n - (((i + 1) : Nat) : Int).toNat < n - ((i : Nat) : Int).toNat)) ∧
                ∀ (W : World), Laid zs o n gd n w W → Sem.run Sagg.prog (binOp BinOp.lss 3 (Value.int IntKind.i64 ↑n) (Value.int IntKind.i64 ↑n)) W = Result.ok (Value.bool false) W ∧ (post58 zs o n w) (Ending.returned (Value.slice (some { block := gd, off := 0 }) n n)) W) (by kernel_rfl) ?_
  exact ⟨(copyB_call (by omega) hg), (fun W1 => (fun gd2 => (fun h3 => (fun h4 => (fun h5 => ⟨⟨0, by omega, rfl, by assumption, by rw [← part_zero]; assumption⟩, (loop58_ok _ _ _ _ _ _), (fun i8 => (fun W9 => (fun h10 => (fun h11 => ⟨(fun h12 => (fun x13 => (fun h14 => ⟨(lss_t (by omega)), (add_n (a := 0) (Nat.zero_add _) (by omega)), (index_byte Sagg.underlying30 rfl (by omega)), (store_byte (show Laid zs o n gd2 _ w W9 by assumption).row (by rw [part_len]; omega)), (geq_t (by omega)), (add_n rfl (by omega)), (lss_t (by omega)), (add_n (a := 0) (Nat.zero_add _) (by omega)), (add_n rfl (by omega)), (index_byte Sagg.underlying30 (hs (by omega)) (by omega)), (load_byte (kept_cell (kept_row (show Laid zs o n gd2 _ w W9 by assumption).below (show w.heap.size ≤ gd2 by assumption) _) (hr _ (by assumption))) (by assumption)), (index_byte Sagg.underlying30 rfl (by omega)), (store_byte (setRow_heap _ _ _ _ _ _ (show Laid zs o n gd2 _ w W9 by assumption).row) (by rw [List.length_set, part_len]; omega)), (add_n (b := 1) rfl (by omega)), ⟨_, by omega, rfl, kept_row (kept_row (show Laid zs o n gd2 _ w W9 by assumption).below (show w.heap.size ≤ gd2 by assumption) _) (show w.heap.size ≤ gd2 by assumption) _, by rw [← part_next2 (by assumption) (by assumption)]; exact setRow_heap _ _ _ _ _ _ (setRow_heap _ _ _ _ _ _ (show Laid zs o n gd2 _ w W9 by assumption).row)⟩, (by simp [intOf]; omega)⟩))), (fun h31 => ⟨(lss_t (by omega)), (add_n (a := 0) (Nat.zero_add _) (by omega)), (index_byte Sagg.underlying30 rfl (by omega)), (store_byte (show Laid zs o n gd2 _ w W9 by assumption).row (by rw [part_len]; omega)), (geq_t (by omega)), (add_n rfl (by omega)), (lss_f (by omega)), (add_n (b := 1) rfl (by omega)), ⟨_, by omega, rfl, (kept_row (show Laid zs o n gd2 _ w W9 by assumption).below (show w.heap.size ≤ gd2 by assumption) _), by rw [← part_next (by assumption) (getD_out (by assumption))]; exact (setRow_heap _ _ _ _ _ _ (show Laid zs o n gd2 _ w W9 by assumption).row)⟩, (by simp [intOf]; omega)⟩)⟩)))), (fun W42 => (fun h43 => ⟨(lss_f (by omega)), ⟨_, (show w.heap.size ≤ gd2 by assumption), rfl, by rw [← part_all]; exact (show Laid zs o n gd2 n w W42 by assumption).row, (show Laid zs o n gd2 n w W42 by assumption).below⟩⟩))⟩)))))⟩
end Go.Proofs.YgcsagGreat
