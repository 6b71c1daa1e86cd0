/-
  'small', 'cut', 'grow', 'write' AND 'copyBytes' (rows of unknown length).
-/
import Derived.Test.YgcsagGreatHW
namespace Go.Proofs.YgcsagGreat
open Go.RowKit
set_option linter.unusedVariables false
set_option linter.unusedSimpArgs false

set_option maxHeartbeats 1000000 in
theorem small_calls (v : Value) (m : Int) (w : World) (h : EX.nmN w v m) (hlt : m < 18446744073709551616) :
    Calls Sagg.prog 48 #[v] w fun e w' => e = .returned (.int .u64 m) ∧ Below w.heap.size w w' := by
  obtain ⟨xs, a, ca, rfl, h1, h2, h3, h4, rfl, h6, h7, -⟩ := EX.nmN_open h
  have h0 := val_nonneg h3.1
  have hu := u64_small a _ ca xs w rfl h1 h2 h3 (by rw [EX.trim_norm h3.1 h4]; exact norm_len h3.1 h4 hlt)
  generalize val xs = m at *
  go_enter Sagg.func48, Sagg.ntmps48
  go_wp2_with fail
  refine hu.mono ?_
  rintro e w' ⟨rfl, n, rfl⟩
  go_wp2
  go_ret
  exact ⟨rfl, EX.drew_below w n⟩
/-- n bytes of a row from o, zeros past its end. -/
def cutR (zs : List Int) (o n : Nat) : List Int := (List.range n).map fun i => zs.getD (o + i) 0
structure G136 where
  gd : Nat := 0
  ok : Bool := false
def post136 (zs : List Int) (o n : Nat) (w : World) : Ending → World → Prop := fun e w' => ∃ g, w.heap.size ≤ g ∧ e = .returned (.slice (some ⟨g, 0, none⟩) n n) ∧ w'.heap[g]? = some (.cells (rowOf (cutR zs o n)) 5 (0, 0)) ∧ Below w.heap.size w w'
def tips136 (b off l c o n k : Nat) (zs : List Int) : Tips G136 where
  ops := [(11, { tr := some fun g w C => ∀ W, Below w.heap.size w W → C { g with gd := W.heap.size } (.int .u64 (n : Int)) W }),
    (12, { val := some fun g => .slice (some ⟨g.gd, 0, none⟩) n n, wld := some fun _ w => w.alloc (.cells (rowOf (zeros n)) 5) }),
    (17, { tr := some fun g w C => ∀ W, Below w.heap.size w W → (o < l → C { g with ok := true } (.tuple #[.int .i64 (o : Int), .bool true]) W) ∧ (l ≤ o → C { g with ok := false } (.tuple #[.int .i64 0, .bool false]) W) }),
    (24, { val := some fun _ => .slice (some ⟨b, off + o, none⟩) (l - o) (c - o) }),
    (25, { val := some fun _ => .int .i64 (k : Int), wld := some fun g w => w.setRow g.gd (rowOf (cutR zs o n)) })]
theorem callOK_of {Γ : Type} {P : Program} {f : FuncId} {args : Array Value} {w : World} {v : Value} {T : (Γ → Value → World → Prop) → Prop} (h : Calls P f args w fun e w' => e = .returned v ∧ Below w.heap.size w w') (hT : ∀ C, T C → ∀ W, Below w.heap.size w W → ∃ γ, C γ v W) : CallOK P f args w T := by
  intro C hC
  refine h.mono ?_
  rintro e w' ⟨he, hb⟩
  obtain ⟨γ, hγ⟩ := hT C hC w' hb
  exact ⟨γ, v, he, hγ⟩
theorem make_u {t : TypeId} {n : Nat} {w : World} (ht : Sagg.prog.underlying t = some (.slice 5)) (h : n ≤ 281474976710000) : (Instr.makeSlice t (.int .u64 (n : Int)) (.int .u64 (n : Int))).run Sagg.prog w = .ok (.slice (some ⟨w.heap.size, 0, none⟩) n n) (w.alloc (.cells (rowOf (zeros n)) 5)) := by
  have := run_make_row' (P := Sagg.prog) t 5 (.int .u8 0) 1 ht info5 rfl .u64 .u64 n (by omega) (by omega) w
  rw [rowOf_zeros] at this
  simpa using this
theorem slice_from {b o l c k : Nat} {w : World} (h : k < l) (hc : l ≤ c) : (Instr.sliceAt 30 (.slice (some ⟨b, o, none⟩) l c) (some (.int .i64 (k : Int))) none none).run Sagg.prog w = .ok (.slice (some ⟨b, o + k, none⟩) (l - k) (c - k)) w := by
  have hu : Sagg.prog.underlying 30 = some (.slice (Sagg.prog.elem 30)) := by kernel_rfl
  rw [run_sliceAt_slice (P := Sagg.prog) w 30 _ _ _ _ hu, run_slice_l (P := Sagg.prog) w 30 _ l c hu .i64 (k : Int) (by omega) (by omega)]
  have hs : (sizeOf (Sagg.prog.elem 30)).run Sagg.prog w = .ok 1 w := by kernel_rfl
  rw [hs]
  have h1 : ¬ c = k := by omega
  simp only [Result.andThen_ok, sliced, Int.toNat_natCast, h1, if_false, Option.map_some, Nat.mul_one, WideShapes.add_plain]
theorem cut_row {zs : List Int} {o n k : Nat} (hk : k = min n (zs.length - o)) : (bcells ((zs.drop o).take k) ++ (rowOf (zeros n)).toList.drop k).toArray = rowOf (cutR zs o n) := by
  unfold rowOf bcells cutR
  congr 1
  apply List.ext_getElem?
  intro i
  by_cases hi : i < n
  · rw [List.map_map, List.getElem?_map, List.getElem?_range hi]
    by_cases hik : i < k
    · rw [List.getElem?_append_left (by simp; omega), List.getElem?_map, List.getElem?_take_of_lt hik, List.getElem?_drop, List.getElem?_eq_getElem (by omega)]
      simp [List.getD_eq_getElem?_getD, show o + i < zs.length by omega]
    · rw [List.getElem?_append_right (by simp; omega)]
      simp only [List.length_map, List.length_take, List.length_drop]
      rw [List.getElem?_drop, List.getElem?_map]
      have e : k + (i - min k (zs.length - o)) = i := by omega
      rw [e]
      unfold zeros
      rw [List.getElem?_replicate, if_pos hi]
      simp [List.getD_eq_getElem?_getD, show zs.length ≤ o + i by omega]
  · rw [List.getElem?_eq_none (by simp [zeros]; omega), List.getElem?_eq_none (by simp; omega)]
theorem copy_cut {g b off l c o n k : Nat} {zs : List Int} {w : World} (hkk : k = min n (l - o)) (hg : w.heap[g]? = some (.cells (rowOf (zeros n)) 5 (0, 0))) (hl : zs.length = l) (hcell : ∀ i, i < zs.length → w.cell? ⟨b, off + i, none⟩ = some (.int .u8 (zs.getD i 0))) :
    (do match ← builtin .copy #[30, 30] 3 #[false, false] #[.slice (some ⟨g, 0, none⟩) n n, .slice (some ⟨b, off + o, none⟩) (l - o) (c - o)] with
        | .value v => pure v
        | _ => stuck "no value" : Sem Value).run Sagg.prog w = .ok (.int .i64 (k : Int)) (w.setRow g (rowOf (cutR zs o n))) := by
  subst hkk
  have hk : ((zs.drop o).take (min n (l - o))).length = min n (l - o) := by simp; omega
  have key := run_copy_row (P := Sagg.prog) w 30 30 3 5 g 0 n n ⟨b, off + o, none⟩ (l - o) (c - o) (rowOf (zeros n)) 5 (bcells ((zs.drop o).take (min n (l - o)))) Sagg.underlying30 isz5 hg (by rw [bcells_length, hk]; exact Nat.min_comm _ _) (fun j v hv => by
      have hj : j < ((zs.drop o).take (min n (l - o))).length := by have := (List.getElem?_eq_some_iff.1 hv).1; rwa [bcells_length] at this
      rw [bcells_get _ _ hj] at hv
      cases hv
      rw [WideShapes.add_plain, Nat.add_assoc, hcell (o + j) (by omega)]
      rw [List.getD_eq_getElem?_getD, List.getD_eq_getElem?_getD, List.getElem?_take_of_lt (by omega), List.getElem?_drop]) (by rw [bcells_length, hk, rowOf_size, zeros_length]; omega) (fun v hv => by
      obtain ⟨k, _, rfl⟩ := List.mem_map.1 hv
      rfl)
  have e : ((rowOf (zeros n)).toList.take 0 ++ bcells ((zs.drop o).take (min n (l - o))) ++ (rowOf (zeros n)).toList.drop (0 + (bcells ((zs.drop o).take (min n (l - o)))).length)).toArray = rowOf (cutR zs o n) := by
    rw [bcells_length, hk, List.take_zero, List.nil_append, Nat.zero_add]
    exact cut_row (by rw [hl])
  rw [e, bcells_length, hk] at key
  have hb : (builtin .copy #[30, 30] 3 #[false, false] #[.slice (some ⟨g, 0, none⟩) n n, .slice (some ⟨b, off + o, none⟩) (l - o) (c - o)]) = (do pure (.value (← Builtin.copy_ #[30, 30] 3 #[.slice (some ⟨g, 0, none⟩) n n, .slice (some ⟨b, off + o, none⟩) (l - o) (c - o)]))) := rfl
  simp [hb, key, goInt]
theorem cut_none {zs : List Int} {o n : Nat} (h : zs.length ≤ o) : zeros n = cutR zs o n := by
  unfold zeros cutR
  symm
  rw [List.eq_replicate_iff]
  refine ⟨by simp, fun b hb => ?_⟩
  obtain ⟨i, _, rfl⟩ := List.mem_map.1 hb
  simp [List.getD_eq_getElem?_getD, show zs.length ≤ o + i by omega]
theorem nmN_later {w W : World} {v : Value} {m : Int} (h : EX.nmN w v m) (hb : Below w.heap.size w W) : EX.nmN W v m :=
  ⟨EX.isN_keep h.1 fun a l c e hl => hb.block a.block (by
    have := h.1
    rw [e] at this
    exact EX.isN_block this), h.2⟩
theorem place_call {Γ : Type} {γ1 γ2 : Γ} {v : Value} {o l : Nat} {w : World} (h : EX.nmN w v (o : Int)) (hl : l < 9223372036854775808) :
    CallOK Sagg.prog 126 #[v, .int .i64 (l : Int)] w fun C : Γ → Value → World → Prop => ∀ W, Below w.heap.size w W → (o < l → C γ1 (.tuple #[.int .i64 (o : Int), .bool true]) W) ∧ (l ≤ o → C γ2 (.tuple #[.int .i64 0, .bool false]) W) := by
  by_cases hlt : o < l
  · exact callOK_of (place_lt v o w h l hl (by omega)) (fun C hC W hb => ⟨_, (hC W hb).1 hlt⟩)
  · exact callOK_of (place_ge v o w h l hl (by omega)) (fun C hC W hb => ⟨_, (hC W hb).2 (by omega)⟩)

set_option maxRecDepth 100000 in
set_option maxHeartbeats 8000000 in
theorem cut_core (b off l c o n k : Nat) (zs : List Int) (ov nv : Value) (w : World) (hk : k = min n (l - o)) (hl : zs.length = l) (hlc : l ≤ c) (hl63 : l < 9223372036854775808) (hn1 : n ≤ 281474976710000) (ho : EX.nmN w ov (o : Int)) (hn : EX.nmN w nv (n : Int)) (hr : ∀ i, i < zs.length → w.cell? ⟨b, off + i, none⟩ = some (.int .u8 (zs.getD i 0))) : Calls Sagg.prog 136 #[.slice (some ⟨b, off, none⟩) l c, ov, nv] w (post136 zs o n w) := by
  refine CX_calls (tips136 b off l c o n k zs) {} (by kernel_rfl) Sagg.func136 rfl _ rfl (by kernel_rfl) ?_
  refine of_eq (p := (CallOK Sagg.prog 48 { toList := [nv] } w fun (C : G136 → Value → World → Prop) => ∀ (W : World), Below w.heap.size w W → C { gd := W.heap.size } (Value.int IntKind.u64 ↑n) W) ∧
  ∀ (W : World),
    Below w.heap.size w W →
      Sem.run Sagg.prog (Instr.makeSlice 30 (Value.int IntKind.u64 ↑n) (Value.int IntKind.u64 ↑n)) W = Result.ok (Value.slice (some { block := W.heap.size, off := 0 }) n n) (W.alloc (Obj.cells { toList := List.map (Value.int IntKind.u8) (zeros n) } 5)) ∧
        (CallOK Sagg.prog 126 { toList := [ov, Value.int IntKind.i64 ↑l] } (W.alloc (Obj.cells { toList := List.map (Value.int IntKind.u8) (zeros n) } 5)) fun (C : G136 → Value → World → Prop) => ∀ (W_1 : World), Below (W.heap.push (Obj.cells (rowOf (zeros n)) 5)).size (W.alloc (Obj.cells (rowOf (zeros n)) 5)) W_1 → (o < l → C { gd := W.heap.size, ok := true } (Value.tuple #[Value.int IntKind.i64 ↑o, Value.bool true]) W_1) ∧ (l ≤ o → C { gd := W.heap.size } (Value.tuple #[Value.int IntKind.i64 0, Value.bool false]) W_1)) ∧
          ∀ (W_1 : World),
            Below (W.heap.push (Obj.cells (rowOf (zeros n)) 5)).size (W.alloc (Obj.cells (rowOf (zeros n)) 5)) W_1 →
              (o < l →
                  Sem.run Sagg.prog (Instr.sliceAt 30 (Value.slice (some { block := b, off := off }) l c) (some (Value.int IntKind.i64 ↑o)) none none) W_1 = Result.ok (Value.slice (some { block := b, off := off + o }) (l - o) (c - o)) W_1 ∧
                    Sem.run Sagg.prog
                          (do
                            let __do_lift ← builtin Builtin.copy { toList := [30, 30] } 3 { toList := [false, false] } { toList := [(Value.slice (some { block := W.heap.size, off := 0 }) n n), (Value.slice (some { block := b, off := off + o }) (l - o) (c - o))] }
                            match __do_lift with
                              | Next.value v => pure v
                              | x => stuck "no value")
                          W_1 =
                        Result.ok (Value.int IntKind.i64 ↑k) (W_1.setRow W.heap.size { toList := List.map (Value.int IntKind.u8) (cutR zs o n) }) ∧
                      (post136 zs o n w) (Ending.returned (Value.slice (some { block := W.heap.size, off := 0 }) n n)) (W_1.setRow W.heap.size { toList := List.map (Value.int IntKind.u8) (cutR zs o n) })) ∧
                (l ≤ o → (post136 zs o n w) (Ending.returned (Value.slice (some { block := W.heap.size, off := 0 }) n n)) W_1)) (by kernel_rfl) ?_
  exact ⟨(callOK_of (small_calls nv n w hn (by omega)) (fun C hC W hb => ⟨_, hC W hb⟩)), (fun W1 => (fun h2 => ⟨(make_u Sagg.underlying30 hn1), (place_call (nmN_later ho (((show Below w.heap.size w W1 by assumption).alloc (show Below w.heap.size w W1 by assumption).size _))) hl63), (fun W5 => (fun h6 => ⟨(fun h7 => ⟨(slice_from (by assumption) hlc), (copy_cut hk (((show Below _ _ W5 by assumption).block W1.heap.size (by simp)).trans alloc_row) hl (fun i hi => kept_cell (((show Below w.heap.size w W1 by assumption).alloc (show Below w.heap.size w W1 by assumption).size _).trans ((show Below _ _ W5 by assumption).mono (Nat.le_trans (show Below w.heap.size w W1 by assumption).size (by simp)))) (hr i hi))), ⟨_, (show Below w.heap.size w W1 by assumption).size, rfl, setRow_heap _ _ _ _ _ _ (((show Below _ _ W5 by assumption).block W1.heap.size (by simp)).trans alloc_row), kept_row (((show Below w.heap.size w W1 by assumption).alloc (show Below w.heap.size w W1 by assumption).size _).trans ((show Below _ _ W5 by assumption).mono (Nat.le_trans (show Below w.heap.size w W1 by assumption).size (by simp)))) (show Below w.heap.size w W1 by assumption).size _⟩⟩), (fun h11 => ⟨_, (show Below w.heap.size w W1 by assumption).size, rfl, by rw [← cut_none (by omega)]; exact (((show Below _ _ W5 by assumption).block W1.heap.size (by simp)).trans alloc_row), (((show Below w.heap.size w W1 by assumption).alloc (show Below w.heap.size w W1 by assumption).size _).trans ((show Below _ _ W5 by assumption).mono (Nat.le_trans (show Below w.heap.size w W1 by assumption).size (by simp))))⟩)⟩))⟩))⟩
end Go.Proofs.YgcsagGreat
