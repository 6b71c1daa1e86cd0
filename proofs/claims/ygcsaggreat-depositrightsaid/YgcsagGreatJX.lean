/-
  'words' AND 'grow' (rows of unknown length).
-/
import Derived.Test.YgcsagGreatJV
import Derived.Test.YgcsagGreatHch
namespace Go.Proofs.EX
open Go.RowKit Go.Proofs.YgcsagGreat
set_option linter.unusedVariables false
set_option linter.unusedSimpArgs false
set_option maxRecDepth 100000
set_option exponentiation.threshold 2000
noncomputable def numQ (j : Nat) (t : Int) : Value → St → Hs → Prop := fun v s _ => match nth s.N j with
  | some p => match p.1 with
    | .slice _ _ _ => v = p.1 ∧ p.2 = t
    | _ => False
  | none => False
def wordsH : List Nat := [nat_lit 0, nat_lit 0, nat_lit 0, nat_lit 0, nat_lit 2, nat_lit 1, nat_lit 1, nat_lit 0, nat_lit 0, nat_lit 0, nat_lit 0, nat_lit 2, nat_lit 1, nat_lit 1, nat_lit 1]
theorem words_run (x : Int) (aa : Option Addr) (al ac : Nat) : EF Sagg.prog natSpecs2 50 20 [] 116 #[.slice aa al ac] (numQ 1 ((x + 31) / 32)) ⟨[], [(.slice aa al ac, x)]⟩ wordsH
  = build [((x + 31) : Int) < big, (((x + 31) / 32) : Int) < big, (((x + 31) % 32) : Int) < big] (fun env => (envAt env 1).val = (envAt env 1).val ∧ (x + 31) / 32 = (x + 31) / 32) [.v, .lv (nat_lit 1), .lv (nat_lit 0), .lo (nat_lit 0), .v, .v, .lv (nat_lit 1), .lv (nat_lit 0), .lo (nat_lit 1), .v, .lo (nat_lit 2), .v] [.v aa al ac] := by kernel_rfl
theorem div_up {x : Int} (h : 0 ≤ x) : (x + 31) / 32 ≤ x + 31 := by omega
theorem mod_up {x : Int} (h : 0 ≤ x) : (x + 31) % 32 ≤ x + 31 := by omega
theorem words_ef (x : Int) (aa : Option Addr) (al ac : Nat) (h0 : 0 ≤ x) (hb : x + 31 < big) : EF Sagg.prog natSpecs2 50 20 [] 116 #[.slice aa al ac] (numQ 1 ((x + 31) / 32)) ⟨[], [(.slice aa al ac, x)]⟩ wordsH := by
  have h := words_run x aa al ac
  rw [h]
  refine build_all ?_ _ _ (by kernel_rfl) (allQ_of _ _ fun e => ⟨rfl, rfl⟩)
  exact ho_cons hb (ho_cons (Int.lt_of_le_of_lt (div_up h0) hb) (ho_cons (Int.lt_of_le_of_lt (mod_up h0) hb) ho_nil))
theorem words_calls (v : Value) (x : Int) (w : World) (h : nmN w v x) (h0 : 0 ≤ x) (hb : x + 31 < big) :
    Calls Sagg.prog 116 #[v] w fun e w' => ∃ v', e = .returned v' ∧ nmN w' v' ((x + 31) / 32) ∧ Below w.heap.size w w' := by
  obtain ⟨xs, a, ca, rfl, -⟩ := nmN_open h
  have hrun := words_ef x a xs.length ca h0 hb
  refine (closed (S := fun _ => False) natSpecs2_ok (fun b hb => hb.elim) hrun (fun p hp => ?_)).mono ?_
  · rcases List.mem_cons.1 hp with rfl | hp
    · exact num_nm h (fun _ _ _ _ hf => hf)
    · cases hp
  · rintro e w' ⟨v, s', H', rfl, hq, hi⟩
    unfold numQ at hq
    split at hq
    · rename_i p hp
      split at hq
      · rename_i a l c hp1
        obtain ⟨rfl, hp2⟩ := hq
        rw [nth_eq] at hp
        have := hi.now (List.mem_of_getElem? hp)
        rw [hp1, hp2] at this
        exact ⟨_, rfl, by rw [hp1]; exact this.1, hi.below⟩
      · exact hq.elim
    · exact hq.elim
end Go.Proofs.EX
namespace Go.Proofs.YgcsagGreat
open Go.RowKit
set_option linter.unusedVariables false
set_option linter.unusedSimpArgs false
structure G87 where
  gd : Nat := 0
  v : Value := undef
def tips87 (gF oF : Nat) (ma : Option Addr) (ml mc K : Nat) (q : Bool) (zs : List Int) : Tips G87 where
  ops := [(7, { tr := some fun g w C => ∀ W v, Below w.heap.size w W → EX.nmN W v (K : Int) → C { g with v := v } v W }),
    (8, { tr := some fun g w C => ∀ W, Below w.heap.size w W → C { g with gd := W.heap.size } (.int .u64 (K : Int)) W }),
    (13, { val := some fun _ => .slice ma ml mc }), (15, { val := some fun _ => .int .i64 (ml / 32 : Nat) }), (16, { val := some fun _ => .int .u64 (ml / 32 : Nat) }), (17, { val := some fun _ => .bool q }),
    (19, { val := some fun _ => .int .u64 (32 * K : Nat) }), (20, { val := some fun g => .slice (some ⟨g.gd, 0, none⟩) (32 * K) (32 * K), wld := some fun _ w => w.alloc (.cells (rowOf (zeros (32 * K))) 5) }),
    (25, { val := some fun _ => .slice ma ml mc }), (26, { val := some fun _ => .int .i64 (ml : Int), wld := some fun g w => w.setRow g.gd (rowOf (cutR zs 0 (32 * K))) }),
    (1004004, { val := some fun _ => undef, wld := some fun g w => w.setCells gF (oF + 9) [.slice (some ⟨g.gd, 0, none⟩) (32 * K) (32 * K)] })]
theorem words_call {Γ : Type} {γ : Value → Γ} {tv : Value} {x : Int} {K : Nat} {w : World} (h : EX.nmN w tv x) (h0 : 0 ≤ x) (hb : x + 31 < EX.big) (hK : (K : Int) = (x + 31) / 32) :
    CallOK Sagg.prog 116 #[tv] w fun C : Γ → Value → World → Prop => ∀ (W : World) (v : Value), Below w.heap.size w W → EX.nmN W v (K : Int) → C (γ v) v W := by
  intro C hC
  refine (EX.words_calls tv x w h h0 hb).mono ?_
  rintro e w' ⟨v, rfl, hv, hbl⟩
  exact ⟨_, v, rfl, hC w' v hbl (by rw [hK]; exact hv)⟩
section
variable {t : TypeId} {w : World}
theorem quo_n {a b c : Nat} (h : a / b = c) (hb : 0 < b) (ha : a ≤ 9223372036854775807) : (binOp .quo t (.int .i64 (a : Int)) (.int .i64 (b : Int))).run Sagg.prog w = .ok (.int .i64 (c : Int)) w := by
  have hb1 : b ≠ 0 := by omega
  have e : ((a : Int).tdiv (b : Int)) = (c : Int) := by rw [← h]; exact (Int.ofNat_tdiv a b).symm
  have hc : c ≤ a := by rw [← h]; exact Nat.div_le_self _ _
  simp [binOp, Op.intArith, Op.intDiv, hb1, e, wrap64 (a := (c : Int)) (by omega) (by omega)]
theorem wrap_u {a : Int} (h0 : 0 ≤ a) (h : a < 18446744073709551616) : IntKind.u64.wrap a = a := by
  simp [IntKind.wrap, IntKind.bits, IntKind.signed]; omega
theorem copy_nil {g n c : Nat} (hg : w.heap[g]? = some (.cells (rowOf (zeros n)) 5 (0, 0))) :
    (do match ← builtin .copy #[30, 30] 3 #[false, false] #[.slice (some ⟨g, 0, none⟩) n n, .slice none 0 c] with
        | .value v => pure v
        | _ => stuck "no value" : Sem Value).run Sagg.prog w = .ok (.int .i64 ((0 : Nat) : Int)) (w.setRow g (rowOf (cutR [] 0 n))) := by
  have key := run_copy_none (P := Sagg.prog) w 30 30 3 5 (some ⟨g, 0, none⟩) none n n 0 c Sagg.underlying30 isz5 (by simp)
  have hb : (builtin .copy #[30, 30] 3 #[false, false] #[.slice (some ⟨g, 0, none⟩) n n, .slice none 0 c]) = (do pure (.value (← Builtin.copy_ #[30, 30] 3 #[.slice (some ⟨g, 0, none⟩) n n, .slice none 0 c]))) := rfl
  rw [← cut_none (zs := []) (o := 0) (by simp), setRow_self w g (rowOf (zeros n)) 5 (0, 0) hg]
  simp [hb, key, goInt]
theorem size30' (w : World) : (sizeOf 30).run Sagg.prog w = .ok 1 w := by kernel_rfl
theorem store_slice {g i : Nat} {cs : Array Value} {tt : TypeId} {a : Option Addr} {l c : Nat} (h : w.heap[g]? = some (.cells cs tt (0, 0))) (hi : i < cs.size) :
    (do storeVar 30 ⟨g, i, none⟩ (.slice a l c); pure undef : Sem Value).run Sagg.prog w = .ok undef (w.setCells g i [.slice a l c]) := by
  have h1 := run_storeCells_cells (P := Sagg.prog) g i [.slice a l c] 0 w (fun j hj => by
      simp at hj
      subst hj
      unfold World.cell?
      rw [h]
      simp [hi]) (fun j hj => by
      simp at hj
      subst hj
      unfold World.frozen?
      rw [h]
      simp) (by simp [Value.oneCell'])
  have h2 : (storeVar 30 ⟨g, i, none⟩ (.slice a l c)).run Sagg.prog w = .ok () (w.setCells g i [.slice a l c]) := by
    simp [storeVar, size30' w, Value.cells]
    exact h1
  simp [h2]
end
def post87 (gF oF K : Nat) (zs : List Int) (w : World) : Ending → World → Prop := fun e w' => ∃ g W, w.heap.size ≤ g ∧ Below w.heap.size w W ∧ W.heap[g]? = some (.cells (rowOf (cutR zs 0 (32 * K))) 5 (0, 0)) ∧ e = .returned (.tuple #[]) ∧ w' = W.setCells gF (oF + 9) [.slice (some ⟨g, 0, none⟩) (32 * K) (32 * K)]

set_option maxRecDepth 100000 in
set_option maxHeartbeats 8000000 in
theorem grow_nil (gF oF K : Nat) (x : Int) (csF : Array Value) (tF : TypeId) (tv : Value) (w : World) (hB : w.heap[gF]? = some (.cells csF tF (0, 0))) (hi : oF + 9 < csF.size) (hx : EX.nmN w tv x) (h0 : 0 ≤ x) (hxb : x + 31 < EX.big) (hK : (K : Int) = (x + 31) / 32) (hKb : K ≤ 1000000) (hgt : 0 / 32 < K) (hF : w.cell? ⟨gF, oF + 9, none⟩ = some (.slice none 0 0))  : Calls Sagg.prog 87 #[.pointer (some ⟨gF, oF, none⟩), tv] w (post87 gF oF K [] w) := by
  refine CX_calls (tips87 gF oF none 0 0 K true []) {} (by kernel_rfl) Sagg.func87 rfl _ rfl (by kernel_rfl) ?_
  refine of_eq (p := (CallOK Sagg.prog 116 { toList := [tv] } w fun (C : G87 → Value → World → Prop) => ∀ (W : World) (v : Value), Below w.heap.size w W → EX.nmN W v ↑K → C { v := v } v W) ∧
  ∀ (W : World) (v : Value),
    Below w.heap.size w W →
      EX.nmN W v ↑K →
        (CallOK Sagg.prog 48 { toList := [v] } W fun (C : G87 → Value → World → Prop) => ∀ (W_1 : World), Below W.heap.size W W_1 → C { gd := W_1.heap.size, v := v } (Value.int IntKind.u64 ↑K) W_1) ∧
          ∀ (W_1 : World),
            Below W.heap.size W W_1 →
              Sem.run Sagg.prog (loadVar 30 { block := gF, off := oF + 9 }) W_1 = Result.ok (Value.slice none 0 0) W_1 ∧
                Sem.run Sagg.prog (binOp BinOp.quo 3 (Value.int IntKind.i64 ↑0) (Value.int IntKind.i64 32)) W_1 = Result.ok (Value.int IntKind.i64 ↑0) W_1 ∧
                  Sem.run Sagg.prog (convert 3 27 (Value.int IntKind.i64 ↑0)) W_1 = Result.ok (Value.int IntKind.u64 ↑0) W_1 ∧
                    Sem.run Sagg.prog (binOp BinOp.gtr 27 (Value.int IntKind.u64 ↑K) (Value.int IntKind.u64 ↑0)) W_1 = Result.ok (Value.bool true) W_1 ∧
                      Sem.run Sagg.prog (binOp BinOp.mul 27 (Value.int IntKind.u64 32) (Value.int IntKind.u64 ↑K)) W_1 = Result.ok (Value.int IntKind.u64 ↑(32 * K)) W_1 ∧
                        Sem.run Sagg.prog (Instr.makeSlice 30 (Value.int IntKind.u64 ↑(32 * K)) (Value.int IntKind.u64 ↑(32 * K))) W_1 = Result.ok (Value.slice (some { block := W_1.heap.size, off := 0 }) (32 * K) (32 * K)) (W_1.alloc (Obj.cells { toList := List.map (Value.int IntKind.u8) (zeros (32 * K)) } 5)) ∧
                          Sem.run Sagg.prog (loadVar 30 { block := gF, off := oF + 9 }) (W_1.alloc (Obj.cells { toList := List.map (Value.int IntKind.u8) (zeros (32 * K)) } 5)) = Result.ok (Value.slice none 0 0) (W_1.alloc (Obj.cells { toList := List.map (Value.int IntKind.u8) (zeros (32 * K)) } 5)) ∧
                            Sem.run Sagg.prog
                                  (do
                                    let __do_lift ← builtin Builtin.copy { toList := [30, 30] } 3 { toList := [false, false] } { toList := [(Value.slice (some { block := W_1.heap.size, off := 0 }) (32 * K) (32 * K)), (Value.slice none 0 0)] }
                                    match __do_lift with
                                      | Next.value v => pure v
                                      | x => stuck "no value")
                                  (W_1.alloc (Obj.cells { toList := List.map (Value.int IntKind.u8) (zeros (32 * K)) } 5)) =
                                Result.ok (Value.int IntKind.i64 ↑0) ((W_1.alloc (Obj.cells { toList := List.map (Value.int IntKind.u8) (zeros (32 * K)) } 5)).setRow W_1.heap.size { toList := List.map (Value.int IntKind.u8) (cutR [] 0 (32 * K)) }) ∧
                              Sem.run Sagg.prog
                                    (do
                                      storeVar 30 { block := gF, off := oF + 9 } (Value.slice (some { block := W_1.heap.size, off := 0 }) (32 * K) (32 * K))
                                      pure undef)
                                    ((W_1.alloc (Obj.cells { toList := List.map (Value.int IntKind.u8) (zeros (32 * K)) } 5)).setRow W_1.heap.size { toList := List.map (Value.int IntKind.u8) (cutR [] 0 (32 * K)) }) =
                                  Result.ok (Value.tuple { toList := [] }) (((W_1.alloc (Obj.cells { toList := List.map (Value.int IntKind.u8) (zeros (32 * K)) } 5)).setRow W_1.heap.size { toList := List.map (Value.int IntKind.u8) (cutR [] 0 (32 * K)) }).setCells gF (oF + 9) [Value.slice (some { block := W_1.heap.size, off := 0 }) (32 * K) (32 * K)]) ∧
                                (post87 gF oF K [] w) (Ending.returned (Value.tuple { toList := [] })) (((W_1.alloc (Obj.cells { toList := List.map (Value.int IntKind.u8) (zeros (32 * K)) } 5)).setRow W_1.heap.size { toList := List.map (Value.int IntKind.u8) (cutR [] 0 (32 * K)) }).setCells gF (oF + 9) [Value.slice (some { block := W_1.heap.size, off := 0 }) (32 * K) (32 * K)])) (by kernel_rfl) ?_
  exact ⟨(words_call hx h0 hxb hK), (fun W1 => (fun v2 => (fun h3 => (fun h4 => ⟨(callOK_of (small_calls _ _ _ (by assumption) (by omega)) (fun C hC W hb => ⟨_, hC W hb⟩)), (fun W6 => (fun h7 => ⟨(load_one agg30' (kept_cell ((show Below w.heap.size w W1 by assumption).trans ((show Below W1.heap.size W1 W6 by assumption).mono (show Below w.heap.size w W1 by assumption).size)) hF)), (quo_n rfl (by decide) (by first | omega | simp)), (conv_i Sagg.underlying3 Sagg.underlying27 (wrap_u (by first | omega | simp) (by first | omega | simp))), (gtr_t (by first | omega | (simp; omega))), (mul_i (by rw [wrap_u (by omega) (by omega)]; omega)), (make_u Sagg.underlying30 (by omega)), (load_one agg30' (kept_cell (((show Below w.heap.size w W1 by assumption).trans ((show Below W1.heap.size W1 W6 by assumption).mono (show Below w.heap.size w W1 by assumption).size)).alloc ((show Below w.heap.size w W1 by assumption).trans ((show Below W1.heap.size W1 W6 by assumption).mono (show Below w.heap.size w W1 by assumption).size)).size _) hF)), (copy_nil alloc_row), (store_slice ((setRow_other _ _ _ _ (by have h1 := (Array.getElem?_eq_some_iff.1 hB).1; have h2 := ((show Below w.heap.size w W1 by assumption).trans ((show Below W1.heap.size W1 W6 by assumption).mono (show Below w.heap.size w W1 by assumption).size)).size; omega)).trans (((((show Below w.heap.size w W1 by assumption).trans ((show Below W1.heap.size W1 W6 by assumption).mono (show Below w.heap.size w W1 by assumption).size)).alloc ((show Below w.heap.size w W1 by assumption).trans ((show Below W1.heap.size W1 W6 by assumption).mono (show Below w.heap.size w W1 by assumption).size)).size _).block gF (by exact (Array.getElem?_eq_some_iff.1 hB).1)).trans hB)) hi), ⟨_, _, ((show Below w.heap.size w W1 by assumption).trans ((show Below W1.heap.size W1 W6 by assumption).mono (show Below w.heap.size w W1 by assumption).size)).size, kept_row (((show Below w.heap.size w W1 by assumption).trans ((show Below W1.heap.size W1 W6 by assumption).mono (show Below w.heap.size w W1 by assumption).size)).alloc ((show Below w.heap.size w W1 by assumption).trans ((show Below W1.heap.size W1 W6 by assumption).mono (show Below w.heap.size w W1 by assumption).size)).size _) ((show Below w.heap.size w W1 by assumption).trans ((show Below W1.heap.size W1 W6 by assumption).mono (show Below w.heap.size w W1 by assumption).size)).size _, setRow_heap _ _ _ _ _ _ alloc_row, rfl, rfl⟩⟩))⟩))))⟩

set_option maxRecDepth 100000 in
set_option maxHeartbeats 8000000 in
theorem grow_some (gF oF gM m K : Nat) (x : Int) (csF : Array Value) (tF : TypeId) (tv : Value) (w : World) (zs : List Int) (hB : w.heap[gF]? = some (.cells csF tF (0, 0))) (hi : oF + 9 < csF.size) (hx : EX.nmN w tv x) (h0 : 0 ≤ x) (hxb : x + 31 < EX.big) (hK : (K : Int) = (x + 31) / 32) (hKb : K ≤ 1000000) (hgt : m / 32 < K) (hF : w.cell? ⟨gF, oF + 9, none⟩ = some (.slice (some ⟨gM, 0, none⟩) m m)) (hz : zs.length = m) (hm : m ≤ 1000000) (hmK : m ≤ 32 * K) (hr : ∀ i, i < zs.length → w.cell? ⟨gM, 0 + i, none⟩ = some (.int .u8 (zs.getD i 0))) : Calls Sagg.prog 87 #[.pointer (some ⟨gF, oF, none⟩), tv] w (post87 gF oF K zs w) := by
  refine CX_calls (tips87 gF oF (some ⟨gM, 0, none⟩) m m K true zs) {} (by kernel_rfl) Sagg.func87 rfl _ rfl (by kernel_rfl) ?_
  refine of_eq (p := (CallOK Sagg.prog 116 { toList := [tv] } w fun (C : G87 → Value → World → Prop) => ∀ (W : World) (v : Value), Below w.heap.size w W → EX.nmN W v ↑K → C { v := v } v W) ∧
  ∀ (W : World) (v : Value),
    Below w.heap.size w W →
      EX.nmN W v ↑K →
        (CallOK Sagg.prog 48 { toList := [v] } W fun (C : G87 → Value → World → Prop) => ∀ (W_1 : World), Below W.heap.size W W_1 → C { gd := W_1.heap.size, v := v } (Value.int IntKind.u64 ↑K) W_1) ∧
          ∀ (W_1 : World),
            Below W.heap.size W W_1 →
              Sem.run Sagg.prog (loadVar 30 { block := gF, off := oF + 9 }) W_1 = Result.ok (Value.slice (some { block := gM, off := 0 }) m m) W_1 ∧
                Sem.run Sagg.prog (binOp BinOp.quo 3 (Value.int IntKind.i64 ↑m) (Value.int IntKind.i64 32)) W_1 = Result.ok (Value.int IntKind.i64 ↑(m / 32)) W_1 ∧
                  Sem.run Sagg.prog (convert 3 27 (Value.int IntKind.i64 ↑(m / 32))) W_1 = Result.ok (Value.int IntKind.u64 ↑(m / 32)) W_1 ∧
                    Sem.run Sagg.prog (binOp BinOp.gtr 27 (Value.int IntKind.u64 ↑K) (Value.int IntKind.u64 ↑(m / 32))) W_1 = Result.ok (Value.bool true) W_1 ∧
                      Sem.run Sagg.prog (binOp BinOp.mul 27 (Value.int IntKind.u64 32) (Value.int IntKind.u64 ↑K)) W_1 = Result.ok (Value.int IntKind.u64 ↑(32 * K)) W_1 ∧
                        Sem.run Sagg.prog (Instr.makeSlice 30 (Value.int IntKind.u64 ↑(32 * K)) (Value.int IntKind.u64 ↑(32 * K))) W_1 = Result.ok (Value.slice (some { block := W_1.heap.size, off := 0 }) (32 * K) (32 * K)) (W_1.alloc (Obj.cells { toList := List.map (Value.int IntKind.u8) (zeros (32 * K)) } 5)) ∧
                          Sem.run Sagg.prog (loadVar 30 { block := gF, off := oF + 9 }) (W_1.alloc (Obj.cells { toList := List.map (Value.int IntKind.u8) (zeros (32 * K)) } 5)) = Result.ok (Value.slice (some { block := gM, off := 0 }) m m) (W_1.alloc (Obj.cells { toList := List.map (Value.int IntKind.u8) (zeros (32 * K)) } 5)) ∧
                            Sem.run Sagg.prog
                                  (do
                                    let __do_lift ← builtin Builtin.copy { toList := [30, 30] } 3 { toList := [false, false] } { toList := [(Value.slice (some { block := W_1.heap.size, off := 0 }) (32 * K) (32 * K)), (Value.slice (some { block := gM, off := 0 }) m m)] }
                                    match __do_lift with
                                      | Next.value v => pure v
                                      | x => stuck "no value")
                                  (W_1.alloc (Obj.cells { toList := List.map (Value.int IntKind.u8) (zeros (32 * K)) } 5)) =
                                Result.ok (Value.int IntKind.i64 ↑m) ((W_1.alloc (Obj.cells { toList := List.map (Value.int IntKind.u8) (zeros (32 * K)) } 5)).setRow W_1.heap.size { toList := List.map (Value.int IntKind.u8) (cutR zs 0 (32 * K)) }) ∧
                              Sem.run Sagg.prog
                                    (do
                                      storeVar 30 { block := gF, off := oF + 9 } (Value.slice (some { block := W_1.heap.size, off := 0 }) (32 * K) (32 * K))
                                      pure undef)
                                    ((W_1.alloc (Obj.cells { toList := List.map (Value.int IntKind.u8) (zeros (32 * K)) } 5)).setRow W_1.heap.size { toList := List.map (Value.int IntKind.u8) (cutR zs 0 (32 * K)) }) =
                                  Result.ok (Value.tuple { toList := [] }) (((W_1.alloc (Obj.cells { toList := List.map (Value.int IntKind.u8) (zeros (32 * K)) } 5)).setRow W_1.heap.size { toList := List.map (Value.int IntKind.u8) (cutR zs 0 (32 * K)) }).setCells gF (oF + 9) [Value.slice (some { block := W_1.heap.size, off := 0 }) (32 * K) (32 * K)]) ∧
                                (post87 gF oF K zs w) (Ending.returned (Value.tuple { toList := [] })) (((W_1.alloc (Obj.cells { toList := List.map (Value.int IntKind.u8) (zeros (32 * K)) } 5)).setRow W_1.heap.size { toList := List.map (Value.int IntKind.u8) (cutR zs 0 (32 * K)) }).setCells gF (oF + 9) [Value.slice (some { block := W_1.heap.size, off := 0 }) (32 * K) (32 * K)])) (by kernel_rfl) ?_
  exact ⟨(words_call hx h0 hxb hK), (fun W1 => (fun v2 => (fun h3 => (fun h4 => ⟨(callOK_of (small_calls _ _ _ (by assumption) (by omega)) (fun C hC W hb => ⟨_, hC W hb⟩)), (fun W6 => (fun h7 => ⟨(load_one agg30' (kept_cell ((show Below w.heap.size w W1 by assumption).trans ((show Below W1.heap.size W1 W6 by assumption).mono (show Below w.heap.size w W1 by assumption).size)) hF)), (quo_n rfl (by decide) (by first | omega | simp)), (conv_i Sagg.underlying3 Sagg.underlying27 (wrap_u (by first | omega | simp) (by first | omega | simp))), (gtr_t (by first | omega | (simp; omega))), (mul_i (by rw [wrap_u (by omega) (by omega)]; omega)), (make_u Sagg.underlying30 (by omega)), (load_one agg30' (kept_cell (((show Below w.heap.size w W1 by assumption).trans ((show Below W1.heap.size W1 W6 by assumption).mono (show Below w.heap.size w W1 by assumption).size)).alloc ((show Below w.heap.size w W1 by assumption).trans ((show Below W1.heap.size W1 W6 by assumption).mono (show Below w.heap.size w W1 by assumption).size)).size _) hF)), (copy_all hmK alloc_row hz (fun i hi => kept_cell (((show Below w.heap.size w W1 by assumption).trans ((show Below W1.heap.size W1 W6 by assumption).mono (show Below w.heap.size w W1 by assumption).size)).alloc ((show Below w.heap.size w W1 by assumption).trans ((show Below W1.heap.size W1 W6 by assumption).mono (show Below w.heap.size w W1 by assumption).size)).size _) (hr i hi))), (store_slice ((setRow_other _ _ _ _ (by have h1 := (Array.getElem?_eq_some_iff.1 hB).1; have h2 := ((show Below w.heap.size w W1 by assumption).trans ((show Below W1.heap.size W1 W6 by assumption).mono (show Below w.heap.size w W1 by assumption).size)).size; omega)).trans (((((show Below w.heap.size w W1 by assumption).trans ((show Below W1.heap.size W1 W6 by assumption).mono (show Below w.heap.size w W1 by assumption).size)).alloc ((show Below w.heap.size w W1 by assumption).trans ((show Below W1.heap.size W1 W6 by assumption).mono (show Below w.heap.size w W1 by assumption).size)).size _).block gF (by exact (Array.getElem?_eq_some_iff.1 hB).1)).trans hB)) hi), ⟨_, _, ((show Below w.heap.size w W1 by assumption).trans ((show Below W1.heap.size W1 W6 by assumption).mono (show Below w.heap.size w W1 by assumption).size)).size, kept_row (((show Below w.heap.size w W1 by assumption).trans ((show Below W1.heap.size W1 W6 by assumption).mono (show Below w.heap.size w W1 by assumption).size)).alloc ((show Below w.heap.size w W1 by assumption).trans ((show Below W1.heap.size W1 W6 by assumption).mono (show Below w.heap.size w W1 by assumption).size)).size _) ((show Below w.heap.size w W1 by assumption).trans ((show Below W1.heap.size W1 W6 by assumption).mono (show Below w.heap.size w W1 by assumption).size)).size _, setRow_heap _ _ _ _ _ _ alloc_row, rfl, rfl⟩⟩))⟩))))⟩
end Go.Proofs.YgcsagGreat
