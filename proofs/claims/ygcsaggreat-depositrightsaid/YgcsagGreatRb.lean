/-
  'kmodel': the register's turn.
-/
import Derived.Test.YgcsagGreatRa
namespace Go.Proofs.YgcsagGreat
open Go.RowKit
set_option linter.unusedVariables false
set_option linter.unusedSimpArgs false
def turnKN (j c : Nat) : Nat := setKN c (0 + (7 - j) * 1) (tKN c (0 + ((7 - j) - 1) * 1))
def t1KN (N : Nat) : Nat := setKN (iterKN turnKN N 7) (0 + 0 * 1) (tKN N (0 + 7 * 1))
def t2KN (N : Nat) : Nat := setKN (t1KN N) (0 + 4 * 1) (xKN (tKN (t1KN N) (0 + 4 * 1)) (tKN N (0 + 7 * 1)))
def t3KN (N : Nat) : Nat := setKN (t2KN N) (0 + 5 * 1) (xKN (tKN (t2KN N) (0 + 5 * 1)) (tKN N (0 + 7 * 1)))
def t4KN (N : Nat) : Nat := setKN (t3KN N) (0 + 6 * 1) (xKN (tKN (t3KN N) (0 + 6 * 1)) (tKN N (0 + 7 * 1)))
def tips200 (tt : TypeId) (gA N : Nat) (D : List Nat) (w : World) : Tips GQ where
  ops := [(6, { val := some fun g => .pointer (some ⟨gA, 0 + 7 * 1, none⟩) }),
    (7, { val := some fun g => .bool (tKN (N) (0 + 7 * 1)) }),
    (9, { val := some fun g => .bool (g.q) }),
    (16, { val := some fun g => .int .i64 (((7 - g.x) - 1 : Nat) : Int) }),
    (18, { val := some fun g => .pointer (some ⟨gA, 0 + ((7 - g.x) - 1) * 1, none⟩) }),
    (19, { val := some fun g => .bool (tKN (iterKN (turnKN) (N) g.x) (0 + ((7 - g.x) - 1) * 1)) }),
    (21, { val := some fun g => .pointer (some ⟨gA, 0 + (7 - g.x) * 1, none⟩) }),
    (1004010, { val := some fun _ => undef, wld := some fun g wd => wd.setRow gA (rowKN 8 (setKN (iterKN (turnKN) (N) g.x) (0 + (7 - g.x) * 1) (tKN (iterKN (turnKN) (N) g.x) (0 + ((7 - g.x) - 1) * 1)))) }),
    (11, { val := some fun g => .int .i64 (((7 - g.x) - 1 : Nat) : Int) }),
    (25, { val := some fun g => .pointer (some ⟨gA, 0 + 0 * 1, none⟩) }),
    (1005004, { val := some fun _ => undef, wld := some fun g wd => wd.setRow gA (rowKN 8 (t1KN N)) }),
    (29, { val := some fun g => .pointer (some ⟨gA, 0 + 4 * 1, none⟩) }),
    (30, { val := some fun g => .bool (tKN (t1KN N) (0 + 4 * 1)) }),
    (32, { val := some fun g => .bool (xKN (tKN (t1KN N) (0 + 4 * 1)) (tKN (N) (0 + 7 * 1))) }),
    (34, { val := some fun g => .pointer (some ⟨gA, 0 + 4 * 1, none⟩) }),
    (1006009, { val := some fun _ => undef, wld := some fun g wd => wd.setRow gA (rowKN 8 (t2KN N)) }),
    (38, { val := some fun g => .pointer (some ⟨gA, 0 + 5 * 1, none⟩) }),
    (39, { val := some fun g => .bool (tKN (t2KN N) (0 + 5 * 1)) }),
    (41, { val := some fun g => .bool (xKN (tKN (t2KN N) (0 + 5 * 1)) (tKN (N) (0 + 7 * 1))) }),
    (43, { val := some fun g => .pointer (some ⟨gA, 0 + 5 * 1, none⟩) }),
    (1007009, { val := some fun _ => undef, wld := some fun g wd => wd.setRow gA (rowKN 8 (t3KN N)) }),
    (47, { val := some fun g => .pointer (some ⟨gA, 0 + 6 * 1, none⟩) }),
    (48, { val := some fun g => .bool (tKN (t3KN N) (0 + 6 * 1)) }),
    (50, { val := some fun g => .bool (xKN (tKN (t3KN N) (0 + 6 * 1)) (tKN (N) (0 + 7 * 1))) }),
    (52, { val := some fun g => .pointer (some ⟨gA, 0 + 6 * 1, none⟩) }),
    (1008009, { val := some fun _ => undef, wld := some fun g wd => wd.setRow gA (rowKN 8 (t4KN N)) })]
  loops := [(2, cntF 3 7 .i64 (fun γ x => 7 - x) (fun γ x W => KS w D [(gA, rowKN 8 (iterKN (turnKN) (N) x), tt)] W) (fun γ x W => { γ with x := x, q := true }) (fun γ W => { γ with q := false }) (fun v => v))]
def post200 (tt : TypeId) (gA N : Nat) (D : List Nat) (w : World) : Ending → World → Prop := fun e W => e = .returned (.tuple #[]) ∧ KS w D [(gA, rowKN 8 (t4KN N), tt)] W
attribute [local irreducible] iterKN setKN xKN tKN rowKN

set_option maxRecDepth 100000 in
set_option maxHeartbeats 8000000 in
theorem turn_core (tt : TypeId) (gA N : Nat) (D : List Nat) (w : World) (hK : KS w D [(gA, rowKN 8 N, tt)] w) (hD : gA ∈ D) : Calls Sagg.prog 200 #[.pointer (some ⟨gA, 0, none⟩)] w (post200 tt gA N D w) := by
  refine CS_calls (tips200 tt gA N D w) {} (by kernel_rfl) Sagg.func200 rfl _ rfl (by kernel_rfl) ?_
  refine of_eq (p := Sem.run Sagg.prog (Instr.indexAt 264 (Value.pointer (some { block := gA, off := 0 })) (Value.int IntKind.i64 7)) w = Result.ok (Value.pointer (some { block := gA, off := 7 })) w ∧
  Sem.run Sagg.prog (loadVar 4 { block := gA, off := 7 }) w = Result.ok (Value.bool (tKN N 7)) w ∧
    (∃ (x : Nat), x ≤ 7 ∧ [Value.int IntKind.i64 7] = [Value.int IntKind.i64 ↑(7 - x)] ∧ KS w D [(gA, rowKN 8 (iterKN turnKN N x), tt)] w) ∧
      LoopOK (cntF 3 7 IntKind.i64 (fun (γ : GQ) (x : Nat) => 7 - x) (fun (γ : GQ) (x : Nat) (W : World) => KS w D [(gA, rowKN 8 (iterKN turnKN N x), tt)] W) (fun (γ : GQ) (x : Nat) (W : World) => { x := x, y := γ.y, z := γ.z, q := true, p := γ.p, gd := γ.gd, ge := γ.ge, gf := γ.gf }) (fun (γ : GQ) (W : World) => { x := γ.x, y := γ.y, z := γ.z, p := γ.p, gd := γ.gd, ge := γ.ge, gf := γ.gf }) fun (v : Nat) => v) { } w ∧
        (∀ (x : Nat) (W : World),
            x < 7 →
              KS w D [(gA, rowKN 8 (iterKN turnKN N x), tt)] W →
                Sem.run Sagg.prog (binOp BinOp.gtr 3 (Value.int IntKind.i64 ↑(7 - x)) (Value.int IntKind.i64 0)) W = Result.ok (Value.bool true) W ∧
                  (∀ (m : Nat), Sem.run Sagg.prog (binOp BinOp.sub 3 (Value.int IntKind.i64 ↑(7 - x)) (Value.int IntKind.i64 1)) (W.drewN m) = Result.ok (Value.int IntKind.i64 ↑(7 - x - 1)) (W.drewN m)) ∧
                    (∀ (m : Nat), Sem.run Sagg.prog (Instr.indexAt 264 (Value.pointer (some { block := gA, off := 0 })) (Value.int IntKind.i64 ↑(7 - x - 1))) (W.drewN m) = Result.ok (Value.pointer (some { block := gA, off := 0 + (7 - x - 1) * 1 })) (W.drewN m)) ∧
                      (∀ (m : Nat), Sem.run Sagg.prog (loadVar 4 { block := gA, off := 0 + (7 - x - 1) * 1 }) (W.drewN m) = Result.ok (Value.bool (tKN (iterKN turnKN N x) (0 + (7 - x - 1) * 1))) (W.drewN m)) ∧
                        (∀ (m : Nat), Sem.run Sagg.prog (Instr.indexAt 264 (Value.pointer (some { block := gA, off := 0 })) (Value.int IntKind.i64 ↑(7 - x))) (W.drewN m) = Result.ok (Value.pointer (some { block := gA, off := 0 + (7 - x) * 1 })) (W.drewN m)) ∧
                          (∀ (m : Nat),
                              Sem.run Sagg.prog
                                  (do
                                    storeVar 4 { block := gA, off := 0 + (7 - x) * 1 } (Value.bool (tKN (iterKN turnKN N x) (0 + (7 - x - 1) * 1)))
                                    pure undef)
                                  (W.drewN m) =
                                Result.ok (Value.tuple { toList := [] }) ((W.drewN m).setRow gA (rowKN 8 (setKN (iterKN turnKN N x) (0 + (7 - x) * 1) (tKN (iterKN turnKN N x) (0 + (7 - x - 1) * 1)))))) ∧
                            ∀ (m : Nat), Sem.run Sagg.prog (binOp BinOp.sub 3 (Value.int IntKind.i64 ↑(7 - x)) (Value.int IntKind.i64 1)) ((W.drewN m).setRow gA (rowKN 8 (setKN (iterKN turnKN N x) (0 + (7 - x) * 1) (tKN (iterKN turnKN N x) (0 + (7 - x - 1) * 1))))) = Result.ok (Value.int IntKind.i64 ↑(7 - x - 1)) ((W.drewN m).setRow gA (rowKN 8 (setKN (iterKN turnKN N x) (0 + (7 - x) * 1) (tKN (iterKN turnKN N x) (0 + (7 - x - 1) * 1))))) ∧ (∃ (x_1 : Nat), x_1 ≤ 7 ∧ [Value.int IntKind.i64 ↑(7 - x - 1)] = [Value.int IntKind.i64 ↑(7 - x_1)] ∧ KS w D [(gA, rowKN 8 (iterKN turnKN N x_1), tt)] ((W.drewN m).setRow gA (rowKN 8 (setKN (iterKN turnKN N x) (0 + (7 - x) * 1) (tKN (iterKN turnKN N x) (0 + (7 - x - 1) * 1)))))) ∧ (((7 - x - 1) : Nat) : Int).toNat < (((7 - x) : Nat) : Int).toNat) ∧
          ∀ (W : World),
            KS w D [(gA, rowKN 8 (iterKN turnKN N 7), tt)] W →
              Sem.run Sagg.prog (binOp BinOp.gtr 3 (Value.int IntKind.i64 ↑0) (Value.int IntKind.i64 0)) W = Result.ok (Value.bool false) W ∧
                Sem.run Sagg.prog (Instr.indexAt 264 (Value.pointer (some { block := gA, off := 0 })) (Value.int IntKind.i64 0)) W = Result.ok (Value.pointer (some { block := gA, off := 0 })) W ∧
                  Sem.run Sagg.prog
                        (do
                          storeVar 4 { block := gA, off := 0 } (Value.bool (tKN N 7))
                          pure undef)
                        W =
                      Result.ok (Value.tuple { toList := [] }) (W.setRow gA (rowKN 8 (t1KN N))) ∧
                    (∀ (m : Nat), Sem.run Sagg.prog (Instr.indexAt 264 (Value.pointer (some { block := gA, off := 0 })) (Value.int IntKind.i64 4)) ((W.setRow gA (rowKN 8 (t1KN N))).drewN m) = Result.ok (Value.pointer (some { block := gA, off := 4 })) ((W.setRow gA (rowKN 8 (t1KN N))).drewN m)) ∧
                      (∀ (m : Nat), Sem.run Sagg.prog (loadVar 4 { block := gA, off := 4 }) ((W.setRow gA (rowKN 8 (t1KN N))).drewN m) = Result.ok (Value.bool (tKN (t1KN N) 4)) ((W.setRow gA (rowKN 8 (t1KN N))).drewN m)) ∧
                        (∀ (m : Nat), Sem.run Sagg.prog (binOp BinOp.neq 4 (Value.bool (tKN (t1KN N) 4)) (Value.bool (tKN N 7))) ((W.setRow gA (rowKN 8 (t1KN N))).drewN m) = Result.ok (Value.bool (xKN (tKN (t1KN N) 4) (tKN N 7))) ((W.setRow gA (rowKN 8 (t1KN N))).drewN m)) ∧
                          (∀ (m : Nat), Sem.run Sagg.prog (Instr.indexAt 264 (Value.pointer (some { block := gA, off := 0 })) (Value.int IntKind.i64 4)) ((W.setRow gA (rowKN 8 (t1KN N))).drewN m) = Result.ok (Value.pointer (some { block := gA, off := 4 })) ((W.setRow gA (rowKN 8 (t1KN N))).drewN m)) ∧
                            (∀ (m : Nat),
                                Sem.run Sagg.prog
                                    (do
                                      storeVar 4 { block := gA, off := 4 } (Value.bool (xKN (tKN (t1KN N) 4) (tKN N 7)))
                                      pure undef)
                                    ((W.setRow gA (rowKN 8 (t1KN N))).drewN m) =
                                  Result.ok (Value.tuple { toList := [] }) (((W.setRow gA (rowKN 8 (t1KN N))).drewN m).setRow gA (rowKN 8 (t2KN N)))) ∧
                              ∀ (m : Nat),
                                (∀ (m_1 : Nat), Sem.run Sagg.prog (Instr.indexAt 264 (Value.pointer (some { block := gA, off := 0 })) (Value.int IntKind.i64 5)) ((((W.setRow gA (rowKN 8 (t1KN N))).drewN m).setRow gA (rowKN 8 (t2KN N))).drewN m_1) = Result.ok (Value.pointer (some { block := gA, off := 5 })) ((((W.setRow gA (rowKN 8 (t1KN N))).drewN m).setRow gA (rowKN 8 (t2KN N))).drewN m_1)) ∧
                                  (∀ (m_1 : Nat), Sem.run Sagg.prog (loadVar 4 { block := gA, off := 5 }) ((((W.setRow gA (rowKN 8 (t1KN N))).drewN m).setRow gA (rowKN 8 (t2KN N))).drewN m_1) = Result.ok (Value.bool (tKN (t2KN N) 5)) ((((W.setRow gA (rowKN 8 (t1KN N))).drewN m).setRow gA (rowKN 8 (t2KN N))).drewN m_1)) ∧
                                    (∀ (m_1 : Nat), Sem.run Sagg.prog (binOp BinOp.neq 4 (Value.bool (tKN (t2KN N) 5)) (Value.bool (tKN N 7))) ((((W.setRow gA (rowKN 8 (t1KN N))).drewN m).setRow gA (rowKN 8 (t2KN N))).drewN m_1) = Result.ok (Value.bool (xKN (tKN (t2KN N) 5) (tKN N 7))) ((((W.setRow gA (rowKN 8 (t1KN N))).drewN m).setRow gA (rowKN 8 (t2KN N))).drewN m_1)) ∧
                                      (∀ (m_1 : Nat), Sem.run Sagg.prog (Instr.indexAt 264 (Value.pointer (some { block := gA, off := 0 })) (Value.int IntKind.i64 5)) ((((W.setRow gA (rowKN 8 (t1KN N))).drewN m).setRow gA (rowKN 8 (t2KN N))).drewN m_1) = Result.ok (Value.pointer (some { block := gA, off := 5 })) ((((W.setRow gA (rowKN 8 (t1KN N))).drewN m).setRow gA (rowKN 8 (t2KN N))).drewN m_1)) ∧
                                        (∀ (m_1 : Nat),
                                            Sem.run Sagg.prog
                                                (do
                                                  storeVar 4 { block := gA, off := 5 } (Value.bool (xKN (tKN (t2KN N) 5) (tKN N 7)))
                                                  pure undef)
                                                ((((W.setRow gA (rowKN 8 (t1KN N))).drewN m).setRow gA (rowKN 8 (t2KN N))).drewN m_1) =
                                              Result.ok (Value.tuple { toList := [] }) (((((W.setRow gA (rowKN 8 (t1KN N))).drewN m).setRow gA (rowKN 8 (t2KN N))).drewN m_1).setRow gA (rowKN 8 (t3KN N)))) ∧
                                          ∀ (m_1 : Nat),
                                            (∀ (m_2 : Nat), Sem.run Sagg.prog (Instr.indexAt 264 (Value.pointer (some { block := gA, off := 0 })) (Value.int IntKind.i64 6)) ((((((W.setRow gA (rowKN 8 (t1KN N))).drewN m).setRow gA (rowKN 8 (t2KN N))).drewN m_1).setRow gA (rowKN 8 (t3KN N))).drewN m_2) = Result.ok (Value.pointer (some { block := gA, off := 6 })) ((((((W.setRow gA (rowKN 8 (t1KN N))).drewN m).setRow gA (rowKN 8 (t2KN N))).drewN m_1).setRow gA (rowKN 8 (t3KN N))).drewN m_2)) ∧
                                              (∀ (m_2 : Nat), Sem.run Sagg.prog (loadVar 4 { block := gA, off := 6 }) ((((((W.setRow gA (rowKN 8 (t1KN N))).drewN m).setRow gA (rowKN 8 (t2KN N))).drewN m_1).setRow gA (rowKN 8 (t3KN N))).drewN m_2) = Result.ok (Value.bool (tKN (t3KN N) 6)) ((((((W.setRow gA (rowKN 8 (t1KN N))).drewN m).setRow gA (rowKN 8 (t2KN N))).drewN m_1).setRow gA (rowKN 8 (t3KN N))).drewN m_2)) ∧
                                                (∀ (m_2 : Nat), Sem.run Sagg.prog (binOp BinOp.neq 4 (Value.bool (tKN (t3KN N) 6)) (Value.bool (tKN N 7))) ((((((W.setRow gA (rowKN 8 (t1KN N))).drewN m).setRow gA (rowKN 8 (t2KN N))).drewN m_1).setRow gA (rowKN 8 (t3KN N))).drewN m_2) = Result.ok (Value.bool (xKN (tKN (t3KN N) 6) (tKN N 7))) ((((((W.setRow gA (rowKN 8 (t1KN N))).drewN m).setRow gA (rowKN 8 (t2KN N))).drewN m_1).setRow gA (rowKN 8 (t3KN N))).drewN m_2)) ∧
                                                  (∀ (m_2 : Nat), Sem.run Sagg.prog (Instr.indexAt 264 (Value.pointer (some { block := gA, off := 0 })) (Value.int IntKind.i64 6)) ((((((W.setRow gA (rowKN 8 (t1KN N))).drewN m).setRow gA (rowKN 8 (t2KN N))).drewN m_1).setRow gA (rowKN 8 (t3KN N))).drewN m_2) = Result.ok (Value.pointer (some { block := gA, off := 6 })) ((((((W.setRow gA (rowKN 8 (t1KN N))).drewN m).setRow gA (rowKN 8 (t2KN N))).drewN m_1).setRow gA (rowKN 8 (t3KN N))).drewN m_2)) ∧
                                                    (∀ (m_2 : Nat),
                                                        Sem.run Sagg.prog
                                                            (do
                                                              storeVar 4 { block := gA, off := 6 } (Value.bool (xKN (tKN (t3KN N) 6) (tKN N 7)))
                                                              pure undef)
                                                            ((((((W.setRow gA (rowKN 8 (t1KN N))).drewN m).setRow gA (rowKN 8 (t2KN N))).drewN m_1).setRow gA (rowKN 8 (t3KN N))).drewN m_2) =
                                                          Result.ok (Value.tuple { toList := [] }) (((((((W.setRow gA (rowKN 8 (t1KN N))).drewN m).setRow gA (rowKN 8 (t2KN N))).drewN m_1).setRow gA (rowKN 8 (t3KN N))).drewN m_2).setRow gA (rowKN 8 (t4KN N)))) ∧
                                                      ∀ (m_2 : Nat), (post200 tt gA N D w) (Ending.returned (Value.tuple { toList := [] })) (((((((W.setRow gA (rowKN 8 (t1KN N))).drewN m).setRow gA (rowKN 8 (t2KN N))).drewN m_1).setRow gA (rowKN 8 (t3KN N))).drewN m_2).setRow gA (rowKN 8 (t4KN N)))) (by kernel_rfl) ?_
  exact ⟨(index_k (i := 7) Sagg.underlying264 rfl (by omega)), (load_t (KS.r0 hK) (by omega)), ⟨0, (by omega), rfl, (by rw [iter_zero]; exact hK)⟩, cntF_ok, (fun x4 => (fun W5 => (fun h6 => (fun h7 => ⟨(gtr_t (by have hs_W5 := h7.size; omega)), (fun m9 => (sub_k (b := 1) (by have hs_W5 := h7.size; omega) (by have hs_W5 := h7.size; omega))), (fun m11 => (index_k  Sagg.underlying264 rfl (by have hs_W5 := h7.size; omega))), (fun m13 => (load_t (KS.r0 (KS.drew h7 m13)) (by have hs_W5 := h7.size; omega))), (fun m15 => (index_k  Sagg.underlying264 rfl (by have hs_W5 := h7.size; omega))), (fun m17 => (store_t (KS.r0 (KS.drew h7 m17)) (by have hs_W5 := h7.size; omega))), (fun m19 => ⟨(sub_k (b := 1) (by have hs_W5 := h7.size; omega) (by have hs_W5 := h7.size; omega)), ⟨x4 + 1, (by have hs_W5 := h7.size; omega), rfl, (by rw [iter_succ (n := x4)]; exact (KS.set (KS.drew h7 m19) (.inl hD) ne_nil (rowKN 8 (setKN (iterKN turnKN N x4) (0 + (7 - x4) * 1) (tKN (iterKN turnKN N x4) (0 + (7 - x4 - 1) * 1))))))⟩, (by simp only [Int.toNat_natCast]; omega)⟩)⟩)))), (fun W23 => (fun h24 => ⟨(gtr_f (by have hs_W23 := h24.size; omega)), (index_k (i := 0) Sagg.underlying264 rfl (by have hs_W23 := h24.size; omega)), (store_t (KS.r0 h24) (by have hs_W23 := h24.size; omega)), (fun m28 => (index_k (i := 4) Sagg.underlying264 rfl (by have hs_W23 := h24.size; omega))), (fun m30 => (load_t (KS.r0 (KS.drew (KS.set h24 (.inl hD) ne_nil (rowKN 8 (t1KN N))) m30)) (by have hs_W23 := h24.size; omega))), (fun m32 => neq_k), (fun m34 => (index_k (i := 4) Sagg.underlying264 rfl (by have hs_W23 := h24.size; omega))), (fun m36 => (store_t (KS.r0 (KS.drew (KS.set h24 (.inl hD) ne_nil (rowKN 8 (t1KN N))) m36)) (by have hs_W23 := h24.size; omega))), (fun m38 => ⟨(fun m39 => (index_k (i := 5) Sagg.underlying264 rfl (by have hs_W23 := h24.size; omega))), (fun m41 => (load_t (KS.r0 (KS.drew (KS.set (KS.drew (KS.set h24 (.inl hD) ne_nil (rowKN 8 (t1KN N))) m38) (.inl hD) ne_nil (rowKN 8 (t2KN N))) m41)) (by have hs_W23 := h24.size; omega))), (fun m43 => neq_k), (fun m45 => (index_k (i := 5) Sagg.underlying264 rfl (by have hs_W23 := h24.size; omega))), (fun m47 => (store_t (KS.r0 (KS.drew (KS.set (KS.drew (KS.set h24 (.inl hD) ne_nil (rowKN 8 (t1KN N))) m38) (.inl hD) ne_nil (rowKN 8 (t2KN N))) m47)) (by have hs_W23 := h24.size; omega))), (fun m49 => ⟨(fun m50 => (index_k (i := 6) Sagg.underlying264 rfl (by have hs_W23 := h24.size; omega))), (fun m52 => (load_t (KS.r0 (KS.drew (KS.set (KS.drew (KS.set (KS.drew (KS.set h24 (.inl hD) ne_nil (rowKN 8 (t1KN N))) m38) (.inl hD) ne_nil (rowKN 8 (t2KN N))) m49) (.inl hD) ne_nil (rowKN 8 (t3KN N))) m52)) (by have hs_W23 := h24.size; omega))), (fun m54 => neq_k), (fun m56 => (index_k (i := 6) Sagg.underlying264 rfl (by have hs_W23 := h24.size; omega))), (fun m58 => (store_t (KS.r0 (KS.drew (KS.set (KS.drew (KS.set (KS.drew (KS.set h24 (.inl hD) ne_nil (rowKN 8 (t1KN N))) m38) (.inl hD) ne_nil (rowKN 8 (t2KN N))) m49) (.inl hD) ne_nil (rowKN 8 (t3KN N))) m58)) (by have hs_W23 := h24.size; omega))), (fun m60 => ⟨rfl, (KS.set (KS.drew (KS.set (KS.drew (KS.set (KS.drew (KS.set h24 (.inl hD) ne_nil (rowKN 8 (t1KN N))) m38) (.inl hD) ne_nil (rowKN 8 (t2KN N))) m49) (.inl hD) ne_nil (rowKN 8 (t3KN N))) m60) (.inl hD) ne_nil (rowKN 8 (t4KN N)))⟩)⟩)⟩)⟩))⟩
end Go.Proofs.YgcsagGreat
