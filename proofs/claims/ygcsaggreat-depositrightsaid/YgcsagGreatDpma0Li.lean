/-
  'DepositRight': runs, their parts being chunks.
-/
import Derived.Test.YgcsagGreatDps0
import Derived.Test.YgcsagGreatDps11
namespace Go.Proofs.EX
open Go.RowKit Go.Proofs.YgcsagGreat
set_option linter.unusedVariables false
set_option linter.unusedSimpArgs false
set_option maxRecDepth 100000
noncomputable def dp_a0Li_cs (k : Nat) (n first gas : Int) : List Ch := [dp_u3 k first (hiD n) (loD n) (ggD gas), dp_u66 k first (hiD n) (loD n) (ggD gas), dp_u5 k first (hiD n) (loD n) (ggD gas)]
noncomputable def dp_a0Li_specs (k : Nat) (n first gas : Int) : List (FuncId × Spec) := (44, chX 44 (dp_a0Li_cs k n first gas)) :: (31, chX 31 (dp_a0Li_cs k n first gas)) :: (43, chX 43 (dp_a0Li_cs k n first gas)) :: (45, chX 45 (dp_a0Li_cs k n first gas)) :: (16, chX 16 (dp_a0Li_cs k n first gas)) :: depSpecs first k
def dp_a0Li_H_0 : List Nat := nat_lit 100000 :: nat_lit 0 :: nat_lit 0 :: nat_lit 0 :: nat_lit 0 :: nat_lit 1 :: nat_lit 1 :: nat_lit 0 :: nat_lit 0 :: nat_lit 100000 :: nat_lit 0 :: nat_lit 0 :: nat_lit 0 :: nat_lit 1 :: nat_lit 0 :: nat_lit 3 :: nat_lit 1 :: nat_lit 0 :: nat_lit 2 :: nat_lit 1 :: nat_lit 0 :: nat_lit 1 :: nat_lit 1 :: nat_lit 0 :: nat_lit 4 :: nat_lit 0 :: nat_lit 0 :: nat_lit 0 :: nat_lit 0 :: nat_lit 0 :: nat_lit 1 :: nat_lit 1 :: nat_lit 0 :: nat_lit 0 :: nat_lit 0 :: nat_lit 0 :: nat_lit 0 :: nat_lit 0 :: nat_lit 0 :: nat_lit 1 :: nat_lit 1 :: nat_lit 0 :: nat_lit 10 :: nat_lit 0 :: nat_lit 0 :: nat_lit 1 :: nat_lit 0 :: nat_lit 0 :: nat_lit 1 :: nat_lit 0 :: nat_lit 0 :: nat_lit 1 :: nat_lit 0 :: nat_lit 0 :: nat_lit 10 :: nat_lit 0 :: nat_lit 1 :: nat_lit 1 :: nat_lit 8 :: nat_lit 1 :: nat_lit 2 :: nat_lit 0 :: nat_lit 0 :: nat_lit 0 :: nat_lit 0 :: nat_lit 0 :: nat_lit 0 :: nat_lit 1 :: nat_lit 0 :: nat_lit 1 :: nat_lit 1 :: nat_lit 0 :: nat_lit 2 :: nat_lit 6 :: nat_lit 0 :: nat_lit 8 :: nat_lit 8 :: nat_lit 0 :: nat_lit 0 :: nat_lit 0 :: nat_lit 1 :: nat_lit 0 :: nat_lit 2 :: nat_lit 0 :: nat_lit 0 :: nat_lit 3 :: nat_lit 1 :: nat_lit 0 :: nat_lit 4 :: nat_lit 1 :: nat_lit 5 :: nat_lit 2 :: nat_lit 2 :: nat_lit 0 :: nat_lit 0 :: nat_lit 13 :: nat_lit 0 :: nat_lit 0 :: nat_lit 0 :: nat_lit 0 :: nat_lit 0 :: nat_lit 0 :: nat_lit 0 :: nat_lit 0 :: nat_lit 0 :: nat_lit 0 :: nat_lit 0 :: nat_lit 0 :: nat_lit 0 :: nat_lit 1 :: nat_lit 6 :: nat_lit 100000 :: nat_lit 1 :: nat_lit 1 :: nat_lit 5 :: nat_lit 0 :: nat_lit 0 :: nat_lit 0 :: nat_lit 1 :: nat_lit 0 :: nat_lit 1 :: nat_lit 2 :: nat_lit 0 :: nat_lit 1 :: nat_lit 3 :: nat_lit 100000 :: nat_lit 3 :: nat_lit 0 :: nat_lit 13 :: nat_lit 0 :: nat_lit 0 :: nat_lit 0 :: nat_lit 0 :: nat_lit 0 :: nat_lit 13 :: nat_lit 0 :: nat_lit 2 :: nat_lit 0 :: nat_lit 0 :: nat_lit 0 :: nat_lit 0 :: nat_lit 13 :: nat_lit 0 :: nat_lit 0 :: nat_lit 0 :: nat_lit 0 :: nat_lit 0 :: nat_lit 13 :: nat_lit 0 :: nat_lit 0 :: nat_lit 0 :: nat_lit 0 :: nat_lit 0 :: nat_lit 13 :: nat_lit 0 :: nat_lit 0 :: nat_lit 0 :: nat_lit 0 :: nat_lit 0 :: nat_lit 13 :: nat_lit 0 :: nat_lit 1 :: nat_lit 0 :: nat_lit 0 :: nat_lit 0 :: nat_lit 13 :: nat_lit 0 :: nat_lit 2 :: nat_lit 0 :: nat_lit 0 :: nat_lit 0 :: nat_lit 0 :: nat_lit 13 :: nat_lit 0 :: nat_lit 0 :: nat_lit 0 :: nat_lit 0 :: nat_lit 0 :: nat_lit 13 :: nat_lit 0 :: nat_lit 0 :: nat_lit 0 :: nat_lit 0 :: nat_lit 0 :: nat_lit 3 :: nat_lit 0 :: nat_lit 3 :: nat_lit 3 :: nat_lit 100010 :: nat_lit 0 :: nat_lit 1 :: nat_lit 0 :: nat_lit 0 :: nat_lit 0 :: nat_lit 0 :: nat_lit 0 :: nat_lit 0 :: nat_lit 0 :: nat_lit 0 :: nat_lit 2 :: nat_lit 0 :: nat_lit 0 :: nat_lit 0 :: nat_lit 0 :: nat_lit 0 :: nat_lit 0 :: nat_lit 0 :: nat_lit 2 :: nat_lit 4 :: nat_lit 1 :: nat_lit 0 :: nat_lit 3 :: nat_lit 0 :: nat_lit 0 :: nat_lit 7 :: []
def dp_a0Li_T_0 : List (Tk ⊕ (Nat × List (Nat × Nat × Nat))) := .inl .b :: .inl .b :: .inl (.lb (nat_lit 0)) :: .inl (.lb (nat_lit 0)) :: .inl (.lb (nat_lit 1)) :: .inl (.lb (nat_lit 1)) :: .inl .b :: .inl (.lb (nat_lit 0)) :: .inl .b :: .inl .b :: .inl .b :: .inl .b :: .inl (.lb (nat_lit 3)) :: .inl (.lb (nat_lit 0)) :: .inl (.lb (nat_lit 2)) :: .inl (.lb (nat_lit 0)) :: .inl (.lb (nat_lit 1)) :: .inl (.lb (nat_lit 0)) :: .inl (.lb (nat_lit 0)) :: .inl (.lb (nat_lit 4)) :: .inl .b :: .inl .b :: .inl (.lb (nat_lit 0)) :: .inl (.lb (nat_lit 0)) :: .inl (.lb (nat_lit 1)) :: .inl (.lb (nat_lit 1)) :: .inl .b :: .inl (.lb (nat_lit 0)) :: .inl .b :: .inl .b :: .inl .b :: .inl .b :: .inl (.lb (nat_lit 0)) :: .inl (.lb (nat_lit 0)) :: .inl (.lb (nat_lit 1)) :: .inl (.lb (nat_lit 1)) :: .inr (0, [(3, 0, 0), (7, 0, 0), (11, 0, 0), (2, 0, 0)]) :: .inl (.lb (nat_lit 23)) :: .inl .b :: .inl .b :: .inl (.lb (nat_lit 1)) :: .inr (1, [(0, 0, 0), (10, 0, 0), (4, 0, 0), (21, 0, 0), (25, 0, 0), (7, 0, 0), (8, 0, 0), (3, 0, 0), (2, 0, 0)]) :: .inl (.lb (nat_lit 39)) :: .inl (.lb (nat_lit 39)) :: .inl .b :: .inl (.lb (nat_lit 0)) :: .inl (.lb (nat_lit 65)) :: .inl (.lb (nat_lit 0)) :: .inr (2, [(50, 0, 0), (44, 0, 0), (61, 0, 0), (47, 0, 0), (48, 0, 0), (43, 0, 0), (42, 0, 0)]) :: .inl .b :: .inl .b :: .inl (.lb (nat_lit 1)) :: .inl (.lb (nat_lit 1)) :: .inl .b :: .inl (.lb (nat_lit 0)) :: .inl (.lb (nat_lit 71)) :: .inl (.lb (nat_lit 71)) :: .inl (.lo (nat_lit 0)) :: .inl (.lb (nat_lit 71)) :: .inl (.lb (nat_lit 71)) :: .inl (.lb (nat_lit 71)) :: .inl (.lb (nat_lit 71)) :: .inl (.lo (nat_lit 1)) :: .inl (.lb (nat_lit 71)) :: .inl (.lo (nat_lit 2)) :: .inl (.lb (nat_lit 71)) :: .inl (.lb (nat_lit 71)) :: .inl (.lb (nat_lit 0)) :: .inl (.lb (nat_lit 0)) :: .inl (.lb (nat_lit 0)) :: .inl (.lo (nat_lit 3)) :: .inl (.lb (nat_lit 1)) :: []
theorem dp_a0Li_main (k : Nat) (n first gas : Int) : EF Sagg.prog (dp_a0Li_specs k n first gas) 300 60 [] 9 #[.int .u16 n, .int .u8 first, .int .u32 gas] (fun v _ _ => v = .bool true) ⟨[], []⟩ dp_a0Li_H_0
  = buildC (dp_a0Li_cs k n first gas) [Told Sagg.prog .neq 5 (.int .u8 first) (.int .u8 0) (toldV 1 0),
  Told Sagg.prog .neq 5 (.int .u8 (hiD n)) (.int .u8 0) (toldV 0 0),
  Told Sagg.prog .neq 5 (.int .u8 (loD n)) (.int .u8 0) (toldV 1 0),
  Told Sagg.prog .lss 27 (.int .u64 (ggD gas)) (.int .u64 53134) (toldV 1 0)] (fun _ => Value.bool true = .bool true) dp_a0Li_T_0 [] := by kernel_rfl
theorem dp_a0Li_calls (k : Nat) (n first gas : Int) (hf : 0 ≤ first ∧ first < 256) (hgas : 0 ≤ gas ∧ gas < 4294967296) (hN : 1 ≤ n ∧ n ≤ 255) (hfn : 0 < first) (hgl : ggD gas < 53134) (w : World) :
    Calls Sagg.prog 9 #[.int .u16 n, .int .u8 first, .int .u32 gas] w fun e w' => e = .returned (.bool true) ∧ Below w.heap.size w w' := by
  have hgg := ggD_range hgas
  have hhi := hiD_eq (n := n) (by omega)
  have hlo := loD_eq (n := n) (by omega)
  have hwn : IntKind.wrap .u64 n = n := wrap_u (by omega) (by omega)
  have hww := ww_eq (hiD n) (loD n)
  have hsq := sq_bound (w := ww (hiD n) (loD n)) (by omega)
  have hmc : mc (hiD n) (loD n) = 3 * ww (hiD n) (loD n) + ww (hiD n) (loD n) * ww (hiD n) (loD n) / 512 := rfl
  have hcs : ∀ c ∈ dp_a0Li_cs k n first gas, c.Good := by
    unfold dp_a0Li_cs
    simp only [List.forall_mem_cons]
    exact ⟨dp_u3_ran,
      dp_u66_ran hf (by omega) (by omega) (by omega) (by omega) (by omega) (by omega) (by omega),
      dp_u5_ran, fun c hc => by cases hc⟩
  have hsp : ∀ p ∈ dp_a0Li_specs k n first gas, SpecOK p.1 p.2 := by
    intro p hp
    unfold dp_a0Li_specs at hp
    rcases List.mem_cons.1 hp with rfl | hp
    · exact chX_ok hcs
    rcases List.mem_cons.1 hp with rfl | hp
    · exact chX_ok hcs
    rcases List.mem_cons.1 hp with rfl | hp
    · exact chX_ok hcs
    rcases List.mem_cons.1 hp with rfl | hp
    · exact chX_ok hcs
    rcases List.mem_cons.1 hp with rfl | hp
    · exact chX_ok hcs
    exact depSpecs_ok p hp
  have hrun : EF Sagg.prog (dp_a0Li_specs k n first gas) 300 60 [] 9 #[.int .u16 n, .int .u8 first, .int .u32 gas] (fun v _ _ => v = .bool true) ⟨[], []⟩ dp_a0Li_H_0 := by
    refine of_eq (dp_a0Li_main k n first gas) ?_
    refine buildC_ok ?_ (fun _ => rfl) _ _ (by kernel_rfl)
    exact (ho_cons (told_ne1 (by omega)) (ho_cons (told_in0 (by omega)) (ho_cons (told_ne1 (by omega)) (ho_cons (told_ls1 (by omega)) ho_nil))))
  refine (closed (S := fun _ => False) hsp (fun b hb => hb.elim) hrun (fun p hp => by cases hp)).mono ?_
  rintro e w' ⟨v, s', H', rfl, rfl, hi⟩
  exact ⟨rfl, hi.below⟩
end Go.Proofs.EX
