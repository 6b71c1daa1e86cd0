/-
  'DestructRight': the run of one case, its parts being chunks.
-/
import Derived.Test.YgcsagGreatDes5
import Derived.Test.YgcsagGreatDes6
namespace Go.Proofs.EX
open Go.RowKit Go.Proofs.YgcsagGreat
set_option linter.unusedVariables false
set_option linter.unusedSimpArgs false
set_option maxRecDepth 100000
noncomputable def de_2z_cs (kind b : Int) : List Ch := [de_u32 kind b, de_u33 kind b, de_u34 kind b, de_u35 kind b, de_u36 kind b, de_u37 kind b, de_u38 kind b, de_u39 kind b]
noncomputable def de_2z_specs (kind b : Int) : List (FuncId × Spec) := (44, chX 44 (de_2z_cs kind b)) :: (31, chX 31 (de_2z_cs kind b)) :: (43, chX 43 (de_2z_cs kind b)) :: (45, chX 45 (de_2z_cs kind b)) :: (16, chX 16 (de_2z_cs kind b)) :: (18, chX 18 (de_2z_cs kind b)) :: desSpecs
def de_2z_H_0 : List Nat := nat_lit 100000 :: nat_lit 3 :: nat_lit 2 :: nat_lit 0 :: nat_lit 0 :: nat_lit 0 :: nat_lit 0 :: nat_lit 14 :: nat_lit 2 :: nat_lit 0 :: nat_lit 0 :: nat_lit 0 :: nat_lit 0 :: nat_lit 0 :: nat_lit 0 :: nat_lit 0 :: nat_lit 0 :: nat_lit 0 :: nat_lit 0 :: nat_lit 0 :: nat_lit 1 :: nat_lit 0 :: nat_lit 0 :: nat_lit 0 :: nat_lit 0 :: nat_lit 0 :: nat_lit 0 :: nat_lit 1 :: nat_lit 1 :: nat_lit 0 :: nat_lit 0 :: nat_lit 0 :: nat_lit 0 :: nat_lit 0 :: nat_lit 0 :: nat_lit 0 :: nat_lit 1 :: nat_lit 1 :: nat_lit 1 :: nat_lit 5 :: nat_lit 0 :: nat_lit 0 :: nat_lit 1 :: nat_lit 0 :: nat_lit 0 :: nat_lit 0 :: nat_lit 9 :: nat_lit 0 :: nat_lit 1 :: nat_lit 2 :: nat_lit 8 :: nat_lit 1 :: nat_lit 2 :: nat_lit 0 :: nat_lit 0 :: nat_lit 0 :: nat_lit 0 :: nat_lit 0 :: nat_lit 0 :: nat_lit 0 :: nat_lit 3 :: nat_lit 10 :: nat_lit 2 :: nat_lit 0 :: nat_lit 0 :: nat_lit 0 :: nat_lit 0 :: nat_lit 0 :: nat_lit 0 :: nat_lit 1 :: nat_lit 0 :: nat_lit 0 :: nat_lit 2 :: nat_lit 0 :: nat_lit 0 :: nat_lit 4 :: nat_lit 3 :: nat_lit 1 :: nat_lit 1 :: nat_lit 0 :: nat_lit 5 :: nat_lit 1 :: nat_lit 0 :: nat_lit 0 :: nat_lit 1 :: nat_lit 0 :: nat_lit 5 :: nat_lit 8 :: nat_lit 1 :: nat_lit 0 :: nat_lit 1 :: nat_lit 0 :: nat_lit 0 :: nat_lit 0 :: nat_lit 0 :: nat_lit 0 :: nat_lit 4 :: nat_lit 1 :: nat_lit 0 :: nat_lit 0 :: nat_lit 0 :: nat_lit 6 :: nat_lit 0 :: nat_lit 16 :: nat_lit 16 :: nat_lit 0 :: nat_lit 2 :: nat_lit 18 :: nat_lit 0 :: nat_lit 6 :: nat_lit 6 :: nat_lit 0 :: nat_lit 0 :: nat_lit 0 :: nat_lit 0 :: nat_lit 1 :: nat_lit 1 :: nat_lit 0 :: nat_lit 2 :: nat_lit 1 :: nat_lit 3 :: nat_lit 7 :: nat_lit 15 :: nat_lit 0 :: nat_lit 0 :: nat_lit 0 :: nat_lit 1 :: nat_lit 0 :: nat_lit 0 :: nat_lit 0 :: nat_lit 0 :: nat_lit 0 :: nat_lit 0 :: nat_lit 1 :: nat_lit 0 :: nat_lit 0 :: nat_lit 0 :: nat_lit 0 :: nat_lit 1 :: nat_lit 1 :: nat_lit 1 :: nat_lit 4 :: nat_lit 100000 :: nat_lit 2 :: nat_lit 0 :: nat_lit 2 :: nat_lit 0 :: nat_lit 3 :: nat_lit 0 :: nat_lit 2 :: nat_lit 3 :: nat_lit 0 :: nat_lit 2 :: nat_lit 3 :: nat_lit 0 :: nat_lit 0 :: nat_lit 0 :: nat_lit 3 :: nat_lit 0 :: nat_lit 12 :: nat_lit 0 :: nat_lit 2 :: nat_lit 0 :: nat_lit 7 :: nat_lit 0 :: nat_lit 2 :: nat_lit 4 :: nat_lit 4 :: nat_lit 1 :: nat_lit 3 :: nat_lit 0 :: nat_lit 2 :: nat_lit 6 :: nat_lit 0 :: nat_lit 2 :: nat_lit 6 :: nat_lit 0 :: nat_lit 2 :: nat_lit 6 :: nat_lit 0 :: nat_lit 0 :: nat_lit 0 :: nat_lit 2 :: nat_lit 0 :: nat_lit 0 :: nat_lit 0 :: nat_lit 17 :: nat_lit 0 :: nat_lit 2 :: nat_lit 15 :: nat_lit 1 :: nat_lit 0 :: nat_lit 0 :: nat_lit 0 :: nat_lit 0 :: nat_lit 0 :: nat_lit 0 :: nat_lit 1 :: nat_lit 0 :: nat_lit 0 :: nat_lit 0 :: nat_lit 0 :: nat_lit 0 :: nat_lit 0 :: nat_lit 0 :: nat_lit 2 :: nat_lit 0 :: nat_lit 0 :: nat_lit 5 :: nat_lit 0 :: nat_lit 2 :: nat_lit 4 :: nat_lit 4 :: nat_lit 1 :: nat_lit 3 :: nat_lit 0 :: nat_lit 2 :: nat_lit 6 :: nat_lit 0 :: nat_lit 2 :: nat_lit 6 :: nat_lit 0 :: nat_lit 2 :: nat_lit 6 :: nat_lit 0 :: nat_lit 0 :: nat_lit 0 :: nat_lit 2 :: nat_lit 0 :: nat_lit 0 :: nat_lit 0 :: nat_lit 0 :: nat_lit 5 :: []
def de_2z_T_0 : List (Tk ⊕ (Nat × List (Nat × Nat × Nat))) := .inl (.lo (nat_lit 0)) :: .inr (0, []) :: .inl .b :: .inl (.lb (nat_lit 0)) :: .inl (.lb (nat_lit 0)) :: .inl .b :: .inl .b :: .inl (.lb (nat_lit 0)) :: .inl (.lb (nat_lit 0)) :: .inl (.lb (nat_lit 1)) :: .inl (.lb (nat_lit 1)) :: .inl .b :: .inl (.lb (nat_lit 0)) :: .inl .b :: .inl .b :: .inl .b :: .inl .b :: .inl (.lb (nat_lit 0)) :: .inl (.lb (nat_lit 0)) :: .inl (.lb (nat_lit 1)) :: .inl (.lb (nat_lit 1)) :: .inr (1, [(3, 0, 0), (7, 0, 0), (8, 0, 0), (33, 0, 0), (2, 0, 0)]) :: .inl (.lb (nat_lit 19)) :: .inl .b :: .inl .b :: .inl (.lb (nat_lit 1)) :: .inr (2, [(0, 0, 0), (10, 0, 0), (4, 0, 0), (21, 0, 0), (22, 0, 0), (47, 0, 0), (2, 0, 0), (7, 0, 0), (8, 0, 0), (3, 0, 0)]) :: .inr (3, [(270, 0, 0), (1, 0, 0), (10, 0, 0), (15, 0, 0), (45, 0, 0), (49, 0, 0), (260, 0, 0), (281, 0, 0), (282, 0, 0), (152, 0, 0), (166, 0, 0), (169, 0, 0), (180, 0, 0), (202, 0, 0), (262, 0, 0), (14, 0, 0), (48, 0, 0), (9, 0, 0), (0, 0, 0), (47, 0, 0), (35, 0, 0), (30, 0, 0), (37, 0, 0), (29, 0, 0), (307, 0, 0)]) :: .inr (4, [(1, 0, 0), (25, 0, 0), (294, 0, 0), (34, 0, 0), (39, 0, 0), (69, 0, 0), (73, 0, 0), (284, 0, 0), (305, 0, 0), (306, 0, 0), (3, 0, 0), (8, 0, 0), (16, 0, 0), (176, 0, 0), (190, 0, 0), (193, 0, 0), (226, 0, 0), (286, 0, 0), (71, 0, 0), (0, 0, 0), (59, 0, 0), (54, 0, 0), (61, 0, 0), (38, 0, 0), (72, 0, 0), (33, 0, 0), (24, 0, 0), (204, 0, 0), (53, 0, 0), (331, 0, 0)]) :: .inr (5, [(387, 0, 0), (6, 0, 0), (132, 0, 0), (377, 0, 0), (398, 0, 0), (399, 0, 0), (0, 0, 0), (269, 0, 0), (283, 0, 0), (286, 0, 0), (319, 0, 0), (379, 0, 0), (131, 0, 0), (24, 0, 0), (23, 0, 0), (127, 0, 0), (126, 0, 0), (5, 0, 0), (297, 0, 0), (146, 0, 0), (424, 0, 0)]) :: .inr (6, [(387, 0, 0), (6, 0, 0), (132, 0, 0), (377, 0, 0), (398, 0, 0), (399, 0, 0), (0, 0, 0), (269, 0, 0), (283, 0, 0), (286, 0, 0), (319, 0, 0), (379, 0, 0), (131, 0, 0), (24, 0, 0), (23, 0, 0), (127, 0, 0), (126, 0, 0), (5, 0, 0), (297, 0, 0), (146, 0, 0), (424, 0, 0)]) :: .inl (.lb (nat_lit 444)) :: .inl (.lb (nat_lit 444)) :: .inl .b :: .inl (.lb (nat_lit 0)) :: .inl (.lb (nat_lit 466)) :: .inl (.lb (nat_lit 0)) :: .inr (7, [(4, 0, 0), (455, 0, 0), (467, 0, 0), (56, 0, 0), (351, 0, 0), (3, 0, 0), (34, 0, 0)]) :: .inl .b :: .inl .b :: .inl (.lb (nat_lit 0)) :: .inl (.lb (nat_lit 0)) :: .inl (.lb (nat_lit 1)) :: .inl (.lb (nat_lit 0)) :: .inl (.lb (nat_lit 1)) :: .inl (.lb (nat_lit 0)) :: .inl (.lb (nat_lit 1)) :: .inl (.lb (nat_lit 1)) :: .inl (.lb (nat_lit 476)) :: .inl .b :: .inl (.lb (nat_lit 0)) :: .inl (.lb (nat_lit 0)) :: .inl .b :: .inl .b :: .inl (.lb (nat_lit 6)) :: .inl .b :: .inl (.lb (nat_lit 0)) :: .inl (.lb (nat_lit 0)) :: .inl (.lb (nat_lit 2)) :: .inl (.lb (nat_lit 2)) :: .inl (.lb (nat_lit 1)) :: .inl (.lb (nat_lit 1)) :: .inl .b :: .inl (.lb (nat_lit 0)) :: .inl (.lb (nat_lit 0)) :: .inl (.lb (nat_lit 4)) :: .inl (.lb (nat_lit 0)) :: .inl (.lb (nat_lit 4)) :: .inl (.lb (nat_lit 0)) :: .inl (.lb (nat_lit 4)) :: .inl (.lb (nat_lit 0)) :: .inl (.lb (nat_lit 481)) :: .inl .b :: .inl (.lb (nat_lit 0)) :: .inl (.lb (nat_lit 0)) :: .inl .b :: .inl .b :: .inl (.lb (nat_lit 11)) :: .inl .b :: .inl (.lb (nat_lit 0)) :: .inl (.lb (nat_lit 0)) :: .inl (.lb (nat_lit 2)) :: .inl (.lb (nat_lit 2)) :: .inl (.lb (nat_lit 1)) :: .inl (.lb (nat_lit 1)) :: .inl .b :: .inl (.lb (nat_lit 0)) :: .inl (.lb (nat_lit 0)) :: .inl (.lb (nat_lit 4)) :: .inl (.lb (nat_lit 0)) :: .inl (.lb (nat_lit 4)) :: .inl (.lb (nat_lit 0)) :: .inl (.lb (nat_lit 4)) :: .inl (.lb (nat_lit 0)) :: []
theorem de_2z_main (kind b : Int) : EF Sagg.prog (de_2z_specs kind b) 300 60 [] 4 #[.int .u8 kind, .int .u8 0] (fun v _ _ => v = .bool true) ⟨[], []⟩ de_2z_H_0
  = buildC (de_2z_cs kind b) [Told Sagg.prog .rem 5 (.int .u8 kind) (.int .u8 8) (toldV 2 2)] (fun _ => Value.bool true = .bool true) de_2z_T_0 [] := by kernel_rfl
theorem de_2z_calls (kind b : Int) (hk : kind.tmod 8 = Int.ofNat 2) (w : World) :
    Calls Sagg.prog 4 #[.int .u8 kind, .int .u8 0] w fun e w' => e = .returned (.bool true) ∧ Below w.heap.size w w' := by
  have hcs : ∀ c ∈ de_2z_cs kind b, c.Good := by
    unfold de_2z_cs
    simp only [List.forall_mem_cons]
    exact ⟨de_u32_ran,
      de_u33_ran,
      de_u34_ran,
      de_u35_ran,
      de_u36_ran,
      de_u37_ran,
      de_u38_ran,
      de_u39_ran, fun c hc => by cases hc⟩
  have hsp : ∀ p ∈ de_2z_specs kind b, SpecOK p.1 p.2 := by
    intro p hp
    unfold de_2z_specs at hp
    rcases List.mem_cons.1 hp with rfl | hp
    · exact chX_ok hcs
    rcases List.mem_cons.1 hp with rfl | hp
    · exact chX_ok hcs
    rcases List.mem_cons.1 hp with rfl | hp
    · exact chX_ok hcs
    rcases List.mem_cons.1 hp with rfl | hp
    · exact chX_ok hcs
    rcases List.mem_cons.1 hp with rfl | hp
    · exact chX_ok hcs
    rcases List.mem_cons.1 hp with rfl | hp
    · exact chX_ok hcs
    exact desSpecs_ok p hp
  have hrun : EF Sagg.prog (de_2z_specs kind b) 300 60 [] 4 #[.int .u8 kind, .int .u8 0] (fun v _ _ => v = .bool true) ⟨[], []⟩ de_2z_H_0 := by
    refine of_eq (de_2z_main kind b) ?_
    refine buildC_ok ?_ (fun _ => rfl) _ _ (by kernel_rfl)
    exact (ho_cons (told_rem8 hk) ho_nil)
  refine (closed (S := fun _ => False) hsp (fun b hb => hb.elim) hrun (fun p hp => by cases hp)).mono ?_
  rintro e w' ⟨v, s', H', rfl, rfl, hi⟩
  exact ⟨rfl, hi.below⟩
end Go.Proofs.EX
