/-
  'DestructRight': the run of one case, its parts being chunks.
-/
import Derived.Test.YgcsagGreatDes6
import Derived.Test.YgcsagGreatDes8
import Derived.Test.YgcsagGreatDes9
namespace Go.Proofs.EX
open Go.RowKit Go.Proofs.YgcsagGreat
set_option linter.unusedVariables false
set_option linter.unusedSimpArgs false
set_option maxRecDepth 100000
noncomputable def de_3z_cs (kind b : Int) : List Ch := [de_u48 kind b, de_u49 kind b, de_u50 kind b, de_u51 kind b, de_u52 kind b, de_u53 kind b, de_u54 kind b, de_u39 kind b]
noncomputable def de_3z_specs (kind b : Int) : List (FuncId × Spec) := (44, chX 44 (de_3z_cs kind b)) :: (31, chX 31 (de_3z_cs kind b)) :: (43, chX 43 (de_3z_cs kind b)) :: (45, chX 45 (de_3z_cs kind b)) :: (16, chX 16 (de_3z_cs kind b)) :: (18, chX 18 (de_3z_cs kind b)) :: desSpecs
def de_3z_H_0 : List Nat := nat_lit 100000 :: nat_lit 3 :: nat_lit 3 :: nat_lit 0 :: nat_lit 0 :: nat_lit 0 :: nat_lit 0 :: nat_lit 0 :: nat_lit 0 :: nat_lit 0 :: nat_lit 0 :: nat_lit 0 :: nat_lit 1 :: nat_lit 1 :: nat_lit 0 :: nat_lit 0 :: nat_lit 0 :: nat_lit 0 :: nat_lit 0 :: nat_lit 0 :: nat_lit 0 :: nat_lit 1 :: nat_lit 1 :: nat_lit 1 :: nat_lit 9 :: nat_lit 0 :: nat_lit 0 :: nat_lit 1 :: nat_lit 0 :: nat_lit 0 :: nat_lit 3 :: nat_lit 0 :: nat_lit 0 :: nat_lit 0 :: nat_lit 0 :: nat_lit 9 :: nat_lit 0 :: nat_lit 1 :: nat_lit 2 :: nat_lit 8 :: nat_lit 1 :: nat_lit 2 :: nat_lit 0 :: nat_lit 0 :: nat_lit 0 :: nat_lit 0 :: nat_lit 0 :: nat_lit 0 :: nat_lit 0 :: nat_lit 3 :: nat_lit 10 :: nat_lit 2 :: nat_lit 0 :: nat_lit 0 :: nat_lit 0 :: nat_lit 0 :: nat_lit 0 :: nat_lit 0 :: nat_lit 1 :: nat_lit 0 :: nat_lit 0 :: nat_lit 2 :: nat_lit 0 :: nat_lit 1 :: nat_lit 4 :: nat_lit 2 :: nat_lit 1 :: nat_lit 1 :: nat_lit 2 :: nat_lit 2 :: nat_lit 0 :: nat_lit 5 :: nat_lit 8 :: nat_lit 1 :: nat_lit 0 :: nat_lit 1 :: nat_lit 0 :: nat_lit 0 :: nat_lit 0 :: nat_lit 0 :: nat_lit 0 :: nat_lit 4 :: nat_lit 1 :: nat_lit 0 :: nat_lit 0 :: nat_lit 0 :: nat_lit 6 :: nat_lit 0 :: nat_lit 16 :: nat_lit 16 :: nat_lit 0 :: nat_lit 2 :: nat_lit 18 :: nat_lit 0 :: nat_lit 6 :: nat_lit 6 :: nat_lit 0 :: nat_lit 0 :: nat_lit 0 :: nat_lit 0 :: nat_lit 1 :: nat_lit 1 :: nat_lit 0 :: nat_lit 2 :: nat_lit 1 :: nat_lit 3 :: nat_lit 7 :: nat_lit 15 :: nat_lit 0 :: nat_lit 0 :: nat_lit 0 :: nat_lit 1 :: nat_lit 0 :: nat_lit 0 :: nat_lit 0 :: nat_lit 0 :: nat_lit 0 :: nat_lit 0 :: nat_lit 1 :: nat_lit 0 :: nat_lit 0 :: nat_lit 0 :: nat_lit 0 :: nat_lit 1 :: nat_lit 1 :: nat_lit 1 :: nat_lit 4 :: nat_lit 100000 :: nat_lit 2 :: nat_lit 0 :: nat_lit 2 :: nat_lit 0 :: nat_lit 3 :: nat_lit 0 :: nat_lit 2 :: nat_lit 3 :: nat_lit 0 :: nat_lit 2 :: nat_lit 3 :: nat_lit 0 :: nat_lit 0 :: nat_lit 0 :: nat_lit 3 :: nat_lit 0 :: nat_lit 12 :: nat_lit 0 :: nat_lit 2 :: nat_lit 0 :: nat_lit 7 :: nat_lit 0 :: nat_lit 2 :: nat_lit 4 :: nat_lit 4 :: nat_lit 1 :: nat_lit 3 :: nat_lit 0 :: nat_lit 2 :: nat_lit 6 :: nat_lit 0 :: nat_lit 2 :: nat_lit 6 :: nat_lit 0 :: nat_lit 2 :: nat_lit 6 :: nat_lit 0 :: nat_lit 0 :: nat_lit 0 :: nat_lit 2 :: nat_lit 0 :: nat_lit 0 :: nat_lit 0 :: nat_lit 17 :: nat_lit 0 :: nat_lit 2 :: nat_lit 15 :: nat_lit 1 :: nat_lit 0 :: nat_lit 0 :: nat_lit 0 :: nat_lit 0 :: nat_lit 0 :: nat_lit 0 :: nat_lit 1 :: nat_lit 0 :: nat_lit 0 :: nat_lit 0 :: nat_lit 0 :: nat_lit 0 :: nat_lit 0 :: nat_lit 0 :: nat_lit 2 :: nat_lit 0 :: nat_lit 0 :: nat_lit 5 :: nat_lit 0 :: nat_lit 2 :: nat_lit 4 :: nat_lit 4 :: nat_lit 1 :: nat_lit 3 :: nat_lit 0 :: nat_lit 2 :: nat_lit 6 :: nat_lit 0 :: nat_lit 2 :: nat_lit 6 :: nat_lit 0 :: nat_lit 2 :: nat_lit 6 :: nat_lit 0 :: nat_lit 0 :: nat_lit 0 :: nat_lit 2 :: nat_lit 0 :: nat_lit 0 :: nat_lit 0 :: nat_lit 0 :: nat_lit 5 :: []
def de_3z_T_0 : List (Tk ⊕ (Nat × List (Nat × Nat × Nat))) := .inl (.lo (nat_lit 0)) :: .inr (0, []) :: .inl .b :: .inl (.lb (nat_lit 0)) :: .inl (.lb (nat_lit 0)) :: .inl .b :: .inl .b :: .inl (.lb (nat_lit 0)) :: .inl (.lb (nat_lit 0)) :: .inl (.lb (nat_lit 1)) :: .inl (.lb (nat_lit 1)) :: .inl .b :: .inl (.lb (nat_lit 0)) :: .inl .b :: .inl .b :: .inl .b :: .inl .b :: .inl (.lb (nat_lit 0)) :: .inl (.lb (nat_lit 0)) :: .inl (.lb (nat_lit 1)) :: .inl (.lb (nat_lit 1)) :: .inr (1, [(3, 0, 0), (7, 0, 0), (8, 0, 0), (10, 0, 0), (2, 0, 0)]) :: .inl (.lb (nat_lit 19)) :: .inl .b :: .inl .b :: .inl (.lb (nat_lit 1)) :: .inr (2, [(0, 0, 0), (10, 0, 0), (4, 0, 0), (21, 0, 0), (22, 0, 0), (24, 0, 0), (2, 0, 0), (7, 0, 0), (8, 0, 0), (3, 0, 0)]) :: .inr (3, [(270, 0, 0), (1, 0, 0), (10, 0, 0), (15, 0, 0), (45, 0, 0), (49, 0, 0), (260, 0, 0), (281, 0, 0), (282, 0, 0), (29, 0, 0), (152, 0, 0), (166, 0, 0), (169, 0, 0), (180, 0, 0), (202, 0, 0), (262, 0, 0), (14, 0, 0), (48, 0, 0), (9, 0, 0), (0, 0, 0), (47, 0, 0), (35, 0, 0), (30, 0, 0), (37, 0, 0), (284, 0, 0)]) :: .inr (4, [(1, 0, 0), (21, 0, 0), (290, 0, 0), (30, 0, 0), (35, 0, 0), (65, 0, 0), (69, 0, 0), (280, 0, 0), (301, 0, 0), (302, 0, 0), (3, 0, 0), (4, 0, 0), (12, 0, 0), (49, 0, 0), (172, 0, 0), (186, 0, 0), (189, 0, 0), (222, 0, 0), (282, 0, 0), (67, 0, 0), (0, 0, 0), (55, 0, 0), (50, 0, 0), (57, 0, 0), (34, 0, 0), (68, 0, 0), (29, 0, 0), (20, 0, 0), (200, 0, 0), (304, 0, 0)]) :: .inr (5, [(337, 0, 0), (6, 0, 0), (82, 0, 0), (327, 0, 0), (348, 0, 0), (349, 0, 0), (0, 0, 0), (219, 0, 0), (233, 0, 0), (236, 0, 0), (269, 0, 0), (329, 0, 0), (81, 0, 0), (116, 0, 0), (115, 0, 0), (77, 0, 0), (76, 0, 0), (5, 0, 0), (247, 0, 0), (96, 0, 0), (351, 0, 0)]) :: .inr (6, [(337, 0, 0), (6, 0, 0), (82, 0, 0), (327, 0, 0), (348, 0, 0), (349, 0, 0), (0, 0, 0), (219, 0, 0), (233, 0, 0), (236, 0, 0), (269, 0, 0), (329, 0, 0), (81, 0, 0), (116, 0, 0), (115, 0, 0), (77, 0, 0), (76, 0, 0), (5, 0, 0), (247, 0, 0), (96, 0, 0), (351, 0, 0)]) :: .inl (.lb (nat_lit 394)) :: .inl (.lb (nat_lit 394)) :: .inl .b :: .inl (.lb (nat_lit 0)) :: .inl (.lb (nat_lit 416)) :: .inl (.lb (nat_lit 0)) :: .inr (7, [(4, 0, 0), (405, 0, 0), (417, 0, 0), (56, 0, 0), (301, 0, 0), (3, 0, 0), (34, 0, 0)]) :: .inl .b :: .inl .b :: .inl (.lb (nat_lit 0)) :: .inl (.lb (nat_lit 0)) :: .inl (.lb (nat_lit 1)) :: .inl (.lb (nat_lit 0)) :: .inl (.lb (nat_lit 1)) :: .inl (.lb (nat_lit 0)) :: .inl (.lb (nat_lit 1)) :: .inl (.lb (nat_lit 1)) :: .inl (.lb (nat_lit 426)) :: .inl .b :: .inl (.lb (nat_lit 0)) :: .inl (.lb (nat_lit 0)) :: .inl .b :: .inl .b :: .inl (.lb (nat_lit 6)) :: .inl .b :: .inl (.lb (nat_lit 0)) :: .inl (.lb (nat_lit 0)) :: .inl (.lb (nat_lit 2)) :: .inl (.lb (nat_lit 2)) :: .inl (.lb (nat_lit 1)) :: .inl (.lb (nat_lit 1)) :: .inl .b :: .inl (.lb (nat_lit 0)) :: .inl (.lb (nat_lit 0)) :: .inl (.lb (nat_lit 4)) :: .inl (.lb (nat_lit 0)) :: .inl (.lb (nat_lit 4)) :: .inl (.lb (nat_lit 0)) :: .inl (.lb (nat_lit 4)) :: .inl (.lb (nat_lit 0)) :: .inl (.lb (nat_lit 431)) :: .inl .b :: .inl (.lb (nat_lit 0)) :: .inl (.lb (nat_lit 0)) :: .inl .b :: .inl .b :: .inl (.lb (nat_lit 11)) :: .inl .b :: .inl (.lb (nat_lit 0)) :: .inl (.lb (nat_lit 0)) :: .inl (.lb (nat_lit 2)) :: .inl (.lb (nat_lit 2)) :: .inl (.lb (nat_lit 1)) :: .inl (.lb (nat_lit 1)) :: .inl .b :: .inl (.lb (nat_lit 0)) :: .inl (.lb (nat_lit 0)) :: .inl (.lb (nat_lit 4)) :: .inl (.lb (nat_lit 0)) :: .inl (.lb (nat_lit 4)) :: .inl (.lb (nat_lit 0)) :: .inl (.lb (nat_lit 4)) :: .inl (.lb (nat_lit 0)) :: []
theorem de_3z_main (kind b : Int) : EF Sagg.prog (de_3z_specs kind b) 300 60 [] 4 #[.int .u8 kind, .int .u8 0] (fun v _ _ => v = .bool true) ⟨[], []⟩ de_3z_H_0
  = buildC (de_3z_cs kind b) [Told Sagg.prog .rem 5 (.int .u8 kind) (.int .u8 8) (toldV 2 3)] (fun _ => Value.bool true = .bool true) de_3z_T_0 [] := by kernel_rfl
theorem de_3z_calls (kind b : Int) (hk : kind.tmod 8 = Int.ofNat 3) (w : World) :
    Calls Sagg.prog 4 #[.int .u8 kind, .int .u8 0] w fun e w' => e = .returned (.bool true) ∧ Below w.heap.size w w' := by
  have hcs : ∀ c ∈ de_3z_cs kind b, c.Good := by
    unfold de_3z_cs
    simp only [List.forall_mem_cons]
    exact ⟨de_u48_ran,
      de_u49_ran,
      de_u50_ran,
      de_u51_ran,
      de_u52_ran,
      de_u53_ran,
      de_u54_ran,
      de_u39_ran, fun c hc => by cases hc⟩
  have hsp : ∀ p ∈ de_3z_specs kind b, SpecOK p.1 p.2 := by
    intro p hp
    unfold de_3z_specs at hp
    rcases List.mem_cons.1 hp with rfl | hp
    · exact chX_ok hcs
    rcases List.mem_cons.1 hp with rfl | hp
    · exact chX_ok hcs
    rcases List.mem_cons.1 hp with rfl | hp
    · exact chX_ok hcs
    rcases List.mem_cons.1 hp with rfl | hp
    · exact chX_ok hcs
    rcases List.mem_cons.1 hp with rfl | hp
    · exact chX_ok hcs
    rcases List.mem_cons.1 hp with rfl | hp
    · exact chX_ok hcs
    exact desSpecs_ok p hp
  have hrun : EF Sagg.prog (de_3z_specs kind b) 300 60 [] 4 #[.int .u8 kind, .int .u8 0] (fun v _ _ => v = .bool true) ⟨[], []⟩ de_3z_H_0 := by
    refine of_eq (de_3z_main kind b) ?_
    refine buildC_ok ?_ (fun _ => rfl) _ _ (by kernel_rfl)
    exact (ho_cons (told_rem8 hk) ho_nil)
  refine (closed (S := fun _ => False) hsp (fun b hb => hb.elim) hrun (fun p hp => by cases hp)).mono ?_
  rintro e w' ⟨v, s', H', rfl, rfl, hi⟩
  exact ⟨rfl, hi.below⟩
end Go.Proofs.EX
