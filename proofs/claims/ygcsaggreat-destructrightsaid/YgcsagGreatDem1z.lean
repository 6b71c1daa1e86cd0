/-
  'DestructRight': the run of one case, its parts being chunks.
-/
import Derived.Test.YgcsagGreatDes2
import Derived.Test.YgcsagGreatDes3
namespace Go.Proofs.EX
open Go.RowKit Go.Proofs.YgcsagGreat
set_option linter.unusedVariables false
set_option linter.unusedSimpArgs false
set_option maxRecDepth 100000
noncomputable def de_1z_cs (kind b : Int) : List Ch := [de_u16 kind b, de_u17 kind b, de_u18 kind b, de_u19 kind b, de_u20 kind b, de_u21 kind b, de_u22 kind b, de_u23 kind b]
noncomputable def de_1z_specs (kind b : Int) : List (FuncId × Spec) := (44, chX 44 (de_1z_cs kind b)) :: (31, chX 31 (de_1z_cs kind b)) :: (43, chX 43 (de_1z_cs kind b)) :: (45, chX 45 (de_1z_cs kind b)) :: (16, chX 16 (de_1z_cs kind b)) :: (18, chX 18 (de_1z_cs kind b)) :: desSpecs
def de_1z_H_0 : List Nat := nat_lit 100000 :: nat_lit 3 :: nat_lit 1 :: nat_lit 0 :: nat_lit 0 :: nat_lit 0 :: nat_lit 0 :: nat_lit 13 :: nat_lit 1 :: nat_lit 1 :: nat_lit 2 :: nat_lit 0 :: nat_lit 0 :: nat_lit 0 :: nat_lit 0 :: nat_lit 0 :: nat_lit 0 :: nat_lit 0 :: nat_lit 0 :: nat_lit 0 :: nat_lit 0 :: nat_lit 0 :: nat_lit 2 :: nat_lit 0 :: nat_lit 0 :: nat_lit 0 :: nat_lit 0 :: nat_lit 0 :: nat_lit 0 :: nat_lit 0 :: nat_lit 6 :: nat_lit 1 :: nat_lit 1 :: nat_lit 0 :: nat_lit 0 :: nat_lit 0 :: nat_lit 0 :: nat_lit 0 :: nat_lit 0 :: nat_lit 1 :: nat_lit 1 :: nat_lit 2 :: nat_lit 3 :: nat_lit 0 :: nat_lit 0 :: nat_lit 0 :: nat_lit 0 :: nat_lit 0 :: nat_lit 0 :: nat_lit 1 :: nat_lit 1 :: nat_lit 1 :: nat_lit 9 :: nat_lit 0 :: nat_lit 0 :: nat_lit 1 :: nat_lit 0 :: nat_lit 0 :: nat_lit 0 :: nat_lit 1 :: nat_lit 0 :: nat_lit 2 :: nat_lit 0 :: nat_lit 14 :: nat_lit 11 :: nat_lit 2 :: nat_lit 0 :: nat_lit 0 :: nat_lit 0 :: nat_lit 0 :: nat_lit 0 :: nat_lit 1 :: nat_lit 0 :: nat_lit 0 :: nat_lit 0 :: nat_lit 0 :: nat_lit 1 :: nat_lit 3 :: nat_lit 1 :: nat_lit 2 :: nat_lit 1 :: nat_lit 1 :: nat_lit 0 :: nat_lit 3 :: nat_lit 11 :: nat_lit 2 :: nat_lit 0 :: nat_lit 0 :: nat_lit 0 :: nat_lit 0 :: nat_lit 0 :: nat_lit 0 :: nat_lit 0 :: nat_lit 0 :: nat_lit 0 :: nat_lit 0 :: nat_lit 2 :: nat_lit 0 :: nat_lit 0 :: nat_lit 4 :: nat_lit 2 :: nat_lit 1 :: nat_lit 1 :: nat_lit 2 :: nat_lit 2 :: nat_lit 0 :: nat_lit 5 :: nat_lit 3 :: nat_lit 1 :: nat_lit 0 :: nat_lit 0 :: nat_lit 0 :: nat_lit 6 :: nat_lit 0 :: nat_lit 5 :: nat_lit 5 :: nat_lit 0 :: nat_lit 2 :: nat_lit 8 :: nat_lit 0 :: nat_lit 6 :: nat_lit 6 :: nat_lit 0 :: nat_lit 0 :: nat_lit 0 :: nat_lit 0 :: nat_lit 1 :: nat_lit 1 :: nat_lit 0 :: nat_lit 2 :: nat_lit 1 :: nat_lit 3 :: nat_lit 7 :: nat_lit 0 :: nat_lit 1 :: nat_lit 4 :: nat_lit 100000 :: nat_lit 2 :: nat_lit 0 :: nat_lit 2 :: nat_lit 0 :: nat_lit 3 :: nat_lit 0 :: nat_lit 2 :: nat_lit 3 :: nat_lit 0 :: nat_lit 2 :: nat_lit 3 :: nat_lit 0 :: nat_lit 0 :: nat_lit 0 :: nat_lit 3 :: nat_lit 0 :: nat_lit 11 :: nat_lit 0 :: nat_lit 2 :: nat_lit 0 :: nat_lit 7 :: nat_lit 0 :: nat_lit 2 :: nat_lit 4 :: nat_lit 2 :: nat_lit 1 :: nat_lit 3 :: nat_lit 0 :: nat_lit 2 :: nat_lit 6 :: nat_lit 0 :: nat_lit 2 :: nat_lit 6 :: nat_lit 0 :: nat_lit 2 :: nat_lit 6 :: nat_lit 15 :: nat_lit 17 :: nat_lit 0 :: nat_lit 0 :: nat_lit 0 :: nat_lit 2 :: nat_lit 0 :: nat_lit 0 :: nat_lit 0 :: nat_lit 16 :: nat_lit 0 :: nat_lit 2 :: nat_lit 15 :: nat_lit 1 :: nat_lit 0 :: nat_lit 0 :: nat_lit 0 :: nat_lit 0 :: nat_lit 0 :: nat_lit 0 :: nat_lit 1 :: nat_lit 0 :: nat_lit 0 :: nat_lit 0 :: nat_lit 0 :: nat_lit 0 :: nat_lit 0 :: nat_lit 0 :: nat_lit 2 :: nat_lit 0 :: nat_lit 0 :: nat_lit 5 :: nat_lit 0 :: nat_lit 2 :: nat_lit 4 :: nat_lit 6 :: nat_lit 0 :: nat_lit 2 :: nat_lit 5 :: nat_lit 5 :: nat_lit 2 :: nat_lit 4 :: nat_lit 0 :: nat_lit 2 :: nat_lit 7 :: nat_lit 0 :: nat_lit 2 :: nat_lit 7 :: nat_lit 0 :: nat_lit 2 :: nat_lit 7 :: nat_lit 0 :: nat_lit 0 :: nat_lit 0 :: nat_lit 2 :: nat_lit 0 :: nat_lit 0 :: nat_lit 0 :: nat_lit 0 :: nat_lit 5 :: []
def de_1z_T_0 : List (Tk ⊕ (Nat × List (Nat × Nat × Nat))) := .inl (.lo (nat_lit 0)) :: .inr (0, []) :: .inl .b :: .inl (.lb (nat_lit 0)) :: .inl (.lb (nat_lit 0)) :: .inl (.lb (nat_lit 3)) :: .inl .b :: .inl (.lb (nat_lit 0)) :: .inl (.lb (nat_lit 0)) :: .inl .b :: .inl (.lb (nat_lit 0)) :: .inl .b :: .inl (.lb (nat_lit 0)) :: .inl (.lb (nat_lit 7)) :: .inl (.lb (nat_lit 1)) :: .inl (.lb (nat_lit 1)) :: .inl .b :: .inl (.lb (nat_lit 0)) :: .inl .b :: .inl .b :: .inl .b :: .inl .b :: .inl (.lb (nat_lit 0)) :: .inl (.lb (nat_lit 0)) :: .inl (.lb (nat_lit 1)) :: .inl (.lb (nat_lit 1)) :: .inl .b :: .inl (.lb (nat_lit 0)) :: .inl (.lb (nat_lit 4)) :: .inl (.lc 3 1 55) :: .inl .b :: .inl .b :: .inl .b :: .inl .b :: .inl (.lb (nat_lit 0)) :: .inl (.lb (nat_lit 0)) :: .inl (.lb (nat_lit 1)) :: .inl (.lb (nat_lit 1)) :: .inr (1, [(3, 0, 0), (10, 0, 0), (13, 0, 0), (14, 0, 0), (17, 0, 0), (16, 0, 0), (2, 0, 0)]) :: .inl (.lb (nat_lit 34)) :: .inl .b :: .inl .b :: .inl (.lb (nat_lit 1)) :: .inr (2, [(0, 0, 0), (19, 0, 0), (4, 0, 0), (15, 0, 0), (36, 0, 0), (37, 0, 0), (40, 0, 0), (2, 0, 0), (7, 0, 0), (8, 0, 0), (16, 0, 0), (17, 0, 0), (3, 0, 0), (39, 0, 0)]) :: .inr (3, [(250, 0, 0), (1, 0, 0), (25, 0, 0), (33, 0, 0), (127, 0, 0), (231, 0, 0), (246, 0, 0), (267, 0, 0), (268, 0, 0), (271, 0, 0), (145, 0, 0), (166, 0, 0), (170, 0, 0), (181, 0, 0), (192, 0, 0), (233, 0, 0), (247, 0, 0), (248, 0, 0), (126, 0, 0), (32, 0, 0), (0, 0, 0), (31, 0, 0), (20, 0, 0), (10, 0, 0), (22, 0, 0), (270, 0, 0)]) :: .inr (4, [(1, 0, 0), (21, 0, 0), (270, 0, 0), (45, 0, 0), (53, 0, 0), (147, 0, 0), (251, 0, 0), (266, 0, 0), (287, 0, 0), (288, 0, 0), (291, 0, 0), (3, 0, 0), (4, 0, 0), (12, 0, 0), (165, 0, 0), (186, 0, 0), (190, 0, 0), (212, 0, 0), (253, 0, 0), (267, 0, 0), (268, 0, 0), (51, 0, 0), (0, 0, 0), (40, 0, 0), (30, 0, 0), (42, 0, 0), (146, 0, 0), (52, 0, 0), (20, 0, 0), (201, 0, 0), (290, 0, 0)]) :: .inr (5, [(298, 0, 0), (175, 0, 0), (279, 0, 0), (294, 0, 0), (315, 0, 0), (316, 0, 0), (319, 0, 0), (12, 0, 0), (193, 0, 0), (214, 0, 0), (218, 0, 0), (240, 0, 0), (281, 0, 0), (295, 0, 0), (296, 0, 0), (174, 0, 0), (81, 0, 0), (80, 0, 0), (229, 0, 0), (318, 0, 0)]) :: .inr (6, [(298, 0, 0), (175, 0, 0), (279, 0, 0), (294, 0, 0), (315, 0, 0), (316, 0, 0), (319, 0, 0), (12, 0, 0), (193, 0, 0), (214, 0, 0), (218, 0, 0), (240, 0, 0), (281, 0, 0), (295, 0, 0), (296, 0, 0), (174, 0, 0), (81, 0, 0), (80, 0, 0), (229, 0, 0), (318, 0, 0)]) :: .inl (.lb (nat_lit 339)) :: .inl (.lb (nat_lit 339)) :: .inl .b :: .inl (.lb (nat_lit 0)) :: .inl (.lb (nat_lit 376)) :: .inl (.lb (nat_lit 0)) :: .inr (7, [(1, 0, 0), (359, 0, 0), (2, 0, 0), (4, 0, 0), (60, 0, 0), (340, 0, 0), (355, 0, 0), (377, 0, 0), (380, 0, 0), (48, 0, 0), (55, 0, 0), (275, 0, 0), (356, 0, 0), (357, 0, 0), (3, 0, 0), (142, 0, 0), (141, 0, 0), (301, 0, 0), (290, 0, 0), (73, 0, 0), (279, 0, 0), (23, 0, 0)]) :: .inl .b :: .inl .b :: .inl (.lb (nat_lit 0)) :: .inl (.lb (nat_lit 0)) :: .inl (.lb (nat_lit 1)) :: .inl (.lb (nat_lit 0)) :: .inl (.lb (nat_lit 1)) :: .inl (.lb (nat_lit 0)) :: .inl (.lb (nat_lit 1)) :: .inl (.lb (nat_lit 1)) :: .inl (.lb (nat_lit 394)) :: .inl .b :: .inl (.lb (nat_lit 0)) :: .inl (.lb (nat_lit 0)) :: .inl .b :: .inl .b :: .inl (.lb (nat_lit 6)) :: .inl .b :: .inl (.lb (nat_lit 0)) :: .inl (.lb (nat_lit 0)) :: .inl (.lb (nat_lit 2)) :: .inl (.lb (nat_lit 0)) :: .inl (.lb (nat_lit 1)) :: .inl (.lb (nat_lit 1)) :: .inl .b :: .inl (.lb (nat_lit 0)) :: .inl (.lb (nat_lit 0)) :: .inl (.lb (nat_lit 4)) :: .inl (.lb (nat_lit 0)) :: .inl (.lb (nat_lit 4)) :: .inl (.lb (nat_lit 0)) :: .inl (.lb (nat_lit 4)) :: .inl (.lb (nat_lit 18)) :: .inl (.lb (nat_lit 402)) :: .inl (.lb (nat_lit 0)) :: .inl (.lb (nat_lit 399)) :: .inl .b :: .inl (.lb (nat_lit 0)) :: .inl (.lb (nat_lit 0)) :: .inl .b :: .inl .b :: .inl (.lb (nat_lit 11)) :: .inl .b :: .inl (.lb (nat_lit 0)) :: .inl (.lb (nat_lit 0)) :: .inl (.lb (nat_lit 2)) :: .inl (.lb (nat_lit 12)) :: .inl .b :: .inl (.lb (nat_lit 0)) :: .inl (.lb (nat_lit 0)) :: .inl (.lb (nat_lit 3)) :: .inl (.lb (nat_lit 3)) :: .inl (.lb (nat_lit 2)) :: .inl (.lb (nat_lit 2)) :: .inl .b :: .inl (.lb (nat_lit 0)) :: .inl (.lb (nat_lit 0)) :: .inl (.lb (nat_lit 5)) :: .inl (.lb (nat_lit 0)) :: .inl (.lb (nat_lit 5)) :: .inl (.lb (nat_lit 0)) :: .inl (.lb (nat_lit 5)) :: .inl (.lb (nat_lit 0)) :: []
theorem de_1z_main (kind b : Int) : EF Sagg.prog (de_1z_specs kind b) 300 60 [] 4 #[.int .u8 kind, .int .u8 0] (fun v _ _ => v = .bool true) ⟨[], []⟩ de_1z_H_0
  = buildC (de_1z_cs kind b) [Told Sagg.prog .rem 5 (.int .u8 kind) (.int .u8 8) (toldV 2 1)] (fun _ => Value.bool true = .bool true) de_1z_T_0 [] := by kernel_rfl
theorem de_1z_calls (kind b : Int) (hk : kind.tmod 8 = Int.ofNat 1) (w : World) :
    Calls Sagg.prog 4 #[.int .u8 kind, .int .u8 0] w fun e w' => e = .returned (.bool true) ∧ Below w.heap.size w w' := by
  have hcs : ∀ c ∈ de_1z_cs kind b, c.Good := by
    unfold de_1z_cs
    simp only [List.forall_mem_cons]
    exact ⟨de_u16_ran,
      de_u17_ran,
      de_u18_ran,
      de_u19_ran,
      de_u20_ran,
      de_u21_ran,
      de_u22_ran,
      de_u23_ran, fun c hc => by cases hc⟩
  have hsp : ∀ p ∈ de_1z_specs kind b, SpecOK p.1 p.2 := by
    intro p hp
    unfold de_1z_specs at hp
    rcases List.mem_cons.1 hp with rfl | hp
    · exact chX_ok hcs
    rcases List.mem_cons.1 hp with rfl | hp
    · exact chX_ok hcs
    rcases List.mem_cons.1 hp with rfl | hp
    · exact chX_ok hcs
    rcases List.mem_cons.1 hp with rfl | hp
    · exact chX_ok hcs
    rcases List.mem_cons.1 hp with rfl | hp
    · exact chX_ok hcs
    rcases List.mem_cons.1 hp with rfl | hp
    · exact chX_ok hcs
    exact desSpecs_ok p hp
  have hrun : EF Sagg.prog (de_1z_specs kind b) 300 60 [] 4 #[.int .u8 kind, .int .u8 0] (fun v _ _ => v = .bool true) ⟨[], []⟩ de_1z_H_0 := by
    refine of_eq (de_1z_main kind b) ?_
    refine buildC_ok ?_ (fun _ => rfl) _ _ (by kernel_rfl)
    exact (ho_cons (told_rem8 hk) ho_nil)
  refine (closed (S := fun _ => False) hsp (fun b hb => hb.elim) hrun (fun p hp => by cases hp)).mono ?_
  rintro e w' ⟨v, s', H', rfl, rfl, hi⟩
  exact ⟨rfl, hi.below⟩
end Go.Proofs.EX
