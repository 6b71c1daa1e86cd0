/-
  'DestructRight': the run of one case, its parts being chunks.
-/
import Derived.Test.YgcsagGreatDes0
import Derived.Test.YgcsagGreatDes1
namespace Go.Proofs.EX
open Go.RowKit Go.Proofs.YgcsagGreat
set_option linter.unusedVariables false
set_option linter.unusedSimpArgs false
set_option maxRecDepth 100000
noncomputable def de_0z_cs (kind b : Int) : List Ch := [de_u0 kind b, de_u1 kind b, de_u2 kind b, de_u3 kind b, de_u4 kind b, de_u5 kind b, de_u6 kind b, de_u7 kind b]
noncomputable def de_0z_specs (kind b : Int) : List (FuncId × Spec) := (44, chX 44 (de_0z_cs kind b)) :: (31, chX 31 (de_0z_cs kind b)) :: (43, chX 43 (de_0z_cs kind b)) :: (45, chX 45 (de_0z_cs kind b)) :: (16, chX 16 (de_0z_cs kind b)) :: (18, chX 18 (de_0z_cs kind b)) :: desSpecs
def de_0z_H_0 : List Nat := nat_lit 100000 :: nat_lit 3 :: nat_lit 0 :: nat_lit 0 :: nat_lit 0 :: nat_lit 0 :: nat_lit 0 :: nat_lit 13 :: nat_lit 3 :: nat_lit 0 :: nat_lit 0 :: nat_lit 0 :: nat_lit 0 :: nat_lit 0 :: nat_lit 0 :: nat_lit 0 :: nat_lit 0 :: nat_lit 0 :: nat_lit 0 :: nat_lit 1 :: nat_lit 0 :: nat_lit 0 :: nat_lit 2 :: nat_lit 0 :: nat_lit 0 :: nat_lit 0 :: nat_lit 0 :: nat_lit 0 :: nat_lit 0 :: nat_lit 0 :: nat_lit 6 :: nat_lit 1 :: nat_lit 1 :: nat_lit 0 :: nat_lit 0 :: nat_lit 0 :: nat_lit 0 :: nat_lit 0 :: nat_lit 0 :: nat_lit 1 :: nat_lit 1 :: nat_lit 2 :: nat_lit 3 :: nat_lit 0 :: nat_lit 0 :: nat_lit 0 :: nat_lit 0 :: nat_lit 0 :: nat_lit 0 :: nat_lit 1 :: nat_lit 1 :: nat_lit 1 :: nat_lit 9 :: nat_lit 0 :: nat_lit 0 :: nat_lit 1 :: nat_lit 0 :: nat_lit 0 :: nat_lit 0 :: nat_lit 1 :: nat_lit 0 :: nat_lit 2 :: nat_lit 0 :: nat_lit 14 :: nat_lit 11 :: nat_lit 2 :: nat_lit 0 :: nat_lit 0 :: nat_lit 0 :: nat_lit 0 :: nat_lit 0 :: nat_lit 1 :: nat_lit 0 :: nat_lit 0 :: nat_lit 0 :: nat_lit 0 :: nat_lit 1 :: nat_lit 3 :: nat_lit 1 :: nat_lit 2 :: nat_lit 1 :: nat_lit 1 :: nat_lit 0 :: nat_lit 3 :: nat_lit 11 :: nat_lit 2 :: nat_lit 0 :: nat_lit 0 :: nat_lit 0 :: nat_lit 0 :: nat_lit 0 :: nat_lit 0 :: nat_lit 0 :: nat_lit 0 :: nat_lit 0 :: nat_lit 0 :: nat_lit 2 :: nat_lit 0 :: nat_lit 0 :: nat_lit 4 :: nat_lit 3 :: nat_lit 1 :: nat_lit 1 :: nat_lit 0 :: nat_lit 5 :: nat_lit 1 :: nat_lit 0 :: nat_lit 0 :: nat_lit 1 :: nat_lit 0 :: nat_lit 5 :: nat_lit 9 :: nat_lit 1 :: nat_lit 0 :: nat_lit 0 :: nat_lit 0 :: nat_lit 0 :: nat_lit 0 :: nat_lit 0 :: nat_lit 0 :: nat_lit 0 :: nat_lit 1 :: nat_lit 0 :: nat_lit 6 :: nat_lit 0 :: nat_lit 5 :: nat_lit 5 :: nat_lit 0 :: nat_lit 2 :: nat_lit 8 :: nat_lit 0 :: nat_lit 6 :: nat_lit 6 :: nat_lit 0 :: nat_lit 0 :: nat_lit 0 :: nat_lit 0 :: nat_lit 1 :: nat_lit 1 :: nat_lit 0 :: nat_lit 2 :: nat_lit 1 :: nat_lit 3 :: nat_lit 7 :: nat_lit 0 :: nat_lit 1 :: nat_lit 4 :: nat_lit 100000 :: nat_lit 2 :: nat_lit 0 :: nat_lit 2 :: nat_lit 0 :: nat_lit 3 :: nat_lit 0 :: nat_lit 2 :: nat_lit 3 :: nat_lit 0 :: nat_lit 2 :: nat_lit 3 :: nat_lit 0 :: nat_lit 0 :: nat_lit 0 :: nat_lit 3 :: nat_lit 0 :: nat_lit 11 :: nat_lit 0 :: nat_lit 2 :: nat_lit 0 :: nat_lit 7 :: nat_lit 0 :: nat_lit 2 :: nat_lit 4 :: nat_lit 2 :: nat_lit 1 :: nat_lit 3 :: nat_lit 0 :: nat_lit 2 :: nat_lit 6 :: nat_lit 0 :: nat_lit 2 :: nat_lit 6 :: nat_lit 0 :: nat_lit 2 :: nat_lit 6 :: nat_lit 15 :: nat_lit 17 :: nat_lit 0 :: nat_lit 0 :: nat_lit 0 :: nat_lit 2 :: nat_lit 0 :: nat_lit 0 :: nat_lit 0 :: nat_lit 16 :: nat_lit 0 :: nat_lit 2 :: nat_lit 15 :: nat_lit 1 :: nat_lit 0 :: nat_lit 0 :: nat_lit 0 :: nat_lit 0 :: nat_lit 0 :: nat_lit 0 :: nat_lit 1 :: nat_lit 0 :: nat_lit 0 :: nat_lit 0 :: nat_lit 0 :: nat_lit 0 :: nat_lit 0 :: nat_lit 0 :: nat_lit 2 :: nat_lit 0 :: nat_lit 0 :: nat_lit 5 :: nat_lit 0 :: nat_lit 2 :: nat_lit 4 :: nat_lit 6 :: nat_lit 0 :: nat_lit 2 :: nat_lit 5 :: nat_lit 5 :: nat_lit 2 :: nat_lit 4 :: nat_lit 0 :: nat_lit 2 :: nat_lit 7 :: nat_lit 0 :: nat_lit 2 :: nat_lit 7 :: nat_lit 0 :: nat_lit 2 :: nat_lit 7 :: nat_lit 0 :: nat_lit 0 :: nat_lit 0 :: nat_lit 2 :: nat_lit 0 :: nat_lit 0 :: nat_lit 0 :: nat_lit 0 :: nat_lit 5 :: []
def de_0z_T_0 : List (Tk ⊕ (Nat × List (Nat × Nat × Nat))) := .inl (.lo (nat_lit 0)) :: .inr (0, []) :: .inl .b :: .inl (.lb (nat_lit 0)) :: .inl (.lb (nat_lit 0)) :: .inl (.lb (nat_lit 2)) :: .inl .b :: .inl (.lb (nat_lit 0)) :: .inl (.lb (nat_lit 0)) :: .inl .b :: .inl (.lb (nat_lit 0)) :: .inl .b :: .inl (.lb (nat_lit 0)) :: .inl (.lb (nat_lit 29)) :: .inl (.lb (nat_lit 1)) :: .inl (.lb (nat_lit 1)) :: .inl .b :: .inl (.lb (nat_lit 0)) :: .inl .b :: .inl .b :: .inl .b :: .inl .b :: .inl (.lb (nat_lit 0)) :: .inl (.lb (nat_lit 0)) :: .inl (.lb (nat_lit 1)) :: .inl (.lb (nat_lit 1)) :: .inl .b :: .inl (.lb (nat_lit 0)) :: .inl (.lb (nat_lit 4)) :: .inl (.lc 3 1 55) :: .inl .b :: .inl .b :: .inl .b :: .inl .b :: .inl (.lb (nat_lit 0)) :: .inl (.lb (nat_lit 0)) :: .inl (.lb (nat_lit 1)) :: .inl (.lb (nat_lit 1)) :: .inr (1, [(3, 0, 0), (10, 0, 0), (13, 0, 0), (14, 0, 0), (39, 0, 0), (15, 0, 0), (2, 0, 0)]) :: .inl (.lb (nat_lit 34)) :: .inl .b :: .inl .b :: .inl (.lb (nat_lit 1)) :: .inr (2, [(0, 0, 0), (19, 0, 0), (4, 0, 0), (15, 0, 0), (36, 0, 0), (37, 0, 0), (62, 0, 0), (2, 0, 0), (7, 0, 0), (8, 0, 0), (16, 0, 0), (17, 0, 0), (3, 0, 0), (38, 0, 0)]) :: .inr (3, [(250, 0, 0), (1, 0, 0), (25, 0, 0), (33, 0, 0), (127, 0, 0), (231, 0, 0), (246, 0, 0), (267, 0, 0), (268, 0, 0), (293, 0, 0), (145, 0, 0), (166, 0, 0), (170, 0, 0), (181, 0, 0), (192, 0, 0), (233, 0, 0), (247, 0, 0), (248, 0, 0), (126, 0, 0), (32, 0, 0), (0, 0, 0), (31, 0, 0), (20, 0, 0), (10, 0, 0), (22, 0, 0), (269, 0, 0)]) :: .inr (4, [(1, 0, 0), (25, 0, 0), (274, 0, 0), (49, 0, 0), (57, 0, 0), (151, 0, 0), (255, 0, 0), (270, 0, 0), (291, 0, 0), (292, 0, 0), (317, 0, 0), (3, 0, 0), (8, 0, 0), (16, 0, 0), (169, 0, 0), (190, 0, 0), (194, 0, 0), (216, 0, 0), (257, 0, 0), (271, 0, 0), (272, 0, 0), (55, 0, 0), (0, 0, 0), (44, 0, 0), (34, 0, 0), (46, 0, 0), (150, 0, 0), (56, 0, 0), (24, 0, 0), (205, 0, 0), (293, 0, 0)]) :: .inr (5, [(356, 0, 0), (233, 0, 0), (337, 0, 0), (352, 0, 0), (373, 0, 0), (374, 0, 0), (399, 0, 0), (56, 0, 0), (251, 0, 0), (272, 0, 0), (276, 0, 0), (298, 0, 0), (339, 0, 0), (353, 0, 0), (354, 0, 0), (232, 0, 0), (12, 0, 0), (11, 0, 0), (287, 0, 0), (375, 0, 0)]) :: .inr (6, [(356, 0, 0), (233, 0, 0), (337, 0, 0), (352, 0, 0), (373, 0, 0), (374, 0, 0), (399, 0, 0), (56, 0, 0), (251, 0, 0), (272, 0, 0), (276, 0, 0), (298, 0, 0), (339, 0, 0), (353, 0, 0), (354, 0, 0), (232, 0, 0), (12, 0, 0), (11, 0, 0), (287, 0, 0), (375, 0, 0)]) :: .inl (.lb (nat_lit 397)) :: .inl (.lb (nat_lit 397)) :: .inl .b :: .inl (.lb (nat_lit 0)) :: .inl (.lb (nat_lit 434)) :: .inl (.lb (nat_lit 0)) :: .inr (7, [(1, 0, 0), (417, 0, 0), (2, 0, 0), (4, 0, 0), (60, 0, 0), (398, 0, 0), (413, 0, 0), (435, 0, 0), (460, 0, 0), (48, 0, 0), (55, 0, 0), (333, 0, 0), (414, 0, 0), (415, 0, 0), (3, 0, 0), (73, 0, 0), (72, 0, 0), (359, 0, 0), (348, 0, 0), (117, 0, 0), (337, 0, 0), (23, 0, 0)]) :: .inl .b :: .inl .b :: .inl (.lb (nat_lit 0)) :: .inl (.lb (nat_lit 0)) :: .inl (.lb (nat_lit 1)) :: .inl (.lb (nat_lit 0)) :: .inl (.lb (nat_lit 1)) :: .inl (.lb (nat_lit 0)) :: .inl (.lb (nat_lit 1)) :: .inl (.lb (nat_lit 1)) :: .inl (.lb (nat_lit 452)) :: .inl .b :: .inl (.lb (nat_lit 0)) :: .inl (.lb (nat_lit 0)) :: .inl .b :: .inl .b :: .inl (.lb (nat_lit 6)) :: .inl .b :: .inl (.lb (nat_lit 0)) :: .inl (.lb (nat_lit 0)) :: .inl (.lb (nat_lit 2)) :: .inl (.lb (nat_lit 0)) :: .inl (.lb (nat_lit 1)) :: .inl (.lb (nat_lit 1)) :: .inl .b :: .inl (.lb (nat_lit 0)) :: .inl (.lb (nat_lit 0)) :: .inl (.lb (nat_lit 4)) :: .inl (.lb (nat_lit 0)) :: .inl (.lb (nat_lit 4)) :: .inl (.lb (nat_lit 0)) :: .inl (.lb (nat_lit 4)) :: .inl (.lb (nat_lit 18)) :: .inl (.lb (nat_lit 482)) :: .inl (.lb (nat_lit 0)) :: .inl (.lb (nat_lit 457)) :: .inl .b :: .inl (.lb (nat_lit 0)) :: .inl (.lb (nat_lit 0)) :: .inl .b :: .inl .b :: .inl (.lb (nat_lit 11)) :: .inl .b :: .inl (.lb (nat_lit 0)) :: .inl (.lb (nat_lit 0)) :: .inl (.lb (nat_lit 2)) :: .inl (.lb (nat_lit 12)) :: .inl .b :: .inl (.lb (nat_lit 0)) :: .inl (.lb (nat_lit 0)) :: .inl (.lb (nat_lit 3)) :: .inl (.lb (nat_lit 3)) :: .inl (.lb (nat_lit 2)) :: .inl (.lb (nat_lit 2)) :: .inl .b :: .inl (.lb (nat_lit 0)) :: .inl (.lb (nat_lit 0)) :: .inl (.lb (nat_lit 5)) :: .inl (.lb (nat_lit 0)) :: .inl (.lb (nat_lit 5)) :: .inl (.lb (nat_lit 0)) :: .inl (.lb (nat_lit 5)) :: .inl (.lb (nat_lit 0)) :: []
theorem de_0z_main (kind b : Int) : EF Sagg.prog (de_0z_specs kind b) 300 60 [] 4 #[.int .u8 kind, .int .u8 0] (fun v _ _ => v = .bool true) ⟨[], []⟩ de_0z_H_0
  = buildC (de_0z_cs kind b) [Told Sagg.prog .rem 5 (.int .u8 kind) (.int .u8 8) (toldV 2 0)] (fun _ => Value.bool true = .bool true) de_0z_T_0 [] := by kernel_rfl
theorem de_0z_calls (kind b : Int) (hk : kind.tmod 8 = Int.ofNat 0) (w : World) :
    Calls Sagg.prog 4 #[.int .u8 kind, .int .u8 0] w fun e w' => e = .returned (.bool true) ∧ Below w.heap.size w w' := by
  have hcs : ∀ c ∈ de_0z_cs kind b, c.Good := by
    unfold de_0z_cs
    simp only [List.forall_mem_cons]
    exact ⟨de_u0_ran,
      de_u1_ran,
      de_u2_ran,
      de_u3_ran,
      de_u4_ran,
      de_u5_ran,
      de_u6_ran,
      de_u7_ran, fun c hc => by cases hc⟩
  have hsp : ∀ p ∈ de_0z_specs kind b, SpecOK p.1 p.2 := by
    intro p hp
    unfold de_0z_specs at hp
    rcases List.mem_cons.1 hp with rfl | hp
    · exact chX_ok hcs
    rcases List.mem_cons.1 hp with rfl | hp
    · exact chX_ok hcs
    rcases List.mem_cons.1 hp with rfl | hp
    · exact chX_ok hcs
    rcases List.mem_cons.1 hp with rfl | hp
    · exact chX_ok hcs
    rcases List.mem_cons.1 hp with rfl | hp
    · exact chX_ok hcs
    rcases List.mem_cons.1 hp with rfl | hp
    · exact chX_ok hcs
    exact desSpecs_ok p hp
  have hrun : EF Sagg.prog (de_0z_specs kind b) 300 60 [] 4 #[.int .u8 kind, .int .u8 0] (fun v _ _ => v = .bool true) ⟨[], []⟩ de_0z_H_0 := by
    refine of_eq (de_0z_main kind b) ?_
    refine buildC_ok ?_ (fun _ => rfl) _ _ (by kernel_rfl)
    exact (ho_cons (told_rem8 hk) ho_nil)
  refine (closed (S := fun _ => False) hsp (fun b hb => hb.elim) hrun (fun p hp => by cases hp)).mono ?_
  rintro e w' ⟨v, s', H', rfl, rfl, hi⟩
  exact ⟨rfl, hi.below⟩
end Go.Proofs.EX
