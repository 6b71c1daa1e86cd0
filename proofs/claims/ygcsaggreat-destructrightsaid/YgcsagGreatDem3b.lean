/-
  'DestructRight': the run of one case, its parts being chunks.
-/
import Derived.Test.YgcsagGreatDes9
import Derived.Test.YgcsagGreatDes10
namespace Go.Proofs.EX
open Go.RowKit Go.Proofs.YgcsagGreat
set_option linter.unusedVariables false
set_option linter.unusedSimpArgs false
set_option maxRecDepth 100000
noncomputable def de_3b_cs (kind b : Int) : List Ch := [de_u55 kind b, de_u56 kind b, de_u57 kind b, de_u58 kind b, de_u59 kind b, de_u60 kind b, de_u61 kind b, de_u62 kind b]
noncomputable def de_3b_specs (kind b : Int) : List (FuncId × Spec) := (44, chX 44 (de_3b_cs kind b)) :: (31, chX 31 (de_3b_cs kind b)) :: (43, chX 43 (de_3b_cs kind b)) :: (45, chX 45 (de_3b_cs kind b)) :: (16, chX 16 (de_3b_cs kind b)) :: (18, chX 18 (de_3b_cs kind b)) :: desSpecs
def de_3b_H_0 : List Nat := nat_lit 100000 :: nat_lit 3 :: nat_lit 3 :: nat_lit 0 :: nat_lit 0 :: nat_lit 0 :: nat_lit 0 :: nat_lit 0 :: nat_lit 0 :: nat_lit 0 :: nat_lit 0 :: nat_lit 0 :: nat_lit 1 :: nat_lit 1 :: nat_lit 0 :: nat_lit 0 :: nat_lit 0 :: nat_lit 0 :: nat_lit 0 :: nat_lit 0 :: nat_lit 0 :: nat_lit 1 :: nat_lit 1 :: nat_lit 1 :: nat_lit 9 :: nat_lit 0 :: nat_lit 0 :: nat_lit 1 :: nat_lit 0 :: nat_lit 0 :: nat_lit 3 :: nat_lit 0 :: nat_lit 0 :: nat_lit 0 :: nat_lit 0 :: nat_lit 9 :: nat_lit 0 :: nat_lit 1 :: nat_lit 2 :: nat_lit 8 :: nat_lit 1 :: nat_lit 2 :: nat_lit 0 :: nat_lit 0 :: nat_lit 0 :: nat_lit 0 :: nat_lit 0 :: nat_lit 0 :: nat_lit 0 :: nat_lit 3 :: nat_lit 19 :: nat_lit 2 :: nat_lit 0 :: nat_lit 0 :: nat_lit 1 :: nat_lit 0 :: nat_lit 0 :: nat_lit 0 :: nat_lit 0 :: nat_lit 0 :: nat_lit 0 :: nat_lit 0 :: nat_lit 0 :: nat_lit 0 :: nat_lit 0 :: nat_lit 0 :: nat_lit 0 :: nat_lit 0 :: nat_lit 0 :: nat_lit 0 :: nat_lit 0 :: nat_lit 4 :: nat_lit 2 :: nat_lit 1 :: nat_lit 1 :: nat_lit 2 :: nat_lit 2 :: nat_lit 0 :: nat_lit 5 :: nat_lit 8 :: nat_lit 1 :: nat_lit 0 :: nat_lit 1 :: nat_lit 0 :: nat_lit 0 :: nat_lit 0 :: nat_lit 0 :: nat_lit 1 :: nat_lit 4 :: nat_lit 1 :: nat_lit 0 :: nat_lit 0 :: nat_lit 0 :: nat_lit 6 :: nat_lit 0 :: nat_lit 21 :: nat_lit 21 :: nat_lit 0 :: nat_lit 2 :: nat_lit 23 :: nat_lit 0 :: nat_lit 6 :: nat_lit 6 :: nat_lit 0 :: nat_lit 0 :: nat_lit 0 :: nat_lit 0 :: nat_lit 1 :: nat_lit 1 :: nat_lit 0 :: nat_lit 2 :: nat_lit 1 :: nat_lit 3 :: nat_lit 7 :: nat_lit 20 :: nat_lit 0 :: nat_lit 0 :: nat_lit 1 :: nat_lit 0 :: nat_lit 0 :: nat_lit 0 :: nat_lit 0 :: nat_lit 0 :: nat_lit 0 :: nat_lit 0 :: nat_lit 0 :: nat_lit 0 :: nat_lit 0 :: nat_lit 0 :: nat_lit 0 :: nat_lit 1 :: nat_lit 0 :: nat_lit 0 :: nat_lit 0 :: nat_lit 0 :: nat_lit 1 :: nat_lit 1 :: nat_lit 1 :: nat_lit 4 :: nat_lit 100000 :: nat_lit 2 :: nat_lit 0 :: nat_lit 2 :: nat_lit 0 :: nat_lit 3 :: nat_lit 0 :: nat_lit 2 :: nat_lit 3 :: nat_lit 0 :: nat_lit 2 :: nat_lit 3 :: nat_lit 0 :: nat_lit 0 :: nat_lit 0 :: nat_lit 3 :: nat_lit 0 :: nat_lit 8 :: nat_lit 0 :: nat_lit 2 :: nat_lit 0 :: nat_lit 7 :: nat_lit 0 :: nat_lit 2 :: nat_lit 4 :: nat_lit 8 :: nat_lit 0 :: nat_lit 2 :: nat_lit 5 :: nat_lit 2 :: nat_lit 2 :: nat_lit 4 :: nat_lit 0 :: nat_lit 2 :: nat_lit 7 :: nat_lit 0 :: nat_lit 2 :: nat_lit 7 :: nat_lit 1 :: nat_lit 0 :: nat_lit 2 :: nat_lit 7 :: nat_lit 0 :: nat_lit 0 :: nat_lit 0 :: nat_lit 2 :: nat_lit 0 :: nat_lit 0 :: nat_lit 0 :: nat_lit 14 :: nat_lit 0 :: nat_lit 2 :: nat_lit 12 :: nat_lit 1 :: nat_lit 0 :: nat_lit 0 :: nat_lit 0 :: nat_lit 0 :: nat_lit 0 :: nat_lit 0 :: nat_lit 0 :: nat_lit 1 :: nat_lit 0 :: nat_lit 0 :: nat_lit 0 :: nat_lit 0 :: nat_lit 5 :: nat_lit 0 :: nat_lit 2 :: nat_lit 4 :: nat_lit 6 :: nat_lit 0 :: nat_lit 2 :: nat_lit 5 :: nat_lit 5 :: nat_lit 2 :: nat_lit 4 :: nat_lit 0 :: nat_lit 2 :: nat_lit 7 :: nat_lit 0 :: nat_lit 2 :: nat_lit 7 :: nat_lit 0 :: nat_lit 2 :: nat_lit 7 :: nat_lit 0 :: nat_lit 0 :: nat_lit 0 :: nat_lit 2 :: nat_lit 0 :: nat_lit 0 :: nat_lit 0 :: nat_lit 0 :: nat_lit 5 :: []
def de_3b_T_0 : List (Tk ⊕ (Nat × List (Nat × Nat × Nat))) := .inl (.lo (nat_lit 0)) :: .inr (0, []) :: .inl .b :: .inl (.lb (nat_lit 0)) :: .inl (.lb (nat_lit 0)) :: .inl .b :: .inl .b :: .inl (.lb (nat_lit 0)) :: .inl (.lb (nat_lit 0)) :: .inl (.lb (nat_lit 1)) :: .inl (.lb (nat_lit 1)) :: .inl .b :: .inl (.lb (nat_lit 0)) :: .inl .b :: .inl .b :: .inl .b :: .inl .b :: .inl (.lb (nat_lit 0)) :: .inl (.lb (nat_lit 0)) :: .inl (.lb (nat_lit 1)) :: .inl (.lb (nat_lit 1)) :: .inr (1, [(3, 0, 0), (7, 0, 0), (8, 0, 0), (10, 0, 0), (2, 0, 0)]) :: .inl (.lb (nat_lit 19)) :: .inl .b :: .inl .b :: .inl (.lb (nat_lit 1)) :: .inr (2, [(0, 0, 0), (10, 0, 0), (4, 0, 0), (21, 0, 0), (22, 0, 0), (24, 0, 0), (2, 0, 0), (7, 0, 0), (8, 0, 0), (3, 0, 0)]) :: .inr (3, [(310, 0, 0), (1, 0, 0), (4, 0, 0), (50, 0, 0), (85, 0, 0), (89, 0, 0), (300, 0, 0), (321, 0, 0), (322, 0, 0), (22, 0, 0), (43, 0, 0), (69, 0, 0), (206, 0, 0), (209, 0, 0), (220, 0, 0), (242, 0, 0), (302, 0, 0), (3, 0, 0), (88, 0, 0), (49, 0, 0), (0, 0, 0), (87, 0, 0), (75, 0, 0), (70, 0, 0), (77, 0, 0), (324, 0, 0)]) :: .inr (4, [(1, 0, 0), (21, 0, 0), (330, 0, 0), (24, 0, 0), (70, 0, 0), (105, 0, 0), (109, 0, 0), (320, 0, 0), (341, 0, 0), (342, 0, 0), (3, 0, 0), (4, 0, 0), (12, 0, 0), (42, 0, 0), (63, 0, 0), (89, 0, 0), (226, 0, 0), (229, 0, 0), (262, 0, 0), (322, 0, 0), (107, 0, 0), (0, 0, 0), (95, 0, 0), (90, 0, 0), (97, 0, 0), (23, 0, 0), (108, 0, 0), (69, 0, 0), (20, 0, 0), (240, 0, 0), (344, 0, 0)]) :: .inr (5, [(377, 0, 0), (6, 0, 0), (71, 0, 0), (367, 0, 0), (388, 0, 0), (389, 0, 0), (0, 0, 0), (89, 0, 0), (110, 0, 0), (273, 0, 0), (276, 0, 0), (309, 0, 0), (369, 0, 0), (70, 0, 0), (156, 0, 0), (155, 0, 0), (117, 0, 0), (116, 0, 0), (5, 0, 0), (287, 0, 0), (136, 0, 0), (391, 0, 0)]) :: .inr (6, [(377, 0, 0), (6, 0, 0), (71, 0, 0), (367, 0, 0), (388, 0, 0), (389, 0, 0), (0, 0, 0), (89, 0, 0), (110, 0, 0), (273, 0, 0), (276, 0, 0), (309, 0, 0), (369, 0, 0), (70, 0, 0), (156, 0, 0), (155, 0, 0), (117, 0, 0), (116, 0, 0), (5, 0, 0), (287, 0, 0), (136, 0, 0), (391, 0, 0)]) :: .inl (.lb (nat_lit 441)) :: .inl (.lb (nat_lit 441)) :: .inl .b :: .inl (.lb (nat_lit 0)) :: .inl (.lb (nat_lit 463)) :: .inl (.lb (nat_lit 0)) :: .inr (7, [(3, 0, 0), (452, 0, 0), (464, 0, 0), (63, 0, 0), (164, 0, 0), (348, 0, 0), (2, 0, 0), (41, 0, 0)]) :: .inl .b :: .inl .b :: .inl (.lb (nat_lit 0)) :: .inl (.lb (nat_lit 0)) :: .inl (.lb (nat_lit 1)) :: .inl (.lb (nat_lit 0)) :: .inl (.lb (nat_lit 1)) :: .inl (.lb (nat_lit 0)) :: .inl (.lb (nat_lit 1)) :: .inl (.lb (nat_lit 1)) :: .inl (.lb (nat_lit 480)) :: .inl .b :: .inl (.lb (nat_lit 0)) :: .inl (.lb (nat_lit 0)) :: .inl .b :: .inl .b :: .inl (.lb (nat_lit 6)) :: .inl .b :: .inl (.lb (nat_lit 0)) :: .inl (.lb (nat_lit 0)) :: .inl (.lb (nat_lit 2)) :: .inl (.lb (nat_lit 7)) :: .inl .b :: .inl (.lb (nat_lit 0)) :: .inl (.lb (nat_lit 0)) :: .inl (.lb (nat_lit 3)) :: .inl (.lb (nat_lit 0)) :: .inl (.lb (nat_lit 2)) :: .inl (.lb (nat_lit 2)) :: .inl .b :: .inl (.lb (nat_lit 0)) :: .inl (.lb (nat_lit 0)) :: .inl (.lb (nat_lit 5)) :: .inl (.lb (nat_lit 0)) :: .inl (.lb (nat_lit 5)) :: .inl (.lo (nat_lit 1)) :: .inl (.lb (nat_lit 0)) :: .inl (.lb (nat_lit 5)) :: .inl (.lb (nat_lit 0)) :: .inl (.lb (nat_lit 486)) :: .inl .b :: .inl (.lb (nat_lit 0)) :: .inl (.lb (nat_lit 0)) :: .inl .b :: .inl .b :: .inl (.lb (nat_lit 12)) :: .inl .b :: .inl (.lb (nat_lit 0)) :: .inl (.lb (nat_lit 0)) :: .inl (.lb (nat_lit 2)) :: .inl (.lb (nat_lit 13)) :: .inl .b :: .inl (.lb (nat_lit 0)) :: .inl (.lb (nat_lit 0)) :: .inl (.lb (nat_lit 3)) :: .inl (.lb (nat_lit 3)) :: .inl (.lb (nat_lit 2)) :: .inl (.lb (nat_lit 2)) :: .inl .b :: .inl (.lb (nat_lit 0)) :: .inl (.lb (nat_lit 0)) :: .inl (.lb (nat_lit 5)) :: .inl (.lb (nat_lit 0)) :: .inl (.lb (nat_lit 5)) :: .inl (.lb (nat_lit 0)) :: .inl (.lb (nat_lit 5)) :: .inl (.lb (nat_lit 0)) :: []
theorem de_3b_main (kind b : Int) : EF Sagg.prog (de_3b_specs kind b) 300 60 [] 4 #[.int .u8 kind, .int .u8 b] (fun v _ _ => v = .bool true) ⟨[], []⟩ de_3b_H_0
  = buildC (de_3b_cs kind b) [Told Sagg.prog .rem 5 (.int .u8 kind) (.int .u8 8) (toldV 2 3),
  Told Sagg.prog .neq 29 (.agg (bcells (dl32 ((0 + (beV (l1 b)))))).toArray) (.agg (bcells (l1 b)).toArray) (toldV 0 0)] (fun _ => Value.bool true = .bool true) de_3b_T_0 [] := by kernel_rfl
theorem de_3b_calls (kind b : Int) (hk : kind.tmod 8 = Int.ofNat 3) (hb : 0 ≤ b ∧ b < 256) (hb0 : 0 < b) (w : World) :
    Calls Sagg.prog 4 #[.int .u8 kind, .int .u8 b] w fun e w' => e = .returned (.bool true) ∧ Below w.heap.size w w' := by
  have hcs : ∀ c ∈ de_3b_cs kind b, c.Good := by
    unfold de_3b_cs
    simp only [List.forall_mem_cons]
    exact ⟨de_u55_ran hb hb0,
      de_u56_ran,
      de_u57_ran hb hb0,
      de_u58_ran,
      de_u59_ran,
      de_u60_ran,
      de_u61_ran hb hb0,
      de_u62_ran hb hb0, fun c hc => by cases hc⟩
  have hsp : ∀ p ∈ de_3b_specs kind b, SpecOK p.1 p.2 := by
    intro p hp
    unfold de_3b_specs at hp
    rcases List.mem_cons.1 hp with rfl | hp
    · exact chX_ok hcs
    rcases List.mem_cons.1 hp with rfl | hp
    · exact chX_ok hcs
    rcases List.mem_cons.1 hp with rfl | hp
    · exact chX_ok hcs
    rcases List.mem_cons.1 hp with rfl | hp
    · exact chX_ok hcs
    rcases List.mem_cons.1 hp with rfl | hp
    · exact chX_ok hcs
    rcases List.mem_cons.1 hp with rfl | hp
    · exact chX_ok hcs
    exact desSpecs_ok p hp
  have hrun : EF Sagg.prog (de_3b_specs kind b) 300 60 [] 4 #[.int .u8 kind, .int .u8 b] (fun v _ _ => v = .bool true) ⟨[], []⟩ de_3b_H_0 := by
    refine of_eq (de_3b_main kind b) ?_
    refine buildC_ok ?_ (fun _ => rfl) _ _ (by kernel_rfl)
    exact (ho_cons (told_rem8 hk) (ho_cons (told_word0 rfl rfl (dl32_l1 hb (by simp only [beV_l1, beV_1]; omega))) ho_nil))
  refine (closed (S := fun _ => False) hsp (fun b hb => hb.elim) hrun (fun p hp => by cases hp)).mono ?_
  rintro e w' ⟨v, s', H', rfl, rfl, hi⟩
  exact ⟨rfl, hi.below⟩
end Go.Proofs.EX
