/-
  'DestructRight': the run of one case, its parts being chunks.
-/
import Derived.Test.YgcsagGreatDes6
import Derived.Test.YgcsagGreatDes7
namespace Go.Proofs.EX
open Go.RowKit Go.Proofs.YgcsagGreat
set_option linter.unusedVariables false
set_option linter.unusedSimpArgs false
set_option maxRecDepth 100000
noncomputable def de_2b_cs (kind b : Int) : List Ch := [de_u40 kind b, de_u41 kind b, de_u42 kind b, de_u43 kind b, de_u44 kind b, de_u45 kind b, de_u46 kind b, de_u47 kind b]
noncomputable def de_2b_specs (kind b : Int) : List (FuncId × Spec) := (44, chX 44 (de_2b_cs kind b)) :: (31, chX 31 (de_2b_cs kind b)) :: (43, chX 43 (de_2b_cs kind b)) :: (45, chX 45 (de_2b_cs kind b)) :: (16, chX 16 (de_2b_cs kind b)) :: (18, chX 18 (de_2b_cs kind b)) :: desSpecs
def de_2b_H_0 : List Nat := nat_lit 100000 :: nat_lit 3 :: nat_lit 2 :: nat_lit 0 :: nat_lit 0 :: nat_lit 0 :: nat_lit 0 :: nat_lit 14 :: nat_lit 2 :: nat_lit 0 :: nat_lit 0 :: nat_lit 0 :: nat_lit 0 :: nat_lit 0 :: nat_lit 0 :: nat_lit 0 :: nat_lit 0 :: nat_lit 0 :: nat_lit 0 :: nat_lit 0 :: nat_lit 1 :: nat_lit 0 :: nat_lit 0 :: nat_lit 0 :: nat_lit 0 :: nat_lit 0 :: nat_lit 0 :: nat_lit 1 :: nat_lit 1 :: nat_lit 0 :: nat_lit 0 :: nat_lit 0 :: nat_lit 0 :: nat_lit 0 :: nat_lit 0 :: nat_lit 0 :: nat_lit 1 :: nat_lit 1 :: nat_lit 1 :: nat_lit 5 :: nat_lit 0 :: nat_lit 0 :: nat_lit 1 :: nat_lit 0 :: nat_lit 0 :: nat_lit 0 :: nat_lit 9 :: nat_lit 0 :: nat_lit 1 :: nat_lit 2 :: nat_lit 8 :: nat_lit 1 :: nat_lit 2 :: nat_lit 0 :: nat_lit 0 :: nat_lit 0 :: nat_lit 0 :: nat_lit 0 :: nat_lit 0 :: nat_lit 0 :: nat_lit 3 :: nat_lit 19 :: nat_lit 2 :: nat_lit 0 :: nat_lit 0 :: nat_lit 1 :: nat_lit 0 :: nat_lit 0 :: nat_lit 0 :: nat_lit 0 :: nat_lit 0 :: nat_lit 0 :: nat_lit 0 :: nat_lit 0 :: nat_lit 0 :: nat_lit 0 :: nat_lit 0 :: nat_lit 0 :: nat_lit 0 :: nat_lit 0 :: nat_lit 0 :: nat_lit 0 :: nat_lit 4 :: nat_lit 3 :: nat_lit 1 :: nat_lit 1 :: nat_lit 0 :: nat_lit 5 :: nat_lit 1 :: nat_lit 0 :: nat_lit 0 :: nat_lit 1 :: nat_lit 0 :: nat_lit 5 :: nat_lit 8 :: nat_lit 1 :: nat_lit 0 :: nat_lit 1 :: nat_lit 0 :: nat_lit 0 :: nat_lit 0 :: nat_lit 0 :: nat_lit 1 :: nat_lit 4 :: nat_lit 1 :: nat_lit 0 :: nat_lit 0 :: nat_lit 2 :: nat_lit 6 :: nat_lit 0 :: nat_lit 19 :: nat_lit 19 :: nat_lit 0 :: nat_lit 2 :: nat_lit 21 :: nat_lit 0 :: nat_lit 6 :: nat_lit 6 :: nat_lit 0 :: nat_lit 0 :: nat_lit 0 :: nat_lit 0 :: nat_lit 1 :: nat_lit 1 :: nat_lit 0 :: nat_lit 2 :: nat_lit 1 :: nat_lit 3 :: nat_lit 7 :: nat_lit 18 :: nat_lit 0 :: nat_lit 0 :: nat_lit 0 :: nat_lit 1 :: nat_lit 0 :: nat_lit 0 :: nat_lit 0 :: nat_lit 0 :: nat_lit 0 :: nat_lit 0 :: nat_lit 0 :: nat_lit 0 :: nat_lit 0 :: nat_lit 1 :: nat_lit 0 :: nat_lit 0 :: nat_lit 0 :: nat_lit 0 :: nat_lit 2 :: nat_lit 1 :: nat_lit 1 :: nat_lit 1 :: nat_lit 4 :: nat_lit 100000 :: nat_lit 2 :: nat_lit 0 :: nat_lit 2 :: nat_lit 0 :: nat_lit 3 :: nat_lit 0 :: nat_lit 2 :: nat_lit 3 :: nat_lit 0 :: nat_lit 2 :: nat_lit 3 :: nat_lit 0 :: nat_lit 0 :: nat_lit 0 :: nat_lit 3 :: nat_lit 0 :: nat_lit 8 :: nat_lit 0 :: nat_lit 2 :: nat_lit 0 :: nat_lit 7 :: nat_lit 0 :: nat_lit 2 :: nat_lit 4 :: nat_lit 8 :: nat_lit 0 :: nat_lit 2 :: nat_lit 5 :: nat_lit 5 :: nat_lit 2 :: nat_lit 4 :: nat_lit 0 :: nat_lit 2 :: nat_lit 7 :: nat_lit 0 :: nat_lit 2 :: nat_lit 7 :: nat_lit 0 :: nat_lit 2 :: nat_lit 7 :: nat_lit 0 :: nat_lit 0 :: nat_lit 0 :: nat_lit 2 :: nat_lit 0 :: nat_lit 0 :: nat_lit 0 :: nat_lit 14 :: nat_lit 0 :: nat_lit 2 :: nat_lit 12 :: nat_lit 1 :: nat_lit 0 :: nat_lit 0 :: nat_lit 0 :: nat_lit 0 :: nat_lit 0 :: nat_lit 0 :: nat_lit 0 :: nat_lit 1 :: nat_lit 0 :: nat_lit 0 :: nat_lit 0 :: nat_lit 0 :: nat_lit 5 :: nat_lit 0 :: nat_lit 2 :: nat_lit 4 :: nat_lit 2 :: nat_lit 1 :: nat_lit 3 :: nat_lit 0 :: nat_lit 2 :: nat_lit 6 :: nat_lit 0 :: nat_lit 2 :: nat_lit 6 :: nat_lit 1 :: nat_lit 0 :: nat_lit 2 :: nat_lit 6 :: nat_lit 0 :: nat_lit 0 :: nat_lit 0 :: nat_lit 2 :: nat_lit 0 :: nat_lit 0 :: nat_lit 0 :: nat_lit 0 :: nat_lit 5 :: []
def de_2b_T_0 : List (Tk ⊕ (Nat × List (Nat × Nat × Nat))) := .inl (.lo (nat_lit 0)) :: .inr (0, []) :: .inl .b :: .inl (.lb (nat_lit 0)) :: .inl (.lb (nat_lit 0)) :: .inl .b :: .inl .b :: .inl (.lb (nat_lit 0)) :: .inl (.lb (nat_lit 0)) :: .inl (.lb (nat_lit 1)) :: .inl (.lb (nat_lit 1)) :: .inl .b :: .inl (.lb (nat_lit 0)) :: .inl .b :: .inl .b :: .inl .b :: .inl .b :: .inl (.lb (nat_lit 0)) :: .inl (.lb (nat_lit 0)) :: .inl (.lb (nat_lit 1)) :: .inl (.lb (nat_lit 1)) :: .inr (1, [(3, 0, 0), (7, 0, 0), (8, 0, 0), (33, 0, 0), (2, 0, 0)]) :: .inl (.lb (nat_lit 19)) :: .inl .b :: .inl .b :: .inl (.lb (nat_lit 1)) :: .inr (2, [(0, 0, 0), (10, 0, 0), (4, 0, 0), (21, 0, 0), (22, 0, 0), (47, 0, 0), (2, 0, 0), (7, 0, 0), (8, 0, 0), (3, 0, 0)]) :: .inr (3, [(310, 0, 0), (1, 0, 0), (4, 0, 0), (50, 0, 0), (85, 0, 0), (89, 0, 0), (300, 0, 0), (321, 0, 0), (322, 0, 0), (22, 0, 0), (43, 0, 0), (69, 0, 0), (206, 0, 0), (209, 0, 0), (220, 0, 0), (242, 0, 0), (302, 0, 0), (3, 0, 0), (88, 0, 0), (49, 0, 0), (0, 0, 0), (87, 0, 0), (75, 0, 0), (70, 0, 0), (77, 0, 0), (347, 0, 0)]) :: .inr (4, [(1, 0, 0), (25, 0, 0), (334, 0, 0), (28, 0, 0), (74, 0, 0), (109, 0, 0), (113, 0, 0), (324, 0, 0), (345, 0, 0), (346, 0, 0), (3, 0, 0), (8, 0, 0), (16, 0, 0), (46, 0, 0), (67, 0, 0), (93, 0, 0), (230, 0, 0), (233, 0, 0), (266, 0, 0), (326, 0, 0), (111, 0, 0), (0, 0, 0), (99, 0, 0), (94, 0, 0), (101, 0, 0), (27, 0, 0), (112, 0, 0), (73, 0, 0), (24, 0, 0), (244, 0, 0), (371, 0, 0)]) :: .inr (5, [(473, 0, 0), (6, 0, 0), (13, 0, 0), (463, 0, 0), (484, 0, 0), (485, 0, 0), (0, 0, 0), (32, 0, 0), (56, 0, 0), (206, 0, 0), (369, 0, 0), (372, 0, 0), (405, 0, 0), (465, 0, 0), (12, 0, 0), (68, 0, 0), (67, 0, 0), (213, 0, 0), (212, 0, 0), (5, 0, 0), (383, 0, 0), (232, 0, 0), (510, 0, 0)]) :: .inr (6, [(473, 0, 0), (6, 0, 0), (13, 0, 0), (463, 0, 0), (484, 0, 0), (485, 0, 0), (0, 0, 0), (32, 0, 0), (56, 0, 0), (206, 0, 0), (369, 0, 0), (372, 0, 0), (405, 0, 0), (465, 0, 0), (12, 0, 0), (68, 0, 0), (67, 0, 0), (213, 0, 0), (212, 0, 0), (5, 0, 0), (383, 0, 0), (232, 0, 0), (510, 0, 0)]) :: .inl (.lb (nat_lit 549)) :: .inl (.lb (nat_lit 549)) :: .inl .b :: .inl (.lb (nat_lit 0)) :: .inl (.lb (nat_lit 571)) :: .inl (.lb (nat_lit 0)) :: .inr (7, [(4, 0, 0), (560, 0, 0), (572, 0, 0), (74, 0, 0), (119, 0, 0), (456, 0, 0), (3, 0, 0), (45, 0, 0)]) :: .inl .b :: .inl .b :: .inl (.lb (nat_lit 0)) :: .inl (.lb (nat_lit 0)) :: .inl (.lb (nat_lit 1)) :: .inl (.lb (nat_lit 0)) :: .inl (.lb (nat_lit 1)) :: .inl (.lb (nat_lit 0)) :: .inl (.lb (nat_lit 1)) :: .inl (.lb (nat_lit 1)) :: .inl (.lb (nat_lit 588)) :: .inl .b :: .inl (.lb (nat_lit 0)) :: .inl (.lb (nat_lit 0)) :: .inl .b :: .inl .b :: .inl (.lb (nat_lit 6)) :: .inl .b :: .inl (.lb (nat_lit 0)) :: .inl (.lb (nat_lit 0)) :: .inl (.lb (nat_lit 2)) :: .inl (.lb (nat_lit 7)) :: .inl .b :: .inl (.lb (nat_lit 0)) :: .inl (.lb (nat_lit 0)) :: .inl (.lb (nat_lit 3)) :: .inl (.lb (nat_lit 3)) :: .inl (.lb (nat_lit 2)) :: .inl (.lb (nat_lit 2)) :: .inl .b :: .inl (.lb (nat_lit 0)) :: .inl (.lb (nat_lit 0)) :: .inl (.lb (nat_lit 5)) :: .inl (.lb (nat_lit 0)) :: .inl (.lb (nat_lit 5)) :: .inl (.lb (nat_lit 0)) :: .inl (.lb (nat_lit 5)) :: .inl (.lb (nat_lit 0)) :: .inl (.lb (nat_lit 594)) :: .inl .b :: .inl (.lb (nat_lit 0)) :: .inl (.lb (nat_lit 0)) :: .inl .b :: .inl .b :: .inl (.lb (nat_lit 12)) :: .inl .b :: .inl (.lb (nat_lit 0)) :: .inl (.lb (nat_lit 0)) :: .inl (.lb (nat_lit 2)) :: .inl (.lb (nat_lit 0)) :: .inl (.lb (nat_lit 1)) :: .inl (.lb (nat_lit 1)) :: .inl .b :: .inl (.lb (nat_lit 0)) :: .inl (.lb (nat_lit 0)) :: .inl (.lb (nat_lit 4)) :: .inl (.lb (nat_lit 0)) :: .inl (.lb (nat_lit 4)) :: .inl (.lo (nat_lit 1)) :: .inl (.lb (nat_lit 0)) :: .inl (.lb (nat_lit 4)) :: .inl (.lb (nat_lit 0)) :: []
theorem de_2b_main (kind b : Int) : EF Sagg.prog (de_2b_specs kind b) 300 60 [] 4 #[.int .u8 kind, .int .u8 b] (fun v _ _ => v = .bool true) ⟨[], []⟩ de_2b_H_0
  = buildC (de_2b_cs kind b) [Told Sagg.prog .rem 5 (.int .u8 kind) (.int .u8 8) (toldV 2 2),
  Told Sagg.prog .neq 29 (.agg (bcells (dl32 ((0 + (0 + (beV (l1 b))))))).toArray) (.agg (bcells (l1 b)).toArray) (toldV 0 0)] (fun _ => Value.bool true = .bool true) de_2b_T_0 [] := by kernel_rfl
theorem de_2b_calls (kind b : Int) (hk : kind.tmod 8 = Int.ofNat 2) (hb : 0 ≤ b ∧ b < 256) (hb0 : 0 < b) (w : World) :
    Calls Sagg.prog 4 #[.int .u8 kind, .int .u8 b] w fun e w' => e = .returned (.bool true) ∧ Below w.heap.size w w' := by
  have hcs : ∀ c ∈ de_2b_cs kind b, c.Good := by
    unfold de_2b_cs
    simp only [List.forall_mem_cons]
    exact ⟨de_u40_ran hb hb0,
      de_u41_ran,
      de_u42_ran hb hb0,
      de_u43_ran,
      de_u44_ran hb hb0,
      de_u45_ran,
      de_u46_ran hb hb0,
      de_u47_ran hb hb0, fun c hc => by cases hc⟩
  have hsp : ∀ p ∈ de_2b_specs kind b, SpecOK p.1 p.2 := by
    intro p hp
    unfold de_2b_specs at hp
    rcases List.mem_cons.1 hp with rfl | hp
    · exact chX_ok hcs
    rcases List.mem_cons.1 hp with rfl | hp
    · exact chX_ok hcs
    rcases List.mem_cons.1 hp with rfl | hp
    · exact chX_ok hcs
    rcases List.mem_cons.1 hp with rfl | hp
    · exact chX_ok hcs
    rcases List.mem_cons.1 hp with rfl | hp
    · exact chX_ok hcs
    rcases List.mem_cons.1 hp with rfl | hp
    · exact chX_ok hcs
    exact desSpecs_ok p hp
  have hrun : EF Sagg.prog (de_2b_specs kind b) 300 60 [] 4 #[.int .u8 kind, .int .u8 b] (fun v _ _ => v = .bool true) ⟨[], []⟩ de_2b_H_0 := by
    refine of_eq (de_2b_main kind b) ?_
    refine buildC_ok ?_ (fun _ => rfl) _ _ (by kernel_rfl)
    exact (ho_cons (told_rem8 hk) (ho_cons (told_word0 rfl rfl (dl32_l1 hb (by simp only [beV_l1, beV_1]; omega))) ho_nil))
  refine (closed (S := fun _ => False) hsp (fun b hb => hb.elim) hrun (fun p hp => by cases hp)).mono ?_
  rintro e w' ⟨v, s', H', rfl, rfl, hi⟩
  exact ⟨rfl, hi.below⟩
end Go.Proofs.EX
