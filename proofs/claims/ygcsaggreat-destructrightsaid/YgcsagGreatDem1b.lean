/-
  'DestructRight': the run of one case, its parts being chunks.
-/
import Derived.Test.YgcsagGreatDes4
import Derived.Test.YgcsagGreatDes5
namespace Go.Proofs.EX
open Go.RowKit Go.Proofs.YgcsagGreat
set_option linter.unusedVariables false
set_option linter.unusedSimpArgs false
set_option maxRecDepth 100000
noncomputable def de_1b_cs (kind b : Int) : List Ch := [de_u24 kind b, de_u25 kind b, de_u26 kind b, de_u27 kind b, de_u28 kind b, de_u29 kind b, de_u30 kind b, de_u31 kind b]
noncomputable def de_1b_specs (kind b : Int) : List (FuncId × Spec) := (44, chX 44 (de_1b_cs kind b)) :: (31, chX 31 (de_1b_cs kind b)) :: (43, chX 43 (de_1b_cs kind b)) :: (45, chX 45 (de_1b_cs kind b)) :: (16, chX 16 (de_1b_cs kind b)) :: (18, chX 18 (de_1b_cs kind b)) :: desSpecs
def de_1b_H_0 : List Nat := nat_lit 100000 :: nat_lit 3 :: nat_lit 1 :: nat_lit 0 :: nat_lit 0 :: nat_lit 0 :: nat_lit 0 :: nat_lit 13 :: nat_lit 1 :: nat_lit 1 :: nat_lit 2 :: nat_lit 0 :: nat_lit 0 :: nat_lit 0 :: nat_lit 0 :: nat_lit 0 :: nat_lit 0 :: nat_lit 0 :: nat_lit 0 :: nat_lit 0 :: nat_lit 0 :: nat_lit 0 :: nat_lit 2 :: nat_lit 0 :: nat_lit 0 :: nat_lit 0 :: nat_lit 0 :: nat_lit 0 :: nat_lit 0 :: nat_lit 0 :: nat_lit 6 :: nat_lit 1 :: nat_lit 1 :: nat_lit 0 :: nat_lit 0 :: nat_lit 0 :: nat_lit 0 :: nat_lit 0 :: nat_lit 0 :: nat_lit 1 :: nat_lit 1 :: nat_lit 2 :: nat_lit 3 :: nat_lit 0 :: nat_lit 0 :: nat_lit 0 :: nat_lit 0 :: nat_lit 0 :: nat_lit 0 :: nat_lit 1 :: nat_lit 1 :: nat_lit 1 :: nat_lit 9 :: nat_lit 0 :: nat_lit 0 :: nat_lit 1 :: nat_lit 0 :: nat_lit 0 :: nat_lit 0 :: nat_lit 1 :: nat_lit 0 :: nat_lit 2 :: nat_lit 0 :: nat_lit 14 :: nat_lit 11 :: nat_lit 2 :: nat_lit 0 :: nat_lit 0 :: nat_lit 0 :: nat_lit 0 :: nat_lit 0 :: nat_lit 1 :: nat_lit 0 :: nat_lit 0 :: nat_lit 0 :: nat_lit 0 :: nat_lit 1 :: nat_lit 3 :: nat_lit 1 :: nat_lit 2 :: nat_lit 1 :: nat_lit 1 :: nat_lit 0 :: nat_lit 3 :: nat_lit 16 :: nat_lit 2 :: nat_lit 0 :: nat_lit 0 :: nat_lit 1 :: nat_lit 0 :: nat_lit 0 :: nat_lit 0 :: nat_lit 0 :: nat_lit 0 :: nat_lit 0 :: nat_lit 0 :: nat_lit 0 :: nat_lit 0 :: nat_lit 0 :: nat_lit 0 :: nat_lit 0 :: nat_lit 0 :: nat_lit 4 :: nat_lit 2 :: nat_lit 1 :: nat_lit 1 :: nat_lit 2 :: nat_lit 2 :: nat_lit 0 :: nat_lit 5 :: nat_lit 3 :: nat_lit 1 :: nat_lit 0 :: nat_lit 0 :: nat_lit 0 :: nat_lit 6 :: nat_lit 0 :: nat_lit 5 :: nat_lit 5 :: nat_lit 0 :: nat_lit 2 :: nat_lit 8 :: nat_lit 0 :: nat_lit 6 :: nat_lit 6 :: nat_lit 0 :: nat_lit 0 :: nat_lit 0 :: nat_lit 0 :: nat_lit 1 :: nat_lit 1 :: nat_lit 0 :: nat_lit 2 :: nat_lit 1 :: nat_lit 3 :: nat_lit 7 :: nat_lit 0 :: nat_lit 1 :: nat_lit 4 :: nat_lit 100000 :: nat_lit 2 :: nat_lit 0 :: nat_lit 2 :: nat_lit 0 :: nat_lit 3 :: nat_lit 0 :: nat_lit 2 :: nat_lit 3 :: nat_lit 0 :: nat_lit 2 :: nat_lit 3 :: nat_lit 0 :: nat_lit 0 :: nat_lit 0 :: nat_lit 3 :: nat_lit 0 :: nat_lit 11 :: nat_lit 0 :: nat_lit 2 :: nat_lit 0 :: nat_lit 7 :: nat_lit 0 :: nat_lit 2 :: nat_lit 4 :: nat_lit 2 :: nat_lit 1 :: nat_lit 3 :: nat_lit 0 :: nat_lit 2 :: nat_lit 6 :: nat_lit 0 :: nat_lit 2 :: nat_lit 6 :: nat_lit 1 :: nat_lit 0 :: nat_lit 2 :: nat_lit 6 :: nat_lit 15 :: nat_lit 17 :: nat_lit 0 :: nat_lit 0 :: nat_lit 0 :: nat_lit 2 :: nat_lit 0 :: nat_lit 0 :: nat_lit 0 :: nat_lit 16 :: nat_lit 0 :: nat_lit 2 :: nat_lit 15 :: nat_lit 1 :: nat_lit 0 :: nat_lit 0 :: nat_lit 0 :: nat_lit 0 :: nat_lit 0 :: nat_lit 0 :: nat_lit 1 :: nat_lit 0 :: nat_lit 0 :: nat_lit 0 :: nat_lit 0 :: nat_lit 0 :: nat_lit 0 :: nat_lit 0 :: nat_lit 2 :: nat_lit 0 :: nat_lit 0 :: nat_lit 5 :: nat_lit 0 :: nat_lit 2 :: nat_lit 4 :: nat_lit 6 :: nat_lit 0 :: nat_lit 2 :: nat_lit 5 :: nat_lit 5 :: nat_lit 2 :: nat_lit 4 :: nat_lit 0 :: nat_lit 2 :: nat_lit 7 :: nat_lit 0 :: nat_lit 2 :: nat_lit 7 :: nat_lit 0 :: nat_lit 2 :: nat_lit 7 :: nat_lit 0 :: nat_lit 0 :: nat_lit 0 :: nat_lit 2 :: nat_lit 0 :: nat_lit 0 :: nat_lit 0 :: nat_lit 0 :: nat_lit 5 :: []
def de_1b_T_0 : List (Tk ⊕ (Nat × List (Nat × Nat × Nat))) := .inl (.lo (nat_lit 0)) :: .inr (0, []) :: .inl .b :: .inl (.lb (nat_lit 0)) :: .inl (.lb (nat_lit 0)) :: .inl (.lb (nat_lit 3)) :: .inl .b :: .inl (.lb (nat_lit 0)) :: .inl (.lb (nat_lit 0)) :: .inl .b :: .inl (.lb (nat_lit 0)) :: .inl .b :: .inl (.lb (nat_lit 0)) :: .inl (.lb (nat_lit 7)) :: .inl (.lb (nat_lit 1)) :: .inl (.lb (nat_lit 1)) :: .inl .b :: .inl (.lb (nat_lit 0)) :: .inl .b :: .inl .b :: .inl .b :: .inl .b :: .inl (.lb (nat_lit 0)) :: .inl (.lb (nat_lit 0)) :: .inl (.lb (nat_lit 1)) :: .inl (.lb (nat_lit 1)) :: .inl .b :: .inl (.lb (nat_lit 0)) :: .inl (.lb (nat_lit 4)) :: .inl (.lc 3 1 55) :: .inl .b :: .inl .b :: .inl .b :: .inl .b :: .inl (.lb (nat_lit 0)) :: .inl (.lb (nat_lit 0)) :: .inl (.lb (nat_lit 1)) :: .inl (.lb (nat_lit 1)) :: .inr (1, [(3, 0, 0), (10, 0, 0), (13, 0, 0), (14, 0, 0), (17, 0, 0), (16, 0, 0), (2, 0, 0)]) :: .inl (.lb (nat_lit 34)) :: .inl .b :: .inl .b :: .inl (.lb (nat_lit 1)) :: .inr (2, [(0, 0, 0), (19, 0, 0), (4, 0, 0), (15, 0, 0), (36, 0, 0), (37, 0, 0), (40, 0, 0), (2, 0, 0), (7, 0, 0), (8, 0, 0), (16, 0, 0), (17, 0, 0), (3, 0, 0), (39, 0, 0)]) :: .inr (3, [(289, 0, 0), (1, 0, 0), (4, 0, 0), (64, 0, 0), (72, 0, 0), (270, 0, 0), (285, 0, 0), (306, 0, 0), (307, 0, 0), (310, 0, 0), (19, 0, 0), (42, 0, 0), (205, 0, 0), (209, 0, 0), (220, 0, 0), (231, 0, 0), (272, 0, 0), (287, 0, 0), (3, 0, 0), (71, 0, 0), (0, 0, 0), (70, 0, 0), (59, 0, 0), (49, 0, 0), (61, 0, 0), (309, 0, 0)]) :: .inr (4, [(1, 0, 0), (21, 0, 0), (309, 0, 0), (24, 0, 0), (84, 0, 0), (92, 0, 0), (290, 0, 0), (305, 0, 0), (326, 0, 0), (327, 0, 0), (330, 0, 0), (3, 0, 0), (4, 0, 0), (12, 0, 0), (39, 0, 0), (62, 0, 0), (225, 0, 0), (229, 0, 0), (251, 0, 0), (292, 0, 0), (307, 0, 0), (90, 0, 0), (0, 0, 0), (79, 0, 0), (69, 0, 0), (81, 0, 0), (23, 0, 0), (91, 0, 0), (20, 0, 0), (240, 0, 0), (329, 0, 0)]) :: .inr (5, [(337, 0, 0), (52, 0, 0), (318, 0, 0), (333, 0, 0), (354, 0, 0), (355, 0, 0), (358, 0, 0), (12, 0, 0), (67, 0, 0), (90, 0, 0), (253, 0, 0), (257, 0, 0), (279, 0, 0), (320, 0, 0), (335, 0, 0), (51, 0, 0), (120, 0, 0), (119, 0, 0), (268, 0, 0), (357, 0, 0)]) :: .inr (6, [(337, 0, 0), (52, 0, 0), (318, 0, 0), (333, 0, 0), (354, 0, 0), (355, 0, 0), (358, 0, 0), (12, 0, 0), (67, 0, 0), (90, 0, 0), (253, 0, 0), (257, 0, 0), (279, 0, 0), (320, 0, 0), (335, 0, 0), (51, 0, 0), (120, 0, 0), (119, 0, 0), (268, 0, 0), (357, 0, 0)]) :: .inl (.lb (nat_lit 378)) :: .inl (.lb (nat_lit 378)) :: .inl .b :: .inl (.lb (nat_lit 0)) :: .inl (.lb (nat_lit 415)) :: .inl (.lb (nat_lit 0)) :: .inr (7, [(1, 0, 0), (398, 0, 0), (2, 0, 0), (4, 0, 0), (60, 0, 0), (379, 0, 0), (394, 0, 0), (416, 0, 0), (419, 0, 0), (48, 0, 0), (55, 0, 0), (128, 0, 0), (314, 0, 0), (396, 0, 0), (3, 0, 0), (181, 0, 0), (180, 0, 0), (340, 0, 0), (329, 0, 0), (73, 0, 0), (318, 0, 0), (23, 0, 0)]) :: .inl .b :: .inl .b :: .inl (.lb (nat_lit 0)) :: .inl (.lb (nat_lit 0)) :: .inl (.lb (nat_lit 1)) :: .inl (.lb (nat_lit 0)) :: .inl (.lb (nat_lit 1)) :: .inl (.lb (nat_lit 0)) :: .inl (.lb (nat_lit 1)) :: .inl (.lb (nat_lit 1)) :: .inl (.lb (nat_lit 433)) :: .inl .b :: .inl (.lb (nat_lit 0)) :: .inl (.lb (nat_lit 0)) :: .inl .b :: .inl .b :: .inl (.lb (nat_lit 6)) :: .inl .b :: .inl (.lb (nat_lit 0)) :: .inl (.lb (nat_lit 0)) :: .inl (.lb (nat_lit 2)) :: .inl (.lb (nat_lit 0)) :: .inl (.lb (nat_lit 1)) :: .inl (.lb (nat_lit 1)) :: .inl .b :: .inl (.lb (nat_lit 0)) :: .inl (.lb (nat_lit 0)) :: .inl (.lb (nat_lit 4)) :: .inl (.lb (nat_lit 0)) :: .inl (.lb (nat_lit 4)) :: .inl (.lo (nat_lit 1)) :: .inl (.lb (nat_lit 0)) :: .inl (.lb (nat_lit 4)) :: .inl (.lb (nat_lit 18)) :: .inl (.lb (nat_lit 441)) :: .inl (.lb (nat_lit 0)) :: .inl (.lb (nat_lit 438)) :: .inl .b :: .inl (.lb (nat_lit 0)) :: .inl (.lb (nat_lit 0)) :: .inl .b :: .inl .b :: .inl (.lb (nat_lit 11)) :: .inl .b :: .inl (.lb (nat_lit 0)) :: .inl (.lb (nat_lit 0)) :: .inl (.lb (nat_lit 2)) :: .inl (.lb (nat_lit 12)) :: .inl .b :: .inl (.lb (nat_lit 0)) :: .inl (.lb (nat_lit 0)) :: .inl (.lb (nat_lit 3)) :: .inl (.lb (nat_lit 3)) :: .inl (.lb (nat_lit 2)) :: .inl (.lb (nat_lit 2)) :: .inl .b :: .inl (.lb (nat_lit 0)) :: .inl (.lb (nat_lit 0)) :: .inl (.lb (nat_lit 5)) :: .inl (.lb (nat_lit 0)) :: .inl (.lb (nat_lit 5)) :: .inl (.lb (nat_lit 0)) :: .inl (.lb (nat_lit 5)) :: .inl (.lb (nat_lit 0)) :: []
theorem de_1b_main (kind b : Int) : EF Sagg.prog (de_1b_specs kind b) 300 60 [] 4 #[.int .u8 kind, .int .u8 b] (fun v _ _ => v = .bool true) ⟨[], []⟩ de_1b_H_0
  = buildC (de_1b_cs kind b) [Told Sagg.prog .rem 5 (.int .u8 kind) (.int .u8 8) (toldV 2 1),
  Told Sagg.prog .neq 29 (.agg (bcells (dl32 ((0 + (beV (l1 b)))))).toArray) (.agg (bcells (l1 b)).toArray) (toldV 0 0)] (fun _ => Value.bool true = .bool true) de_1b_T_0 [] := by kernel_rfl
theorem de_1b_calls (kind b : Int) (hk : kind.tmod 8 = Int.ofNat 1) (hb : 0 ≤ b ∧ b < 256) (hb0 : 0 < b) (w : World) :
    Calls Sagg.prog 4 #[.int .u8 kind, .int .u8 b] w fun e w' => e = .returned (.bool true) ∧ Below w.heap.size w w' := by
  have hcs : ∀ c ∈ de_1b_cs kind b, c.Good := by
    unfold de_1b_cs
    simp only [List.forall_mem_cons]
    exact ⟨de_u24_ran hb hb0,
      de_u25_ran,
      de_u26_ran hb hb0,
      de_u27_ran,
      de_u28_ran,
      de_u29_ran,
      de_u30_ran hb hb0,
      de_u31_ran hb hb0, fun c hc => by cases hc⟩
  have hsp : ∀ p ∈ de_1b_specs kind b, SpecOK p.1 p.2 := by
    intro p hp
    unfold de_1b_specs at hp
    rcases List.mem_cons.1 hp with rfl | hp
    · exact chX_ok hcs
    rcases List.mem_cons.1 hp with rfl | hp
    · exact chX_ok hcs
    rcases List.mem_cons.1 hp with rfl | hp
    · exact chX_ok hcs
    rcases List.mem_cons.1 hp with rfl | hp
    · exact chX_ok hcs
    rcases List.mem_cons.1 hp with rfl | hp
    · exact chX_ok hcs
    rcases List.mem_cons.1 hp with rfl | hp
    · exact chX_ok hcs
    exact desSpecs_ok p hp
  have hrun : EF Sagg.prog (de_1b_specs kind b) 300 60 [] 4 #[.int .u8 kind, .int .u8 b] (fun v _ _ => v = .bool true) ⟨[], []⟩ de_1b_H_0 := by
    refine of_eq (de_1b_main kind b) ?_
    refine buildC_ok ?_ (fun _ => rfl) _ _ (by kernel_rfl)
    exact (ho_cons (told_rem8 hk) (ho_cons (told_word0 rfl rfl (dl32_l1 hb (by simp only [beV_l1, beV_1]; omega))) ho_nil))
  refine (closed (S := fun _ => False) hsp (fun b hb => hb.elim) hrun (fun p hp => by cases hp)).mono ?_
  rintro e w' ⟨v, s', H', rfl, rfl, hi⟩
  exact ⟨rfl, hi.below⟩
end Go.Proofs.EX
