/-
  'DestructRight': the run of one case, its parts being chunks.
-/
import Derived.Test.YgcsagGreatDes1
import Derived.Test.YgcsagGreatDes2
namespace Go.Proofs.EX
open Go.RowKit Go.Proofs.YgcsagGreat
set_option linter.unusedVariables false
set_option linter.unusedSimpArgs false
set_option maxRecDepth 100000
noncomputable def de_0b_cs (kind b : Int) : List Ch := [de_u8 kind b, de_u9 kind b, de_u10 kind b, de_u11 kind b, de_u12 kind b, de_u13 kind b, de_u14 kind b, de_u15 kind b]
noncomputable def de_0b_specs (kind b : Int) : List (FuncId × Spec) := (44, chX 44 (de_0b_cs kind b)) :: (31, chX 31 (de_0b_cs kind b)) :: (43, chX 43 (de_0b_cs kind b)) :: (45, chX 45 (de_0b_cs kind b)) :: (16, chX 16 (de_0b_cs kind b)) :: (18, chX 18 (de_0b_cs kind b)) :: desSpecs
def de_0b_H_0 : List Nat := nat_lit 100000 :: nat_lit 3 :: nat_lit 0 :: nat_lit 0 :: nat_lit 0 :: nat_lit 0 :: nat_lit 0 :: nat_lit 13 :: nat_lit 3 :: nat_lit 0 :: nat_lit 0 :: nat_lit 0 :: nat_lit 0 :: nat_lit 0 :: nat_lit 0 :: nat_lit 0 :: nat_lit 0 :: nat_lit 0 :: nat_lit 0 :: nat_lit 1 :: nat_lit 0 :: nat_lit 0 :: nat_lit 2 :: nat_lit 0 :: nat_lit 0 :: nat_lit 0 :: nat_lit 0 :: nat_lit 0 :: nat_lit 0 :: nat_lit 0 :: nat_lit 6 :: nat_lit 1 :: nat_lit 1 :: nat_lit 0 :: nat_lit 0 :: nat_lit 0 :: nat_lit 0 :: nat_lit 0 :: nat_lit 0 :: nat_lit 1 :: nat_lit 1 :: nat_lit 2 :: nat_lit 3 :: nat_lit 0 :: nat_lit 0 :: nat_lit 0 :: nat_lit 0 :: nat_lit 0 :: nat_lit 0 :: nat_lit 1 :: nat_lit 1 :: nat_lit 1 :: nat_lit 9 :: nat_lit 0 :: nat_lit 0 :: nat_lit 1 :: nat_lit 0 :: nat_lit 0 :: nat_lit 0 :: nat_lit 1 :: nat_lit 0 :: nat_lit 2 :: nat_lit 0 :: nat_lit 14 :: nat_lit 11 :: nat_lit 2 :: nat_lit 0 :: nat_lit 0 :: nat_lit 0 :: nat_lit 0 :: nat_lit 0 :: nat_lit 1 :: nat_lit 0 :: nat_lit 0 :: nat_lit 0 :: nat_lit 0 :: nat_lit 1 :: nat_lit 3 :: nat_lit 1 :: nat_lit 2 :: nat_lit 1 :: nat_lit 1 :: nat_lit 0 :: nat_lit 3 :: nat_lit 16 :: nat_lit 2 :: nat_lit 0 :: nat_lit 0 :: nat_lit 1 :: nat_lit 0 :: nat_lit 0 :: nat_lit 0 :: nat_lit 0 :: nat_lit 0 :: nat_lit 0 :: nat_lit 0 :: nat_lit 0 :: nat_lit 0 :: nat_lit 0 :: nat_lit 0 :: nat_lit 0 :: nat_lit 0 :: nat_lit 4 :: nat_lit 3 :: nat_lit 1 :: nat_lit 1 :: nat_lit 0 :: nat_lit 5 :: nat_lit 1 :: nat_lit 0 :: nat_lit 0 :: nat_lit 1 :: nat_lit 0 :: nat_lit 5 :: nat_lit 11 :: nat_lit 1 :: nat_lit 0 :: nat_lit 0 :: nat_lit 0 :: nat_lit 0 :: nat_lit 1 :: nat_lit 0 :: nat_lit 0 :: nat_lit 0 :: nat_lit 0 :: nat_lit 0 :: nat_lit 0 :: nat_lit 6 :: nat_lit 0 :: nat_lit 13 :: nat_lit 13 :: nat_lit 0 :: nat_lit 2 :: nat_lit 16 :: nat_lit 0 :: nat_lit 6 :: nat_lit 6 :: nat_lit 0 :: nat_lit 0 :: nat_lit 0 :: nat_lit 0 :: nat_lit 1 :: nat_lit 1 :: nat_lit 0 :: nat_lit 2 :: nat_lit 1 :: nat_lit 3 :: nat_lit 7 :: nat_lit 12 :: nat_lit 0 :: nat_lit 1 :: nat_lit 1 :: nat_lit 0 :: nat_lit 0 :: nat_lit 0 :: nat_lit 0 :: nat_lit 0 :: nat_lit 0 :: nat_lit 0 :: nat_lit 0 :: nat_lit 0 :: nat_lit 2 :: nat_lit 0 :: nat_lit 1 :: nat_lit 1 :: nat_lit 4 :: nat_lit 100000 :: nat_lit 2 :: nat_lit 0 :: nat_lit 2 :: nat_lit 0 :: nat_lit 3 :: nat_lit 0 :: nat_lit 2 :: nat_lit 3 :: nat_lit 0 :: nat_lit 2 :: nat_lit 3 :: nat_lit 0 :: nat_lit 0 :: nat_lit 0 :: nat_lit 3 :: nat_lit 0 :: nat_lit 15 :: nat_lit 0 :: nat_lit 2 :: nat_lit 11 :: nat_lit 1 :: nat_lit 0 :: nat_lit 1 :: nat_lit 0 :: nat_lit 0 :: nat_lit 0 :: nat_lit 0 :: nat_lit 0 :: nat_lit 0 :: nat_lit 0 :: nat_lit 1 :: nat_lit 2 :: nat_lit 0 :: nat_lit 0 :: nat_lit 5 :: nat_lit 0 :: nat_lit 2 :: nat_lit 4 :: nat_lit 2 :: nat_lit 1 :: nat_lit 3 :: nat_lit 0 :: nat_lit 2 :: nat_lit 6 :: nat_lit 0 :: nat_lit 2 :: nat_lit 6 :: nat_lit 1 :: nat_lit 0 :: nat_lit 2 :: nat_lit 6 :: nat_lit 8 :: nat_lit 10 :: nat_lit 0 :: nat_lit 0 :: nat_lit 0 :: nat_lit 2 :: nat_lit 0 :: nat_lit 0 :: nat_lit 0 :: nat_lit 9 :: nat_lit 0 :: nat_lit 2 :: nat_lit 0 :: nat_lit 10 :: nat_lit 0 :: nat_lit 2 :: nat_lit 4 :: nat_lit 11 :: nat_lit 0 :: nat_lit 2 :: nat_lit 5 :: nat_lit 2 :: nat_lit 2 :: nat_lit 4 :: nat_lit 0 :: nat_lit 2 :: nat_lit 7 :: nat_lit 0 :: nat_lit 2 :: nat_lit 7 :: nat_lit 1 :: nat_lit 0 :: nat_lit 2 :: nat_lit 7 :: nat_lit 0 :: nat_lit 0 :: nat_lit 0 :: nat_lit 2 :: nat_lit 0 :: nat_lit 0 :: nat_lit 0 :: nat_lit 0 :: nat_lit 5 :: []
def de_0b_T_0 : List (Tk ⊕ (Nat × List (Nat × Nat × Nat))) := .inl (.lo (nat_lit 0)) :: .inr (0, []) :: .inl .b :: .inl (.lb (nat_lit 0)) :: .inl (.lb (nat_lit 0)) :: .inl (.lb (nat_lit 2)) :: .inl .b :: .inl (.lb (nat_lit 0)) :: .inl (.lb (nat_lit 0)) :: .inl .b :: .inl (.lb (nat_lit 0)) :: .inl .b :: .inl (.lb (nat_lit 0)) :: .inl (.lb (nat_lit 29)) :: .inl (.lb (nat_lit 1)) :: .inl (.lb (nat_lit 1)) :: .inl .b :: .inl (.lb (nat_lit 0)) :: .inl .b :: .inl .b :: .inl .b :: .inl .b :: .inl (.lb (nat_lit 0)) :: .inl (.lb (nat_lit 0)) :: .inl (.lb (nat_lit 1)) :: .inl (.lb (nat_lit 1)) :: .inl .b :: .inl (.lb (nat_lit 0)) :: .inl (.lb (nat_lit 4)) :: .inl (.lc 3 1 55) :: .inl .b :: .inl .b :: .inl .b :: .inl .b :: .inl (.lb (nat_lit 0)) :: .inl (.lb (nat_lit 0)) :: .inl (.lb (nat_lit 1)) :: .inl (.lb (nat_lit 1)) :: .inr (1, [(3, 0, 0), (10, 0, 0), (13, 0, 0), (14, 0, 0), (39, 0, 0), (15, 0, 0), (2, 0, 0)]) :: .inl (.lb (nat_lit 34)) :: .inl .b :: .inl .b :: .inl (.lb (nat_lit 1)) :: .inr (2, [(0, 0, 0), (19, 0, 0), (4, 0, 0), (15, 0, 0), (36, 0, 0), (37, 0, 0), (62, 0, 0), (2, 0, 0), (7, 0, 0), (8, 0, 0), (16, 0, 0), (17, 0, 0), (3, 0, 0), (38, 0, 0)]) :: .inr (3, [(289, 0, 0), (1, 0, 0), (4, 0, 0), (64, 0, 0), (72, 0, 0), (270, 0, 0), (285, 0, 0), (306, 0, 0), (307, 0, 0), (332, 0, 0), (19, 0, 0), (42, 0, 0), (205, 0, 0), (209, 0, 0), (220, 0, 0), (231, 0, 0), (272, 0, 0), (287, 0, 0), (3, 0, 0), (71, 0, 0), (0, 0, 0), (70, 0, 0), (59, 0, 0), (49, 0, 0), (61, 0, 0), (308, 0, 0)]) :: .inr (4, [(1, 0, 0), (25, 0, 0), (313, 0, 0), (28, 0, 0), (88, 0, 0), (96, 0, 0), (294, 0, 0), (309, 0, 0), (330, 0, 0), (331, 0, 0), (356, 0, 0), (3, 0, 0), (8, 0, 0), (16, 0, 0), (43, 0, 0), (66, 0, 0), (229, 0, 0), (233, 0, 0), (255, 0, 0), (296, 0, 0), (311, 0, 0), (94, 0, 0), (0, 0, 0), (83, 0, 0), (73, 0, 0), (85, 0, 0), (27, 0, 0), (95, 0, 0), (24, 0, 0), (244, 0, 0), (332, 0, 0)]) :: .inr (5, [(440, 0, 0), (3, 0, 0), (421, 0, 0), (436, 0, 0), (457, 0, 0), (458, 0, 0), (483, 0, 0), (24, 0, 0), (45, 0, 0), (99, 0, 0), (193, 0, 0), (356, 0, 0), (360, 0, 0), (382, 0, 0), (423, 0, 0), (438, 0, 0), (2, 0, 0), (55, 0, 0), (54, 0, 0), (371, 0, 0), (459, 0, 0)]) :: .inr (6, [(440, 0, 0), (3, 0, 0), (421, 0, 0), (436, 0, 0), (457, 0, 0), (458, 0, 0), (483, 0, 0), (24, 0, 0), (45, 0, 0), (99, 0, 0), (193, 0, 0), (356, 0, 0), (360, 0, 0), (382, 0, 0), (423, 0, 0), (438, 0, 0), (2, 0, 0), (55, 0, 0), (54, 0, 0), (371, 0, 0), (459, 0, 0)]) :: .inl (.lb (nat_lit 495)) :: .inl (.lb (nat_lit 495)) :: .inl .b :: .inl (.lb (nat_lit 0)) :: .inl (.lb (nat_lit 532)) :: .inl (.lb (nat_lit 0)) :: .inr (7, [(515, 0, 0), (4, 0, 0), (511, 0, 0), (533, 0, 0), (558, 0, 0), (61, 0, 0), (99, 0, 0), (120, 0, 0), (431, 0, 0), (513, 0, 0), (3, 0, 0), (29, 0, 0)]) :: .inl .b :: .inl .b :: .inl (.lb (nat_lit 0)) :: .inl (.lb (nat_lit 0)) :: .inl (.lb (nat_lit 1)) :: .inl (.lb (nat_lit 0)) :: .inl (.lb (nat_lit 1)) :: .inl (.lb (nat_lit 0)) :: .inl (.lb (nat_lit 1)) :: .inl (.lb (nat_lit 1)) :: .inl (.lb (nat_lit 557)) :: .inl .b :: .inl (.lb (nat_lit 0)) :: .inl (.lb (nat_lit 0)) :: .inl .b :: .inl .b :: .inl (.lb (nat_lit 6)) :: .inl .b :: .inl (.lb (nat_lit 0)) :: .inl (.lb (nat_lit 0)) :: .inl (.lb (nat_lit 2)) :: .inl (.lb (nat_lit 0)) :: .inl (.lb (nat_lit 1)) :: .inl (.lb (nat_lit 1)) :: .inl .b :: .inl (.lb (nat_lit 0)) :: .inl (.lb (nat_lit 0)) :: .inl (.lb (nat_lit 4)) :: .inl (.lb (nat_lit 0)) :: .inl (.lb (nat_lit 4)) :: .inl (.lo (nat_lit 1)) :: .inl (.lb (nat_lit 0)) :: .inl (.lb (nat_lit 4)) :: .inl (.lb (nat_lit 25)) :: .inl (.lb (nat_lit 587)) :: .inl (.lb (nat_lit 0)) :: .inl (.lb (nat_lit 562)) :: .inl .b :: .inl (.lb (nat_lit 0)) :: .inl (.lb (nat_lit 0)) :: .inl .b :: .inl .b :: .inl (.lb (nat_lit 11)) :: .inl .b :: .inl (.lb (nat_lit 0)) :: .inl (.lb (nat_lit 0)) :: .inl (.lb (nat_lit 2)) :: .inl (.lb (nat_lit 12)) :: .inl .b :: .inl (.lb (nat_lit 0)) :: .inl (.lb (nat_lit 0)) :: .inl (.lb (nat_lit 3)) :: .inl (.lb (nat_lit 0)) :: .inl (.lb (nat_lit 2)) :: .inl (.lb (nat_lit 2)) :: .inl .b :: .inl (.lb (nat_lit 0)) :: .inl (.lb (nat_lit 0)) :: .inl (.lb (nat_lit 5)) :: .inl (.lb (nat_lit 0)) :: .inl (.lb (nat_lit 5)) :: .inl (.lo (nat_lit 2)) :: .inl (.lb (nat_lit 0)) :: .inl (.lb (nat_lit 5)) :: .inl (.lb (nat_lit 0)) :: []
theorem de_0b_main (kind b : Int) : EF Sagg.prog (de_0b_specs kind b) 300 60 [] 4 #[.int .u8 kind, .int .u8 b] (fun v _ _ => v = .bool true) ⟨[], []⟩ de_0b_H_0
  = buildC (de_0b_cs kind b) [Told Sagg.prog .rem 5 (.int .u8 kind) (.int .u8 8) (toldV 2 0),
  Told Sagg.prog .neq 29 (.agg (bcells (dl32 (((0 + (beV (l1 b))) - (0 + (beV (l1 b))))))).toArray) (.agg (bcells (l1 0)).toArray) (toldV 0 0),
  Told Sagg.prog .neq 29 (.agg (bcells (dl32 ((0 + (0 + (beV (l1 b))))))).toArray) (.agg (bcells (l1 b)).toArray) (toldV 0 0)] (fun _ => Value.bool true = .bool true) de_0b_T_0 [] := by kernel_rfl
theorem de_0b_calls (kind b : Int) (hk : kind.tmod 8 = Int.ofNat 0) (hb : 0 ≤ b ∧ b < 256) (hb0 : 0 < b) (w : World) :
    Calls Sagg.prog 4 #[.int .u8 kind, .int .u8 b] w fun e w' => e = .returned (.bool true) ∧ Below w.heap.size w w' := by
  have hcs : ∀ c ∈ de_0b_cs kind b, c.Good := by
    unfold de_0b_cs
    simp only [List.forall_mem_cons]
    exact ⟨de_u8_ran hb hb0,
      de_u9_ran,
      de_u10_ran hb hb0,
      de_u11_ran,
      de_u12_ran hb hb0,
      de_u13_ran,
      de_u14_ran hb hb0,
      de_u15_ran hb hb0, fun c hc => by cases hc⟩
  have hsp : ∀ p ∈ de_0b_specs kind b, SpecOK p.1 p.2 := by
    intro p hp
    unfold de_0b_specs at hp
    rcases List.mem_cons.1 hp with rfl | hp
    · exact chX_ok hcs
    rcases List.mem_cons.1 hp with rfl | hp
    · exact chX_ok hcs
    rcases List.mem_cons.1 hp with rfl | hp
    · exact chX_ok hcs
    rcases List.mem_cons.1 hp with rfl | hp
    · exact chX_ok hcs
    rcases List.mem_cons.1 hp with rfl | hp
    · exact chX_ok hcs
    rcases List.mem_cons.1 hp with rfl | hp
    · exact chX_ok hcs
    exact desSpecs_ok p hp
  have hrun : EF Sagg.prog (de_0b_specs kind b) 300 60 [] 4 #[.int .u8 kind, .int .u8 b] (fun v _ _ => v = .bool true) ⟨[], []⟩ de_0b_H_0 := by
    refine of_eq (de_0b_main kind b) ?_
    refine buildC_ok ?_ (fun _ => rfl) _ _ (by kernel_rfl)
    exact (ho_cons (told_rem8 hk) (ho_cons (told_word0 rfl rfl (dl32_l1 (by omega) (by simp only [beV_l1, beV_1]; omega))) (ho_cons (told_word0 rfl rfl (dl32_l1 hb (by simp only [beV_l1, beV_1]; omega))) ho_nil)))
  refine (closed (S := fun _ => False) hsp (fun b hb => hb.elim) hrun (fun p hp => by cases hp)).mono ?_
  rintro e w' ⟨v, s', H', rfl, rfl, hi⟩
  exact ⟨rfl, hi.below⟩
end Go.Proofs.EX
