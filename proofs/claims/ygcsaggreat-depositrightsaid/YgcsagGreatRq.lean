/-
  WHAT THE ENGINE TAKES FOR 'nat.Norm': a number, or, where it is asked for, its one digit.
-/
import Derived.Test.YgcsagGreatRp
import Derived.Test.YgcsagGreatJS
namespace Go.Proofs.EX
open Go.RowKit Go.Proofs.YgcsagGreat
set_option linter.unusedVariables false
set_option linter.unusedSimpArgs false
noncomputable def normX : Spec := fun Z args Q s H => match H with
  | [] => False
  | h :: H1 => match h with
    | 0 => sameN Z args Q s H1
    | 1 => match args.toList with
      | [x] => getN x (fun m H => match eqB m 0 with
        | true => Q (.slice none 0 0) s H
        | false => False) s H1
      | _ => False
    | _ => match args.toList with
      | [x] => getN x (fun m H => match ltB 0 m with
        | true => match ltB m 256 with
          | true => ∀ b, Q (.slice (some ⟨b, 0, none⟩) 1 1) { s with M := ⟨b, 5, [.int .u8 m], 1⟩ :: s.M } H
          | false => False
        | false => False) s H1
      | _ => False
theorem val_nonneg : ∀ {zs : List Int}, Dig zs → 0 ≤ val zs
  | [], _ => Int.le_refl _
  | x :: r, h => by
    have h1 := h x List.mem_cons_self
    have h2 := val_nonneg (zs := r) fun y hy => h y (List.mem_cons_of_mem _ hy)
    unfold val
    omega
theorem normX_ok : SpecOK 110 normX := by
  intro S w0 hS Z G args Q s H w h hi
  unfold normX at h
  split at h
  · exact h.elim
  · split at h
    · exact natSpecs_ok (110, sameN) (by unfold natSpecs; simp) S w0 hS Z G args Q s _ w h hi
    · split at h
      · rename_i x hargs
        rw [arr_eq hargs]
        obtain ⟨m, H2, h, hm⟩ := getN_ok h hi
        split at h
        · rename_i he
          rw [eqB_eq] at he
          have he := of_decide_eq_true he
          have hq := h
          obtain ⟨zs, a, c, rfl, h1, h2, h3, h4, h5, h6, h7, -⟩ := nmN_open hm
          have hl := norm_len (k := 0) h3.1 h4 (by rw [h5, he]; decide)
          obtain rfl : zs = [] := List.length_eq_zero_iff.1 (by omega)
          refine (norm_sharp a _ c 0 [] w rfl h1 h2 h3 rfl (by omega)).mono ?_
          rintro e w' (⟨-, rfl, rfl⟩ | ⟨h0, -⟩)
          · exact ⟨_, _, _, rfl, hq, hi⟩
          · exact absurd rfl h0
        · exact h.elim
      · exact h.elim
    · split at h
      · rename_i x hargs
        rw [arr_eq hargs]
        obtain ⟨m, H2, h, hm⟩ := getN_ok h hi
        split at h
        · rename_i hp
          rw [ltB_eq] at hp
          have hp := of_decide_eq_true hp
          split at h
          · rename_i hu
            rw [ltB_eq] at hu
            have hu := of_decide_eq_true hu
            have hq := h
            obtain ⟨zs, a, c, rfl, h1, h2, h3, h4, h5, h6, h7, -⟩ := nmN_open hm
            have hl := norm_len (k := 1) h3.1 h4 (by rw [h5]; exact hu)
            obtain ⟨y, rfl⟩ : ∃ y, zs = [y] := by
              match zs, hl, h5 with
              | [], _, h5 => simp [val] at h5; omega
              | [y], _, _ => exact ⟨y, rfl⟩
              | a :: b :: r, hl, _ => simp at hl
            have hy : y = m := by rw [← h5]; simp [val]
            subst hy
            refine (norm_sharp a _ c 1 [y] w rfl h1 h2 h3 (by rw [trim_norm h3.1 h4]; rfl) (by omega)).mono ?_
            rintro e w' (⟨h0, -⟩ | ⟨-, rfl, hrow, -, hb⟩)
            · cases h0
            · refine ⟨_, _, _, rfl, hq w.heap.size, hi.addBlk hb (Nat.le_refl _) rfl ?_⟩
              rw [trim_norm h3.1 h4] at hrow
              exact hrow
          · exact h.elim
        · exact h.elim
      · exact h.elim
noncomputable def desSpecs : List (FuncId × Spec) := (110, normX) :: (103, sumX hashTab) :: natSpecs2
theorem desSpecs_ok : ∀ p ∈ desSpecs, SpecOK p.1 p.2 := by
  unfold desSpecs
  simp only [List.forall_mem_cons]
  exact ⟨normX_ok, sumX_ok hashTab_ok, natSpecs2_ok⟩
end Go.Proofs.EX
