/-
  WHAT THE ENGINE TAKES FOR 'kmodel.Sum': a table of rows and their hashes.
-/
import Derived.Test.YgcsagGreatRo
import Derived.Test.YgcsagGreatHnh
namespace Go.Proofs.EX
open Go.RowKit Go.Proofs.YgcsagGreat
set_option linter.unusedVariables false
set_option linter.unusedSimpArgs false
set_option maxRecDepth 100000
def eqNL : List Int → List Nat → Bool
  | [], [] => true
  | x :: l, n :: m => match eqB x (Int.ofNat n) with
    | true => eqNL l m
    | false => false
  | _, _ => false
theorem eqNL_ok : ∀ {l : List Int} {m : List Nat}, eqNL l m = true → l = m.map Int.ofNat
  | [], [], _ => rfl
  | [], n :: m, h => by cases h
  | x :: l, [], h => by cases h
  | x :: l, n :: m, h => by
    unfold eqNL at h
    split at h
    · rename_i he
      rw [eqB_eq] at he
      rw [List.map_cons, ← of_decide_eq_true he, ← eqNL_ok h]
    · cases h
noncomputable def sumX (tab : List (List Nat × List Int)) : Spec := fun Z args Q s H => match args.toList with
  | [v] => readB Z v (fun l H => bytesN l (fun r H => match H with
    | [] => False
    | k :: H1 => match nth tab k with
      | some p => match eqNL r p.1 with
        | true => Q (.agg (bcells p.2).toArray) s H1
        | false => False
      | none => False) H) s H
  | _ => False
/-- The table is right. -/
def TabOK (tab : List (List Nat × List Int)) : Prop := ∀ p ∈ tab, (0 < p.1.length ∧ p.1.length ≤ 10000) ∧ (∀ j, dKN p.1 j < 256) ∧ rowYKN (sumKN p.1 p.1.length) = (bcells p.2).toArray
theorem sumX_ok {tab : List (List Nat × List Int)} (htab : TabOK tab) : SpecOK 103 (sumX tab) := by
  intro S w0 hS Z G args Q s H w h hi
  unfold sumX at h
  split at h
  · rename_i v hargs
    rw [arr_eq hargs]
    obtain ⟨a, n, c, l, H1, rfl, hl, hrow, h⟩ := readB_ok h hi
    obtain ⟨r, H2, hr, hd, h⟩ := bytesN_ok h
    split at h
    · exact h.elim
    · rename_i k H3
      split at h
      · rename_i p hp
        split at h
        · rename_i he
          have hq := h
          have he := eqNL_ok he
          rw [nth_eq] at hp
          obtain ⟨⟨h0, hmax⟩, hb, hs⟩ := htab p (List.mem_of_getElem? hp)
          have hlen : p.1.length = n := by rw [← hl, hr, he, List.length_map, List.length_map]
          rcases hrow with hnil | ⟨b, off, rfl, hc⟩
          · rw [hnil] at hl
            simp at hl
            omega
          · rw [← hlen]
            refine (sum_core b off p.1.length c p.1 w hmax (fun j hj => hc j _ ?_) hb).mono ?_
            · rw [hr, he, List.getElem?_map, List.getElem?_map, List.getElem?_eq_getElem hj]
              simp [dKN, List.getD_eq_getElem?_getD, hj]
            · rintro e W ⟨rfl, hk⟩
              rw [hs]
              exact ⟨_, _, _, rfl, hq, hi.later hk.below⟩
        · exact h.elim
      · exact h.elim
  · exact h.elim
theorem dKN_lt {bs : List Nat} (h : ∀ x ∈ bs, x < 256) (j : Nat) : dKN bs j < 256 := by
  unfold dKN
  rw [List.getD_eq_getElem?_getD]
  cases hj : bs[j]? with
  | none => simp
  | some x => exact h x (List.mem_of_getElem? hj)
def hashTab : List (List Nat × List Int) := [([214, 148, 0, 0, 0, 0, 0, 0, 0, 0, 0, 0, 0, 0, 0, 0, 0, 0, 0, 0, 0, 240, 128], [210, 150, 16, 2, 208, 50, 216, 178, 0, 80, 171, 115, 122, 214, 114, 252, 170, 141, 106, 253, 181, 71, 153, 72, 38, 245, 217, 41, 40, 148, 220, 69]),
  ([214, 148, 0, 0, 0, 0, 0, 0, 0, 0, 0, 0, 0, 0, 0, 0, 0, 0, 0, 0, 0, 1, 1], [124, 230, 135, 94, 109, 146, 21, 110, 234, 66, 203, 162, 83, 91, 61, 122, 37, 47, 160, 52, 237, 113, 240, 197, 62, 192, 198, 247, 132, 203, 100, 225]),
  ([214, 148, 0, 0, 0, 0, 0, 0, 0, 0, 0, 0, 0, 0, 0, 0, 0, 0, 0, 0, 0, 2, 1], [2, 253, 93, 186, 253, 117, 129, 24, 144, 155, 202, 186, 118, 108, 223, 215, 174, 163, 62, 200, 182, 4, 198, 164, 42, 37, 56, 210, 127, 194, 118, 42]),
  ([96, 153, 255], [10, 83, 77, 36, 68, 179, 1, 85, 185, 220, 202, 218, 175, 223, 252, 168, 164, 129, 236, 178, 114, 4, 32, 20, 228, 65, 170, 39, 52, 44, 25, 160]),
  ([255, 0, 0, 0, 0, 0, 0, 0, 0, 0, 0, 0, 0, 0, 0, 0, 0, 0, 0, 0, 1, 0, 0, 0, 0, 0, 0, 0, 0, 0, 0, 0, 0, 0, 0, 0, 0, 0, 0, 0, 0, 0, 0, 0, 0, 0, 0, 0, 0, 0, 0, 0, 0, 10, 83, 77, 36, 68, 179, 1, 85, 185, 220, 202, 218, 175, 223, 252, 168, 164, 129, 236, 178, 114, 4, 32, 20, 228, 65, 170, 39, 52, 44, 25, 160], [174, 216, 168, 175, 224, 250, 215, 61, 49, 14, 74, 34, 27, 153, 82, 2, 99, 118, 135, 9, 143, 139, 32, 193, 64, 10, 238, 192, 99, 246, 184, 81]),
  ([214, 148, 0, 0, 0, 0, 0, 0, 0, 0, 0, 0, 0, 0, 0, 0, 0, 0, 0, 0, 0, 1, 2], [38, 83, 234, 245, 40, 174, 45, 67, 120, 156, 109, 89, 192, 81, 19, 79, 86, 213, 97, 96, 232, 200, 237, 155, 179, 196, 57, 199, 138, 178, 124, 204])]
theorem hashTab_ok : TabOK hashTab := by
  unfold TabOK hashTab
  simp only [List.forall_mem_cons]
  refine ⟨⟨⟨by decide, by decide⟩, dKN_lt (by decide), (congrArg rowYKN sum_a).trans (by kernel_rfl)⟩,
    ⟨⟨by decide, by decide⟩, dKN_lt (by decide), (congrArg rowYKN sum_b).trans (by kernel_rfl)⟩,
    ⟨⟨by decide, by decide⟩, dKN_lt (by decide), (congrArg rowYKN sum_c).trans (by kernel_rfl)⟩,
    ⟨⟨by decide, by decide⟩, dKN_lt (by decide), (congrArg rowYKN sum_d).trans (by kernel_rfl)⟩,
    ⟨⟨by decide, by decide⟩, dKN_lt (by decide), (congrArg rowYKN sum_e).trans (by kernel_rfl)⟩,
    ⟨⟨by decide, by decide⟩, dKN_lt (by decide), (congrArg rowYKN sum_f).trans (by kernel_rfl)⟩, fun p hp => by cases hp⟩
end Go.Proofs.EX
