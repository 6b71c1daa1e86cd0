/-
  'TransientRight': words and laws that its runs share.
-/
import Derived.Test.YgcsagGreatCH
import Derived.KernelRfl
namespace Go.Proofs.EX
open Go.RowKit Go.Proofs.YgcsagGreat
set_option linter.unusedVariables false
set_option linter.unusedSimpArgs false
def l32 (f : Nat → Int) : List Int := (List.range 32).map f
def dl32 (x : Int) : List Int := (List.range 32).map fun j => dig x (31 - j)
def row32 (f : Nat → Int) : List Value := (List.range 32).map fun j => Value.int .u8 (f j)
def u (i : Int) : Value := .int .u8 i
noncomputable def entAt (l : List Ent) (i : Nat) : Ent := match nth l i with
  | some e => e
  | none => ⟨0, none, 0, 0⟩
theorem ho_nil : ∀ p ∈ ([] : List Prop), p := fun p hp => by cases hp
theorem ho_cons {q : Prop} {l : List Prop} (h : q) (hl : ∀ p ∈ l, p) : ∀ p ∈ q :: l, p := fun p hp => by
  rcases List.mem_cons.1 hp with rfl | hp
  · exact h
  · exact hl p hp
theorem allIn_of : ∀ {l : List Int}, Dig l → AllIn l
  | [], h => trivial
  | x :: l, h => ⟨h x (by simp), allIn_of fun n hn => h n (by simp [hn])⟩
theorem l32_get (f : Nat → Int) {j : Nat} (hj : j < 32) : (l32 f).getD j 0 = f j := by
  unfold l32
  rw [List.getD_eq_getElem?_getD, List.getElem?_map, List.getElem?_range hj]
  rfl
theorem dl32_beV {f : Nat → Int} (h : AllIn (l32 f)) : dl32 (beV (l32 f)) = l32 f := by
  have hd : Dig (l32 f).reverse := fun n hn => allIn_ok h n (List.mem_reverse.1 hn)
  rw [beV_eq]
  unfold valB dl32
  conv => rhs; unfold l32
  apply List.map_congr_left
  intro j hj
  rw [List.mem_range] at hj
  rw [val_dig hd, List.getD_eq_getElem?_getD, List.getElem?_reverse (by simp [l32]; omega)]
  have : (l32 f).length - 1 - (31 - j) = j := by simp [l32]; omega
  rw [this, ← List.getD_eq_getElem?_getD]
  exact l32_get f hj
theorem allIn_dl (x : Int) : AllIn (dl32 x) := by
  refine allIn_of fun y hy => ?_
  obtain ⟨j, hj, rfl⟩ := List.mem_map.1 hy
  unfold dig
  omega
theorem two256_big : two256 ≤ big := by
  have e : two256 = 256 ^ 32 := by kernel_rfl
  rw [e, big_eq]
  exact pow256_mono (by omega)
theorem beV_range {f : Nat → Int} (hf : AllIn (l32 f)) : 0 ≤ beV (l32 f) ∧ beV (l32 f) < two256 := by
  have e : two256 = 256 ^ 32 := by kernel_rfl
  have hd : Dig (l32 f).reverse := fun n hn => allIn_ok hf n (List.mem_reverse.1 hn)
  rw [beV_eq, e]
  unfold valB
  have h1 := val_lt hd
  rw [List.length_reverse] at h1
  simp only [l32, List.length_map, List.length_range] at h1
  exact ⟨val_nonneg hd, h1⟩
theorem beV_lt {f : Nat → Int} (hf : AllIn (l32 f)) : beV (l32 f) < big := Int.lt_of_lt_of_le (beV_range hf).2 two256_big
theorem cmp_self (x : Int) : cmpX x x = 0 := by rw [cmpX_eq]; unfold cmpI; rw [if_neg (by omega), if_neg (by omega)]
theorem zero_l32 {f : Nat → Int} (hf : AllIn (l32 f)) (hc : cmpX (beV (l32 f)) 0 = 0) : [0, 0, 0, 0, 0, 0, 0, 0, 0, 0, 0, 0, 0, 0, 0, 0, 0, 0, 0, 0, 0, 0, 0, 0, 0, 0, 0, 0, 0, 0, 0, 0] = l32 f := by
  have h0 : beV (l32 f) = 0 := by
    rw [cmpX_eq] at hc
    unfold cmpI at hc
    split at hc
    · omega
    · split at hc
      · omega
      · omega
  have := dl32_beV hf
  rw [h0] at this
  rw [← this]
  rfl
end Go.Proofs.EX
