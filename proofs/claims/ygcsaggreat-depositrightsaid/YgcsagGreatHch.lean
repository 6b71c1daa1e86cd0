/-
  'CallCodeRight': words and laws that its runs share.
-/
import Derived.Test.YgcsagGreatHH
import Derived.KernelRfl
import Derived.Test.YgcsagGreatArr
namespace Go.Proofs.EX
open Go.RowKit Go.Proofs.YgcsagGreat
set_option linter.unusedVariables false
set_option linter.unusedSimpArgs false
def l32 (f : Nat → Int) : List Int := (List.range 32).map f
def dl32 (x : Int) : List Int := (List.range 32).map fun j => dig x (31 - j)
def row32 (f : Nat → Int) : List Value := (List.range 32).map fun j => Value.int .u8 (f j)
def u (i : Int) : Value := .int .u8 i
noncomputable def entAt (l : List Ent) (i : Nat) : Ent := match nth l i with
  | some e => e
  | none => ⟨0, none, 0, 0⟩
theorem ho_nil : ∀ p ∈ ([] : List Prop), p := fun p hp => by cases hp
theorem ho_cons {q : Prop} {l : List Prop} (h : q) (hl : ∀ p ∈ l, p) : ∀ p ∈ q :: l, p := fun p hp => by
  rcases List.mem_cons.1 hp with rfl | hp
  · exact h
  · exact hl p hp
theorem allIn_of : ∀ {l : List Int}, Dig l → AllIn l
  | [], h => trivial
  | x :: l, h => ⟨h x (by simp), allIn_of fun n hn => h n (by simp [hn])⟩
theorem l32_get (f : Nat → Int) {j : Nat} (hj : j < 32) : (l32 f).getD j 0 = f j := by
  unfold l32
  rw [List.getD_eq_getElem?_getD, List.getElem?_map, List.getElem?_range hj]
  rfl
theorem dl32_beV {f : Nat → Int} (h : AllIn (l32 f)) : dl32 (beV (l32 f)) = l32 f := by
  have hd : Dig (l32 f).reverse := fun n hn => allIn_ok h n (List.mem_reverse.1 hn)
  rw [beV_eq]
  unfold valB dl32
  conv => rhs; unfold l32
  apply List.map_congr_left
  intro j hj
  rw [List.mem_range] at hj
  rw [val_dig hd, List.getD_eq_getElem?_getD, List.getElem?_reverse (by simp [l32]; omega)]
  have : (l32 f).length - 1 - (31 - j) = j := by simp [l32]; omega
  rw [this, ← List.getD_eq_getElem?_getD]
  exact l32_get f hj
theorem allIn_dl (x : Int) : AllIn (dl32 x) := by
  refine allIn_of fun y hy => ?_
  obtain ⟨j, hj, rfl⟩ := List.mem_map.1 hy
  unfold dig
  omega
theorem two256_big : two256 ≤ big := by
  have e : two256 = 256 ^ 32 := by kernel_rfl
  rw [e, big_eq]
  exact pow256_mono (by omega)
theorem beV_range {f : Nat → Int} (hf : AllIn (l32 f)) : 0 ≤ beV (l32 f) ∧ beV (l32 f) < two256 := by
  have e : two256 = 256 ^ 32 := by kernel_rfl
  have hd : Dig (l32 f).reverse := fun n hn => allIn_ok hf n (List.mem_reverse.1 hn)
  rw [beV_eq, e]
  unfold valB
  have h1 := val_lt hd
  rw [List.length_reverse] at h1
  simp only [l32, List.length_map, List.length_range] at h1
  exact ⟨val_nonneg hd, h1⟩
theorem beV_lt {f : Nat → Int} (hf : AllIn (l32 f)) : beV (l32 f) < big := Int.lt_of_lt_of_le (beV_range hf).2 two256_big
theorem cmp_self (x : Int) : cmpX x x = 0 := by rw [cmpX_eq]; unfold cmpI; rw [if_neg (by omega), if_neg (by omega)]
/-- A word with one byte. -/
def l1 (a : Int) : List Int := [0, 0, 0, 0, 0, 0, 0, 0, 0, 0, 0, 0, 0, 0, 0, 0, 0, 0, 0, 0, 0, 0, 0, 0, 0, 0, 0, 0, 0, 0, 0, a]
theorem beV_1 (a : Int) : beV [a] = a := by
  show (0 * 256 + a : Int) = a
  omega
theorem beV_l1 (a : Int) : beV (l1 a) = a := by
  show beV [0, 0, 0, 0, 0, 0, 0, 0, 0, 0, 0, 0, 0, 0, 0, 0, 0, 0, 0, 0, 0, 0, 0, 0, 0, 0, 0, 0, 0, 0, 0, a] = a
  unfold beV
  simp only [List.foldl_cons, List.foldl_nil]
  omega
theorem allIn_l1 {a : Int} (h : 0 ≤ a ∧ a < 256) : AllIn (l1 a) := by
  refine allIn_of fun n hn => ?_
  unfold l1 at hn
  simp only [List.mem_cons, List.not_mem_nil, or_false] at hn
  omega
theorem allIn_1 {a : Int} (h : 0 ≤ a ∧ a < 256) : AllIn [a] := ⟨h, trivial⟩
theorem allIn_app : ∀ {a b : List Int}, AllIn a → AllIn b → AllIn (a ++ b)
  | [], b, _, h => h
  | x :: a, b, h1, h2 => ⟨h1.1, allIn_app h1.2 h2⟩
theorem l1_eq (a : Int) : l1 a = l32 (fun j => if j = 31 then a else 0) := rfl
theorem dl32_l1 {a x : Int} (h : 0 ≤ a ∧ a < 256) (hx : x = a) : dl32 x = l1 a := by
  have h1 := dl32_beV (f := fun j => if j = 31 then a else 0) (by rw [← l1_eq]; exact allIn_l1 h)
  rw [← l1_eq, beV_l1] at h1
  rw [hx, h1]
theorem two256_small {x : Int} (h : x < 340282366920938463463374607431768211457) : x < two256 := Int.lt_of_lt_of_le h (by
  have e : two256 = 256 ^ 32 := by kernel_rfl
  rw [e]
  decide)
theorem big_small {x : Int} (h : x < 340282366920938463463374607431768211457) : x < big := Int.lt_of_lt_of_le (two256_small h) two256_big
theorem cmp_gt {x y : Int} (h : y < x) : cmpX x y = 1 := by
  rw [cmpX_eq]; unfold cmpI; rw [if_neg (by omega), if_pos h]
theorem cmp_eq0 {x y : Int} (h : x = y) : cmpX x y = 0 := by rw [h]; exact cmp_self y
theorem told_fast {P : Program} {op : BinOp} {t : TypeId} {k k' : IntKind} {a b : Int} {v : Value} (h : fastB op k a k' b = some v) : Told P op t (.int k a) (.int k' b) v := fun x y w => fastB_run h t x y w
theorem told_gtr1 {t : TypeId} {a b : Int} (h : b < a) : Told Sagg.prog .gtr t (.int .u8 a) (.int .u8 b) (toldV 1 0) := by
  refine told_fast ?_
  show some (Value.bool (ltB b a)) = some (.bool true)
  rw [ltB_eq, decide_eq_true h]
theorem told_gtr0 {t : TypeId} {a b : Int} (h : a ≤ b) : Told Sagg.prog .gtr t (.int .u8 a) (.int .u8 b) (toldV 0 0) := by
  refine told_fast ?_
  show some (Value.bool (ltB b a)) = some (.bool false)
  rw [ltB_eq, decide_eq_false (by omega)]
theorem told_eqlW {xs ys : List Int} (hx : xs.length = 32) (hy : ys.length = 32) (h : xs = ys) : Told Sagg.prog .eql 29 (.agg (bcells xs).toArray) (.agg (bcells ys).toArray) (toldV 1 0) := by
  intro x y w
  have hg : (eqGuard .eql 29 x y (.agg (bcells xs).toArray) (.agg (bcells ys).toArray)).run Sagg.prog w = .ok () w := by
    unfold eqGuard
    have e : Sagg.prog.eqGuardType Sagg.prog.depth 29 = false := by kernel_rfl
    simp [e]
  rw [Sem.run_bind, hg]
  have := run_eql_bytes (P := Sagg.prog) w 29 5 32 (by kernel_rfl) (by kernel_rfl) (by kernel_rfl) (by kernel_rfl) xs ys hx hy
  simp only [Result.andThen_ok]
  rw [this, h]
  simp [toldV]
end Go.Proofs.EX
