/-
  'BlockHashRight' holds whatever it is given.
-/
import Derived.Test.YgcsagGreatBht
import Derived.Test.YgcsagGreatBh0
import Derived.Test.YgcsagGreatBh1
import Derived.Test.YgcsagGreatBh2
import Derived.Test.YgcsagGreatBh3
import Derived.Test.YgcsagGreatBh4
import Derived.Test.YgcsagGreatBh5
namespace Go.Proofs.EX
open Go.RowKit Go.Proofs.YgcsagGreat
set_option linter.unusedVariables false
set_option linter.unusedSimpArgs false
set_option maxRecDepth 100000
theorem build_any {obs : List Prop} {fin : List EV → Prop} (ho : ∀ p ∈ obs, p) {T : List Tk} {env : List EV} (hl : (laidOK obs.length T (env.map isV)).isSome = true) (hf : ∀ e, fin e) : build obs fin T env := by
  obtain ⟨r, hr⟩ := Option.isSome_iff_exists.1 hl
  exact build_ok ho T env hr (fun e _ => hf e)
theorem bh_0_run (hb off hc m : Nat) (ha : Option Addr) (num : Int) (a : Nat → Int) (h : Nat → Nat → Int) (hnum : 0 ≤ num ∧ num < 18446744073709551616) (hal : AllIn (l32 a)) (hh : ∀ i, i < 0 → AllIn (l32 (h i))) : EF Sagg.prog bhSpecs 300 60 [] 7 #[.int .u64 num, .slice ha 0 hc, .agg (row32 a).toArray] (fun v _ _ => v = .bool true) ⟨[], (List.range 0).map fun i => win hb (off + 32 * i) (row32 (h i))⟩ bh0_H_0 := by
  refine of_eq (bh_0 hb off hc m ha num a h) ?_
  refine build_any ?_ (by kernel_rfl) (fun _ => rfl)
  exact (ho_cons (hal) (ho_cons (by have := beV_one hal; omega) (ho_cons (hnum) (ho_cons (beV_one hal) (ho_cons (Int.lt_of_lt_of_le (hvN_range hh).2 two256_big) (ho_cons (hvN_range hh) (ho_cons (allIn_dl _) (ho_cons (hvN_want hh rfl) ho_nil))))))))
theorem bh_1_run (hb off hc m : Nat) (ha : Option Addr) (num : Int) (a : Nat → Int) (h : Nat → Nat → Int) (hnum : 0 ≤ num ∧ num < 18446744073709551616) (hal : AllIn (l32 a)) (hh : ∀ i, i < 1 → AllIn (l32 (h i))) : EF Sagg.prog bhSpecs 300 60 [] 7 #[.int .u64 num, .slice (some ⟨hb, off, none⟩) 1 hc, .agg (row32 a).toArray] (fun v _ _ => v = .bool true) ⟨[], (List.range 1).map fun i => win hb (off + 32 * i) (row32 (h i))⟩ bh1_H_0 := by
  refine of_eq (bh_1 hb off hc m ha num a h) ?_
  refine build_any ?_ (by kernel_rfl) (fun _ => rfl)
  exact (ho_cons (rfl) (ho_cons (hal) (ho_cons (by have := beV_one hal; omega) (ho_cons (hnum) (ho_cons (beV_one hal) (ho_cons (hh 0 (by omega)) (ho_cons (Int.lt_of_lt_of_le (hvN_range hh).2 two256_big) (ho_cons (hvN_range hh) (ho_cons (allIn_dl _) (ho_cons (hvN_want hh rfl) ho_nil))))))))))
theorem bh_2_run (hb off hc m : Nat) (ha : Option Addr) (num : Int) (a : Nat → Int) (h : Nat → Nat → Int) (hnum : 0 ≤ num ∧ num < 18446744073709551616) (hal : AllIn (l32 a)) (hh : ∀ i, i < 2 → AllIn (l32 (h i))) : EF Sagg.prog bhSpecs 300 60 [] 7 #[.int .u64 num, .slice (some ⟨hb, off, none⟩) 2 hc, .agg (row32 a).toArray] (fun v _ _ => v = .bool true) ⟨[], (List.range 2).map fun i => win hb (off + 32 * i) (row32 (h i))⟩ bh2_H_0 := by
  refine of_eq (bh_2 hb off hc m ha num a h) ?_
  refine build_any ?_ (by kernel_rfl) (fun _ => rfl)
  exact (ho_cons (rfl) (ho_cons (rfl) (ho_cons (hal) (ho_cons (by have := beV_one hal; omega) (ho_cons (hnum) (ho_cons (beV_one hal) (ho_cons (allIn_hfl hh) (ho_cons (Int.lt_of_lt_of_le (hvN_range hh).2 two256_big) (ho_cons (hvN_range hh) (ho_cons (hh 0 (by omega)) (ho_cons (hh 1 (by omega)) (ho_cons (allIn_dl _) (ho_cons (hvN_want hh rfl) ho_nil)))))))))))))
theorem bh_3_run (hb off hc m : Nat) (ha : Option Addr) (num : Int) (a : Nat → Int) (h : Nat → Nat → Int) (hnum : 0 ≤ num ∧ num < 18446744073709551616) (hal : AllIn (l32 a)) (hh : ∀ i, i < 3 → AllIn (l32 (h i))) : EF Sagg.prog bhSpecs 300 60 [] 7 #[.int .u64 num, .slice (some ⟨hb, off, none⟩) 3 hc, .agg (row32 a).toArray] (fun v _ _ => v = .bool true) ⟨[], (List.range 3).map fun i => win hb (off + 32 * i) (row32 (h i))⟩ bh3_H_0 := by
  refine of_eq (bh_3 hb off hc m ha num a h) ?_
  refine build_any ?_ (by kernel_rfl) (fun _ => rfl)
  exact (ho_cons (rfl) (ho_cons (rfl) (ho_cons (rfl) (ho_cons (hal) (ho_cons (by have := beV_one hal; omega) (ho_cons (hnum) (ho_cons (beV_one hal) (ho_cons (allIn_hfl hh) (ho_cons (Int.lt_of_lt_of_le (hvN_range hh).2 two256_big) (ho_cons (hvN_range hh) (ho_cons (hh 0 (by omega)) (ho_cons (hh 1 (by omega)) (ho_cons (hh 2 (by omega)) (ho_cons (allIn_dl _) (ho_cons (hvN_want hh rfl) ho_nil)))))))))))))))
theorem bh_4_run (hb off hc m : Nat) (ha : Option Addr) (num : Int) (a : Nat → Int) (h : Nat → Nat → Int) (hnum : 0 ≤ num ∧ num < 18446744073709551616) (hal : AllIn (l32 a)) (hh : ∀ i, i < 4 → AllIn (l32 (h i))) : EF Sagg.prog bhSpecs 300 60 [] 7 #[.int .u64 num, .slice (some ⟨hb, off, none⟩) 4 hc, .agg (row32 a).toArray] (fun v _ _ => v = .bool true) ⟨[], (List.range 4).map fun i => win hb (off + 32 * i) (row32 (h i))⟩ bh4_H_0 := by
  refine of_eq (bh_4 hb off hc m ha num a h) ?_
  refine build_any ?_ (by kernel_rfl) (fun _ => rfl)
  exact (ho_cons (rfl) (ho_cons (rfl) (ho_cons (rfl) (ho_cons (rfl) (ho_cons (hal) (ho_cons (by have := beV_one hal; omega) (ho_cons (hnum) (ho_cons (beV_one hal) (ho_cons (allIn_hfl hh) (ho_cons (Int.lt_of_lt_of_le (hvN_range hh).2 two256_big) (ho_cons (hvN_range hh) (ho_cons (hh 0 (by omega)) (ho_cons (hh 1 (by omega)) (ho_cons (hh 2 (by omega)) (ho_cons (hh 3 (by omega)) (ho_cons (allIn_dl _) (ho_cons (hvN_want hh rfl) ho_nil)))))))))))))))))
theorem bh_5_run (hb off hc m : Nat) (ha : Option Addr) (num : Int) (a : Nat → Int) (h : Nat → Nat → Int) (hnum : 0 ≤ num ∧ num < 18446744073709551616) (hal : AllIn (l32 a)) (hh : ∀ i, i < 4 → AllIn (l32 (h i))) : EF Sagg.prog bhSpecs 300 60 [] 7 #[.int .u64 num, .slice (some ⟨hb, off, none⟩) (m + 5) (hc + (m + 5)), .agg (row32 a).toArray] (fun v _ _ => v = .bool true) ⟨[], (List.range 4).map fun i => win hb (off + 32 * i) (row32 (h i))⟩ bh5_H_0 := by
  refine of_eq (bh_5 hb off hc m ha num a h) ?_
  refine build_any ?_ (by kernel_rfl) (fun _ => rfl)
  exact (ho_cons (rfl) (ho_cons (rfl) (ho_cons (rfl) (ho_cons (rfl) (ho_cons (hal) (ho_cons (by have := beV_one hal; omega) (ho_cons (hnum) (ho_cons (beV_one hal) (ho_cons (allIn_hfl hh) (ho_cons (Int.lt_of_lt_of_le (hvN_range hh).2 two256_big) (ho_cons (hvN_range hh) (ho_cons (hh 0 (by omega)) (ho_cons (hh 1 (by omega)) (ho_cons (hh 2 (by omega)) (ho_cons (hh 3 (by omega)) (ho_cons (allIn_dl _) (ho_cons (hvN_want hh rfl) ho_nil)))))))))))))))))
variable {w : World}
theorem bh_fin {args : Array Value} {N : List (Value × Int)} {H : Hs} {R d : Nat} (hN : ∀ p ∈ N, Stab [] w (fun w => nmH (fun _ => False) w p.1 p.2)) (hrun : EF Sagg.prog bhSpecs R d [] 7 args (fun v s _ => v = .bool true) ⟨[], N⟩ H) : Calls Sagg.prog 7 args w (fun e w' => e = .returned (.bool true) ∧ Below w.heap.size w w') := by
  refine (closed bhSpecs_ok (fun b hb => hb.elim) hrun hN).mono ?_
  rintro e w' ⟨v, s', H', rfl, rfl, hi⟩
  exact ⟨rfl, hi.below⟩
theorem bhN_nm {hb off k : Nat} {h : Nat → Nat → Int} (hc3 : ∀ i j, i < k → j < 32 → w.cell? ⟨hb, off + 32 * i + j, none⟩ = some (.int .u8 (h i j))) : ∀ p ∈ (List.range k).map fun i => win hb (off + 32 * i) (row32 (h i)), Stab [] w (fun w => nmH (fun _ => False) w p.1 p.2) := by
  intro p hp
  obtain ⟨i, hi, rfl⟩ := List.mem_map.1 hp
  rw [List.mem_range] at hi
  refine win_nm (b := hb) (o := off + 32 * i) (cs := (row32 (h i)).toArray) (c := 0) rfl ?_
  intro j u hu
  have hj : j < 32 := by
    have := (Array.getElem?_eq_some_iff.1 hu).1
    simpa [row32] using this
  have : u = .int .u8 (h i j) := by
    simp [row32, hj] at hu
    exact hu.symm
  rw [this]
  exact hc3 i j hi hj
theorem bh_calls (sa : Option Addr) (len cap : Nat) (zs az : List Int) (num : Int) (hnum : 0 ≤ num ∧ num < 18446744073709551616) (hlc : len ≤ cap) (hz : zs.length = 32 * len) (hrow : ByteRow w sa zs) (ha32 : az.length = 32) (had : Dig az) :
    Calls Sagg.prog 7 #[.int .u64 num, .slice sa len cap, .agg (bcells az).toArray] w fun e w' => e = .returned (.bool true) ∧ Below w.heap.size w w' := by
  have ea : (bcells az).toArray = (row32 fun j => az.getD j 0).toArray := by
    congr 1
    unfold row32 bcells
    have e := congrArg (List.map (Value.int .u8)) (list32 ha32)
    rw [List.map_map] at e
    exact e
  have hal : AllIn (l32 fun j => az.getD j 0) := by
    unfold l32
    rw [← list32 ha32]
    exact allIn_of had
  have hh : ∀ i, AllIn (l32 fun j => zs.getD (32 * i + j) 0) := by
    intro i
    refine allIn_of fun y hy => ?_
    obtain ⟨j, hj, rfl⟩ := List.mem_map.1 hy
    exact hrow.1.getD _
  rw [ea]
  by_cases h0 : len = 0
  · subst h0
    exact bh_fin (fun p hp => by cases hp) (bh_0_run 0 0 cap 0 sa num _ (fun i j => zs.getD (32 * i + j) 0) hnum hal (fun i hi => hh i))
  · obtain ⟨hb, off, rfl, hc⟩ : ∃ b off, sa = some ⟨b, off, none⟩ ∧ ∀ i, i < zs.length → w.cell? ⟨b, off + i, none⟩ = some (.int .u8 (zs.getD i 0)) := by
      rcases hrow.2 with e | e
      · rw [e] at hz; simp at hz; omega
      · exact e
    have hcells : ∀ k, k ≤ len → ∀ i j, i < k → j < 32 → w.cell? ⟨hb, off + 32 * i + j, none⟩ = some (.int .u8 (zs.getD (32 * i + j) 0)) := by
      intro k hk i j hi hj
      have := hc (32 * i + j) (by omega)
      rw [← Nat.add_assoc] at this
      exact this
    by_cases h5 : 5 ≤ len
    · obtain ⟨m, rfl⟩ : ∃ m, len = m + 5 := ⟨len - 5, by omega⟩
      obtain ⟨c, rfl⟩ : ∃ c, cap = c + (m + 5) := ⟨cap - (m + 5), by omega⟩
      exact bh_fin (bhN_nm (k := 4) (hcells 4 (by omega))) (bh_5_run hb off c m none num _ _ hnum hal (fun i hi => hh i))
    · have hcase : len = 1 ∨ len = 2 ∨ len = 3 ∨ len = 4 := by omega
      rcases hcase with rfl | rfl | rfl | rfl
      · exact bh_fin (bhN_nm (k := 1) (hcells 1 (by omega))) (bh_1_run hb off cap 0 none num _ _ hnum hal (fun i hi => hh i))
      · exact bh_fin (bhN_nm (k := 2) (hcells 2 (by omega))) (bh_2_run hb off cap 0 none num _ _ hnum hal (fun i hi => hh i))
      · exact bh_fin (bhN_nm (k := 3) (hcells 3 (by omega))) (bh_3_run hb off cap 0 none num _ _ hnum hal (fun i hi => hh i))
      · exact bh_fin (bhN_nm (k := 4) (hcells 4 (by omega))) (bh_4_run hb off cap 0 none num _ _ hnum hal (fun i hi => hh i))
end Go.Proofs.EX
