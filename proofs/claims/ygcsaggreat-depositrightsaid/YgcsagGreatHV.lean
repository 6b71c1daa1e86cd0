/-
  NUMBERS AS ARRAYS OF BYTES: 'BE32', 'addrOf'.
-/
import Derived.Test.YgcsagGreatHU
namespace Go.Proofs.YgcsagGreat
open Go.RowKit
set_option linter.unusedVariables false
set_option linter.unusedSimpArgs false
/-- m places, the first k digits laid from the right. -/
def beL (m : Nat) (us : List Int) (k : Nat) : List Int := (List.range m).map fun i => if m - 1 - i < k then us.getD (m - 1 - i) 0 else 0
theorem beL_length (m : Nat) (us : List Int) (k : Nat) : (beL m us k).length = m := by simp [beL]
theorem beL_step {m : Nat} {us : List Int} {k : Nat} (h : k < m) : (beL m us k).set (m - 1 - k) (us.getD k 0) = beL m us (k + 1) := by
  apply List.ext_getElem?
  intro i
  rw [List.getElem?_set]
  simp only [beL, List.length_map, List.length_range, List.getElem?_map]
  by_cases hi : i < m
  · rw [List.getElem?_range hi]
    by_cases e : m - 1 - k = i
    · have : m - 1 - i = k := by omega
      rw [if_pos e, if_pos (by omega)]
      simp [this]
    · rw [if_neg e]
      simp only [Option.map_some]
      by_cases h1 : m - 1 - i < k
      · rw [if_pos h1, if_pos (by omega)]
      · rw [if_neg h1, if_neg (by omega)]
  · rw [List.getElem?_eq_none (by simp; omega)]
    rw [if_neg (by omega)]
    rfl
/-- Two arrays made one behind the other. -/
structure Two (t : TypeId) (w W : World) (r0 r1 : List Int) : Prop where
  below : Below w.heap.size w W
  first : W.heap[w.heap.size]? = some (.cells (rowOf r0) t (0, 0))
  second : W.heap[w.heap.size + 1]? = some (.cells (rowOf r1) t (0, 0))
theorem Two.start (t : TypeId) (w : World) (r : List Int) : Two t w ((w.alloc (.cells (rowOf r) t)).alloc (.cells (rowOf r) t)) r r := by
  refine ⟨((Below.refl _ _).alloc (Nat.le_refl _) _).alloc (by simp) _, ?_, ?_⟩
  · show ((w.heap.push _).push _)[w.heap.size]? = _
    rw [Array.getElem?_push, if_neg (by simp), Array.getElem?_push, if_pos rfl]
  · show ((w.heap.push _).push _)[w.heap.size + 1]? = _
    rw [Array.getElem?_push, if_pos (by simp)]
theorem row_cell {W : World} {g i : Nat} {t : TypeId} {cur : List Int} (h : W.heap[g]? = some (.cells (rowOf cur) t (0, 0))) (hi : i < cur.length) : W.cell? ⟨g, i, none⟩ = some (.int .u8 (cur.getD i 0)) := by
  simp [World.cell?, h, rowOf_get cur i hi]
theorem row_frozen {W : World} {g i : Nat} {t : TypeId} {cur : List Int} (h : W.heap[g]? = some (.cells (rowOf cur) t (0, 0))) : W.frozen? ⟨g, i, none⟩ = false := by
  simp [World.frozen?, h]
theorem Two.set {t : TypeId} {w W : World} {r0 r1 : List Int} (h : Two t w W r0 r1) (i : Nat) (x : Int) : Two t w (W.setCell ⟨w.heap.size + 1, i, none⟩ (.int .u8 x)) r0 (r1.set i x) := by
  refine ⟨h.below.setCell (show w.heap.size ≤ w.heap.size + 1 by omega) _, ?_, ?_⟩
  · unfold World.setCell
    rw [Array.getElem?_modify, if_neg (by simp)]
    exact h.first
  · unfold World.setCell
    rw [Array.getElem?_modify, if_pos rfl, h.second]
    simp only [Option.map_some]
    rw [rowOf_set]
    simp
theorem isz28 : (Sagg.prog.info? 28).map (·.size) = some 32 := by kernel_rfl
theorem row_one (cur : List Int) : (rowOf cur).all (·.oneCell') = true := by
  unfold rowOf
  rw [← Array.all_toList, List.all_eq_true]
  intro v hv
  obtain ⟨x, _, rfl⟩ := List.mem_map.1 hv
  rfl
set_option maxRecDepth 100000 in
set_option maxHeartbeats 1000000 in
theorem be32_calls (a : Option Addr) (n c : Nat) (zs : List Int) (w : World) (hl : zs.length = n) (hlc : n ≤ c) (hm : c ≤ maxLen) (hr : ByteRow w a zs) (h8 : (trimL zs).length ≤ 32) :
    Calls Sagg.prog 102 #[.slice a n c] w fun e w' => e = .returned (.tuple #[.agg (rowOf (beL 32 (trimL zs) (trimL zs).length)), .bool true]) ∧ Below w.heap.size w w' := by
  have ht := fun w' (hb : Below w.heap.size w w') => trim_calls a n c zs w' hl hlc hm (hr.ext hb)
  have hr' := hr.trimL
  generalize trimL zs = us at *
  go_enter Sagg.func102, Sagg.ntmps102
  go_wp2_with fail
  have hT := Two.start 28 w (zeros 32)
  have HT : Hid (Two 28 w ((w.alloc (.cells (rowOf (zeros 32)) 28)).alloc (.cells (rowOf (zeros 32)) 28)) (zeros 32) (beL 32 us 0)) := hT
  clear hT
  refine (ht _ HT.out.below).mono ?_
  rintro e w' ⟨rfl, rfl⟩
  generalize (w.alloc _).alloc _ = W2 at HT ⊢
  go_wp2
  go_loopw [15] (fun i wr => ∃ k : Nat, k ≤ us.length ∧ i = .int .i64 k ∧ Two 28 w wr (zeros 32) (beL 32 us k)) (fun i _ => us.length - (intOf i).toNat)
  case atStart => exact ⟨0, Nat.zero_le _, rfl, HT.out⟩
  case round =>
    obtain ⟨k, hk, rfl, hT⟩ := hrel
    by_cases hlt : k < us.length
    · obtain ⟨b1, off1, hb1, hcd⟩ : ∃ b1 off1, a = some ⟨b1, off1, none⟩ ∧ wr.cell? ⟨b1, off1 + k, none⟩ = some (.int .u8 (us.getD k 0)) := by
        rcases hr'.2 with h | ⟨b1, off1, hb1, hc1⟩
        · rw [h] at hlt; simp at hlt
        · exact ⟨b1, off1, hb1, cell_later hT.below (hc1 _ hlt)⟩
      subst hb1
      have hd := hr'.1.getD k
      have hcu := row_cell hT.second (i := 31 - k) (by rw [beL_length]; omega)
      have hfz := row_frozen (i := 31 - k) hT.second
      generalize (beL 32 us k).getD (31 - k) 0 = u0 at hcu
      generalize hde : us.getD k 0 = d at hcd hd
      have HD : Hid (us.getD k 0 = d) := hde
      have HI : Hid (Two 28 w wr (zeros 32) (beL 32 us k)) := hT
      clear hde hT hr hr' ht HT
      go_wp2
      refine ⟨⟨k + 1, by omega, by go_num, ?_⟩, by simp [intOf]; omega⟩
      have := HI.out.set (31 - k) d
      rw [← HD.out, show 31 - k = 32 - 1 - k by omega, beL_step (by omega), HD.out] at this
      exact this
    · have hkn : k = us.length := by omega
      subst hkn
      have h1 := hT.first
      have h2 := hT.second
      have hbel := hT.below
      have hlen := beL_length 32 us us.length
      generalize hcur : beL 32 us us.length = cur at *
      have hi : (Sagg.prog.info? 28).map (·.size) = some (rowOf cur).size := by rw [rowOf_size, hlen]; exact isz28
      have hold : (rowOf (zeros 32)).size = (rowOf cur).size := by rw [rowOf_size, rowOf_size, hlen]; rfl
      clear hT hr hr' ht HT
      go_wp2_with (first
        | (with_reducible refine wpList_load_row rfl 28 _ rfl (w.heap.size + 1) rfl 28 (rowOf cur) (0, 0) _ h2 Sagg.underlying28 rfl hi ?_)
        | (with_reducible refine wpList_store_row rfl 28 _ _ rfl w.heap.size (rowOf cur) rfl rfl 28 (rowOf (zeros 32)) h1 hi hold (row_one cur) ?_))
      refine bodyPost_ret (v := .tuple #[.agg (rowOf cur), .bool true]) ?_ rfl ⟨by rw [hcur], kept_row hbel (Nat.le_refl _) _⟩
      have hrun := run_loadVar_row (P := Sagg.prog) (wr.setRow w.heap.size (rowOf cur)) w.heap.size 28 28 (rowOf cur) (0, 0) _ (setRow_heap _ _ _ _ _ _ h1) Sagg.underlying28 rfl hi
      rw [results_cell_tmp (p := 2) (u := 3) (ty := 28) rfl]
      show ((loadVar 28 ⟨w.heap.size, 0, none⟩).run Sagg.prog _).andThen _ = _
      rw [hrun]
      rfl

theorem isz24 : (Sagg.prog.info? 24).map (·.size) = some 20 := by kernel_rfl
set_option maxRecDepth 100000 in
set_option maxHeartbeats 1000000 in
theorem addrOf_calls (a : Option Addr) (n c : Nat) (us : List Int) (w : World) (hl : us.length = n) (hlc : n ≤ c) (hm : c ≤ maxLen) (hr' : ByteRow w a us) :
    Calls Sagg.prog 137 #[.slice a n c] w fun e w' => e = .returned (.agg (rowOf (beL 20 us (min n 20)))) ∧ Below w.heap.size w w' := by
  subst hl
  unfold maxLen at hm
  have HT : Hid (Two 24 w ((w.alloc (.cells (rowOf (zeros 20)) 24)).alloc (.cells (rowOf (zeros 20)) 24)) (zeros 20) (beL 20 us 0)) := Two.start 24 w (zeros 20)
  go_enter Sagg.func137, Sagg.ntmps137
  go_wp2
  change Code.wp _ _ _ _ ((w.alloc (.cells (rowOf (zeros 20)) 24)).alloc (.cells (rowOf (zeros 20)) 24))
  generalize (w.alloc (.cells (rowOf (zeros 20)) 24)).alloc _ = W2 at HT ⊢
  go_loopw [4] (fun i wr => ∃ k : Nat, k ≤ us.length ∧ k ≤ 20 ∧ i = .int .i64 k ∧ Two 24 w wr (zeros 20) (beL 20 us k)) (fun i _ => us.length - (intOf i).toNat)
  case atStart => exact ⟨0, Nat.zero_le _, Nat.zero_le _, rfl, HT.out⟩
  case round =>
    obtain ⟨k, hk, hk20, rfl, hT⟩ := hrel
    by_cases hlt : k < us.length
    · by_cases hlt2 : k < 20
      · obtain ⟨b1, off1, hb1, hcd⟩ : ∃ b1 off1, a = some ⟨b1, off1, none⟩ ∧ wr.cell? ⟨b1, off1 + k, none⟩ = some (.int .u8 (us.getD k 0)) := by
          rcases hr'.2 with h | ⟨b1, off1, hb1, hc1⟩
          · rw [h] at hlt; simp at hlt
          · exact ⟨b1, off1, hb1, cell_later hT.below (hc1 _ hlt)⟩
        subst hb1
        have hd := hr'.1.getD k
        have hcu := row_cell hT.second (i := 19 - k) (by rw [beL_length]; omega)
        have hfz := row_frozen (i := 19 - k) hT.second
        generalize (beL 20 us k).getD (19 - k) 0 = u0 at hcu
        generalize hde : us.getD k 0 = d at hcd hd
        have HD : Hid (us.getD k 0 = d) := hde
        have HI : Hid (Two 24 w wr (zeros 20) (beL 20 us k)) := hT
        clear hde hT hr' HT
        go_wp2
        refine ⟨⟨k + 1, by omega, by omega, by go_num, ?_⟩, by simp [intOf]; omega⟩
        have := HI.out.set (19 - k) d
        rw [← HD.out, show 19 - k = 20 - 1 - k by omega, beL_step (by omega), HD.out] at this
        exact this
      · have hkn : k = min us.length 20 := by omega
        have h1 := hT.first
        have h2 := hT.second
        have hbel := hT.below
        have hlen := beL_length 20 us k
        have HC : Hid (beL 20 us k = beL 20 us (min us.length 20)) := (by rw [← hkn] : beL 20 us k = beL 20 us (min us.length 20))
        generalize hcur : beL 20 us k = cur at *
        have hi : (Sagg.prog.info? 24).map (·.size) = some (rowOf cur).size := by rw [rowOf_size, hlen]; exact isz24
        have hold : (rowOf (zeros 20)).size = (rowOf cur).size := by rw [rowOf_size, rowOf_size, hlen]; rfl
        clear hT hr' HT
        go_wp2_with (first
          | (with_reducible refine wpList_load_row rfl 24 _ rfl (w.heap.size + 1) rfl 24 (rowOf cur) (0, 0) _ h2 Sagg.underlying24 rfl hi ?_)
          | (with_reducible refine wpList_store_row rfl 24 _ _ rfl w.heap.size (rowOf cur) rfl rfl 24 (rowOf (zeros 20)) h1 hi hold (row_one cur) ?_))
        exact bodyPost_ret (results_cell_row (p := 2) (ty := 24) rfl _ _ w.heap.size 24 (rowOf cur) (0, 0) _ rfl (setRow_heap _ _ _ _ _ _ h1) Sagg.underlying24 rfl hi) rfl ⟨by rw [HC.out], kept_row hbel (Nat.le_refl _) _⟩
    · have hkn : k = min us.length 20 := by omega
      have h1 := hT.first
      have h2 := hT.second
      have hbel := hT.below
      have hlen := beL_length 20 us k
      have HC : Hid (beL 20 us k = beL 20 us (min us.length 20)) := (by rw [← hkn] : beL 20 us k = beL 20 us (min us.length 20))
      generalize hcur : beL 20 us k = cur at *
      have hi : (Sagg.prog.info? 24).map (·.size) = some (rowOf cur).size := by rw [rowOf_size, hlen]; exact isz24
      have hold : (rowOf (zeros 20)).size = (rowOf cur).size := by rw [rowOf_size, rowOf_size, hlen]; rfl
      clear hT hr' HT
      go_wp2_with (first
        | (with_reducible refine wpList_load_row rfl 24 _ rfl (w.heap.size + 1) rfl 24 (rowOf cur) (0, 0) _ h2 Sagg.underlying24 rfl hi ?_)
        | (with_reducible refine wpList_store_row rfl 24 _ _ rfl w.heap.size (rowOf cur) rfl rfl 24 (rowOf (zeros 20)) h1 hi hold (row_one cur) ?_))
      exact bodyPost_ret (results_cell_row (p := 2) (ty := 24) rfl _ _ w.heap.size 24 (rowOf cur) (0, 0) _ rfl (setRow_heap _ _ _ _ _ _ h1) Sagg.underlying24 rfl hi) rfl ⟨by rw [HC.out], kept_row hbel (Nat.le_refl _) _⟩
end Go.Proofs.YgcsagGreat
