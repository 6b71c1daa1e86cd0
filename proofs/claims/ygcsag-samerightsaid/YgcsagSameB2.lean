/-
  WALK: obs.SameReceipt, whole.
-/
import Derived.Test.YgcsagSameB
namespace Go.Proofs.Ygcsag
open Go.RowKit
set_option linter.unusedSimpArgs false
set_option linter.unusedVariables false

set_option maxHeartbeats 2000000 in
theorem sameReceipt_calls (v1 s1 u1 : Int) (oa1 : Option Addr) (on1 oc1 : Nat) (la1 : Option Addr) (ln1 lc1 : Nat) (m1 o1 : List Int) (L1 : List LogD) (v2 s2 u2 : Int) (oa2 : Option Addr) (on2 oc2 : Nat) (la2 : Option Addr) (ln2 lc2 : Nat) (m2 o2 : List Int) (L2 : List LogD) (w : World)
    (hm1 : m1.length = 20) (hm2 : m2.length = 20) (ho1 : ByteRow w oa1 o1) (hol1 : o1.length = on1) (ho2 : ByteRow w oa2 o2) (hol2 : o2.length = on2) (hL1 : IsLogs w la1 L1) (hll1 : L1.length = ln1) (hL2 : IsLogs w la2 L2) (hll2 : L2.length = ln2) (h63 : ln1 ≤ 9223372036854775807) (eb : Bool)
    (heb : eb = true ↔ sameR v1 s1 u1 m1 o1 L1 v2 s2 u2 m2 o2 L2) :
    Calls Sagg.prog 22 #[.agg (rcells v1 s1 u1 oa1 on1 oc1 la1 ln1 lc1 m1).toArray, .agg (rcells v2 s2 u2 oa2 on2 oc2 la2 ln2 lc2 m2).toArray] w fun e w' => e = .returned (.bool eb) ∧ Below w.heap.size w w' := by
  have hbx := boxes (w := w) (rcells v1 s1 u1 oa1 on1 oc1 la1 ln1 lc1 m1).toArray (rcells v2 s2 u2 oa2 on2 oc2 la2 ln2 lc2 m2).toArray 48
  have LM1 := hide (load_arr hbx.1 46 20 5 m1 (rcells_made ..) hm1 Sagg.underlying46 info46)
  have LM2 := hide (load_arr hbx.2 46 20 5 m2 (rcells_made ..) hm2 Sagg.underlying46 info46)
  have hne := neq_arr 46 20 Sagg.underlying46 m1 m2 hm1 hm2
  have hb2 := below2 (w := w) (.cells (rcells v1 s1 u1 oa1 on1 oc1 la1 ln1 lc1 m1).toArray 48) (.cells (rcells v2 s2 u2 oa2 on2 oc2 la2 ln2 lc2 m2).toArray 48)
  have C1 := conv_bytes Sagg.underlying22 Sagg.underlying9 oa1 on1 oc1 o1 _ hol1 (ho1.ext hb2)
  have C2 := conv_bytes Sagg.underlying22 Sagg.underlying9 oa2 on2 oc2 o2 _ hol2 (ho2.ext hb2)
  have HB2 := hide hb2
  have HX := hide hbx
  clear hbx hb2
  unfold rcells at *
  by_cases hv : v1 = v2
  case neg =>
    have hf : eb = false := by cases eb with | false => rfl | true => exact absurd (heb.1 rfl).1 hv
    subst hf
    have h : (v1 != v2) = true := by rw [bne_iff_ne]; exact hv
    clear heb C1 C2
    go_enter Sagg.func22, Sagg.ntmps22
    go_wp2
    go_ret
    exact ⟨rfl, unhide HB2⟩
  subst hv
  by_cases hs : s1 = s2
  case neg =>
    have hf : eb = false := by cases eb with | false => rfl | true => exact absurd (heb.1 rfl).2.1 hs
    subst hf
    have h : (s1 != s2) = true := by rw [bne_iff_ne]; exact hs
    clear heb C1 C2
    go_enter Sagg.func22, Sagg.ntmps22
    go_wp2
    go_ret
    exact ⟨rfl, unhide HB2⟩
  subst hs
  by_cases hu : u1 = u2
  case neg =>
    have hf : eb = false := by cases eb with | false => rfl | true => exact absurd (heb.1 rfl).2.2.1 hu
    subst hf
    have h : (u1 != u2) = true := by rw [bne_iff_ne]; exact hu
    clear heb C1 C2
    go_enter Sagg.func22, Sagg.ntmps22
    go_wp2
    go_ret
    exact ⟨rfl, unhide HB2⟩
  subst hu
  by_cases hm : m1 = m2
  case neg =>
    have hf : eb = false := by cases eb with | false => rfl | true => exact absurd (heb.1 rfl).2.2.2.1 hm
    subst hf
    rw [decide_eq_false hm] at hne
    clear heb C1 C2
    go_enter Sagg.func22, Sagg.ntmps22
    go_wp2_with (first
      | ((with_reducible refine wpList_loadIs 46 ⟨w.heap.size, 5, none⟩ (.agg (bcells m1).toArray) ?_ ?_ ?_ ?_ ?_); rfl; rfl; rfl; exact unhide LM1; simp only [Act.put, List.setIfInBounds_toArray, List.set_cons_succ, List.set_cons_zero])
      | ((with_reducible refine wpList_loadIs 46 ⟨w.heap.size + 1, 5, none⟩ (.agg (bcells m2).toArray) ?_ ?_ ?_ ?_ ?_); rfl; rfl; rfl; exact unhide LM2; simp only [Act.put, List.setIfInBounds_toArray, List.set_cons_succ, List.set_cons_zero]))
    go_ret
    exact ⟨rfl, unhide HB2⟩
  subst hm
  rw [decide_eq_true rfl] at hne
  by_cases ho : o1 = o2
  case neg =>
    have hf : eb = false := by cases eb with | false => rfl | true => exact absurd (heb.1 rfl).2.2.2.2.1 ho
    subst hf
    have h : ((strOfNums o1).toList == (strOfNums o2).toList) = false := by rw [eq_dec _ _ ho1.1 ho2.1, decide_eq_false ho]
    clear heb
    generalize strOfNums o1 = S1 at *
    generalize strOfNums o2 = S2 at *
    go_enter Sagg.func22, Sagg.ntmps22
    go_wp2_with (first
      | ((with_reducible refine wpList_loadIs 46 ⟨w.heap.size, 5, none⟩ (.agg (bcells m1).toArray) ?_ ?_ ?_ ?_ ?_); rfl; rfl; rfl; exact unhide LM1; simp only [Act.put, List.setIfInBounds_toArray, List.set_cons_succ, List.set_cons_zero])
      | ((with_reducible refine wpList_loadIs 46 ⟨w.heap.size + 1, 5, none⟩ (.agg (bcells m1).toArray) ?_ ?_ ?_ ?_ ?_); rfl; rfl; rfl; exact unhide LM2; simp only [Act.put, List.setIfInBounds_toArray, List.set_cons_succ, List.set_cons_zero]))
    go_ret
    exact ⟨rfl, unhide HB2⟩
  subst ho
  by_cases hl : ln1 = ln2
  case neg =>
    have hf : eb = false := by cases eb with | false => rfl | true => have h6 := (heb.1 rfl).2.2.2.2.2; rw [h6, hll2] at hll1; exact absurd hll1.symm hl
    subst hf
    have h : ((ln1 : Int) != (ln2 : Int)) = true := by rw [bne_iff_ne]; omega
    clear heb
    go_enter Sagg.func22, Sagg.ntmps22
    go_wp2_with (first
      | ((with_reducible refine wpList_loadIs 46 ⟨w.heap.size, 5, none⟩ (.agg (bcells m1).toArray) ?_ ?_ ?_ ?_ ?_); rfl; rfl; rfl; exact unhide LM1; simp only [Act.put, List.setIfInBounds_toArray, List.set_cons_succ, List.set_cons_zero])
      | ((with_reducible refine wpList_loadIs 46 ⟨w.heap.size + 1, 5, none⟩ (.agg (bcells m1).toArray) ?_ ?_ ?_ ?_ ?_); rfl; rfl; rfl; exact unhide LM2; simp only [Act.put, List.setIfInBounds_toArray, List.set_cons_succ, List.set_cons_zero]))
    go_ret
    exact ⟨rfl, unhide HB2⟩
  subst hl
  exact sameReceipt_logs v1 s1 u1 oa1 on1 oc1 la1 ln1 lc1 m1 o1 L1 oa2 on2 oc2 la2 lc2 L2 w hm1 ho1 hol1 ho2 hol2 hL1 hll1 hL2 hll2 h63 eb ⟨fun h => (heb.1 h).2.2.2.2.2, fun h => heb.2 ⟨rfl, rfl, rfl, rfl, rfl, h⟩⟩
end Go.Proofs.Ygcsag
