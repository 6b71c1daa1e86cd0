/-
  WALK: law.receiptsMeet.
-/
import Derived.Test.YgcsagSameB
import Derived.Deep.WholeRow
import Derived.Deep.RegionWith
namespace Go.Proofs.Ygcsag
open Go.RowKit
set_option linter.unusedSimpArgs false
set_option linter.unusedVariables false

/-- A store of that type. -/
def isStore (t : TypeId) (o : Oper) : Bool :=
  match o.op with
  | .store t' _ _ => t' == t
  | _ => false
/-- What a store writes, and where. -/
def storeOf (o : Oper) (a : Act) : Option (TypeId × Addr × Value) :=
  match o.op with
  | .store t x y => match a.eval x with
    | .pointer (some p) => some (t, p, a.eval y)
    | _ => none
  | _ => none
theorem storeOf_some {o : Oper} {a : Act} {t : TypeId} {p : Addr} {v : Value} (h : storeOf o a = some (t, p, v)) : ∃ x y, o.op = .store t x y ∧ a.eval x = .pointer (some p) ∧ a.eval y = v := by
  unfold storeOf at h
  split at h
  · rename_i t' x y ho
    split at h
    · rename_i q hq
      simp only [Option.some.injEq, Prod.mk.injEq] at h
      obtain ⟨rfl, rfl, rfl⟩ := h
      exact ⟨x, y, ho, hq, rfl⟩
    · cases h
  · cases h

section
variable {P : Program} {ops : Array Oper} {Q : Exit → Act → World → Prop} {a : Act} {w : World} {o : Oper} {rest : List Oper}
/-- A whole row is stored. -/
theorem wpList_storeRow (ty : TypeId) (g : Nat) (cells old : Array Value) (T : TypeId) (hs : isStore ty o = true) (ho : storeOf o a = some (ty, ⟨g, 0, none⟩, .agg cells)) (hg : Region.wanted o (yielded ops a.tmps) = true)
    (hrow : w.heap[g]? = some (.cells old T (0, 0))) (hi : (P.info? ty).map (·.size) = some cells.size) (hold : old.size = cells.size) (h1 : cells.all (·.oneCell') = true)
    (k : wpList P ops Q rest (a.put o.dst undef) (w.setRow g cells)) : wpList P ops Q (o :: rest) a w := by
  obtain ⟨x, y, h1', h2, h3⟩ := storeOf_some ho
  unfold wpList
  rw [if_pos hg]
  left
  exact wp_store_row ty x y h1' g cells h2 h3 T old hrow hi hold h1 k
end

theorem setRow_new {w : World} {g : Nat} (c c' : Array Value) (t : TypeId) (h : g = w.heap.size) : (w.alloc (.cells c t)).setRow g c' = w.alloc (.cells c' t) := by
  subst h; exact World.setRow_alloc_new w c c' t

theorem heap_lt {w : World} {g : Nat} {o : Obj} (h : w.heap[g]? = some o) : g < w.heap.size := (Array.getElem?_eq_some_iff.1 h).1

theorem info85 : (Sagg.prog.info? 85).map (·.size) = some 22 := by kernel_rfl
/-- The cells of an empty log. -/
def zeroLog : Array Value := (bcells (zeros 20) ++ [Value.slice none 0 0, Value.slice none 0 0]).toArray
theorem zero85 (w : World) : (zeroValue 85).run Sagg.prog w = .ok (.agg zeroLog) w := by kernel_rfl
theorem zeroLog_size : zeroLog.size = 22 := by kernel_rfl

theorem IsLog.size {w : World} {cs : List Value} {L : LogD} (h : IsLog w cs L) : cs.length = 22 := by
  obtain ⟨ta, tn, tc, da, dn, dc, rfl, hl, hd, ht, htn, hrt, hdl, hrd⟩ := h
  simp [bcells_length, hl]
theorem IsLog.one {w : World} {cs : List Value} {L : LogD} (h : IsLog w cs L) : cs.toArray.all (·.oneCell') = true := by
  obtain ⟨ta, tn, tc, da, dn, dc, rfl, hl, hd, ht, htn, hrt, hdl, hrd⟩ := h
  apply all_oneCell_toArray
  intro v hv
  rcases List.mem_append.1 hv with h1 | h1
  · obtain ⟨n, _, rfl⟩ := List.mem_map.1 h1
    rfl
  · simp at h1
    rcases h1 with rfl | rfl <;> rfl

theorem IsLog.store {w : World} {cs : List Value} {L : LogD} (h : IsLog w cs L) : (Sagg.prog.info? 85).map (·.size) = some cs.toArray.size ∧ zeroLog.size = cs.toArray.size ∧ cs.toArray.all (·.oneCell') = true := by
  refine ⟨?_, ?_, h.one⟩
  · rw [info85]; simp [h.size]
  · rw [zeroLog_size]; simp [h.size]

theorem load_log {w : World} {b o : Nat} {cs : List Value} {L : LogD} (h : IsLog w cs L) (hr : w.rangeAt b o cs) : (loadVar 85 ⟨b, o, none⟩).run Sagg.prog w = .ok (.agg cs.toArray) w :=
  run_loadVar_mid w b o 85 cs _ hr Sagg.underlying85 rfl (by rw [h.size]; exact info85)

theorem IsLog.rows {w : World} {cs : List Value} {L : LogD} (h : IsLog w cs L) {g : Nat} {T : TypeId} (hr : w.heap[g]? = some (.cells cs.toArray T (0, 0))) :
    ∃ ta tn tc da dn dc, w.cell? ⟨g, 20, none⟩ = some (.slice ta tn tc) ∧ w.cell? ⟨g, 21, none⟩ = some (.slice da dn dc) ∧ ByteRow w (some ⟨g, 0, none⟩) L.addr ∧ L.addr.length = 20 ∧
      L.topics.length = 32 * tn ∧ tn ≤ 9223372036854775807 ∧ ByteRow w ta L.topics ∧ L.data.length = dn ∧ ByteRow w da L.data := by
  have hrg : w.rangeAt g 0 cs := range_tail hr 0 cs (by simp)
  obtain ⟨ta, tn, tc, da, dn, dc, h1, h2, h3, h4, h5, h6, h7, h8, h9⟩ := log_facts h hrg
  refine ⟨ta, tn, tc, da, dn, dc, by simpa using h1, by simpa using h2, ?_, h4, h5, h6, h7, h8, h9⟩
  obtain ⟨_, _, _, _, _, _, rfl, hl, hd, _⟩ := h
  refine ⟨hd, .inr ⟨g, 0, rfl, fun i hi => ?_⟩⟩
  refine hrg i _ ?_
  rw [List.getElem?_append_left (by rw [bcells_length]; exact hi), bcells_get _ _ hi]

theorem row_tail {w : World} {b : Nat} {t : TypeId} {x : List Value} (h : w.heap[b]? = some (.cells x.toArray t (0, 0))) (o : Nat) (zs : List Int) (hx : x.drop o = bcells zs) (hd : Dig zs) : ByteRow w (some ⟨b, o, none⟩) zs :=
  ⟨hd, .inr ⟨b, o, rfl, fun i hi => range_tail h o _ hx i _ (bcells_get _ _ hi)⟩⟩

theorem bel4 {W wr W4 : World} (h : Below W.heap.size W wr) (k : Below wr.heap.size wr W4) (m : Nat) : Below W.heap.size W (W4.drewN m) := by
  have := h.trans (k.mono h.size)
  exact ⟨this.os, this.tape, this.output, this.size, this.block⟩

theorem bel4' {w W2 wr : World} (h : Below w.heap.size w W2) (k : Below W2.heap.size W2 wr) (m : Nat) : Below w.heap.size w (wr.drewN m) := bel4 h k m

theorem meet_no {L1 L2 : List LogD} {k n : Nat} {A B : LogD} (hA : L1[k]? = some A) (hB : L2[k]? = some B) (hne : A ≠ B) : (n + 1 = 0 ↔ L1.take (k + 1) = L2.take (k + 1)) := by
  refine ⟨fun h => by omega, fun h => ?_⟩
  have h1 : (L1.take (k + 1))[k]? = (L2.take (k + 1))[k]? := by rw [h]
  rw [List.getElem?_take_of_lt (by omega), List.getElem?_take_of_lt (by omega), hA, hB] at h1
  exact absurd (Option.some.inj h1) hne

theorem meet_yes {L1 L2 : List LogD} {k n : Nat} {A B : LogD} (ht : n = 0 ↔ L1.take k = L2.take k) (hA : L1[k]? = some A) (hB : L2[k]? = some B) (h1 : A.addr = B.addr) (h2 : A.topics = B.topics) (h3 : A.data = B.data) :
    (n = 0 ↔ L1.take (k + 1) = L2.take (k + 1)) := by
  have e : A = B := by cases A; cases B; simp only at h1 h2 h3; rw [h1, h2, h3]
  refine ⟨fun h => take_next (ht.1 h) hA hB e, fun h => ht.2 ?_⟩
  have := congrArg (List.take k) h
  rwa [List.take_take, List.take_take, Nat.min_eq_left (by omega)] at this

set_option maxHeartbeats 1000000 in
/-- The loop's round, up to the test. -/
theorem receiptsMeet_calls (v1 s1 u1 : Int) (oa1 : Option Addr) (on1 oc1 : Nat) (la1 : Option Addr) (ln1 lc1 : Nat) (m1 o1 : List Int) (L1 : List LogD) (v2 s2 u2 : Int) (oa2 : Option Addr) (on2 oc2 : Nat) (la2 : Option Addr) (ln2 lc2 : Nat) (m2 o2 : List Int) (L2 : List LogD) (w : World)
    (hm1 : m1.length = 20) (hm2 : m2.length = 20) (dm1 : Dig m1) (dm2 : Dig m2) (ho1 : ByteRow w oa1 o1) (hol1 : o1.length = on1) (ho2 : ByteRow w oa2 o2) (hol2 : o2.length = on2) (hL1 : IsLogs w la1 L1) (hll1 : L1.length = ln1) (hL2 : IsLogs w la2 L2) (hll2 : L2.length = ln2) (h63 : ln1 ≤ 9223372036854775807) (eb : Bool)
    (heb : eb = true ↔ sameR v1 s1 u1 m1 o1 L1 v2 s2 u2 m2 o2 L2) :
    Calls Sagg.prog 44 #[.agg (rcells v1 s1 u1 oa1 on1 oc1 la1 ln1 lc1 m1).toArray, .agg (rcells v2 s2 u2 oa2 on2 oc2 la2 ln2 lc2 m2).toArray] w fun e w' => e = .returned (.bool eb) ∧ Below w.heap.size w w' := by
  have hbx := boxes (w := w) (rcells v1 s1 u1 oa1 on1 oc1 la1 ln1 lc1 m1).toArray (rcells v2 s2 u2 oa2 on2 oc2 la2 ln2 lc2 m2).toArray 48
  have hb2 := below2 (w := w) (.cells (rcells v1 s1 u1 oa1 on1 oc1 la1 ln1 lc1 m1).toArray 48) (.cells (rcells v2 s2 u2 oa2 on2 oc2 la2 ln2 lc2 m2).toArray 48)
  have HB2 := hide hb2
  have HX := hide hbx
  clear hbx hb2
  by_cases hl : ln1 = ln2
  case neg =>
    have hf : eb = false := by cases eb with | false => rfl | true => have h6 := (heb.1 rfl).2.2.2.2.2; rw [h6, hll2] at hll1; exact absurd hll1.symm hl
    subst hf
    have h : ((ln1 : Int) != (ln2 : Int)) = true := by rw [bne_iff_ne]; omega
    clear heb
    unfold rcells at *
    go_enter Sagg.func44, Sagg.ntmps44
    go_wp2
    go_ret
    exact ⟨rfl, unhide HB2⟩
  subst hl
  unfold rcells at *
  go_enter Sagg.func44, Sagg.ntmps44
  go_wp2
  have hL1' := hL1.ext (unhide HB2)
  have hL2' := hL2.ext (unhide HB2)
  have hq := unhide HX
  have HO1 := hide (ho1.ext (unhide HB2))
  have HO2 := hide (ho2.ext (unhide HB2))
  clear HX hL1 hL2 ho1 ho2
  generalize hW2 : (w.alloc _).alloc _ = W2 at *
  clear hW2
  have HQ := hide hq
  clear hq
  go_loopw [5, 19] (fun d i wr => ∃ (k : Nat) (n : Nat), k ≤ ln1 ∧ n ≤ k ∧ i = .int .i64 k ∧ d = .int .i64 n ∧ Below W2.heap.size W2 wr ∧ (n = 0 ↔ L1.take k = L2.take k)) (fun _ i _ => ln1 - (intOf i).toNat)
  case atStart => exact ⟨0, 0, Nat.zero_le _, Nat.le_refl _, rfl, rfl, Below.refl _ _, by simp⟩
  case round =>
    obtain ⟨k, n, hk, hnk, rfl, rfl, hbw, ht⟩ := hrel
    have HT := hide ht
    have hl1 := hL1'.ext hbw
    have hl2 := hL2'.ext hbw
    have HBW := hide hbw
    have g1 : wr.heap[w.heap.size]? = _ := (hbw.block _ (heap_lt (unhide HQ).1)).trans (unhide HQ).1
    have g2 : wr.heap[w.heap.size + 1]? = _ := (hbw.block _ (heap_lt (unhide HQ).2)).trans (unhide HQ).2
    have hsz := heap_lt g2
    have G := hide (And.intro g1 g2)
    have hb1 : wr.cell? ⟨w.heap.size, 4, none⟩ = some (.slice la1 ln1 lc1) := cell_of_row _ _ 4 _ _ _ g1
    have hb2 : wr.cell? ⟨w.heap.size + 1, 4, none⟩ = some (.slice la2 ln1 lc2) := cell_of_row _ _ 4 _ _ _ g2
    clear ht hbw g1 g2
    by_cases hlt : k < ln1
    · rcases hl1 with h0 | ⟨b1, off1, rfl, hc1⟩
      · subst h0; simp at hll1; omega
      rcases hl2 with h0 | ⟨b2, off2, rfl, hc2⟩
      · subst h0; simp at hll2; omega
      obtain ⟨A, hA⟩ : ∃ A, L1[k]? = some A := ⟨_, List.getElem?_eq_getElem (by omega)⟩
      obtain ⟨B, hB⟩ : ∃ B, L2[k]? = some B := ⟨_, List.getElem?_eq_getElem (by omega)⟩
      obtain ⟨cs1, hi1, hr1⟩ := hc1 k A hA
      obtain ⟨cs2, hi2, hr2⟩ := hc2 k B hB
      have LD1 := hide (load_log hi1 hr1)
      have hi2a := hi2.ext ((Below.refl _ _).alloc (Nat.le_refl _) (.cells cs1.toArray 85))
      have LD2 := hide (load_log hi2a (range_ext hr2 ((Below.refl _ _).alloc (Nat.le_refl _) (.cells cs1.toArray 85))))
      have hz := zero85
      have hlt' : (k : Int) < (ln1 : Int) := by omega
      have HA := hide hA
      have HB := hide hB
      have S1 := hide hi1.store
      have S2 := hide hi2.store
      have HI1 := hide hi1
      have HI2 := hide hi2
      clear hc1 hc2 hi1 hi2 hr1 hr2 hA hB hi2a
      go_wp2_with (first
        | ((with_reducible refine wpList_loadIs 85 ⟨b1, off1 + k * 22, none⟩ (.agg cs1.toArray) ?_ ?_ ?_ ?_ ?_); rfl; rfl; rfl; exact unhide LD1; simp only [Act.put, List.setIfInBounds_toArray, List.set_cons_succ, List.set_cons_zero])
        | ((with_reducible refine wpList_loadIs 85 ⟨b2, off2 + k * 22, none⟩ (.agg cs2.toArray) ?_ ?_ ?_ ?_ ?_); rfl; rfl; rfl; exact unhide LD2; simp only [Act.put, List.setIfInBounds_toArray, List.set_cons_succ, List.set_cons_zero])
        | ((with_reducible refine wpList_storeRow 85 wr.heap.size cs1.toArray zeroLog 85 ?_ ?_ ?_ ?_ ?_ ?_ ?_ ?_); rfl; rfl; rfl; exact heap_alloc_new _ _; exact (unhide S1).1; exact (unhide S1).2.1; exact (unhide S1).2.2; (rw [World.setRow_alloc_new]; simp only [Act.put]))
        | ((with_reducible refine wpList_storeRow 85 (wr.heap.size + 1) cs2.toArray zeroLog 85 ?_ ?_ ?_ ?_ ?_ ?_ ?_ ?_); rfl; rfl; rfl; exact heap_alloc2_new _ _ _; exact (unhide S2).1; exact (unhide S2).2.1; exact (unhide S2).2.2; (rw [setRow_new _ _ _ (by simp)]; simp only [Act.put])))
      have hb4 := below2 (w := wr) (.cells cs1.toArray 85) (.cells cs2.toArray 85)
      have hr4 := boxes (w := wr) cs1.toArray cs2.toArray 85
      have HB4 := hide hb4
      obtain ⟨ta1, tn1, tc1, da1, dn1, dc1, x1, y1, ra1, la1, tl1, tm1, rt1, dl1, rd1⟩ := ((unhide HI1).ext hb4).rows hr4.1
      obtain ⟨ta2, tn2, tc2, da2, dn2, dc2, x2, y2, ra2, la2, tl2, tm2, rt2, dl2, rd2⟩ := ((unhide HI2).ext hb4).rows hr4.2
      clear LD1 LD2 hz HI1 HI2 S1 S2 hr4 hb4 hb1 hb2
      generalize hW4 : (wr.alloc _).alloc _ = W4 at *
      clear hW4
      have ea := fun m => equalBytes_calls (some ⟨wr.heap.size, 0, none⟩) (some ⟨wr.heap.size + 1, 0, none⟩) 20 20 20 20 A.addr B.addr (W4.drewN m) la1 la2 ra1 ra2
      have et := fun m => wordsMeet_calls ta1 ta2 tn1 tc1 tn2 tc2 A.topics B.topics (W4.drewN m) tl1 tl2 rt1 rt2 tm1 tm2
      have ed := fun m => equalBytes_calls da1 da2 dn1 dc1 dn2 dc2 A.data B.data (W4.drewN m) dl1 dl2 rd1 rd2
      obtain ⟨qa, hqa⟩ : ∃ b, decide (A.addr = B.addr) = b := ⟨_, rfl⟩
      obtain ⟨qt, hqt⟩ : ∃ b, decide (A.topics = B.topics) = b := ⟨_, rfl⟩
      obtain ⟨qd, hqd⟩ : ∃ b, decide (A.data = B.data) = b := ⟨_, rfl⟩
      rw [hqa] at ea
      rw [hqt] at et
      rw [hqd] at ed
      have EA := hide ea
      have ET := hide et
      have ED := hide ed
      have QA := hide hqa
      have QT := hide hqt
      have QD := hide hqd
      clear ea et ed hqa hqt hqd ra1 ra2 rt1 rt2 rd1 rd2 la1 la2 tl1 tl2 dl1 dl2
      cases qa
      · go_quiet ((first | (go_at_call_of 8 (Value.slice (some ⟨wr.heap.size, 0, none⟩) 20 20); exact Calls.quiet_of_same (unhide EA _)) | (go_at_call_of 8 (Value.slice da1 dn1 dc1); exact Calls.quiet_of_same (unhide ED _)) | (go_at_call 62; exact Calls.quiet_of (unhide ET _))))
        go_wp2
        go_roundw
        case rel => exact ⟨k + 1, n + 1, by omega, by omega, by go_num, by go_num, bel4 (unhide HBW) (unhide HB4) _, meet_no (unhide HA) (unhide HB) (fun e => of_decide_eq_false (unhide QA) (by rw [e]))⟩
        case measure => simp [intOf]; omega
      cases qt
      · go_quiet ((first | (go_at_call_of 8 (Value.slice (some ⟨wr.heap.size, 0, none⟩) 20 20); exact Calls.quiet_of_same (unhide EA _)) | (go_at_call_of 8 (Value.slice da1 dn1 dc1); exact Calls.quiet_of_same (unhide ED _)) | (go_at_call 62; exact Calls.quiet_of (unhide ET _))))
        go_wp2
        go_roundw
        case rel => exact ⟨k + 1, n + 1, by omega, by omega, by go_num, by go_num, bel4 (unhide HBW) (unhide HB4) _, meet_no (unhide HA) (unhide HB) (fun e => of_decide_eq_false (unhide QT) (by rw [e]))⟩
        case measure => simp [intOf]; omega
      cases qd
      · go_quiet ((first | (go_at_call_of 8 (Value.slice (some ⟨wr.heap.size, 0, none⟩) 20 20); exact Calls.quiet_of_same (unhide EA _)) | (go_at_call_of 8 (Value.slice da1 dn1 dc1); exact Calls.quiet_of_same (unhide ED _)) | (go_at_call 62; exact Calls.quiet_of (unhide ET _))))
        go_wp2
        go_roundw
        case rel => exact ⟨k + 1, n + 1, by omega, by omega, by go_num, by go_num, bel4 (unhide HBW) (unhide HB4) _, meet_no (unhide HA) (unhide HB) (fun e => of_decide_eq_false (unhide QD) (by rw [e]))⟩
        case measure => simp [intOf]; omega
      · go_quiet ((first | (go_at_call_of 8 (Value.slice (some ⟨wr.heap.size, 0, none⟩) 20 20); exact Calls.quiet_of_same (unhide EA _)) | (go_at_call_of 8 (Value.slice da1 dn1 dc1); exact Calls.quiet_of_same (unhide ED _)) | (go_at_call 62; exact Calls.quiet_of (unhide ET _))))
        go_wp2
        go_roundw
        case rel => exact ⟨k + 1, n, by omega, by omega, by go_num, rfl, bel4 (unhide HBW) (unhide HB4) _, meet_yes (unhide HT) (unhide HA) (unhide HB) (of_decide_eq_true (unhide QA)) (of_decide_eq_true (unhide QT)) (of_decide_eq_true (unhide QD))⟩
        case measure => simp [intOf]; omega
    · have hkn : k = ln1 := by omega
      have hT : (n = 0 ↔ L1 = L2) := by
        have h1 := unhide HT
        rwa [List.take_of_length_le (by omega), List.take_of_length_le (by omega)] at h1
      obtain ⟨g1, g2⟩ := unhide G
      have a0 : wr.cell? ⟨w.heap.size, 0, none⟩ = some (.int .u8 v1) := cell_of_row _ _ 0 _ _ _ g1
      have a1 : wr.cell? ⟨w.heap.size, 1, none⟩ = some (.int .u8 s1) := cell_of_row _ _ 1 _ _ _ g1
      have a2 : wr.cell? ⟨w.heap.size, 2, none⟩ = some (.int .u64 u1) := cell_of_row _ _ 2 _ _ _ g1
      have a3 : wr.cell? ⟨w.heap.size, 3, none⟩ = some (.slice oa1 on1 oc1) := cell_of_row _ _ 3 _ _ _ g1
      have c0 : wr.cell? ⟨w.heap.size + 1, 0, none⟩ = some (.int .u8 v2) := cell_of_row _ _ 0 _ _ _ g2
      have c1 : wr.cell? ⟨w.heap.size + 1, 1, none⟩ = some (.int .u8 s2) := cell_of_row _ _ 1 _ _ _ g2
      have c2 : wr.cell? ⟨w.heap.size + 1, 2, none⟩ = some (.int .u64 u2) := cell_of_row _ _ 2 _ _ _ g2
      have c3 : wr.cell? ⟨w.heap.size + 1, 3, none⟩ = some (.slice oa2 on2 oc2) := cell_of_row _ _ 3 _ _ _ g2
      have rm1 : ByteRow wr (some ⟨w.heap.size, 5, none⟩) m1 := row_tail g1 5 m1 rfl dm1
      have rm2 : ByteRow wr (some ⟨w.heap.size + 1, 5, none⟩) m2 := row_tail g2 5 m2 rfl dm2
      have ro1 := (unhide HO1).ext (unhide HBW)
      have ro2 := (unhide HO2).ext (unhide HBW)
      have eo := fun m => equalBytes_calls oa1 oa2 on1 oc1 on2 oc2 o1 o2 (wr.drewN m) hol1 hol2 ro1 ro2
      have em := fun m => equalBytes_calls (some ⟨w.heap.size, 5, none⟩) (some ⟨w.heap.size + 1, 5, none⟩) 20 20 20 20 m1 m2 (wr.drewN m) hm1 hm2 rm1 rm2
      clear ro1 ro2 hl1 hl2 g1 g2 rm1 rm2 hL1' hL2' hb1 hb2 G
      by_cases hn : n = 0
      case neg =>
        have hf : eb = false := by cases eb with | false => rfl | true => exact absurd (hT.2 (heb.1 rfl).2.2.2.2.2) hn
        subst hf
        have hn' : ((n : Int) == 0) = false := by simp [hn]
        clear heb hT eo em hn
        go_wp2
        go_quiet (fail)
        go_wp2
        go_ret
        exact ⟨rfl, bel4' (unhide HB2) (unhide HBW) _⟩
      have hLL := hT.1 hn
      have hn' : ((n : Int) == 0) = true := by simp [hn]
      clear hT hn
      by_cases hv : v1 = v2
      case neg =>
        have hf : eb = false := by cases eb with | false => rfl | true => exact absurd (heb.1 rfl).1 hv
        subst hf
        have h : (v1 == v2) = false := by simpa using hv
        clear eo em
        clear heb
        go_wp2
        go_quiet ((first | (go_at_call_of 8 (Value.slice oa1 on1 oc1); exact Calls.quiet_of_same (unhide EO _)) | (go_at_call_of 8 (Value.slice (some ⟨w.heap.size, 5, none⟩) 20 20); exact Calls.quiet_of_same (unhide EM _))))
        go_wp2
        go_ret
        exact ⟨rfl, bel4' (unhide HB2) (unhide HBW) _⟩
      subst hv
      by_cases hs : s1 = s2
      case neg =>
        have hf : eb = false := by cases eb with | false => rfl | true => exact absurd (heb.1 rfl).2.1 hs
        subst hf
        have h : (s1 == s2) = false := by simpa using hs
        clear eo em
        clear heb
        go_wp2
        go_quiet ((first | (go_at_call_of 8 (Value.slice oa1 on1 oc1); exact Calls.quiet_of_same (unhide EO _)) | (go_at_call_of 8 (Value.slice (some ⟨w.heap.size, 5, none⟩) 20 20); exact Calls.quiet_of_same (unhide EM _))))
        go_wp2
        go_ret
        exact ⟨rfl, bel4' (unhide HB2) (unhide HBW) _⟩
      subst hs
      by_cases hu : u1 = u2
      case neg =>
        have hf : eb = false := by cases eb with | false => rfl | true => exact absurd (heb.1 rfl).2.2.1 hu
        subst hf
        have h : (u1 == u2) = false := by simpa using hu
        clear eo em
        clear heb
        go_wp2
        go_quiet ((first | (go_at_call_of 8 (Value.slice oa1 on1 oc1); exact Calls.quiet_of_same (unhide EO _)) | (go_at_call_of 8 (Value.slice (some ⟨w.heap.size, 5, none⟩) 20 20); exact Calls.quiet_of_same (unhide EM _))))
        go_wp2
        go_ret
        exact ⟨rfl, bel4' (unhide HB2) (unhide HBW) _⟩
      subst hu
      by_cases ho : o1 = o2
      case neg =>
        have hf : eb = false := by cases eb with | false => rfl | true => exact absurd (heb.1 rfl).2.2.2.2.1 ho
        subst hf
        rw [decide_eq_false ho] at eo
        have EO := hide eo
        clear eo em
        clear heb
        go_wp2
        go_quiet ((first | (go_at_call_of 8 (Value.slice oa1 on1 oc1); exact Calls.quiet_of_same (unhide EO _)) | (go_at_call_of 8 (Value.slice (some ⟨w.heap.size, 5, none⟩) 20 20); exact Calls.quiet_of_same (unhide EM _))))
        go_wp2
        go_ret
        exact ⟨rfl, bel4' (unhide HB2) (unhide HBW) _⟩
      rw [decide_eq_true ho] at eo
      have EO := hide eo
      by_cases hm : m1 = m2
      case neg =>
        have hf : eb = false := by cases eb with | false => rfl | true => exact absurd (heb.1 rfl).2.2.2.1 hm
        subst hf
        rw [decide_eq_false hm] at em
        have EM := hide em
        clear eo em
        clear heb
        go_wp2
        go_quiet ((first | (go_at_call_of 8 (Value.slice oa1 on1 oc1); exact Calls.quiet_of_same (unhide EO _)) | (go_at_call_of 8 (Value.slice (some ⟨w.heap.size, 5, none⟩) 20 20); exact Calls.quiet_of_same (unhide EM _))))
        go_wp2
        go_ret
        exact ⟨rfl, bel4' (unhide HB2) (unhide HBW) _⟩
      rw [decide_eq_true hm] at em
      have EM := hide em
      have hf : eb = true := heb.2 ⟨rfl, rfl, rfl, hm, ho, hLL⟩
      subst hf
      clear eo em heb hLL hm ho
      go_wp2
      go_quiet ((first | (go_at_call_of 8 (Value.slice oa1 on1 oc1); exact Calls.quiet_of_same (unhide EO _)) | (go_at_call_of 8 (Value.slice (some ⟨w.heap.size, 5, none⟩) 20 20); exact Calls.quiet_of_same (unhide EM _))))
      go_wp2
      go_ret
      exact ⟨rfl, bel4' (unhide HB2) (unhide HBW) _⟩
end Go.Proofs.Ygcsag
