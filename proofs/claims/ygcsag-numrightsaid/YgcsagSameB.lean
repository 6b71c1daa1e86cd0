/-
  LOGS AND RECEIPTS IN MEMORY; WALK: obs.SameReceipt.
-/
import Derived.Test.YgcsagSameA
namespace Go.Proofs.Ygcsag
open Go.RowKit
set_option linter.unusedSimpArgs false
set_option linter.unusedVariables false

/-- A log as data: the address, the topics' bytes one behind another, the data. -/
structure LogD where
  addr : List Int
  topics : List Int
  data : List Int

/-- The cells of a log. -/
def IsLog (w : World) (cs : List Value) (L : LogD) : Prop :=
  ∃ ta tn tc da dn dc, cs = bcells L.addr ++ [.slice ta tn tc, .slice da dn dc] ∧ L.addr.length = 20 ∧ Dig L.addr ∧ L.topics.length = 32 * tn ∧ tn ≤ 9223372036854775807 ∧ ByteRow w ta L.topics ∧ L.data.length = dn ∧ ByteRow w da L.data

/-- A row of logs. -/
def IsLogs (w : World) (a : Option Addr) (Ls : List LogD) : Prop :=
  Ls = [] ∨ ∃ b off, a = some ⟨b, off, none⟩ ∧ ∀ i L, Ls[i]? = some L → ∃ cs, IsLog w cs L ∧ w.rangeAt b (off + i * 22) cs

/-- The cells of a receipt that are not its address. -/
def rcells (v s u : Int) (oa : Option Addr) (on oc : Nat) (la : Option Addr) (ln lc : Nat) (m : List Int) : List Value :=
  .int .u8 v :: .int .u8 s :: .int .u64 u :: .slice oa on oc :: .slice la ln lc :: bcells m

/-- A load of that type. -/
def isLoad (t : TypeId) (o : Oper) : Bool :=
  match o.op with
  | .load t' _ => t' == t
  | _ => false
/-- What a load reads, and where. -/
def loadOf (o : Oper) (a : Act) : Option (TypeId × Addr) :=
  match o.op with
  | .load t x => match a.eval x with
    | .pointer (some p) => some (t, p)
    | _ => none
  | _ => none
theorem loadOf_some {o : Oper} {a : Act} {t : TypeId} {p : Addr} (h : loadOf o a = some (t, p)) : ∃ x, o.op = .load t x ∧ a.eval x = .pointer (some p) := by
  unfold loadOf at h
  split at h
  · rename_i t' x ho
    split at h
    · rename_i q hq
      simp only [Option.some.injEq, Prod.mk.injEq] at h
      obtain ⟨rfl, rfl⟩ := h
      exact ⟨x, ho, hq⟩
    · cases h
  · cases h

section
variable {P : Program} {ops : Array Oper} {Q : Exit → Act → World → Prop} {a : Act} {w : World} {o : Oper} {rest : List Oper}
/-- A load in a plain region, guarded or not. -/
theorem wpList_loadIs (ty : TypeId) (p : Addr) (v : Value) (hl : isLoad ty o = true) (ho : loadOf o a = some (ty, p)) (hg : Region.wanted o (yielded ops a.tmps) = true)
    (h : (loadVar ty p).run P w = .ok v w) (k : wpList P ops Q rest (a.put o.dst v) w) : wpList P ops Q (o :: rest) a w := by
  obtain ⟨x, h1, h2⟩ := loadOf_some ho
  unfold wpList
  rw [if_pos hg]
  left
  unfold Oper.wp execOp
  simp only [h1, h2, Instr.loadAt, Instr.sureAddr, Sem.run_bind, Sem.run_pure, Result.andThen_ok, h]
  exact k
end

section
variable {P : Program} {ops : Array Oper} {C : World → Prop} {Q : Act → Prop} {a : Act} {o : Oper} {rest : List Oper}
/-- A load in a quiet region, guarded or not. -/
theorem wpQuiet_loadIs (ty : TypeId) (p : Addr) (v : Value) (hl : isLoad ty o = true) (ho : loadOf o a = some (ty, p)) (hg : Region.wanted o (yielded ops a.tmps) = true)
    (h : ∀ w, C w → (loadVar ty p).run P w = .ok v w) (k : wpQuiet P ops C Q rest (a.put o.dst v)) : wpQuiet P ops C Q (o :: rest) a := by
  obtain ⟨x, h1, h2⟩ := loadOf_some ho
  exact wpQuiet_load ty x h1 hg p h2 v h k
end

/-- What a walk wants to know of a log in memory. -/
theorem log_facts {w : World} {b o : Nat} {cs : List Value} {L : LogD} (h : IsLog w cs L) (hr : w.rangeAt b o cs) :
    ∃ ta tn tc da dn dc, w.cell? ⟨b, o + 20, none⟩ = some (.slice ta tn tc) ∧ w.cell? ⟨b, o + 21, none⟩ = some (.slice da dn dc) ∧
      (∀ m, (loadVar 46 ⟨b, o, none⟩).run Sagg.prog (w.drewN m) = .ok (.agg (bcells L.addr).toArray) (w.drewN m)) ∧ L.addr.length = 20 ∧
      L.topics.length = 32 * tn ∧ tn ≤ 9223372036854775807 ∧ ByteRow w ta L.topics ∧ L.data.length = dn ∧ ByteRow w da L.data := by
  obtain ⟨ta, tn, tc, da, dn, dc, rfl, hl, hd, ht, htn, hrt, hdl, hrd⟩ := h
  refine ⟨ta, tn, tc, da, dn, dc, hr 20 _ ?_, hr 21 _ ?_, fun m => ?_, hl, ht, htn, hrt, hdl, hrd⟩
  · rw [List.getElem?_append_right (by rw [bcells_length]; omega), bcells_length, hl]; rfl
  · rw [List.getElem?_append_right (by rw [bcells_length]; omega), bcells_length, hl]; rfl
  · refine run_loadVar_mid (w.drewN m) b o 46 (bcells L.addr) _ (fun j v hv => ?_) Sagg.underlying46 rfl (by rw [bcells_length, hl]; exact info46)
    exact hr j v (by rw [List.getElem?_append_left (List.getElem?_eq_some_iff.1 hv).1]; exact hv)

theorem IsLog.ext {w w' : World} {cs : List Value} {L : LogD} (h : IsLog w cs L) (hb : Below w.heap.size w w') : IsLog w' cs L := by
  obtain ⟨ta, tn, tc, da, dn, dc, rfl, hl, hd, ht, htn, hrt, hdl, hrd⟩ := h
  exact ⟨ta, tn, tc, da, dn, dc, rfl, hl, hd, ht, htn, hrt.ext hb, hdl, hrd.ext hb⟩

theorem range_ext {w w' : World} {b o : Nat} {cs : List Value} (h : w.rangeAt b o cs) (hb : Below w.heap.size w w') : w'.rangeAt b o cs := fun j v hv => by
  have := h j v hv
  rw [hb.cell (p := ⟨b, o + j, none⟩) (cell_lt this)]
  exact this

theorem IsLogs.ext {w w' : World} {a : Option Addr} {Ls : List LogD} (h : IsLogs w a Ls) (hb : Below w.heap.size w w') : IsLogs w' a Ls := by
  rcases h with h0 | ⟨b, off, ha, hc⟩
  · exact .inl h0
  · refine .inr ⟨b, off, ha, fun i L hi => ?_⟩
    obtain ⟨cs, h1, h2⟩ := hc i L hi
    exact ⟨cs, h1.ext hb, range_ext h2 hb⟩

theorem below_drewN' {w : World} (n : Nat) : Below w.heap.size w (w.drewN n) := ⟨rfl, rfl, rfl, Nat.le_refl _, fun _ _ => rfl⟩

theorem log_differs {eb : Bool} {L1 L2 : List LogD} (h : eb = true ↔ L1 = L2) {k : Nat} {A B : LogD} (hA : L1[k]? = some A) (hB : L2[k]? = some B) (hne : A ≠ B) : eb = false := by
  cases eb with
  | false => rfl
  | true =>
    have e := h.1 rfl
    subst e
    rw [hA] at hB
    exact absurd (Option.some.inj hB) hne

theorem take_next {L1 L2 : List LogD} {k : Nat} (h : L1.take k = L2.take k) {A B : LogD} (hA : L1[k]? = some A) (hB : L2[k]? = some B) (e : A = B) : L1.take (k + 1) = L2.take (k + 1) := by
  rw [List.take_add_one, List.take_add_one, h, hA, hB, e]

theorem bel_drew {w W2 wr : World} {n : Nat} (h : Below w.heap.size w W2) (hw : wr = W2.drewN n) (m : Nat) : Below w.heap.size w (wr.drewN m) := by
  subst hw
  exact ⟨h.os, h.tape, h.output, h.size, h.block⟩

theorem range_tail {w : World} {b : Nat} {t : TypeId} {x : List Value} (h : w.heap[b]? = some (.cells x.toArray t (0, 0))) (o : Nat) (cs : List Value) (hc : x.drop o = cs) : w.rangeAt b o cs := by
  intro j v hv
  subst hc
  rw [cell_of_row w b (o + j) _ _ _ h]
  simpa [List.getElem?_drop] using hv

theorem load_arr {W : World} {g : Nat} {T : TypeId} {x : List Value} (h : W.heap[g]? = some (.cells x.toArray T (0, 0))) (t : TypeId) (n o : Nat) (zs : List Int) (hx : x.drop o = bcells zs) (hl : zs.length = n)
    (ht : Sagg.prog.underlying t = some (.array n 5)) (hi : (Sagg.prog.info? t).map (·.size) = some n) : (loadVar t ⟨g, o, none⟩).run Sagg.prog W = .ok (.agg (bcells zs).toArray) W :=
  run_loadVar_mid W g o t (bcells zs) _ (range_tail h o _ hx) ht rfl (by rw [bcells_length, hl]; exact hi)

theorem rcells_made (v s u : Int) (oa : Option Addr) (on oc : Nat) (la : Option Addr) (ln lc : Nat) (m : List Int) : (rcells v s u oa on oc la ln lc m).drop 5 = bcells m := rfl

/-- The two boxes of a pair of receipts. -/
theorem boxes {w : World} (x1 x2 : Array Value) (T : TypeId) : ((w.alloc (.cells x1 T)).alloc (.cells x2 T)).heap[w.heap.size]? = some (.cells x1 T (0, 0)) ∧ ((w.alloc (.cells x1 T)).alloc (.cells x2 T)).heap[w.heap.size + 1]? = some (.cells x2 T (0, 0)) :=
  ⟨heap_alloc2_old w _ _, heap_alloc2_new w _ _⟩

theorem below2 {w : World} (o1 o2 : Obj) : Below w.heap.size w ((w.alloc o1).alloc o2) := ((Below.refl _ _).alloc (Nat.le_refl _) _).alloc (by simp) _

/-- What SameReceipt answers. -/
def sameR (v1 s1 u1 : Int) (m1 o1 : List Int) (L1 : List LogD) (v2 s2 u2 : Int) (m2 o2 : List Int) (L2 : List LogD) : Prop := v1 = v2 ∧ s1 = s2 ∧ u1 = u2 ∧ m1 = m2 ∧ o1 = o2 ∧ L1 = L2

set_option maxHeartbeats 1000000 in
theorem sameReceipt_logs (v1 s1 u1 : Int) (oa1 : Option Addr) (on1 oc1 : Nat) (la1 : Option Addr) (ln1 lc1 : Nat) (m1 o1 : List Int) (L1 : List LogD) (oa2 : Option Addr) (on2 oc2 : Nat) (la2 : Option Addr) (lc2 : Nat) (L2 : List LogD) (w : World)
    (hm1 : m1.length = 20) (ho1 : ByteRow w oa1 o1) (hol1 : o1.length = on1) (ho2 : ByteRow w oa2 o1) (hol2 : o1.length = on2) (hL1 : IsLogs w la1 L1) (hll1 : L1.length = ln1) (hL2 : IsLogs w la2 L2) (hll2 : L2.length = ln1) (h63 : ln1 ≤ 9223372036854775807) (eb : Bool)
    (heb : eb = true ↔ L1 = L2) :
    Calls Sagg.prog 22 #[.agg (rcells v1 s1 u1 oa1 on1 oc1 la1 ln1 lc1 m1).toArray, .agg (rcells v1 s1 u1 oa2 on2 oc2 la2 ln1 lc2 m1).toArray] w fun e w' => e = .returned (.bool eb) ∧ Below w.heap.size w w' := by
  have hbx := boxes (w := w) (rcells v1 s1 u1 oa1 on1 oc1 la1 ln1 lc1 m1).toArray (rcells v1 s1 u1 oa2 on2 oc2 la2 ln1 lc2 m1).toArray 48
  have LM1 := hide (load_arr hbx.1 46 20 5 m1 (rcells_made ..) hm1 Sagg.underlying46 info46)
  have LM2 := hide (load_arr hbx.2 46 20 5 m1 (rcells_made ..) hm1 Sagg.underlying46 info46)
  have hne := neq_arr 46 20 Sagg.underlying46 m1 m1 hm1 hm1
  have hb2 := below2 (w := w) (.cells (rcells v1 s1 u1 oa1 on1 oc1 la1 ln1 lc1 m1).toArray 48) (.cells (rcells v1 s1 u1 oa2 on2 oc2 la2 ln1 lc2 m1).toArray 48)
  have C1 := conv_bytes Sagg.underlying22 Sagg.underlying9 oa1 on1 oc1 o1 _ hol1 (ho1.ext hb2)
  have C2 := conv_bytes Sagg.underlying22 Sagg.underlying9 oa2 on2 oc2 o1 _ hol2 (ho2.ext hb2)
  have HB2 := hide hb2
  have HX := hide hbx
  clear hbx hb2
  unfold rcells at *
  rw [decide_eq_true rfl] at hne
  have HEB : Hid (eb = true ↔ L1 = L2) := heb
  clear heb
  go_enter Sagg.func22, Sagg.ntmps22
  go_wp2_with (first
    | ((with_reducible refine wpList_loadIs 46 ⟨w.heap.size, 5, none⟩ (.agg (bcells m1).toArray) ?_ ?_ ?_ ?_ ?_); rfl; rfl; rfl; exact unhide LM1; simp only [Act.put, List.setIfInBounds_toArray, List.set_cons_succ, List.set_cons_zero])
    | ((with_reducible refine wpList_loadIs 46 ⟨w.heap.size + 1, 5, none⟩ (.agg (bcells m1).toArray) ?_ ?_ ?_ ?_ ?_); rfl; rfl; rfl; exact unhide LM2; simp only [Act.put, List.setIfInBounds_toArray, List.set_cons_succ, List.set_cons_zero]))
  have hL1' := hL1.ext (unhide HB2)
  have hL2' := hL2.ext (unhide HB2)
  have hq4 := hide (And.intro (cell_of_row _ _ 4 _ _ _ (unhide HX).1) (cell_of_row _ _ 4 _ _ _ (unhide HX).2))
  clear C1 C2 LM1 LM2 hne HX hL1 hL2 ho1 ho2
  generalize hW2 : (w.alloc _).alloc _ = W2 at *
  clear hW2
  go_loopw [53] (fun i wr => ∃ k nd : Nat, k ≤ ln1 ∧ i = .int .i64 k ∧ wr = W2.drewN nd ∧ L1.take k = L2.take k) (fun i _ => ln1 - (intOf i).toNat)
  case atStart => exact ⟨0, 0, Nat.zero_le _, rfl, rfl, by simp⟩
  case round =>
    obtain ⟨k, nd, hk, rfl, hwr, ht⟩ := hrel
    have HT := hide ht
    have hbw : Below W2.heap.size W2 wr := by rw [hwr]; exact below_drewN' nd
    have hb1 : wr.cell? ⟨w.heap.size, 4, none⟩ = some (.slice la1 ln1 lc1) := by rw [hwr]; exact (unhide hq4).1
    have hb2 : wr.cell? ⟨w.heap.size + 1, 4, none⟩ = some (.slice la2 ln1 lc2) := by rw [hwr]; exact (unhide hq4).2
    have hl1 := hL1'.ext hbw
    have hl2 := hL2'.ext hbw
    have HW := hide hwr
    clear ht hwr hbw
    by_cases hlt : k < ln1
    · rcases hl1 with h0 | ⟨b1, off1, rfl, hc1⟩
      · subst h0; simp at hll1; omega
      rcases hl2 with h0 | ⟨b2, off2, rfl, hc2⟩
      · subst h0; simp at hll2; omega
      obtain ⟨A, hA⟩ : ∃ A, L1[k]? = some A := ⟨_, List.getElem?_eq_getElem (by omega)⟩
      obtain ⟨B, hB⟩ : ∃ B, L2[k]? = some B := ⟨_, List.getElem?_eq_getElem (by omega)⟩
      obtain ⟨cs1, hi1, hr1⟩ := hc1 k A hA
      obtain ⟨cs2, hi2, hr2⟩ := hc2 k B hB
      obtain ⟨ta1, tn1, tc1, da1, dn1, dc1, ht1, hd1, hld1, ha1, htl1, htn1, hrt1, hdl1, hrd1⟩ := log_facts hi1 hr1
      obtain ⟨ta2, tn2, tc2, da2, dn2, dc2, ht2, hd2, hld2, ha2, htl2, htn2, hrt2, hdl2, hrd2⟩ := log_facts hi2 hr2
      have hne := neq_arr 46 20 Sagg.underlying46 A.addr B.addr ha1 ha2
      have hlt' : (k : Int) < (ln1 : Int) := by omega
      have HA := hide hA
      have HB := hide hB
      have HLD1 := hide hld1
      have HLD2 := hide hld2
      clear hc1 hc2 hi1 hi2 hr1 hr2 hA hB hld1 hld2
      by_cases had : A.addr = B.addr
      case neg =>
        rw [decide_eq_false had] at hne
        have hf : eb = false := log_differs (unhide HEB) (unhide HA) (unhide HB) (fun e => had (by rw [e]))
        subst hf
        clear had
        go_wp2
        refine wp_region_quiet_lit (by kernel_rfl) (by kernel_rfl) ?_
        iterate 3 go_big_quiet_step (fail)
        ((with_reducible refine wpQuiet_loadIs 46 ⟨b1, off1 + k * 22, none⟩ (.agg (bcells A.addr).toArray) ?_ ?_ ?_ ?_ ?_); rfl; rfl; rfl; (intro wx hwx; obtain ⟨m, hm⟩ := hwx; rw [hm]; exact unhide HLD1 m); simp only [Act.put, List.setIfInBounds_toArray, List.set_cons_succ, List.set_cons_zero])
        iterate 3 go_big_quiet_step (fail)
        ((with_reducible refine wpQuiet_loadIs 46 ⟨b2, off2 + k * 22, none⟩ (.agg (bcells B.addr).toArray) ?_ ?_ ?_ ?_ ?_); rfl; rfl; rfl; (intro wx hwx; obtain ⟨m, hm⟩ := hwx; rw [hm]; exact unhide HLD2 m); simp only [Act.put, List.setIfInBounds_toArray, List.set_cons_succ, List.set_cons_zero])
        repeat go_big_quiet_step (fail)
        refine wpQuiet_nil ?_
        intro wq hwq
        obtain ⟨nq, hnq⟩ := hwq
        subst hnq
        go_wp2
        go_ret
        exact ⟨rfl, bel_drew (unhide HB2) (unhide HW) nq⟩
      rw [decide_eq_true had] at hne
      have sw := fun m => sameWords_calls ta1 ta2 tn1 tc1 tn2 tc2 A.topics B.topics (wr.drewN m) htl1 htl2 hrt1 hrt2 htn1 htn2
      by_cases hto : A.topics = B.topics
      case neg =>
        rw [decide_eq_false hto] at sw
        have SW := hide sw
        have hf : eb = false := log_differs (unhide HEB) (unhide HA) (unhide HB) (fun e => hto (by rw [e]))
        subst hf
        clear hto sw had
        go_wp2
        refine wp_region_quiet_lit (by kernel_rfl) (by kernel_rfl) ?_
        iterate 3 go_big_quiet_step (fail)
        ((with_reducible refine wpQuiet_loadIs 46 ⟨b1, off1 + k * 22, none⟩ (.agg (bcells A.addr).toArray) ?_ ?_ ?_ ?_ ?_); rfl; rfl; rfl; (intro wx hwx; obtain ⟨m, hm⟩ := hwx; rw [hm]; exact unhide HLD1 m); simp only [Act.put, List.setIfInBounds_toArray, List.set_cons_succ, List.set_cons_zero])
        iterate 3 go_big_quiet_step (fail)
        ((with_reducible refine wpQuiet_loadIs 46 ⟨b2, off2 + k * 22, none⟩ (.agg (bcells B.addr).toArray) ?_ ?_ ?_ ?_ ?_); rfl; rfl; rfl; (intro wx hwx; obtain ⟨m, hm⟩ := hwx; rw [hm]; exact unhide HLD2 m); simp only [Act.put, List.setIfInBounds_toArray, List.set_cons_succ, List.set_cons_zero])
        repeat go_big_quiet_step ((go_at_call 42; exact Calls.quiet_of (unhide SW _)))
        refine wpQuiet_nil ?_
        intro wq hwq
        obtain ⟨nq, hnq⟩ := hwq
        subst hnq
        go_wp2
        go_ret
        exact ⟨rfl, bel_drew (unhide HB2) (unhide HW) nq⟩
      rw [decide_eq_true hto] at sw
      have SW := hide sw
      have cv1 := fun m => conv_bytes Sagg.underlying22 Sagg.underlying9 da1 dn1 dc1 A.data (wr.drewN m) hdl1 hrd1
      have cv2 := fun m => conv_bytes Sagg.underlying22 Sagg.underlying9 da2 dn2 dc2 B.data (wr.drewN m) hdl2 hrd2
      have hst := eq_dec A.data B.data hrd1.1 hrd2.1
      by_cases hda : A.data = B.data
      case neg =>
        rw [decide_eq_false hda] at hst
        have hf : eb = false := log_differs (unhide HEB) (unhide HA) (unhide HB) (fun e => hda (by rw [e]))
        subst hf
        clear hto sw hda had
        go_wp2
        refine wp_region_quiet_lit (by kernel_rfl) (by kernel_rfl) ?_
        iterate 3 go_big_quiet_step (fail)
        ((with_reducible refine wpQuiet_loadIs 46 ⟨b1, off1 + k * 22, none⟩ (.agg (bcells A.addr).toArray) ?_ ?_ ?_ ?_ ?_); rfl; rfl; rfl; (intro wx hwx; obtain ⟨m, hm⟩ := hwx; rw [hm]; exact unhide HLD1 m); simp only [Act.put, List.setIfInBounds_toArray, List.set_cons_succ, List.set_cons_zero])
        iterate 3 go_big_quiet_step (fail)
        ((with_reducible refine wpQuiet_loadIs 46 ⟨b2, off2 + k * 22, none⟩ (.agg (bcells B.addr).toArray) ?_ ?_ ?_ ?_ ?_); rfl; rfl; rfl; (intro wx hwx; obtain ⟨m, hm⟩ := hwx; rw [hm]; exact unhide HLD2 m); simp only [Act.put, List.setIfInBounds_toArray, List.set_cons_succ, List.set_cons_zero])
        repeat go_big_quiet_step ((go_at_call 42; exact Calls.quiet_of (unhide SW _)))
        refine wpQuiet_nil ?_
        intro wq hwq
        obtain ⟨nq, hnq⟩ := hwq
        subst hnq
        go_wp2
        go_ret
        exact ⟨rfl, bel_drew (unhide HB2) (unhide HW) nq⟩
      have hAB : A = B := by
        cases A; cases B
        simp only at had hto hda
        rw [had, hto, hda]
      rw [decide_eq_true hda] at hst
      have HNX := hide (take_next (unhide HT) (unhide HA) (unhide HB) hAB)
      clear hto sw hda had hAB
      go_wp2
      refine wp_region_quiet_lit (by kernel_rfl) (by kernel_rfl) ?_
      iterate 3 go_big_quiet_step (fail)
      ((with_reducible refine wpQuiet_loadIs 46 ⟨b1, off1 + k * 22, none⟩ (.agg (bcells A.addr).toArray) ?_ ?_ ?_ ?_ ?_); rfl; rfl; rfl; (intro wx hwx; obtain ⟨m, hm⟩ := hwx; rw [hm]; exact unhide HLD1 m); simp only [Act.put, List.setIfInBounds_toArray, List.set_cons_succ, List.set_cons_zero])
      iterate 3 go_big_quiet_step (fail)
      ((with_reducible refine wpQuiet_loadIs 46 ⟨b2, off2 + k * 22, none⟩ (.agg (bcells B.addr).toArray) ?_ ?_ ?_ ?_ ?_); rfl; rfl; rfl; (intro wx hwx; obtain ⟨m, hm⟩ := hwx; rw [hm]; exact unhide HLD2 m); simp only [Act.put, List.setIfInBounds_toArray, List.set_cons_succ, List.set_cons_zero])
      repeat go_big_quiet_step ((go_at_call 42; exact Calls.quiet_of (unhide SW _)))
      refine wpQuiet_nil ?_
      intro wq hwq
      obtain ⟨nq, hnq⟩ := hwq
      subst hnq
      go_wp2
      go_roundw
      case rel => exact ⟨k + 1, _, by omega, by go_num, drewN_more' (unhide HW) _, unhide HNX⟩
      case measure => simp [intOf]; omega
    · have hf : eb = true := by
        rw [unhide HEB]
        have h1 := unhide HT
        rw [List.take_of_length_le (by omega), List.take_of_length_le (by omega)] at h1
        exact h1
      subst hf
      clear hl1 hl2
      go_wp2
      go_ret
      exact ⟨rfl, by have := bel_drew (unhide HB2) (unhide HW) 0; exact this⟩
end Go.Proofs.Ygcsag
