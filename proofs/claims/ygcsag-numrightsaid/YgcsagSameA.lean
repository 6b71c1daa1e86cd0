/-
  WALKS: obs.sameWords, law.wordsMeet.
-/
import Derived.Test.YgcsagNatB
import Derived.Test.YgcsagArr
import Derived.Deep.MidRow
import Derived.Test.YgcsagQuiet
namespace Go.Proofs.Ygcsag
open Go.RowKit
set_option linter.unusedSimpArgs false
set_option linter.unusedVariables false

theorem hide {p : Prop} (h : p) : Hid p := h
theorem unhide {p : Prop} (h : Hid p) : p := h

theorem size5' (w : World) : (sizeOf 5).run Sagg.prog w = .ok 1 w := by kernel_rfl
theorem agg5' (w : World) : (isAgg 5).run Sagg.prog w = .ok false w := by kernel_rfl
theorem info60 : (Sagg.prog.info? 60).map (·.size) = some 32 := by kernel_rfl
theorem info46 : (Sagg.prog.info? 46).map (·.size) = some 20 := by kernel_rfl

/-- A part of a row of bytes. -/
def cut (zs : List Int) (o n : Nat) : List Int := (zs.drop o).take n
theorem cut_length (zs : List Int) (o n : Nat) (h : o + n ≤ zs.length) : (cut zs o n).length = n := by simp [cut]; omega
theorem dig_cut {zs : List Int} (h : Dig zs) (o n : Nat) : Dig (cut zs o n) := (h.drop o).take n
theorem cut_getD (zs : List Int) (o n i : Nat) (h : i < n) : (cut zs o n).getD i 0 = zs.getD (o + i) 0 := by
  simp [cut, List.getD_eq_getElem?_getD, List.getElem?_take, h]

theorem take_cut {xs ys : List Int} {k : Nat} (n : Nat) (h : xs.take (k * n) = ys.take (k * n)) (hc : cut xs (k * n) n = cut ys (k * n) n) : xs.take ((k + 1) * n) = ys.take ((k + 1) * n) := by
  rw [Nat.add_mul, Nat.one_mul, List.take_add, List.take_add, h]
  unfold cut at hc
  rw [hc]

theorem ne_of_cut {xs ys : List Int} {o n : Nat} (h : decide (cut xs o n = cut ys o n) = false) : decide (xs = ys) = false := by
  apply decide_eq_false
  intro e
  exact of_decide_eq_false h (by rw [e])

/-- The part's cells lie there. -/
theorem range_cut {w : World} {b off : Nat} {zs : List Int} (hc : ∀ i, i < zs.length → w.cell? ⟨b, off + i, none⟩ = some (.int .u8 (zs.getD i 0))) (o n : Nat) (h : o + n ≤ zs.length) :
    w.rangeAt b (off + o) (bcells (cut zs o n)) := by
  intro j v hv
  have hj : j < n := by
    have := (List.getElem?_eq_some_iff.1 hv).1
    rw [bcells_length, cut_length _ _ _ h] at this; exact this
  rw [bcells_get _ _ (by rw [cut_length _ _ _ h]; exact hj), cut_getD _ _ _ _ hj] at hv
  rw [Nat.add_assoc, hc (o + j) (by omega)]
  exact hv

/-- A part of a row of bytes is a row of bytes. -/
theorem row_cut {w : World} {b off : Nat} {zs : List Int} (hd : Dig zs) (hc : ∀ i, i < zs.length → w.cell? ⟨b, off + i, none⟩ = some (.int .u8 (zs.getD i 0))) (o n : Nat) (h : o + n ≤ zs.length) :
    ByteRow w (some ⟨b, off + o, none⟩) (cut zs o n) :=
  ⟨dig_cut hd o n, .inr ⟨b, off + o, rfl, fun i hi => by rw [cut_length _ _ _ h] at hi; rw [cut_getD _ _ _ _ hi, Nat.add_assoc]; exact hc (o + i) (by omega)⟩⟩

theorem row_drewN {w wx : World} {a : Option Addr} {zs : List Int} (h : ByteRow w a zs) (hw : ∃ n, wx = w.drewN n) : ByteRow wx a zs := by
  obtain ⟨n, rfl⟩ := hw
  exact h

theorem load_cut (w : World) (b off : Nat) (zs : List Int) (hc : ∀ i, i < zs.length → w.cell? ⟨b, off + i, none⟩ = some (.int .u8 (zs.getD i 0))) (t : TypeId) (o n : Nat) (h : o + n ≤ zs.length)
    (ht : Sagg.prog.underlying t = some (.array n 5)) (hi : (Sagg.prog.info? t).map (·.size) = some n) :
    (loadVar t ⟨b, off + o, none⟩).run Sagg.prog w = .ok (.agg (bcells (cut zs o n)).toArray) w :=
  run_loadVar_mid w b (off + o) t (bcells (cut zs o n)) _ (range_cut hc o n h) ht rfl (by rw [bcells_length, cut_length _ _ _ h]; exact hi)

theorem load_cut_q (w : World) (b off : Nat) (zs : List Int) (hc : ∀ i, i < zs.length → w.cell? ⟨b, off + i, none⟩ = some (.int .u8 (zs.getD i 0))) (t : TypeId) (o n : Nat) (h : o + n ≤ zs.length)
    (ht : Sagg.prog.underlying t = some (.array n 5)) (hi : (Sagg.prog.info? t).map (·.size) = some n) :
    ∀ wx, (∃ m, wx = w.drewN m) → (loadVar t ⟨b, off + o, none⟩).run Sagg.prog wx = .ok (.agg (bcells (cut zs o n)).toArray) wx := by
  intro wx hwx
  obtain ⟨m, hm⟩ := hwx
  rw [hm]
  exact load_cut (w.drewN m) b off zs hc t o n h ht hi

theorem neq_arr (t : TypeId) (n : Nat) (ht : Sagg.prog.underlying t = some (.array n 5)) (xs ys : List Int) (hx : xs.length = n) (hy : ys.length = n) (w : World) :
    (binOp .neq t (.agg (bcells xs).toArray) (.agg (bcells ys).toArray)).run Sagg.prog w = .ok (.bool (!decide (xs = ys))) w :=
  run_neq_bytes w t 5 n ht Sagg.underlying5 (size5' w) (agg5' w) xs ys hx hy

theorem sameWords_calls (a b : Option Addr) (na ca nb cb : Nat) (xs ys : List Int) (w : World) (hla : xs.length = 32 * na) (hlb : ys.length = 32 * nb) (hx : ByteRow w a xs) (hy : ByteRow w b ys) (h63 : na ≤ 9223372036854775807) (h63b : nb ≤ 9223372036854775807) :
    Calls Sagg.prog 42 #[.slice a na ca, .slice b nb cb] w fun e w' => e = .returned (.bool (decide (xs = ys))) ∧ ∃ n, w' = w.drewN n := by
  by_cases hn : na = nb
  · subst hn
    go_enter Sagg.func42, Sagg.ntmps42
    go_wp2
    go_loopw [13] (fun i wr => ∃ k nd : Nat, k ≤ na ∧ i = .int .i64 k ∧ wr = w.drewN nd ∧ xs.take (k * 32) = ys.take (k * 32)) (fun i _ => na - (intOf i).toNat)
    case atStart => exact ⟨0, 0, Nat.zero_le _, rfl, rfl, by simp⟩
    case round =>
      obtain ⟨k, nd, hk, rfl, rfl, ht⟩ := hrel
      have HT : Hid (xs.take (k * 32) = ys.take (k * 32)) := ht
      clear ht
      by_cases hlt : k < na
      · rcases hx.2 with h0 | ⟨b1, off1, rfl, hc1⟩
        · subst h0; simp at hla; omega
        rcases hy.2 with h0 | ⟨b2, off2, rfl, hc2⟩
        · subst h0; simp at hlb; omega
        have l1 := hide (load_cut_q (w.drewN nd) b1 off1 xs hc1 60 (k * 32) 32 (by omega) Sagg.underlying60 info60)
        have l2 := hide (load_cut_q (w.drewN nd) b2 off2 ys hc2 60 (k * 32) 32 (by omega) Sagg.underlying60 info60)
        have hne := neq_arr 60 32 Sagg.underlying60 (cut xs (k * 32) 32) (cut ys (k * 32) 32) (cut_length _ _ _ (by omega)) (cut_length _ _ _ (by omega))
        have hb1 : (k : Int) < (na : Int) := by omega
        obtain ⟨eb, heb⟩ : ∃ eb, decide (cut xs (k * 32) 32 = cut ys (k * 32) 32) = eb := ⟨_, rfl⟩
        rw [heb] at hne
        have HE := hide heb
        clear hc1 hc2 hx hy heb
        go_wp2
        refine wp_region_quiet_lit (by kernel_rfl) (by kernel_rfl) ?_
        repeat (first
          | (refine wpQuiet_load 60 _ rfl rfl ⟨b1, off1 + k * 32, none⟩ rfl _ (unhide l1) ?_; simp only [Act.put, List.setIfInBounds_toArray, List.set_cons_succ, List.set_cons_zero])
          | (refine wpQuiet_load 60 _ rfl rfl ⟨b2, off2 + k * 32, none⟩ rfl _ (unhide l2) ?_; simp only [Act.put, List.setIfInBounds_toArray, List.set_cons_succ, List.set_cons_zero])
          | go_big_quiet_step (fail))
        refine wpQuiet_nil ?_
        rintro _ ⟨nq, rfl⟩
        cases eb
        · have HN := hide (ne_of_cut (unhide HE))
          go_wp2
          go_ret
          exact ⟨ret_bool (unhide HN).symm, by simp only [World.drewN_drewN]; exact ⟨_, rfl⟩⟩
        · go_wp2
          go_roundw
          case rel => exact ⟨k + 1, _, by omega, by go_num, rfl, take_cut 32 (unhide HT) (of_decide_eq_true (unhide HE))⟩
          case measure => simp [intOf]; omega
      · have hxy : decide (xs = ys) = true := by
          apply decide_eq_true
          have h1 := unhide HT
          rw [List.take_of_length_le (by omega), List.take_of_length_le (by omega)] at h1
          exact h1
        have HN := hide hxy
        clear hxy hx hy
        go_wp2
        go_ret
        exact ⟨ret_bool (unhide HN).symm, _, rfl⟩
  · have hne2 : decide (xs = ys) = false := by
      apply decide_eq_false
      intro h
      rw [h] at hla
      omega
    have HN := hide hne2
    have hb : ((na : Int) != (nb : Int)) = true := by rw [bne_iff_ne]; omega
    clear hne2 hx hy
    go_enter Sagg.func42, Sagg.ntmps42
    go_wp2
    go_ret
    exact ⟨ret_bool (unhide HN).symm, 0, rfl⟩

theorem drewN_more' {w wr : World} {n : Nat} (h : wr = w.drewN n) (m : Nat) : wr.drewN m = w.drewN (n + m) := by rw [h, World.drewN_drewN]
theorem drewN_more {w wr : World} {n : Nat} (h : wr = w.drewN n) (m : Nat) : ∃ k, wr.drewN m = w.drewN k := ⟨_, drewN_more' h m⟩

theorem wordsMeet_calls (a b : Option Addr) (na ca nb cb : Nat) (xs ys : List Int) (w : World) (hla : xs.length = 32 * na) (hlb : ys.length = 32 * nb) (hx : ByteRow w a xs) (hy : ByteRow w b ys) (h63 : na ≤ 9223372036854775807) (h63b : nb ≤ 9223372036854775807) :
    Calls Sagg.prog 62 #[.slice a na ca, .slice b nb cb] w fun e w' => e = .returned (.bool (decide (xs = ys))) ∧ ∃ n, w' = w.drewN n := by
  by_cases hn : na = nb
  · subst hn
    go_enter Sagg.func62, Sagg.ntmps62
    go_wp2
    go_loopw [13] (fun i wr => ∃ k nd : Nat, k ≤ na ∧ i = .int .i64 k ∧ wr = w.drewN nd ∧ xs.take (k * 32) = ys.take (k * 32)) (fun i _ => na - (intOf i).toNat)
    case atStart => exact ⟨0, 0, Nat.zero_le _, rfl, rfl, by simp⟩
    case round =>
      obtain ⟨k, nd, hk, rfl, hwr, ht⟩ := hrel
      have HT := hide ht
      have hx := row_drewN hx ⟨nd, hwr⟩
      have hy := row_drewN hy ⟨nd, hwr⟩
      have HW := hide hwr
      clear ht hwr
      by_cases hlt : k < na
      · rcases hx.2 with h0 | ⟨b1, off1, rfl, hc1⟩
        · subst h0; simp at hla; omega
        rcases hy.2 with h0 | ⟨b2, off2, rfl, hc2⟩
        · subst h0; simp at hlb; omega
        have r1 := row_cut hx.1 hc1 (k * 32) 32 (by omega)
        have r2 := row_cut hy.1 hc2 (k * 32) 32 (by omega)
        have heq := fun m => equalBytes_calls (some ⟨b1, off1 + k * 32, none⟩) (some ⟨b2, off2 + k * 32, none⟩) 32 32 32 32 _ _ (wr.drewN m) (cut_length xs (k * 32) 32 (by omega)) (cut_length ys (k * 32) 32 (by omega)) (row_drewN r1 ⟨m, rfl⟩) (row_drewN r2 ⟨m, rfl⟩)
        obtain ⟨eb, heb⟩ : ∃ eb, decide (cut xs (k * 32) 32 = cut ys (k * 32) 32) = eb := ⟨_, rfl⟩
        rw [heb] at heq
        have HQ := hide heq
        have HE := hide heb
        have hb1 : (k : Int) < (na : Int) := by omega
        clear hc1 hc2 hx hy heb heq r1 r2
        go_wp2
        go_quiet ((go_at_call 8; exact Calls.quiet_of_same (unhide HQ _)))
        cases eb
        · have HN := hide (ne_of_cut (unhide HE))
          go_wp2
          go_ret
          exact ⟨ret_bool (unhide HN).symm, drewN_more (unhide HW) _⟩
        · go_wp2
          go_roundw
          case rel => exact ⟨k + 1, _, by omega, by go_num, drewN_more' (unhide HW) _, take_cut 32 (unhide HT) (of_decide_eq_true (unhide HE))⟩
          case measure => simp [intOf]; omega
      · have hxy : decide (xs = ys) = true := by
          apply decide_eq_true
          have h1 := unhide HT
          rw [List.take_of_length_le (by omega), List.take_of_length_le (by omega)] at h1
          exact h1
        have HN := hide hxy
        clear hxy hx hy
        go_wp2
        go_ret
        exact ⟨ret_bool (unhide HN).symm, _, unhide HW⟩
  · have hne2 : decide (xs = ys) = false := by
      apply decide_eq_false
      intro h
      rw [h] at hla
      omega
    have HN := hide hne2
    have hb : ((na : Int) != (nb : Int)) = true := by rw [bne_iff_ne]; omega
    clear hne2 hx hy
    go_enter Sagg.func62, Sagg.ntmps62
    go_wp2
    go_ret
    exact ⟨ret_bool (unhide HN).symm, 0, rfl⟩
end Go.Proofs.Ygcsag
