/-
  WALKS: nat.trim, nat.clip, nat.Cmp.
-/
import Derived.Test.YgcsagGreatMem
import Derived.Test.YgcsagGreatRows
import Derived.WalkKit
import Derived.Deep.QuietTactic
import Derived.BigQuiet
namespace Go.Proofs.YgcsagGreat
open Go.RowKit
set_option linter.unusedSimpArgs false

set_option maxHeartbeats 400000 in
theorem trim_calls (a : Option Addr) (len cap : Nat) (zs : List Int) (w : World) (hl : zs.length = len) (hlc : len ≤ cap) (hm : cap ≤ maxLen) (hr : ByteRow w a zs) :
    Calls Sagg.prog 108 #[.slice a len cap] w fun e w' => e = .returned (.slice a (trimL zs).length (trimL zs).length) ∧ w' = w := by
  rw [trimL_length, hl]
  unfold maxLen at hm
  go_enter Sagg.func108, Sagg.ntmps108
  go_wp2
  go_loop [3] (fun k => ∃ n : Nat, n ≤ len ∧ k = .int .i64 n ∧ topLen zs n = topLen zs len) (fun k => (intOf k).toNat)
  case atStart => exact ⟨len, Nat.le_refl _, rfl, rfl⟩
  case round =>
    obtain ⟨n, hn, rfl, ht⟩ := hrel
    have HT : Hid (topLen zs n = topLen zs len) := ht
    clear ht
    by_cases hp : 0 < n
    · obtain ⟨m, rfl⟩ : ∃ m, n = m + 1 := ⟨n - 1, by omega⟩
      rcases hr.2 with h0 | ⟨b, off, rfl, hc⟩
      · subst h0; simp at hl; omega
      have hcell := hc m (by omega)
      go_wp2
      · rename_i h0
        have h0 : zs.getD m 0 = 0 := by simpa using h0
        refine ⟨⟨m, by omega, rfl, ?_⟩, by simp [intOf]⟩
        have := HT.out
        simp only [topLen, h0, if_true] at this
        exact this
      · have h1 : (zs[m]?.getD 0 == 0) = false := by assumption
        have h0 : zs.getD m 0 ≠ 0 := by simpa using h1
        have := HT.out
        simp only [topLen, h0, if_false] at this
        go_ret
        rw [← this]
        exact ⟨by simp, rfl⟩
    · have hn0 : n = 0 := by omega
      subst hn0
      have := HT.out
      go_wp2
      go_ret
      rw [← this]
      simp [topLen]

theorem ByteRow.trimL {w : World} {a : Option Addr} {zs : List Int} (h : ByteRow w a zs) : ByteRow w a (trimL zs) := h.take _

/-- What clip answers. -/
def clipped (a : Option Addr) (zs : List Int) : Value := if (trimL zs).length = 0 then .slice none 0 0 else .slice a (trimL zs).length (trimL zs).length

set_option maxHeartbeats 400000 in
theorem clip_calls (a : Option Addr) (len cap : Nat) (zs : List Int) (w : World) (hl : zs.length = len) (hlc : len ≤ cap) (hm : cap ≤ maxLen) (hr : ByteRow w a zs) :
    Calls Sagg.prog 109 #[.slice a len cap] w fun e w' => e = .returned (clipped a zs) ∧ w' = w := by
  unfold clipped
  have hle := trimL_le zs
  have ht := trim_calls a len cap zs w hl hlc hm hr
  unfold maxLen at hm
  generalize (trimL zs).length = n at *
  by_cases h0 : n = 0
  · subst h0
    go_enter Sagg.func109, Sagg.ntmps109
    go_wp2_with (go_at_call 108; refine ht.mono ?_; rintro e w' ⟨rfl, rfl⟩)
    go_ret
    exact ⟨rfl, rfl⟩
  · rw [if_neg h0]
    have h1 : ((n : Int) == 0) = false := by simp [h0]
    go_enter Sagg.func109, Sagg.ntmps109
    go_wp2_with (go_at_call 108; refine ht.mono ?_; rintro e w' ⟨rfl, rfl⟩)
    go_ret
    exact ⟨by simp, rfl⟩

/-- Cmp's answer. -/
def cmpI (x y : Int) : Int := if x < y then -1 else if y < x then 1 else 0

theorem ret_int {k : IntKind} {a b : Int} (h : a = b) : Ending.returned (.int k a) = .returned (.int k b) := by rw [h]

theorem cmp_less {us vs : List Int} {m : Nat} (du : Dig us) (dv : Dig vs) (hl : us.length = vs.length) (hm : m < us.length) (hd : us.drop (m + 1) = vs.drop (m + 1)) (h : us.getD m 0 < vs.getD m 0) :
    cmpI (val us) (val vs) = -1 := by unfold cmpI; rw [if_pos (val_lt_of_digit du dv hl hm hd h)]

theorem cmp_more {us vs : List Int} {m : Nat} (du : Dig us) (dv : Dig vs) (hl : us.length = vs.length) (hm : m < us.length) (hd : us.drop (m + 1) = vs.drop (m + 1)) (h : vs.getD m 0 < us.getD m 0) :
    cmpI (val us) (val vs) = 1 := by
  have := val_lt_of_digit dv du hl.symm (by omega) hd.symm h
  unfold cmpI; rw [if_neg (by omega), if_pos this]

theorem cmp_same {us vs : List Int} (h : us.drop 0 = vs.drop 0) : cmpI (val us) (val vs) = 0 := by
  have : us = vs := by simpa using h
  subst this
  unfold cmpI; simp

set_option maxHeartbeats 1000000 in
theorem cmp_calls (a b : Option Addr) (la ca lb cb : Nat) (xs ys : List Int) (w : World) (hla : xs.length = la) (hlb : ys.length = lb) (hca : la ≤ ca) (hcb : lb ≤ cb) (hma : ca ≤ maxLen) (hmb : cb ≤ maxLen)
    (hx : ByteRow w a xs) (hy : ByteRow w b ys) :
    Calls Sagg.prog 65 #[.slice a la ca, .slice b lb cb] w fun e w' => e = .returned (.int .i8 (cmpI (val xs) (val ys))) ∧ ∃ n, w' = w.drewN n := by
  have ha := trim_calls a la ca xs w hla hca hma hx
  have hb := trim_calls b lb cb ys w hlb hcb hmb hy
  have dx := hx.1.trimL
  have dy := hy.1.trimL
  have nx := norm_trimL xs
  have ny := norm_trimL ys
  have hx' := hx.trimL
  have hy' := hy.trimL
  have hlx := trimL_le xs
  have hly := trimL_le ys
  rw [← val_trimL xs, ← val_trimL ys]
  unfold maxLen at hma hmb
  generalize trimL xs = us at *
  generalize trimL ys = vs at *
  by_cases h1 : us.length < vs.length
  · have hv := val_lt_of_length dx dy ny h1
    have hc : cmpI (val us) (val vs) = -1 := by unfold cmpI; rw [if_pos hv]
    rw [hc]
    clear hc hv
    go_enter Sagg.func65, Sagg.ntmps65
    go_wp2_with fail
    refine ha.mono ?_
    rintro e w' ⟨rfl, rfl⟩
    go_wp2_with fail
    refine hb.mono ?_
    rintro e w' ⟨rfl, rfl⟩
    go_wp2
    go_ret
    exact ⟨rfl, 0, rfl⟩
  by_cases h2 : vs.length < us.length
  · have hv := val_lt_of_length dy dx nx h2
    have hc : cmpI (val us) (val vs) = 1 := by unfold cmpI; rw [if_neg (by omega), if_pos hv]
    rw [hc]
    clear hc hv
    go_enter Sagg.func65, Sagg.ntmps65
    go_wp2_with fail
    refine ha.mono ?_
    rintro e w' ⟨rfl, rfl⟩
    go_wp2_with fail
    refine hb.mono ?_
    rintro e w' ⟨rfl, rfl⟩
    go_wp2
    go_ret
    exact ⟨rfl, 0, rfl⟩
  have hle : us.length = vs.length := by omega
  go_enter Sagg.func65, Sagg.ntmps65
  go_wp2_with fail
  refine ha.mono ?_
  rintro e w' ⟨rfl, rfl⟩
  go_wp2_with fail
  refine hb.mono ?_
  rintro e w' ⟨rfl, rfl⟩
  clear ha hb
  have HL : Hid (us.length = vs.length) := hle
  clear hle
  go_wp2
  go_loopw [5] (fun i wr => ∃ n nd : Nat, n ≤ vs.length ∧ i = .int .i64 n ∧ wr = w'.drewN nd ∧ us.drop n = vs.drop n) (fun i _ => (intOf i).toNat)
  case atStart => exact ⟨vs.length, 0, Nat.le_refl _, rfl, rfl, by rw [← HL.out, List.drop_length, HL.out, List.drop_length]⟩
  case round =>
    obtain ⟨n, nd, hn, rfl, rfl, hd⟩ := hrel
    have HD : Hid (us.drop n = vs.drop n) := hd
    clear hd
    by_cases hp : 0 < n
    · obtain ⟨m, rfl⟩ : ∃ m, n = m + 1 := ⟨n - 1, by omega⟩
      rcases hx'.2 with h0 | ⟨b1, off1, rfl, hc1⟩
      · subst h0; have := HL.out; simp at this; omega
      rcases hy'.2 with h0 | ⟨b2, off2, rfl, hc2⟩
      · subst h0; simp at hn
      have e1 := hc1 m (by have := HL.out; omega)
      have e2 := hc2 m (by omega)
      have hm1 : ((m + 1 : Nat) : Int) - 1 = (m : Int) := by omega
      have hb1 : (0 : Int) ≤ (m : Int) := by omega
      have hb2 : (m : Int) < (vs.length : Int) := by omega
      have H1 := dx.getD' m
      have H2 := dy.getD' m
      clear hc1 hc2
      go_wp2
      go_quiet (fail)
      go_wp2
      · have hlt : us[m]?.getD 0 < vs[m]?.getD 0 := by assumption
        go_ret
        exact ⟨ret_int (cmp_less dx dy HL.out (by have := HL.out; omega) HD.out (by simpa using hlt)).symm, by simp only [World.drewN_drewN]; exact ⟨_, rfl⟩⟩
      · go_quiet (fail)
        go_wp2
        · have hlt : vs[m]?.getD 0 < us[m]?.getD 0 := by assumption
          go_ret
          exact ⟨ret_int (cmp_more dx dy HL.out (by have := HL.out; omega) HD.out (by simpa using hlt)).symm, by simp only [World.drewN_drewN]; exact ⟨_, rfl⟩⟩
        · have h1 : vs[m]?.getD 0 ≤ us[m]?.getD 0 := by assumption
          have h2 : us[m]?.getD 0 ≤ vs[m]?.getD 0 := by assumption
          go_roundw
          case rel => exact ⟨m, _, by omega, by go_num, rfl, by rw [drop_getD_cons us m (by have := HL.out; omega), drop_getD_cons vs m (by omega), HD.out, show us.getD m 0 = vs.getD m 0 from by simp only [List.getD_eq_getElem?_getD]; omega]⟩
          case measure => simp [intOf]
    · have hn0 : n = 0 := by omega
      subst hn0
      go_wp2
      go_ret
      exact ⟨ret_int (cmp_same HD.out).symm, _, rfl⟩
end Go.Proofs.YgcsagGreat
