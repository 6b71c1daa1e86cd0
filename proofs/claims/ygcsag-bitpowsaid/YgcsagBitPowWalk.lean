/-
  WALKS: law.bitPowHolds, law.BitPow.
-/
import Derived.Test.YgcsagNatD
namespace Go.Proofs.Ygcsag
open Go.RowKit
set_option linter.unusedSimpArgs false
set_option linter.unusedVariables false

theorem IsN.ext {w w' : World} {v : Value} {n : Int} (h : IsN w v n) (hb : Below w.heap.size w w') : IsN w' v n := by
  obtain ⟨zs, h1, h2, h3, h4⟩ := h
  exact ⟨zs, h1.ext hb, h2, h3, h4⟩

theorem IsN.zero {w : World} {v : Value} (h : IsN w v 0) : v = .slice none 0 0 := by
  obtain ⟨zs, h1, h2, h3, h4⟩ := h
  exact h4 (norm_zero h1.dig h2 h3)

/-- A number below 256 and not zero is one digit. -/
theorem IsN.one {w : World} {v : Value} {n : Int} (h : IsN w v n) (h0 : 0 < n) (h1 : n < 256) : ∃ b off cap, v = .slice (some ⟨b, off, none⟩) 1 cap ∧ 1 ≤ cap ∧ cap ≤ maxLen ∧ w.cell? ⟨b, off, none⟩ = some (.int .u8 n) := by
  obtain ⟨zs, ⟨a, cap, rfl, hc, hm, hd, hr⟩, h2, h3, h4⟩ := h
  have hz : zs = [n] := norm_unique hd (Dig.cons ⟨by omega, h1⟩ Dig.nil) h2 (by simp [Norm]; omega) (by rw [h3]; simp [val])
  subst hz
  rcases hr with h0 | ⟨b, off, rfl, hcell⟩
  · cases h0
  · exact ⟨b, off, cap, rfl, by simpa using hc, hm, by simpa using hcell 0 (by simp)⟩

theorem norm_length {zs : List Int} (hd : Dig zs) (hn : Norm zs) {n : Nat} (h : val zs < 256 ^ n) : zs.length ≤ n := by
  rcases Nat.lt_or_ge n zs.length with h1 | h1
  · obtain ⟨k, hk⟩ : ∃ k, zs.length = k + 1 := ⟨zs.length - 1, by omega⟩
    have h2 := val_lb hd hn hk
    have h3 : (256 : Int) ^ n ≤ 256 ^ k := pow256_le (by omega)
    omega
  · exact h1

theorem ediv_le_self' {x y : Int} (h : 0 ≤ x) : x / y ≤ x := Int.ediv_le_self y h

theorem bitOf_val {zs : List Int} (h : Dig zs) (i : Nat) : bitOf zs i = (val zs / 2 ^ i % 2 == 1) := by
  unfold bitOf
  rw [← bit_eq h]
  by_cases hi : i / 8 < zs.length
  · simp [hi]
  · rw [getD_ge zs _ (by omega)]
    simp [hi]

theorem powDigits_low (k j : Nat) (h : j < k / 8) : (powDigits k).getD j 0 = 0 := by
  unfold powDigits
  rw [getD_set_ne _ _ _ _ (by omega)]
  simp [zeros, List.getD_eq_getElem?_getD, List.getElem?_replicate]
  split <;> rfl

theorem powDigits_top (k : Nat) : (powDigits k).getD (k / 8) 0 = 2 ^ (k % 8) := by
  unfold powDigits
  rw [getD_set_self _ _ _ (by rw [zeros_length]; omega)]

set_option maxHeartbeats 2000000 in
theorem bitPowHolds_calls (a : Option Addr) (la ca : Nat) (xs : List Int) (i g : Nat) (w : World) (hla : xs.length = la) (hca : la ≤ ca) (hma : ca ≤ maxLen) (h48 : la ≤ 281474976710000) (hx : ByteRow w a xs) (hi : i < 65536) (hp : RowAt w g (powDigits i)) :
    Calls Sagg.prog 11 #[.slice a la ca, .int .u16 (i : Int), .slice (some ⟨g, 0, none⟩) (i / 8 + 1) (i / 8 + 1), .bool (bitOf xs i)] w fun e w' => e = .returned (.bool true) ∧ Below w.heap.size w w' := by
  have hm : ca ≤ 2 ^ 63 - 1 := hma
  have hpt := hp.cell (i / 8) (by rw [powDigits_length]; omega)
  rw [powDigits_top] at hpt
  have hpw := pow2_lt8 i
  have he : ((2 : Int) ^ (i % 8) != 2 ^ (i % 8) % 256) = false := by
    rw [show (2 : Int) ^ (i % 8) % 256 = 2 ^ (i % 8) by omega]; simp
  have hlow : ∀ j, j < i / 8 → w.cell? ⟨g, j, none⟩ = some (.int .u8 0) := fun j hj => by
    have := hp.cell j (by rw [powDigits_length]; omega)
    rw [powDigits_low _ _ hj] at this; exact this
  have HLOW : Hid (∀ j, j < i / 8 → w.cell? ⟨g, j, none⟩ = some (.int .u8 0)) := hlow
  clear hlow hpw
  go_enter Sagg.func11, Sagg.ntmps11
  go_wp2
  go_loop [40] (fun k => ∃ n : Nat, n ≤ i / 8 ∧ k = .int .i64 n) (fun k => i / 8 - (intOf k).toNat)
  case atStart => exact ⟨0, Nat.zero_le _, rfl⟩
  case round =>
    obtain ⟨n, hn, rfl⟩ := hrel
    by_cases hlt : n < i / 8
    · have hc := HLOW.out n hlt
      have hlt' : (n : Int) < (i : Int) / 8 := by omega
      go_wp2
      go_round
      case rel => exact ⟨n + 1, by omega, by go_num⟩
      case measure => simp [intOf]; omega
    · have hge : (i : Int) / 8 ≤ (n : Int) := by omega
      clear hlt hn
      have HB : Hid (bitOf xs i = (val xs / 2 ^ i % 2 == 1)) := bitOf_val hx.1 i
      have hdm := divmod_calls a (some ⟨g, 0, none⟩) la ca (i / 8 + 1) (i / 8 + 1) xs (powDigits i) w hla (powDigits_length i) hca (Nat.le_refl _) hma (by unfold maxLen; omega) h48 (by omega) hx (hp.byteRow (dig_powDigits i)) (by rw [val_powDigits]; have := pow2_pos i; omega)
      rw [val_powDigits] at hdm
      have HX : Hid (ByteRow w a xs) := hx
      by_cases hin : i / 8 < la
      · obtain ⟨b1, off1, hb1, hcd⟩ : ∃ b1 off1, a = some ⟨b1, off1, none⟩ ∧ w.cell? ⟨b1, off1 + i / 8, none⟩ = some (.int .u8 (xs.getD (i / 8) 0)) := by
          rcases hx.2 with h0 | ⟨b1, off1, hb1, hc1⟩
          · rw [h0] at hla; simp at hla; omega
          · exact ⟨b1, off1, hb1, hc1 (i / 8) (by omega)⟩
        subst hb1
        have hd := hx.1.getD (i / 8)
        have hw : ((xs.getD (i / 8) 0 / 2 ^ (i % 8)).tmod 2 == 1) = bitOf xs i := by
          rw [Int.tmod_eq_emod_of_nonneg (div_pow_bd _ _ hd.1 hd.2).1, bitOf_val hx.1, bit_eq hx.1]
        have hin' : (i : Int) / 8 < (la : Int) := by omega
        generalize hde : xs.getD (i / 8) 0 = d at hcd hd hw
        generalize bitOf xs i = bb at *
        clear hde hx hpt he
        go_wp2_with fail
        refine hdm.mono ?_
        rintro e w1 ⟨q, r, rfl, hq, hr, hb1⟩
        clear hdm hw hcd hd
        obtain ⟨zq, ⟨aq, cq, rfl, hcq, hmq, hrq⟩, nq, vq, -⟩ := hq
        have hzl : zq.length ≤ la := by
          refine norm_length hrq.1 nq ?_
          have h1 := val_lt HX.out.1
          have h2 := val_nonneg HX.out.1
          have h3 := ediv_le_self' (y := 2 ^ i) h2
          rw [hla] at h1
          omega
        have hdm2 := divmod_calls aq (some ⟨w1.heap.size, 0, none⟩) zq.length cq 1 1 zq [2] (w1.alloc (.cells #[.int .u8 2] 5)) rfl rfl hcq (Nat.le_refl _) hmq (by unfold maxLen; omega) (by omega) (by omega) (hrq.ext ((Below.refl _ _).alloc (Nat.le_refl _) _)) ((RowAt.alloc (w := w1) [2]).byteRow (Dig.cons (by omega) Dig.nil)) (by simp [val])
        rw [vq] at hdm2
        have HVQ : Hid (val zq = val xs / 2 ^ i) := vq
        clear vq nq hrq hr
        go_wp2_with fail
        refine hdm2.mono ?_
        rintro e w2 ⟨q2, r2, rfl, hq2, hr2, hb2⟩
        clear hdm2 hq2
        have h2v : val [2] = 2 := by simp [val]
        rw [h2v] at hr2
        have hbel : Below w.heap.size w w2 := hb1.trans (((Below.refl _ _).alloc hb1.size _).trans (hb2.mono (by have := hb1.size; simp; omega)))
        clear h2v hb1 hb2
        by_cases hv1 : val xs / 2 ^ i % 2 = 1
        · have hbt : bb = true := by have := HB.out; simpa [hv1] using this
          subst hbt
          rw [hv1] at hr2
          obtain ⟨b3, off3, cap3, rfl, hc3, hm3, hcell3⟩ := hr2.one (by omega) (by omega)
          clear hr2 hv1
          go_wp2
          go_ret
          exact ⟨rfl, hbel⟩
        · have hv0 : val xs / 2 ^ i % 2 = 0 := by omega
          have hbf : bb = false := by have := HB.out; rw [beq_eq_false_iff_ne.2 hv1] at this; exact this
          subst hbf
          rw [hv0] at hr2
          have hz := hr2.zero
          subst hz
          clear hr2 hv0 hv1
          go_wp2
          go_ret
          exact ⟨rfl, hbel⟩
      · have hin' : decide ((i : Int) / 8 < (la : Int)) = false := by simp; omega
        have hbb : bitOf xs i = false := by simp [bitOf, hla, hin]
        generalize bitOf xs i = bb at *
        subst hbb
        clear hx hpt he
        go_wp2_with fail
        refine hdm.mono ?_
        rintro e w1 ⟨q, r, rfl, hq, hr, hb1⟩
        clear hdm 
        obtain ⟨zq, ⟨aq, cq, rfl, hcq, hmq, hrq⟩, nq, vq, -⟩ := hq
        have hzl : zq.length ≤ la := by
          refine norm_length hrq.1 nq ?_
          have h1 := val_lt HX.out.1
          have h2 := val_nonneg HX.out.1
          have h3 := ediv_le_self' (y := 2 ^ i) h2
          rw [hla] at h1
          omega
        have hdm2 := divmod_calls aq (some ⟨w1.heap.size, 0, none⟩) zq.length cq 1 1 zq [2] (w1.alloc (.cells #[.int .u8 2] 5)) rfl rfl hcq (Nat.le_refl _) hmq (by unfold maxLen; omega) (by omega) (by omega) (hrq.ext ((Below.refl _ _).alloc (Nat.le_refl _) _)) ((RowAt.alloc (w := w1) [2]).byteRow (Dig.cons (by omega) Dig.nil)) (by simp [val])
        rw [vq] at hdm2
        have HVQ : Hid (val zq = val xs / 2 ^ i) := vq
        clear vq nq hrq hr
        go_wp2_with fail
        refine hdm2.mono ?_
        rintro e w2 ⟨q2, r2, rfl, hq2, hr2, hb2⟩
        clear hdm2 hq2
        have h2v : val [2] = 2 := by simp [val]
        rw [h2v] at hr2
        have hbel : Below w.heap.size w w2 := hb1.trans (((Below.refl _ _).alloc hb1.size _).trans (hb2.mono (by have := hb1.size; simp; omega)))
        clear h2v hb1 hb2
        have hv0 : val xs / 2 ^ i % 2 = 0 := by have h1 := HB.out; have h2 : (val xs / 2 ^ i % 2 == 1) = false := h1.symm; rw [beq_eq_false_iff_ne] at h2; omega
        rw [hv0] at hr2
        have hz := hr2.zero
        subst hz
        clear hr2 hv0
        go_wp2
        go_ret
        exact ⟨rfl, hbel⟩
end Go.Proofs.Ygcsag
