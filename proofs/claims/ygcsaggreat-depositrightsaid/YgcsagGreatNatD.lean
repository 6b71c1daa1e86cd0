/-
  WALKS: nat.DivMod.
-/
import Derived.Test.YgcsagGreatNatC
import Derived.Test.YgcsagGreatNumD
namespace Go.Proofs.YgcsagGreat
open Go.RowKit
set_option linter.unusedSimpArgs false
set_option linter.unusedVariables false

theorem rem_room {B : Int} {rem vs : List Int} {t : Int} (hv : val rem < B) (hB : B = val vs) (dv : Dig vs) (hl : rem.length = vs.length + 1) (ht : t ≤ 1) : 2 * val rem + t < 256 ^ rem.length := by
  have := val_lt dv
  have := pow256_pos vs.length
  rw [hl, Int.pow_succ]
  omega

set_option maxHeartbeats 2000000 in
theorem divmod_calls (a b : Option Addr) (la ca lb cb : Nat) (xs ys : List Int) (w : World) (hla : xs.length = la) (hlb : ys.length = lb) (hca : la ≤ ca) (hcb : lb ≤ cb) (hma : ca ≤ maxLen) (hmb : cb ≤ maxLen)
    (h48a : la ≤ 281474976710000) (h48b : lb ≤ 281474976710000) (hx : ByteRow w a xs) (hy : ByteRow w b ys) (hnz : val ys ≠ 0) :
    Calls Sagg.prog 145 #[.slice a la ca, .slice b lb cb] w fun e w' => ∃ q r, e = .returned (.tuple #[q, r, .bool true]) ∧ IsF w.heap.size w' q (val xs / val ys) ∧ IsF w.heap.size w' r (val xs % val ys) ∧ Below w.heap.size w w' := by
  have ha := trim_calls a la ca xs w hla hca hma hx
  have hb := trim_calls b lb cb ys w hlb hcb hmb hy
  have hx' := hx.trimL
  have hy' := hy.trimL
  have hlx := trimL_le xs
  have hly := trimL_le ys
  rw [← val_trimL xs, ← val_trimL ys]
  rw [← val_trimL ys] at hnz
  unfold maxLen at hma hmb
  clear hx hy
  generalize trimL xs = us at *
  generalize trimL ys = vs at *
  have hvl : 0 < vs.length := by
    rcases Nat.eq_zero_or_pos vs.length with h | h
    · rw [List.length_eq_zero_iff.1 h] at hnz; exact absurd rfl hnz
    · exact h
  have hv0 : ((vs.length : Int) == 0) = false := beq_eq_false_iff_ne.2 (by omega)
  have hBpos : 0 < val vs := by have := val_nonneg (zs := vs) hy'.1; omega
  have hmk := fun w => make_bytes Sagg.underlying91 (us.length : Int) (by omega) (by omega) w
  have hmk2 := fun w => make_bytes Sagg.underlying91 ((vs.length : Int) + 1) (by omega) (by omega) w
  have HNZ : Hid (0 < val vs) := hBpos
  clear hnz hBpos
  go_enter Sagg.func145, Sagg.ntmps145
  go_wp2_with fail
  refine ha.mono ?_
  rintro e w' ⟨rfl, rfl⟩
  go_wp2_with fail
  refine hb.mono ?_
  rintro e w' ⟨rfl, rfl⟩
  clear ha hb
  go_wp2
  clear hmk hmk2
  go_loopw [9] (fun i wr => ∃ (n : Nat) (quo rem : List Int), n ≤ 8 * us.length ∧ i = .int .i64 n ∧ quo.length = us.length ∧ rem.length = vs.length + 1 ∧ Dig quo ∧ Dig rem ∧
      DivInv (val us) (val vs) n quo rem ∧ RowAt wr w'.heap.size quo ∧ RowAt wr (w'.heap.size + 1) rem ∧ Below w'.heap.size w' wr) (fun i _ => (intOf i).toNat)
  case atStart =>
    refine ⟨8 * us.length, zeros us.length, zeros (vs.length + 1), Nat.le_refl _, by go_num, zeros_length _, zeros_length _, dig_zeros _, dig_zeros _, ?_, (RowAt.alloc _).allocd _, ?_, ((Below.refl _ _).alloc (Nat.le_refl _) _).alloc (by simp) _⟩
    · have := val_lt hx'.1
      rw [pow256_two] at this
      exact DivInv.start (val_nonneg hx'.1) _ this HNZ.out _ _ (val_zeros' _) (val_zeros' _)
    · have := RowAt.alloc (w := w'.alloc (.cells (rowOf (zeros us.length)) 5)) (zeros (vs.length + 1))
      simpa using this
  case round =>
    obtain ⟨n, quo, rem, hn, rfl, hql, hrl, dq, dr, hinv, hq, hr, hbel⟩ := hrel
    by_cases hp : 0 < n
    · obtain ⟨m, rfl⟩ : ∃ m, n = m + 1 := ⟨n - 1, by omega⟩
      obtain ⟨b1, off1, hb1, hcd⟩ : ∃ b1 off1, a = some ⟨b1, off1, none⟩ ∧ wr.cell? ⟨b1, off1 + m / 8, none⟩ = some (.int .u8 (us.getD (m / 8) 0)) := by
        rcases hx'.2 with h0 | ⟨b1, off1, hb1, hc1⟩
        · rw [h0] at hn; simp at hn
        · exact ⟨b1, off1, hb1, cell_later hbel (hc1 (m / 8) (by omega))⟩
      subst hb1
      have hd := hx'.1.getD (m / 8)
      generalize hde : us.getD (m / 8) 0 = d at hcd hd
      have ht : bits .and .u8 (d / 2 ^ (m % 8)) 1 = val us / 2 ^ m % 2 := by
        have h1 := div_pow_bd d (m % 8) hd.1 hd.2
        rw [and_one_u8 _ h1.1 h1.2, ← hde, bit_eq hx'.1]
      have HT : Hid (bits .and .u8 (d / 2 ^ (m % 8)) 1 = val us / 2 ^ m % 2) := ht
      have HI : Hid (DivInv (val us) (val vs) (m + 1) quo rem) := hinv
      have HQ : Hid (RowAt wr w'.heap.size quo) := hq
      have HR : Hid (RowAt wr (w'.heap.size + 1) rem) := hr
      have HX : Hid (ByteRow w' (some ⟨b1, off1, none⟩) us) := hx'
      have HY : Hid (ByteRow w' b vs) := hy'
      have HV : Hid (rem.length = vs.length + 1) := hrl
      have HL : Hid (quo.length = us.length) := hql
      have hb8 : (m : Int) / 8 < (us.length : Int) := by omega
      clear hde ht hinv hq hr hrl hx' hy' hql
      go_wp2
      generalize bits .and .u8 (d / 2 ^ (m % 8)) 1 = t at *
      have ht01 : 0 ≤ t ∧ t ≤ 1 := by have := HT.out; omega
      go_loopw [12, 52] (fun c i wi => ∃ (k : Nat) (cur : List Int) (cc : Int), k ≤ vs.length + 1 ∧ i = .int .i64 k ∧ c = .int .u8 cc ∧ DblInv rem cur t k cc ∧ RowAt wi w'.heap.size quo ∧ RowAt wi (w'.heap.size + 1) cur ∧ Below w'.heap.size w' wi) (fun _ i _ => vs.length + 1 - (intOf i).toNat)
      case atStart => exact ⟨0, rem, t, Nat.zero_le _, rfl, rfl, DblInv.start rem t dr ht01, HQ.out, HR.out, hbel⟩
      case round =>
        obtain ⟨k, cur, cc, hk, rfl, rfl, hdbl, hq, hr, hbi⟩ := hrel
        by_cases hlt : k < vs.length + 1
        · have hfz := hr.frozen k
          have hce := hr.cell k (by rw [hdbl.1, HV.out]; omega)
          have hd2 := hdbl.2.1.getD k
          have hc0 := hdbl.2.2.1
          have hc1 := hdbl.2.2.2.1
          generalize hee : cur.getD k 0 = e at hce hd2
          have HE : Hid (cur.getD k 0 = e) := hee
          have HO : Hid (bits .or .u8 (e * 2 % 256) cc = e * 2 % 256 + cc) := shl1_or e cc hd2 ⟨hc0, hc1⟩
          have HD2 : Hid (DblInv rem cur t k cc) := hdbl
          have HQ2 : Hid (RowAt wr w'.heap.size quo) := hq
          have HR2 : Hid (RowAt wr (w'.heap.size + 1) cur) := hr
          clear hee hdbl hq hr
          go_wp2
          go_roundw
          case rel =>
            rw [HO.out]
            exact ⟨k + 1, cur.set k (e * 2 % 256 + cc), e / 128, by omega, by go_num, rfl, HD2.out.step (by rw [HV.out]; omega) (by omega) (by omega) (by rw [HE.out]; omega), HQ2.out.other (by simp) _, HR2.out.set _ _, hbi.setCell (by simp) _⟩
          case measure => simp [intOf]; omega
        · have hkn : k = vs.length + 1 := by omega
          have hkr : k = rem.length := by rw [HV.out]; exact hkn
          have hIv := HI.out
          have hremlt : val rem < val vs := by rw [hIv.1]; exact Int.emod_lt_of_pos _ HNZ.out
          rw [hkr] at hdbl
          have hfin := hdbl.done (rem_room hremlt rfl HY.out.1 HV.out ht01.2)
          have hcl : cur.length = vs.length + 1 := by rw [hfin.1, HV.out]
          have hv2 : val cur = 2 * val rem + val us / 2 ^ m % 2 := by rw [hfin.2.2, HT.out]
          have HV2 : Hid (val cur = 2 * val rem + val us / 2 ^ m % 2) := hv2
          have dcur := hfin.2.1
          have HQ2 : Hid (RowAt wr w'.heap.size quo) := hq
          have HR2 : Hid (RowAt wr (w'.heap.size + 1) cur) := hr
          have hyr := HY.out.ext (hbi)
          have hcmp := cmp_calls (some ⟨w'.heap.size + 1, 0, none⟩) b (vs.length + 1) (vs.length + 1) vs.length vs.length cur vs wr hcl rfl (Nat.le_refl _) (Nat.le_refl _) (by unfold maxLen; omega) (by unfold maxLen; omega) (hr.byteRow dcur) hyr
          clear hdbl hkr hfin hv2 hIv hq hr
          subst hkn
          go_wp2_with fail
          refine hcmp.mono ?_
          rintro e w2 ⟨rfl, nd, rfl⟩
          clear hcmp
          by_cases hge : val vs ≤ val cur
          · have hci : 0 ≤ cmpI (val cur) (val vs) := by unfold cmpI; rw [if_neg (by omega)]; split <;> omega
            generalize cmpI (val cur) (val vs) = ci at hci
            have hbne : ∀ x, b = some x → x.block ≠ w'.heap.size + 1 := by
              intro x hx
              rcases HY.out.2 with h0 | ⟨b2, off2, hb2, hc2⟩
              · rw [h0] at hvl; simp at hvl
              · have h3 := cell_lt (hc2 0 hvl)
                rw [hb2] at hx
                obtain rfl : (⟨b2, off2, none⟩ : Addr) = x := by simpa using hx
                show b2 ≠ w'.heap.size + 1
                omega
            have htk := take_calls (w'.heap.size + 1) b (vs.length + 1) (vs.length + 1) vs.length vs.length cur vs (wr.drewN nd) hcl rfl (by omega) (by unfold maxLen; omega) (by unfold maxLen; omega) dcur HR2.out hyr hbne
            clear hyr
            go_wp2_with fail
            refine htk.mono ?_
            rintro e w3 ⟨cur3, bw, rfl, hr3, hl3, d3, hb0, hb1, hv3, hbut⟩
            clear htk
            have hbw : bw = 0 := by
              have h1 := val_lt d3
              rw [hl3] at h1
              rcases Int.lt_or_le 0 bw with h | h
              · have : bw = 1 := by omega
                subst this
                omega
              · omega
            subst hbw
            have hq3 : RowAt w3 w'.heap.size quo := hbut.row (by omega) HQ2.out
            have hbel3 : Below w'.heap.size w' w3 := hbi.trans (hbut.below (B := w'.heap.size) (by omega) |> fun h => ⟨h.os, h.tape, h.output, h.size, h.block⟩)
            have hqc := hq3.cell (m / 8) (by rw [HL.out]; omega)
            have hqf := hq3.frozen (m / 8)
            have hqd := dq.getD (m / 8)
            have hlow := digit_low dq m _ HI.out.2
            have hro := low_room _ (m % 8) (Nat.mod_lt _ (by omega)) hqd hlow
            have hor := or_bit_u8 _ (m % 8) (Nat.mod_lt _ (by omega)) hqd hlow
            have hvq := val_set_bit (zs := quo) m (by rw [HL.out]; omega)
            have hpw := pow_lt8 (m % 8) (Nat.mod_lt _ (by omega))
            have hI3 : DivInv (val us) (val vs) m (quo.set (m / 8) (quo.getD (m / 8) 0 + 2 ^ (m % 8))) cur3 := by
              refine HI.out.yes HNZ.out (by rw [hv3, HV2.out]; omega) ?_ (val_nonneg d3) hvq
              have h1 : val rem < val vs := by rw [HI.out.1]; exact Int.emod_lt_of_pos _ HNZ.out
              have h2 := HV2.out
              have h3 := HT.out
              omega
            generalize hqe : quo.getD (m / 8) 0 = qd at *
            have HOR : Hid (bits .or .u8 qd (2 ^ (m % 8) % 256) = qd + 2 ^ (m % 8)) := by
              show bits .or .u8 qd (2 ^ (m % 8) % 256) = qd + 2 ^ (m % 8)
              rw [show (2 : Int) ^ (m % 8) % 256 = 2 ^ (m % 8) by omega]; exact hor
            have HI3 : Hid (DivInv (val us) (val vs) m (quo.set (m / 8) (qd + 2 ^ (m % 8))) cur3) := hI3
            have HRO : Hid (qd + 2 ^ (m % 8) < 256 ∧ 0 < (2 : Int) ^ (m % 8)) := ⟨hro, hpw.2⟩
            clear hor hI3 hvq hro hlow hqe hpw hv3
            go_wp2
            go_roundw
            case rel =>
              rw [HOR.out]
              exact ⟨m, quo.set (m / 8) (qd + 2 ^ (m % 8)), cur3, by omega, by go_num, by simp [HL.out], hl3, dq.set _ (by have := HRO.out; omega), d3, HI3.out, hq3.set _ _, hr3.other (by simp) _, hbel3.setCell (Nat.le_refl _) _⟩
            case measure => simp [intOf]
          · have hci : cmpI (val cur) (val vs) < 0 := by unfold cmpI; rw [if_pos (by omega)]; omega
            generalize cmpI (val cur) (val vs) = ci at hci
            have hI3 : Hid (DivInv (val us) (val vs) m quo cur) := HI.out.no HNZ.out HV2.out (by omega) (val_nonneg dcur)
            clear hyr
            go_wp2
            go_roundw
            case rel =>
              exact ⟨m, quo, cur, by omega, by go_num, HL.out, hcl, dq, dcur, hI3.out, HQ2.out, HR2.out, ⟨hbi.os, hbi.tape, hbi.output, hbi.size, hbi.block⟩⟩
            case measure => simp [intOf]
    · have hn0 : n = 0 := by omega
      subst hn0
      have hfin := hinv.done
      have hc1 := clip_calls (some ⟨w'.heap.size, 0, none⟩) us.length us.length quo wr hql (Nat.le_refl _) (by unfold maxLen; omega) (hq.byteRow dq)
      have hc2 := clip_calls (some ⟨w'.heap.size + 1, 0, none⟩) (vs.length + 1) (vs.length + 1) rem wr hrl (Nat.le_refl _) (by unfold maxLen; omega) (hr.byteRow dr)
      have hN1 := clipped_isN hq dq (by unfold maxLen; omega)
      have hN2 := clipped_isN hr dr (by unfold maxLen; omega)
      rw [hfin.2] at hN1
      rw [hfin.1] at hN2
      clear hinv hfin hx' hy'
      go_wp2_with fail
      refine hc1.mono ?_
      rintro e w2 ⟨rfl, rfl⟩
      go_wp2_with fail
      refine hc2.mono ?_
      rintro e w2 ⟨rfl, rfl⟩
      go_wp2
      go_ret3
      exact ⟨_, _, rfl, ⟨hN1, clipped_block (Nat.le_refl _)⟩, ⟨hN2, clipped_block (Nat.le_succ _)⟩, hbel⟩
end Go.Proofs.YgcsagGreat
