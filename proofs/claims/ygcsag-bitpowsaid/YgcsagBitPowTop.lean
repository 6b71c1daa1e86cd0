/-
  WALK: law.BitPow.
-/
import Derived.Test.YgcsagBitPowWalk
namespace Go.Proofs.Ygcsag
open Go.RowKit
set_option linter.unusedSimpArgs false
set_option linter.unusedVariables false

/-- Memory has only grown, one step behind another. -/
theorem bstep {w a b : World} (h : Below w.heap.size w a) (k : Below a.heap.size a b) : Below w.heap.size w b := h.trans (k.mono h.size)
theorem bnew {w a : World} (h : Below w.heap.size w a) (o : Obj) : Below w.heap.size w (a.alloc o) := h.alloc h.size o

theorem add_pow (k : Nat) : val (powDigits k) + val (powDigits k) = val (powDigits (k + 1)) := by
  rw [val_powDigits, val_powDigits, Int.pow_succ]; omega

theorem pow2_new (k : Nat) (hk : k < 65536) (w : World) :
    Calls Sagg.prog 10 #[.int .u16 (k : Int)] w fun e w' => ∃ g, e = .returned (.slice (some ⟨g, 0, none⟩) (k / 8 + 1) (k / 8 + 1)) ∧ RowAt w' g (powDigits k) ∧ Below w.heap.size w w' :=
  (pow2_calls k hk w).mono (by rintro e w' ⟨rfl, rfl⟩; exact ⟨_, rfl, RowAt.alloc _, (Below.refl _ _).alloc (Nat.le_refl _) _⟩)

set_option maxHeartbeats 400000 in
/-- The second half, wherever it begins. -/
theorem bitPow_calls (a : Option Addr) (la ca : Nat) (xs : List Int) (i : Nat) (w : World) (hla : xs.length = la) (hca : la ≤ ca) (hma : ca ≤ maxLen) (h48 : la ≤ 281474976710000) (hx : ByteRow w a xs) (hi : i < 65536) :
    Calls Sagg.prog 3 #[.slice a la ca, .int .u16 (i : Int)] w fun e w' => e = .returned (.bool true) ∧ Below w.heap.size w w' := by
  have HX : Hid (ByteRow w a xs) := hx
  clear hx
  by_cases h : i < 65535
  · have hi1 : (i : Int) < 65535 := by omega
    go_enter Sagg.func3, Sagg.ntmps3
    go_wp2_with fail
    refine (pow2_new i hi _).mono ?_
    rintro e w1 ⟨g1, rfl, hr1, hb1⟩
    go_wp2_with fail
    refine (pow2_new i hi _).mono ?_
    rintro e w2 ⟨g2, rfl, hr2, hb2⟩
    have hr1' := hr1.ext hb2 hr1.lt
    clear hr1
    go_wp2_with fail
    refine (add_calls _ _ _ _ _ _ (powDigits i) (powDigits i) _ (powDigits_length i) (powDigits_length i) (Nat.le_refl _) (Nat.le_refl _) (by unfold maxLen; omega) (by unfold maxLen; omega) (by omega) (by omega) (hr1'.byteRow (dig_powDigits i)) (hr2.byteRow (dig_powDigits i))).mono ?_
    rintro e w3 ⟨v, rfl, hv, hb3⟩
    obtain ⟨zs, ⟨a3, c3, rfl, hc3, hm3, hz⟩, nz, vz, -⟩ := hv
    have hzz : zs = powDigits (i + 1) := norm_unique hz.1 (dig_powDigits _) nz (norm_powDigits _) (by rw [vz, add_pow])
    subst hzz
    clear hr1' hr2 nz vz
    go_wp2_with fail
    have e1 : (i : Int) + 1 = ((i + 1 : Nat) : Int) := by omega
    rw [e1]
    refine (pow2_new (i + 1) (by omega) _).mono ?_
    rintro e w4 ⟨g4, rfl, hr4, hb4⟩
    have hz4 := hz.ext hb4
    clear hz e1
    go_wp2_with fail
    refine (equalBytes_calls _ _ _ _ _ _ (powDigits (i + 1)) (powDigits (i + 1)) _ rfl (powDigits_length _) hz4 (hr4.byteRow (dig_powDigits _))).mono ?_
    rw [decide_eq_true rfl]
    rintro e w5 ⟨rfl, rfl⟩
    clear hz4 hr4
    have hb := bstep (bstep (bstep hb1 hb2) hb3) hb4
    have hx4 := HX.out.ext hb
    clear hb1 hb2 hb3 hb4
    go_wp2_with fail
    refine (pow2_new i hi _).mono ?_
    rintro e w6 ⟨g6, rfl, hr6, hb6⟩
    have hx6 := hx4.ext hb6
    clear hx4
    go_wp2_with fail
    refine (bit_calls _ _ _ xs i _ hla hca hma hx6 hi).mono ?_
    rintro e w7 ⟨rfl, rfl⟩
    go_wp2_with fail
    refine (bitPowHolds_calls _ _ _ xs i g6 _ hla hca hma h48 hx6 hi hr6).mono ?_
    rintro e w8 ⟨rfl, hb8⟩
    go_wp2
    go_ret
    exact ⟨rfl, bstep (bstep hb hb6) hb8⟩
  · have hi1 : decide ((i : Int) < 65535) = false := by simp; omega
    have hb := Below.refl w.heap.size w
    have hx4 := HX.out
    clear HX
    go_enter Sagg.func3, Sagg.ntmps3
    go_wp2_with fail
    refine (pow2_new i hi _).mono ?_
    rintro e w6 ⟨g6, rfl, hr6, hb6⟩
    have hx6 := hx4.ext hb6
    clear hx4
    go_wp2_with fail
    refine (bit_calls _ _ _ xs i _ hla hca hma hx6 hi).mono ?_
    rintro e w7 ⟨rfl, rfl⟩
    go_wp2_with fail
    refine (bitPowHolds_calls _ _ _ xs i g6 _ hla hca hma h48 hx6 hi hr6).mono ?_
    rintro e w8 ⟨rfl, hb8⟩
    go_wp2
    go_ret
    exact ⟨rfl, bstep (bstep hb hb6) hb8⟩
end Go.Proofs.Ygcsag
