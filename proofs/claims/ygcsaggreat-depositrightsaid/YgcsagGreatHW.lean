/-
  'place': a number as an index.
-/
import Derived.Test.YgcsagGreatHZ
namespace Go.Proofs.YgcsagGreat
open Go.RowKit
set_option linter.unusedVariables false
set_option linter.unusedSimpArgs false
set_option maxHeartbeats 1000000 in
theorem u64_big (a : Option Addr) (n c : Nat) (zs : List Int) (w : World) (hl : zs.length = n) (hlc : n ≤ c) (hm : c ≤ maxLen) (hr : ByteRow w a zs) (h8 : 8 < (trimL zs).length) :
    Calls Sagg.prog 101 #[.slice a n c] w fun e w' => e = .returned (.tuple #[.int .u64 0, .bool false]) ∧ ∃ n, w' = w.drewN n := by
  have ht := trim_calls a n c zs w hl hlc hm hr
  have hle := trimL_le zs
  unfold maxLen at hm
  generalize trimL zs = us at *
  go_enter Sagg.func101, Sagg.ntmps101
  go_wp2_with fail
  refine ht.mono ?_
  rintro e w' ⟨rfl, rfl⟩
  go_wp2
  go_ret2
  exact ⟨rfl, 0, rfl⟩
theorem len_norm {zs : List Int} {k : Nat} (hd : Dig zs) (hn : Norm zs) (h : (256 : Int) ^ k ≤ val zs) : k < zs.length := by
  have := val_lt hd
  by_cases hk : k < zs.length
  · exact hk
  · have := pow256_mono (a := zs.length) (b := k) (by omega)
    omega
set_option maxHeartbeats 1000000 in
theorem place_lt (v : Value) (m : Int) (w : World) (h : EX.nmN w v m) (len : Nat) (hlen : len < 9223372036854775808) (hlt : m < len) :
    Calls Sagg.prog 126 #[v, .int .i64 len] w fun e w' => e = .returned (.tuple #[.int .i64 m, .bool true]) ∧ Below w.heap.size w w' := by
  obtain ⟨xs, a, ca, rfl, h1, h2, h3, h4, rfl, h6, h7, -⟩ := EX.nmN_open h
  have h0 := val_nonneg h3.1
  have hu := u64_small a _ ca xs w rfl h1 h2 h3 (by rw [EX.trim_norm h3.1 h4]; exact norm_len h3.1 h4 (by omega))
  generalize val xs = m at *
  go_enter Sagg.func126, Sagg.ntmps126
  go_wp2_with fail
  refine hu.mono ?_
  rintro e w' ⟨rfl, n, rfl⟩
  go_wp2
  go_ret2
  exact ⟨rfl, EX.drew_below w n⟩
set_option maxHeartbeats 1000000 in
theorem place_ge (v : Value) (m : Int) (w : World) (h : EX.nmN w v m) (len : Nat) (hlen : len < 9223372036854775808) (hge : len ≤ m) :
    Calls Sagg.prog 126 #[v, .int .i64 len] w fun e w' => e = .returned (.tuple #[.int .i64 0, .bool false]) ∧ Below w.heap.size w w' := by
  obtain ⟨xs, a, ca, rfl, h1, h2, h3, h4, rfl, h6, h7, -⟩ := EX.nmN_open h
  have h0 := val_nonneg h3.1
  by_cases hb : val xs < 256 ^ 8
  · have hu := u64_small a _ ca xs w rfl h1 h2 h3 (by rw [EX.trim_norm h3.1 h4]; exact norm_len h3.1 h4 hb)
    have hb2 : val xs < 18446744073709551616 := hb
    clear hb
    generalize val xs = m at *
    go_enter Sagg.func126, Sagg.ntmps126
    go_wp2_with fail
    refine hu.mono ?_
    rintro e w' ⟨rfl, n, rfl⟩
    go_wp2
    go_ret2
    exact ⟨rfl, EX.drew_below w n⟩
  · have hu := u64_big a _ ca xs w rfl h1 h2 h3 (by rw [EX.trim_norm h3.1 h4]; exact len_norm h3.1 h4 (by omega))
    go_enter Sagg.func126, Sagg.ntmps126
    go_wp2_with fail
    refine hu.mono ?_
    rintro e w' ⟨rfl, n, rfl⟩
    go_wp2
    go_ret2
    exact ⟨rfl, EX.drew_below w n⟩
end Go.Proofs.YgcsagGreat
namespace Go.Proofs.EX
open Go.RowKit Go.Proofs.YgcsagGreat
set_option linter.unusedVariables false
theorem place_ok : SpecOK 126 placeN := by
  intro S w0 hS Z G args Q s H w h hi
  unfold placeN at h
  split at h
  · rename_i x len hargs
    rw [arr_eq hargs]
    obtain ⟨m, H1, h, hm⟩ := getN_ok h hi
    split at h
    · rename_i g0
      split at h
      · rename_i g1
        rw [ltB_eq] at g0 g1
        have g0 := of_decide_eq_true g0
        have g1 := of_decide_eq_true g1
        obtain ⟨L, rfl⟩ := Int.eq_ofNat_of_zero_le (show 0 ≤ len by omega)
        have less : ∀ Hq, m < L → Q (.tuple #[.int .i64 m, .bool true]) s Hq → Calls Sagg.prog 126 #[x, .int .i64 L] w fun e w' => ∃ v s' H', e = .returned v ∧ Q v s' H' ∧ Inv (nmH S) w0 (s'.z Z G) w' := by
          intro Hq hlt hq
          refine (place_lt x m w hm L (by omega) hlt).mono ?_
          rintro e w' ⟨rfl, hb⟩
          exact ⟨_, s, Hq, rfl, hq, hi.later hb⟩
        have more : ∀ Hq, (L : Int) ≤ m → Q (.tuple #[.int .i64 0, .bool false]) s Hq → Calls Sagg.prog 126 #[x, .int .i64 L] w fun e w' => ∃ v s' H', e = .returned v ∧ Q v s' H' ∧ Inv (nmH S) w0 (s'.z Z G) w' := by
          intro Hq hge hq
          refine (place_ge x m w hm L (by omega) hge).mono ?_
          rintro e w' ⟨rfl, hb⟩
          exact ⟨_, s, Hq, rfl, hq, hi.later hb⟩
        split at h
        · exact h.elim
        · split at h
          · split at h
            · rename_i hl
              rw [ltB_eq] at hl
              exact less _ (of_decide_eq_true hl) h
            · rename_i hl
              rw [ltB_eq] at hl
              exact more _ (by have := of_decide_eq_false hl; omega) h
          · exact more _ h.1 h.2
          · split at h
            · rename_i hl
              rw [ltB_eq] at hl
              obtain ⟨rfl, h⟩ := h
              exact less _ (of_decide_eq_true hl) h
            · exact h.elim
      · exact h.elim
    · exact h.elim
  · exact h.elim
def natSpecs2 : List (FuncId × Spec) := (126, placeN) :: natSpecs
theorem natSpecs2_ok : ∀ p ∈ natSpecs2, SpecOK p.1 p.2 := by
  intro p hp
  rcases List.mem_cons.1 hp with rfl | hp
  · exact place_ok
  · exact natSpecs_ok p hp
end Go.Proofs.EX
