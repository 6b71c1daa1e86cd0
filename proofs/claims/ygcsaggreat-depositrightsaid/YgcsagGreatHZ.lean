/-
  THE ENGINE'S SPECS OF PACKAGE NAT HOLD.
-/
import Derived.Test.YgcsagGreatHY
import Derived.Test.YgcsagGreatHV
namespace Go.Proofs.EX
open Go.RowKit Go.Proofs.YgcsagGreat
set_option linter.unusedVariables false
set_option linter.unusedSimpArgs false

/-- What a number is. -/
def nmN (w : World) (v : Value) (n : Int) : Prop := IsN w v n ∧ n < big

/-- What is known of a value: a number (that does not lie in a block of S), or a window's cells. -/
def nmH (S : Nat → Prop) (w : World) (v : Value) (n : Int) : Prop := match v with
  | .slice a _ _ => nmN w v n ∧ ∀ x, a = some x → ¬ S x.block
  | .tuple vs => ∀ b o cs, vs = #[.pointer (some ⟨b, o, none⟩), .agg cs] → ∀ j u, cs[j]? = some u → w.cell? ⟨b, o + j, none⟩ = some u
  | _ => False
theorem reads_H (S : Nat → Prop) : Reads (nmH S) := fun w b o cs c h j u hu => h b o cs rfl j u hu
theorem isN_keep {w w' : World} {v : Value} {n : Int} (h : IsN w v n) (hk : ∀ a l c, v = .slice (some a) l c → 0 < l → w'.heap[a.block]? = w.heap[a.block]?) : IsN w' v n := by
  obtain ⟨zs, ⟨a, c, hv, h1, h2, h3, h4⟩, h5, h6, h7⟩ := h
  refine ⟨zs, ⟨a, c, hv, h1, h2, h3, ?_⟩, h5, h6, h7⟩
  rcases h4 with h4 | ⟨b, off, ha, hc⟩
  · exact .inl h4
  · refine .inr ⟨b, off, ha, fun i hi => ?_⟩
    have := hk ⟨b, off, none⟩ zs.length c (by rw [hv, ha]) (by omega)
    have e : w'.cell? ⟨b, off + i, none⟩ = w.cell? ⟨b, off + i, none⟩ := World.cell?_of_block (w := w) (a := ⟨b, off + i, none⟩) this
    rw [e]
    exact hc i hi
theorem isN_block {w : World} {a : Addr} {l c : Nat} {n : Int} (h : IsN w (.slice (some a) l c) n) : a.block < w.heap.size := by
  obtain ⟨zs, ⟨a', c', hv, h1, h2, h3, h4⟩, h5, h6, h7⟩ := h
  cases hv
  rcases h4 with h4 | ⟨b, off, ha, hc⟩
  · have := h7 h4
    cases this
  · cases ha
    by_cases hz : zs.length = 0
    · have := h7 (List.length_eq_zero_iff.1 hz)
      cases this
    · have := hc 0 (by omega)
      exact block_lt_of_cell this
variable {S : Nat → Prop} {w0 : World} {Z G : List Blk} {s : St} {H : Hs} {w : World}
theorem Inv.now {nm : World → Value → Int → Prop} (h : Inv nm w0 s w) {p : Value × Int} (hp : p ∈ s.N) : nm w p.1 p.2 := h.num p hp w (Nat.le_refl _) (fun _ _ _ => rfl)
/-- Nothing known is touched. -/
theorem Inv.later {nm : World → Value → Int → Prop} (h : Inv nm w0 s w) {w' : World} (hb : Below w.heap.size w w') : Inv nm w0 s w' := by
  refine ⟨h.below.trans (Below.mono hb h.below.size), fun k hk => ?_, h.apart, fun p hp w2 hs hbk => ?_, h.rd⟩
  · obtain ⟨h1, rest, h2, h3⟩ := h.mem k hk
    refine ⟨h1, rest, h2, ?_⟩
    rw [hb.block k.b (h.mem k hk).lt]
    exact h3
  · refine h.num p hp w2 (Nat.le_trans hb.size hs) (fun b hlt hne => ?_)
    rw [hbk b (Nat.lt_of_lt_of_le hlt hb.size) hne, hb.block b hlt]
/-- A new number. -/
theorem Inv.numberB (hS : ∀ b, S b → b < w0.heap.size) (h' : Inv (nmH S) w0 (s.z Z G) w) {B : Nat} (hB0 : w0.heap.size ≤ B) (hlt : ∀ k ∈ (s.z Z G).M, k.b < B) {v : Value} {n : Int} (hn : IsF B w v n) (hbig : n < big) : Inv (nmH S) w0 (({ s with N := (v, n) :: s.N } : St).z Z G) w := by
  refine ⟨h'.below, h'.mem, h'.apart, fun p hp => ?_, h'.rd⟩
  rcases List.mem_cons.1 hp with rfl | hp
  · intro w2 hs hbk
    obtain ⟨a0, l0, c0, rfl⟩ : ∃ a l c, v = .slice a l c := by
      obtain ⟨zs, ⟨a, c, hv, _⟩, _⟩ := hn.1
      exact ⟨_, _, _, hv⟩
    refine ⟨⟨isN_keep hn.1 fun a l c e hl => ?_, hbig⟩, fun x hx hSx => ?_⟩
    · have hB := hn.2 a l c e
      refine hbk a.block ?_ (fun k hk => ?_)
      · have hh := hn.1
        simp only at e
        rw [e] at hh
        exact isN_block hh
      · have := hlt k hk
        omega
    · have h1 := hn.2 x l0 c0 (by rw [hx])
      have h2 := hS _ hSx
      omega
  · exact h'.num p hp
theorem getN_ok {v : Value} {K : Int → Hs → Prop} (h : getN v K s H) (hi : Inv (nmH S) w0 (s.z Z G) w) : ∃ n H', K n H' ∧ nmN w v n := by
  unfold getN at h
  split at h
  · exact h.elim
  · split at h
    · split at h
      · split at h
        · split at h
          · split at h
            · exact ⟨0, _, h, (nil_isF (B := 0)).1, Int.pow_pos (by omega)⟩
            · exact h.elim
          · exact h.elim
        · exact h.elim
      · exact h.elim
    · split at h
      · rename_i i p hp
        split at h
        · obtain ⟨hv, h⟩ := h
          rw [nth_eq] at hp
          have := hi.now (List.mem_of_getElem? hp)
          rw [← hv] at this
          exact ⟨_, _, h, this.1⟩
        · exact h.elim
      · exact h.elim
theorem newN_okB (hS : ∀ b, S b → b < w0.heap.size) {n : Int} {K : Value → St → Hs → Prop} (h : newN n K s H) (hi : Inv (nmH S) w0 (s.z Z G) w) {B : Nat} (hB0 : w0.heap.size ≤ B) (hlt : ∀ k ∈ (s.z Z G).M, k.b < B) {v : Value} (hn : IsF B w v n) : ∃ s' H', K v s' H' ∧ Inv (nmH S) w0 (s'.z Z G) w ∧ s'.M = s.M := by
  obtain ⟨zs, ⟨a, c, rfl, _⟩, _⟩ := hn.1
  unfold newN at h
  split at h
  · exact h.elim
  · split at h
    · split at h
      · rename_i hl
        rw [ltB_eq] at hl
        exact ⟨_, _, h a zs.length c, Inv.numberB hS hi hB0 hlt hn (of_decide_eq_true hl), rfl⟩
      · exact h.elim
    · exact ⟨_, _, h.2 a zs.length c, Inv.numberB hS hi hB0 hlt hn h.1, rfl⟩
theorem newN_ok (hS : ∀ b, S b → b < w0.heap.size) {n : Int} {K : Value → St → Hs → Prop} (h : newN n K s H) (hi : Inv (nmH S) w0 (s.z Z G) w) {w' : World} (hb : Below w.heap.size w w') {v : Value} (hn : IsF w.heap.size w' v n) : ∃ s' H', K v s' H' ∧ Inv (nmH S) w0 (s'.z Z G) w' := by
  obtain ⟨s', H', h1, h2, _⟩ := newN_okB hS h (hi.later hb) hi.below.size (fun k hk => (hi.mem k hk).lt) hn
  exact ⟨s', H', h1, h2⟩
theorem big_eq : big = 256 ^ 128 := by kernel_rfl
/-- A number's digits. -/
theorem nmN_open {v : Value} {n : Int} (h : nmN w v n) : ∃ zs a c, v = .slice a zs.length c ∧ zs.length ≤ c ∧ c ≤ maxLen ∧ ByteRow w a zs ∧ Norm zs ∧ val zs = n ∧ (zs = [] → v = .slice none 0 0) ∧ zs.length ≤ 128 ∧ (∀ x, a = some x → x.block < w.heap.size) := by
  obtain ⟨hh, hb⟩ := h
  have hh0 := hh
  obtain ⟨zs, ⟨a, c, hv, h1, h2, h3⟩, h5, h6, h7⟩ := hh
  refine ⟨zs, a, c, hv, h1, h2, h3, h5, h6, h7, norm_len h3.1 h5 (by rw [h6, ← big_eq]; exact hb), fun x hx => ?_⟩
  rw [hv, hx] at hh0
  exact isN_block hh0
theorem arr_eq {args : Array Value} {l : List Value} (h : args.toList = l) : args = l.toArray := by rw [← h]
abbrev SpecOK (f : FuncId) (T : Spec) : Prop := ∀ (S : Nat → Prop) (w0 : World), (∀ b, S b → b < w0.heap.size) → ∀ Z G args Q s H w, T Z args Q s H → Inv (nmH S) w0 (s.z Z G) w → Calls Sagg.prog f args w fun e w' => ∃ v s' H', e = .returned v ∧ Q v s' H' ∧ Inv (nmH S) w0 (s'.z Z G) w'

theorem add_ok : SpecOK 64 (twoN fun x y => x + y) := by
  intro S w0 hS Z G args Q s H w h hi
  unfold twoN at h
  split at h
  · rename_i x y hargs
    rw [arr_eq hargs]
    obtain ⟨m, H1, h, hm⟩ := getN_ok h hi
    obtain ⟨n, H2, h, hn⟩ := getN_ok h hi
    obtain ⟨xs, a, ca, rfl, h1, h2, h3, h4, rfl, h6, h7, -⟩ := nmN_open hm
    obtain ⟨ys, b, cb, rfl, k1, k2, k3, k4, rfl, k6, k7, -⟩ := nmN_open hn
    refine (add_calls a b _ ca _ cb xs ys w rfl rfl h1 k1 h2 k2 (by omega) (by omega) h3 k3).mono ?_
    rintro e w' ⟨v, rfl, hf, hb⟩
    obtain ⟨s', H', hq, hi'⟩ := newN_ok hS h hi hb hf
    exact ⟨v, s', H', rfl, hq, hi'⟩
  · exact h.elim
theorem mul_ok : SpecOK 77 (twoN fun x y => x * y) := by
  intro S w0 hS Z G args Q s H w h hi
  unfold twoN at h
  split at h
  · rename_i x y hargs
    rw [arr_eq hargs]
    obtain ⟨m, H1, h, hm⟩ := getN_ok h hi
    obtain ⟨n, H2, h, hn⟩ := getN_ok h hi
    obtain ⟨xs, a, ca, rfl, h1, h2, h3, h4, rfl, h6, h7, -⟩ := nmN_open hm
    obtain ⟨ys, b, cb, rfl, k1, k2, k3, k4, rfl, k6, k7, -⟩ := nmN_open hn
    refine (mul_calls a b _ ca _ cb xs ys w rfl rfl h1 k1 h2 k2 (by omega) h3 k3).mono ?_
    rintro e w' ⟨v, rfl, hf, hb⟩
    obtain ⟨s', H', hq, hi'⟩ := newN_ok hS h hi hb hf
    exact ⟨v, s', H', rfl, hq, hi'⟩
  · exact h.elim
theorem cmpX_eq (x y : Int) : cmpX x y = cmpI x y := by
  unfold cmpX cmpI
  rw [ltB_eq, ltB_eq]
  by_cases h1 : x < y
  · simp [h1]
  · by_cases h2 : y < x
    · simp [h1, h2]
    · simp [h1, h2]
theorem drew_below (w : World) (n : Nat) : Below w.heap.size w (w.drewN n) := ⟨rfl, rfl, rfl, Nat.le_refl _, fun _ _ => rfl⟩
theorem cmp_ok : SpecOK 65 cmpN := by
  intro S w0 hS Z G args Q s H w h hi
  unfold cmpN at h
  split at h
  · rename_i x y hargs
    rw [arr_eq hargs]
    obtain ⟨m, H1, h, hm⟩ := getN_ok h hi
    obtain ⟨n, H2, h, hn⟩ := getN_ok h hi
    obtain ⟨xs, a, ca, rfl, h1, h2, h3, h4, rfl, h6, h7, -⟩ := nmN_open hm
    obtain ⟨ys, b, cb, rfl, k1, k2, k3, k4, rfl, k6, k7, -⟩ := nmN_open hn
    refine (cmp_calls a b _ ca _ cb xs ys w rfl rfl h1 k1 h2 k2 h3 k3).mono ?_
    rintro e w' ⟨rfl, n, rfl⟩
    have hi' := hi.later (drew_below w n)
    rw [← cmpX_eq]
    split at h
    · exact h.elim
    · split at h
      · exact ⟨_, _, _, rfl, h, hi'⟩
      · exact ⟨_, _, _, rfl, by rw [h.1]; exact h.2, hi'⟩
      · exact ⟨_, _, _, rfl, by rw [h.1]; exact h.2, hi'⟩
      · exact ⟨_, _, _, rfl, by rw [h.1]; exact h.2, hi'⟩
  · exact h.elim
theorem sub_ok : SpecOK 115 subN := by
  intro S w0 hS Z G args Q s H w h hi
  unfold subN at h
  split at h
  · rename_i x y hargs
    rw [arr_eq hargs]
    obtain ⟨m, H1, h, hm⟩ := getN_ok h hi
    obtain ⟨n, H2, h, hn⟩ := getN_ok h hi
    obtain ⟨xs, a, ca, rfl, h1, h2, h3, h4, rfl, h6, h7, -⟩ := nmN_open hm
    obtain ⟨ys, b, cb, rfl, k1, k2, k3, k4, rfl, k6, k7, k8⟩ := nmN_open hn
    refine (sub_calls a b _ ca _ cb xs ys w rfl rfl h1 k1 h2 k2 (by omega) (by omega) h3 k3 k8).mono ?_
    rintro e w' ⟨hl, hg, hb⟩
    split at h
    · exact h.elim
    · split at h
      · split at h
        · rename_i hlt
          rw [ltB_eq] at hlt
          exact ⟨_, _, _, hl (of_decide_eq_true hlt), h, hi.later hb⟩
        · rename_i hlt
          rw [ltB_eq] at hlt
          obtain ⟨v, rfl, hf⟩ := hg (by have := of_decide_eq_false hlt; omega)
          obtain ⟨s', H', hq, hi'⟩ := newN_ok hS h hi hb hf
          exact ⟨_, s', H', rfl, hq, hi'⟩
      · obtain ⟨v, rfl, hf⟩ := hg h.1
        obtain ⟨s', H', hq, hi'⟩ := newN_ok hS h.2 hi hb hf
        exact ⟨_, s', H', rfl, hq, hi'⟩
      · exact ⟨_, _, _, hl h.1, h.2, hi.later hb⟩
  · exact h.elim
theorem div_ok : SpecOK 145 divN := by
  intro S w0 hS Z G args Q s H w h hi
  unfold divN at h
  split at h
  · rename_i x y hargs
    rw [arr_eq hargs]
    obtain ⟨m, H1, h, hm⟩ := getN_ok h hi
    obtain ⟨n, H2, h, hn⟩ := getN_ok h hi
    obtain ⟨xs, a, ca, rfl, h1, h2, h3, h4, rfl, h6, h7, -⟩ := nmN_open hm
    obtain ⟨ys, b, cb, rfl, k1, k2, k3, k4, rfl, k6, k7, k8⟩ := nmN_open hn
    split at h
    · rename_i hlt
      rw [ltB_eq] at hlt
      have hpos := of_decide_eq_true hlt
      refine (divmod_calls a b _ ca _ cb xs ys w rfl rfl h1 k1 h2 k2 (by omega) (by omega) h3 k3 (by omega)).mono ?_
      rintro e w' ⟨q, r, rfl, hf1, hf2, hb⟩
      obtain ⟨s1, H3, hq, hi1, hM⟩ := newN_okB hS h (hi.later hb) hi.below.size (fun k hk => (hi.mem k hk).lt) hf1
      obtain ⟨s2, H4, hq2, hi2, _⟩ := newN_okB hS hq hi1 (B := w.heap.size) hi.below.size (fun k hk => (hi.mem k (by
        unfold St.z at hk ⊢
        rw [hM] at hk
        exact hk)).lt) hf2
      exact ⟨_, s2, H4, rfl, hq2, hi2⟩
    · exact h.elim
  · exact h.elim
theorem norm_ok : SpecOK 110 sameN := by
  intro S w0 hS Z G args Q s H w h hi
  unfold sameN at h
  split at h
  · rename_i x hargs
    rw [arr_eq hargs]
    obtain ⟨m, H1, h, hm⟩ := getN_ok h hi
    obtain ⟨xs, a, ca, rfl, h1, h2, h3, h4, rfl, h6, h7, -⟩ := nmN_open hm
    refine (norm_calls a _ ca xs w rfl h1 h2 (by omega) h3).mono ?_
    rintro e w' ⟨v, rfl, hf, hb⟩
    obtain ⟨s', H', hq, hi'⟩ := newN_ok hS h hi hb hf
    exact ⟨v, s', H', rfl, hq, hi'⟩
  · exact h.elim
theorem natOf_ok : SpecOK 148 sameN := by
  intro S w0 hS Z G args Q s H w h hi
  unfold sameN at h
  split at h
  · rename_i x hargs
    rw [arr_eq hargs]
    obtain ⟨m, H1, h, hm⟩ := getN_ok h hi
    refine (natOf_calls x m w hm.1 (by rw [← big_eq]; exact hm.2)).mono ?_
    rintro e w' ⟨v, rfl, hf, hb⟩
    obtain ⟨s', H', hq, hi'⟩ := newN_ok hS h hi hb hf
    exact ⟨v, s', H', rfl, hq, hi'⟩
  · exact h.elim
theorem inN_ok {n m : Int} {K : Hs → Prop} (h : inN n m K H) : 0 ≤ n ∧ n < m ∧ ∃ H', K H' := by
  unfold inN at h
  split at h
  · exact h.elim
  · split at h
    · split at h
      · rename_i h1
        split at h
        · rename_i h2
          rw [ltB_eq] at h1 h2
          have := of_decide_eq_true h1
          exact ⟨by omega, of_decide_eq_true h2, _, h⟩
        · exact h.elim
      · exact h.elim
    · exact ⟨h.1.1, h.1.2, _, h.2⟩
theorem fromU64_ok : SpecOK 66 fromU64N := by
  intro S w0 hS Z G args Q s H w h hi
  unfold fromU64N at h
  split at h
  · rename_i i hargs
    rw [arr_eq hargs]
    obtain ⟨h0, h1, H1, h⟩ := inN_ok h
    obtain ⟨x, rfl⟩ := Int.eq_ofNat_of_zero_le h0
    refine (fromU64_calls x w (by omega)).mono ?_
    rintro e w' ⟨v, rfl, hf, hb⟩
    obtain ⟨s', H', hq, hi'⟩ := newN_ok hS h hi hb hf
    exact ⟨v, s', H', rfl, hq, hi'⟩
  · exact h.elim
theorem trim_norm {zs : List Int} (hd : Dig zs) (hn : Norm zs) : trimL zs = zs := norm_unique hd.trimL hd (norm_trimL zs) hn (val_trimL zs)
theorem u64_ok : SpecOK 101 u64N := by
  intro S w0 hS Z G args Q s H w h hi
  unfold u64N at h
  split at h
  · rename_i x hargs
    rw [arr_eq hargs]
    obtain ⟨m, H1, h, hm⟩ := getN_ok h hi
    obtain ⟨xs, a, ca, rfl, h1, h2, h3, h4, rfl, h6, h7, -⟩ := nmN_open hm
    split at h
    · rename_i hlt
      rw [ltB_eq] at hlt
      have hlt' := of_decide_eq_true hlt
      refine (u64_small a _ ca xs w rfl h1 h2 h3 (by rw [trim_norm h3.1 h4]; exact norm_len h3.1 h4 hlt')).mono ?_
      rintro e w' ⟨rfl, n, rfl⟩
      exact ⟨_, _, _, rfl, h, hi.later (drew_below w n)⟩
    · exact h.elim
  · exact h.elim

/-! ### Bytes -/
theorem val_dig : ∀ {zs : List Int} (hd : Dig zs) (j : Nat), dig (val zs) j = zs.getD j 0
  | [], hd, j => by
    unfold dig
    simp [val]
  | x :: r, hd, 0 => by
    have := hd x (by simp)
    unfold dig
    simp only [val, Int.pow_zero, Int.ediv_one, List.getD_cons_zero]
    omega
  | x :: r, hd, j + 1 => by
    have hx := hd x (by simp)
    have ih := val_dig (zs := r) (fun n hn => hd n (by simp [hn])) j
    unfold dig at ih ⊢
    rw [List.getD_cons_succ, ← ih, Int.pow_succ, Int.mul_comm (256 ^ j) 256, ← Int.ediv_ediv_of_nonneg (by omega)]
    congr 2
    simp only [val]
    omega
theorem beC_map (n : Int) : ∀ m : Nat, beC n m = (List.range m).map fun i => Value.int .u8 (dig n (m - 1 - i))
  | 0 => rfl
  | m + 1 => by
    rw [beC, beC_map n m, List.range_succ_eq_map, List.map_cons, List.map_map]
    congr 1
    apply List.map_congr_left
    intro i hi
    rw [List.mem_range] at hi
    simp only [Function.comp]
    congr 2
    omega
theorem beL_beC {us : List Int} {n : Int} (hd : Dig us) (hv : val us = n) (m : Nat) : rowOf (beL m us (min us.length m)) = (beC n m).toArray := by
  unfold rowOf beL
  rw [beC_map, List.map_map]
  congr 1
  apply List.map_congr_left
  intro i hi
  rw [List.mem_range] at hi
  simp only [Function.comp]
  rw [← hv, val_dig hd]
  split
  · rfl
  · rename_i h
    rw [List.getD_eq_getElem?_getD, List.getElem?_eq_none (by omega)]
    rfl
theorem be32_ok : SpecOK 102 be32N := by
  intro S w0 hS Z G args Q s H w h hi
  unfold be32N at h
  split at h
  · rename_i x hargs
    rw [arr_eq hargs]
    obtain ⟨m, H1, h, hm⟩ := getN_ok h hi
    obtain ⟨xs, a, ca, rfl, h1, h2, h3, h4, rfl, h6, h7, -⟩ := nmN_open hm
    obtain ⟨g0, g1, H2, h⟩ := inN_ok h
    have hlen : xs.length ≤ 32 := norm_len h3.1 h4 g1
    refine (be32_calls a _ ca xs w rfl h1 h2 h3 (by rw [trim_norm h3.1 h4]; exact hlen)).mono ?_
    rintro e w' ⟨rfl, hb⟩
    refine ⟨_, s, H2, rfl, ?_, hi.later hb⟩
    rw [trim_norm h3.1 h4]
    have := beL_beC h3.1 (rfl : val xs = val xs) 32
    rw [Nat.min_eq_left hlen] at this
    rw [this]
    exact h
  · exact h.elim
theorem addr_ok : SpecOK 137 addrN := by
  intro S w0 hS Z G args Q s H w h hi
  unfold addrN at h
  split at h
  · rename_i x hargs
    rw [arr_eq hargs]
    obtain ⟨m, H1, h, hm⟩ := getN_ok h hi
    obtain ⟨xs, a, ca, rfl, h1, h2, h3, h4, rfl, h6, h7, -⟩ := nmN_open hm
    refine (addrOf_calls a _ ca xs w rfl h1 h2 h3).mono ?_
    rintro e w' ⟨rfl, hb⟩
    refine ⟨_, s, H1, rfl, ?_, hi.later hb⟩
    rw [beL_beC h3.1 (rfl : val xs = val xs) 20]
    exact h
  · exact h.elim
/-- A row of bytes that has been read. -/
theorem readB_ok {v : Value} {K : List Value → Hs → Prop} (h : readB Z v K s H) (hi : Inv (nmH S) w0 (s.z Z G) w) : ∃ a n c l H', v = .slice a n c ∧ l.length = n ∧ (l = [] ∨ ∃ b off, a = some ⟨b, off, none⟩ ∧ ∀ i u, l[i]? = some u → w.cell? ⟨b, off + i, none⟩ = some u) ∧ K l H' := by
  unfold readB at h
  split at h
  · split at h
    · exact ⟨_, 0, _, [], _, rfl, rfl, .inl rfl, h⟩
    · split at h
      · exact h.elim
      · rename_i a
        split at h
        · exact h.elim
        · split at h
          · rename_i blk hblk
            rw [nth_eq] at hblk
            split at h
            · rename_i l hl
              obtain ⟨he, h⟩ := atB_ok h
              obtain ⟨h1, h2⟩ := cutL_get hl
              refine ⟨_, _, _, l, _, rfl, h1, .inr ⟨blk.b, a.off, by rw [← addr_eq he], fun i u hu => ?_⟩, h⟩
              exact hi.cell (zl hblk) (h2 i u hu)
            · exact h.elim
          · split at h
            · exact h.elim
            · split at h
              · rename_i ql hw
                obtain ⟨q, cs⟩ := ql
                have hsp := (winL_ok hw).1
                split at h
                · rename_i l hl
                  obtain ⟨rfl, h⟩ := h
                  obtain ⟨h1, h2⟩ := takeN_eq hl
                  refine ⟨_, _, _, l, _, rfl, h2, .inr ⟨a.block, a.off, by rw [← addr_eq ⟨rfl, hsp⟩], fun i u hu => ?_⟩, h⟩
                  refine win_cell hi hw (i := i) ?_
                  have hlt := (List.getElem?_eq_some_iff.1 hu).1
                  rw [h1, List.getElem?_take_of_lt (by omega)] at hu
                  exact hu
                · exact h.elim
              · exact h.elim
  · exact h.elim
theorem u8s_eq : ∀ {l : List Value} {r : List Int}, u8s l = some r → l = r.map (Value.int .u8)
  | [], r, h => by simp [u8s] at h; simp [← h]
  | v :: l, r, h => by
    unfold u8s at h
    split at h
    · rename_i e
      cases e
    · rename_i i l' e
      cases e
      split at h
      · rename_i r' hr
        cases h
        rw [u8s_eq hr]
        rfl
      · cases h
    · cases h
theorem inAll_ok : ∀ {l : List Int}, inAll l = true → Dig l
  | [], h => by intro n hn; cases hn
  | x :: l, h => by
    unfold inAll at h
    split at h
    · rename_i h1
      split at h
      · rename_i h2
        rw [ltB_eq] at h1 h2
        have h1 := of_decide_eq_true h1
        have h2 := of_decide_eq_true h2
        intro n hn
        rcases List.mem_cons.1 hn with rfl | hn
        · omega
        · exact inAll_ok h n hn
      · cases h
    · cases h
theorem allIn_ok : ∀ {l : List Int}, AllIn l → Dig l
  | [], h => by intro n hn; cases hn
  | x :: l, h => by
    intro n hn
    rcases List.mem_cons.1 hn with rfl | hn
    · exact h.1
    · exact allIn_ok h.2 n hn
theorem bytesN_ok {l : List Value} {K : List Int → Hs → Prop} (h : bytesN l K H) : ∃ r H', l = r.map (Value.int .u8) ∧ Dig r ∧ K r H' := by
  unfold bytesN at h
  split at h
  · exact h.elim
  · rename_i r hr
    split at h
    · exact h.elim
    · split at h
      · split at h
        · rename_i ha
          exact ⟨r, _, u8s_eq hr, inAll_ok ha, h⟩
        · exact h.elim
      · exact ⟨r, _, u8s_eq hr, allIn_ok h.1, h.2⟩
theorem byteRow_of {a : Option Addr} {l : List Value} {r : List Int} (hl : l = r.map (Value.int .u8)) (hd : Dig r) (h : l = [] ∨ ∃ b off, a = some ⟨b, off, none⟩ ∧ ∀ i u, l[i]? = some u → w.cell? ⟨b, off + i, none⟩ = some u) : ByteRow w a r := by
  refine ⟨hd, ?_⟩
  rcases h with h | ⟨b, off, ha, hc⟩
  · rw [h] at hl
    exact .inl (List.map_eq_nil_iff.1 hl.symm)
  · refine .inr ⟨b, off, ha, fun i hi => hc i _ ?_⟩
    rw [hl, List.getElem?_map, List.getElem?_eq_getElem hi]
    simp [List.getD_eq_getElem?_getD, hi]
theorem beV_val : ∀ (l : List Int) (a : Int), l.foldl (fun a b => a * 256 + b) a = val l.reverse + 256 ^ l.length * a
  | [], a => by simp [val]
  | x :: l, a => by
    rw [List.foldl_cons, beV_val l, List.reverse_cons, val_append, List.length_reverse, List.length_cons, Int.pow_succ]
    simp only [val, Int.mul_zero, Int.add_zero]
    rw [Int.mul_add, Int.mul_comm a 256, Int.mul_assoc]
    omega
theorem beV_eq (l : List Int) : beV l = valB l := by
  unfold beV valB
  rw [beV_val]
  simp
theorem fromBE_ok : SpecOK 63 fromBEN := by
  intro S w0 hS Z G args Q s H w h hi
  unfold fromBEN at h
  split at h
  · rename_i x hargs
    rw [arr_eq hargs]
    obtain ⟨a, n, c, l, H1, rfl, hl, hrow, h⟩ := readB_ok h hi
    obtain ⟨r, H2, hr, hd, h⟩ := bytesN_ok h
    split at h
    · rename_i hle
      have hle := Nat.le_of_ble_eq_true hle
      have hlen : r.length = n := by rw [← hl, hr, List.length_map]
      refine (fromBE_calls a n c r w hlen (by omega) (byteRow_of hr hd hrow)).mono ?_
      rintro e w' ⟨v, rfl, hf, hb⟩
      rw [← beV_eq] at hf
      obtain ⟨s', H', hq, hi'⟩ := newN_ok hS h hi hb hf
      exact ⟨v, s', H', rfl, hq, hi'⟩
    · exact h.elim
  · exact h.elim
theorem eqL_eq : ∀ (x y : List Int), eqL x y = decide (x = y)
  | [], [] => rfl
  | [], y :: r => rfl
  | x :: l, [] => rfl
  | x :: l, y :: r => by
    unfold eqL
    rw [eqB_eq, eqL_eq l r]
    by_cases h1 : x = y
    · by_cases h2 : l = r
      · simp [h1, h2]
      · simp [h1, h2]
    · simp [h1]
theorem equal_ok : SpecOK 23 equalN := by
  intro S w0 hS Z G args Q s H w h hi
  unfold equalN at h
  split at h
  · rename_i x y hargs
    rw [arr_eq hargs]
    obtain ⟨a, n, c, l, H1, rfl, hl, hrow, h⟩ := readB_ok h hi
    obtain ⟨a2, n2, c2, l2, H2, rfl, hl2, hrow2, h⟩ := readB_ok h hi
    obtain ⟨r, H3, hr, hd, h⟩ := bytesN_ok h
    obtain ⟨r2, H4, hr2, hd2, h⟩ := bytesN_ok h
    refine (equalBytes_calls a a2 n c n2 c2 r r2 w (by rw [← hl, hr, List.length_map]) (by rw [← hl2, hr2, List.length_map]) (byteRow_of hr hd hrow) (byteRow_of hr2 hd2 hrow2)).mono ?_
    rintro e w' ⟨rfl, rfl⟩
    split at h
    · exact h.elim
    · split at h
      · exact ⟨_, _, _, rfl, by rw [← eqL_eq]; exact h, hi⟩
      · exact ⟨_, _, _, rfl, by rw [decide_eq_true h.1]; exact h.2, hi⟩
  · exact h.elim

/-! ### All of them -/
def natSpecs : List (FuncId × Spec) := [(64, twoN fun x y => x + y), (77, twoN fun x y => x * y), (65, cmpN), (115, subN), (145, divN), (110, sameN), (148, sameN), (66, fromU64N), (101, u64N), (102, be32N), (137, addrN), (63, fromBEN), (23, equalN)]
theorem find_mem {α : Type} : ∀ {l : List (Nat × α)} {f : Nat} {T : α}, find l f = some T → (f, T) ∈ l
  | [], f, T, h => by cases h
  | (g, U) :: l, f, T, h => by
    unfold find at h
    split at h
    · rename_i e
      cases h
      rw [Nat.eq_of_beq_eq_true e]
      exact List.mem_cons_self
    · exact List.mem_cons_of_mem _ (find_mem h)
theorem specs_ok {specs : List (FuncId × Spec)} (h : ∀ p ∈ specs, SpecOK p.1 p.2) (hS : ∀ b, S b → b < w0.heap.size) : SpecsOK (nmH S) Sagg.prog w0 specs :=
  fun f T hf => h _ (find_mem hf) S w0 hS
theorem natSpecs_ok : ∀ p ∈ natSpecs, SpecOK p.1 p.2 := by
  intro p hp
  unfold natSpecs at hp
  simp only [List.mem_cons, List.not_mem_nil, or_false] at hp
  rcases hp with rfl | rfl | rfl | rfl | rfl | rfl | rfl | rfl | rfl | rfl | rfl | rfl | rfl
  · exact add_ok
  · exact mul_ok
  · exact cmp_ok
  · exact sub_ok
  · exact div_ok
  · exact norm_ok
  · exact natOf_ok
  · exact fromU64_ok
  · exact u64_ok
  · exact be32_ok
  · exact addr_ok
  · exact fromBE_ok
  · exact equal_ok
/-- A window in old memory. -/
theorem win_nm {p : Value × Int} {b o : Nat} {cs : Array Value} {c : Int} (hp : p = (.tuple #[.pointer (some ⟨b, o, none⟩), .agg cs], c)) (h : ∀ j u, cs[j]? = some u → w.cell? ⟨b, o + j, none⟩ = some u) : Stab [] w (fun w => nmH S w p.1 p.2) := by
  subst hp
  intro w' hs hb b' o' cs' e j u hu
  cases e
  have hc := h j u hu
  have hlt := block_lt_of_cell hc
  rw [← hc]
  exact World.cell?_of_block (w := w) (a := ⟨b, o + j, none⟩) (hb b hlt (fun k hk => by cases hk))
theorem num_nm {p : Value × Int} (hn : nmN w p.1 p.2) (hSn : ∀ x l c, p.1 = .slice (some x) l c → ¬ S x.block) : Stab [] w (fun w => nmH S w p.1 p.2) := by
  intro w' hs hb
  have hk : IsN w' p.1 p.2 := isN_keep hn.1 fun a l c e hl => hb a.block (by
    have := hn.1
    rw [e] at this
    exact isN_block this) (fun k hk => by cases hk)
  obtain ⟨zs, ⟨a, c, hv, _⟩, _⟩ := hn.1
  obtain ⟨v, n⟩ := p
  simp only at hv hk hSn ⊢
  subst hv
  exact ⟨⟨hk, hn.2⟩, fun x hx => hSn x _ _ (by rw [hx])⟩
/-- A run of its own, in a world of which it changes nothing. -/
theorem closed {specs : List (FuncId × Spec)} {R d : Nat} {f : FuncId} {args : Array Value} {Q : Value → St → Hs → Prop} {N : List (Value × Int)} (hsp : ∀ p ∈ specs, SpecOK p.1 p.2) (hS : ∀ b, S b → b < w.heap.size) (hrun : EF Sagg.prog specs R d [] f args Q ⟨[], N⟩ H) (hN : ∀ p ∈ N, Stab [] w (fun w => nmH S w p.1 p.2)) :
    Calls Sagg.prog f args w fun e w' => ∃ v s' H', e = .returned v ∧ Q v s' H' ∧ Inv (nmH S) w (s'.z [] []) w' :=
  EF_ok follows_mixed (specs_ok hsp hS) d [] [] f args Q ⟨[], N⟩ H w hrun ⟨Below.refl _ _, fun k hk => (by cases hk), List.Pairwise.nil, fun p hp => hN p hp, reads_H S⟩
end Go.Proofs.EX
