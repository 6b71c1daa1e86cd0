/-
  'blockValue' at BLOCKHASH as a spec of the engine.
-/
import Derived.Test.YgcsagGreatBvb
namespace Go.Proofs.EX
open Go.RowKit Go.Proofs.YgcsagGreat
set_option linter.unusedVariables false
set_option linter.unusedSimpArgs false
variable {S : Nat → Prop} {w0 : World} {Z G : List Blk} {s : St} {H : Hs} {w : World}
/-- A number that outlives all writes into the known blocks lies in none of them. -/
theorem stab_out {M : List Blk} {x : Addr} {l c : Nat} {n : Int} (hst : Stab M w (fun w => nmH S w (.slice (some x) l c) n)) {k : Blk} (hk : k ∈ M) (hlt : k.b < w.heap.size) : k.b ≠ x.block := by
  intro e
  let w' : World := { w with heap := w.heap.setIfInBounds k.b (.cells #[] 0 (0, 0)) }
  have h1 := hst w' (by simp [w']) (fun b hb hne => by
    show (w.heap.setIfInBounds k.b _)[b]? = _
    rw [Array.getElem?_setIfInBounds_ne (hne k hk)])
  obtain ⟨⟨⟨zs, ⟨a, c', hv, _, _, _, h4⟩, _, _, h7⟩, _⟩, _⟩ := h1
  cases hv
  rcases h4 with h4 | ⟨b, off, ha, hc⟩
  · cases h7 h4
  · cases ha
    by_cases hz : zs.length = 0
    · cases h7 (List.length_eq_zero_iff.1 hz)
    · have hc0 := hc 0 (by omega)
      simp only at e
      have hb : w'.heap[b]? = some (.cells #[] 0 (0, 0)) := by
        show (w.heap.setIfInBounds k.b _)[b]? = _
        rw [← e, Array.getElem?_setIfInBounds_self_of_lt hlt]
      simp [World.cell?, hb] at hc0
theorem getN_out {v : Value} {K : Int → Hs → Prop} (h : getN v K s H) (hi : Inv (nmH S) w0 (s.z Z G) w) : ∃ a l c n H', v = .slice a l c ∧ K n H' ∧ nmN w v n ∧ ∀ x, a = some x → ¬ S x.block ∧ ∀ k ∈ (s.z Z G).M, k.b ≠ x.block := by
  unfold getN at h
  split at h
  · exact h.elim
  · split at h
    · split at h
      · split at h
        · split at h
          · split at h
            · exact ⟨_, _, _, 0, _, rfl, h, ⟨(nil_isF (B := 0)).1, Int.pow_pos (by omega)⟩, fun x hx => (by cases hx)⟩
            · exact h.elim
          · exact h.elim
        · exact h.elim
      · exact h.elim
    · split at h
      · rename_i i p hp
        split at h
        · rename_i a l c
          obtain ⟨hv, h⟩ := h
          rw [nth_eq] at hp
          have hmem := List.mem_of_getElem? hp
          have hst := hi.num p hmem
          rw [← hv] at hst
          have := hi.now hmem
          rw [← hv] at this
          refine ⟨a, l, c, _, _, rfl, h, this.1, fun x hx => ⟨this.2 x hx, fun k hk => ?_⟩⟩
          subst hx
          exact stab_out hst hk (hi.mem k hk).lt
        · exact h.elim
      · exact h.elim
/-- The row of hashes. -/
def hashX (Z : List Blk) (v : Value) (s : St) (K : List Int → Nat → Hs → Prop) (H : Hs) : Prop := match v with
  | .slice a n c => match n with
    | 0 => match a with
      | none => match c with
        | 0 => K [] 0 H
        | _ => False
      | some _ => False
    | n + 1 => match a with
      | none => False
      | some q => match q.off with
        | 0 => match Nat.ble (n + 1) 4 with
          | true => match Nat.beq c (n + 1) with
            | true => match H with
              | [] => False
              | j :: H' => match nth (Z ++ s.M) j with
                | some b2 => match cutL b2.cs 0 (32 * (n + 1)) with
                  | some l => atB q b2.b (bytesN l (fun r H => K r (n + 1) H) H')
                  | none => False
                | none => False
            | false => False
          | false => False
        | _ => False
  | _ => False
def hvL (num a : Int) (r : List Int) (n : Nat) : Int := hv num a (fun i j => r.getD (32 * i + j) 0) n
def bvX : Spec := fun Z args Q s H => match args.toList with
  | [p, o, x] => match p with
    | .pointer (some q) => match q.off with
      | 0 => match o with
        | .int .u8 c => match eqB c 64 with
          | true => getN x (fun a H => match H with
            | [] => False
            | i :: H1 => match nth (Z ++ s.M) i with
              | none => False
              | some blk => match nth blk.cs 79 with
                | some u => match u with
                  | .int .u64 num => match nth blk.cs 178 with
                    | some hsv => atB q blk.b (inN num 18446744073709551616 (fun H => a + 1 < big ∧ hashX Z hsv s (fun r n H => newN (hvL num a r n) Q s H) H) H1)
                    | none => False
                  | _ => False
                | none => False) s H
          | false => False
        | _ => False
      | _ => False
    | _ => False
  | _ => False
theorem allIn_of : ∀ {l : List Int}, Dig l → AllIn l
  | [], h => trivial
  | x :: l, h => ⟨h x (by simp), allIn_of fun n hn => h n (by simp [hn])⟩
theorem Inv.numberX (hi : Inv (nmH S) w0 (s.z Z G) w) {v : Value} {n : Int} (hn : nmH (fun b => S b ∨ ∃ k ∈ (s.z Z G).M, k.b = b) w v n) (hv : ∃ a l c, v = .slice a l c) : Inv (nmH S) w0 (({ s with N := (v, n) :: s.N } : St).z Z G) w := by
  refine ⟨hi.below, hi.mem, hi.apart, fun p hp => ?_, hi.rd⟩
  rcases List.mem_cons.1 hp with rfl | hp
  · obtain ⟨a, l, c, rfl⟩ := hv
    intro w2 hs hbk
    refine ⟨⟨isN_keep hn.1.1 fun x l' c' e hl => ?_, hn.1.2⟩, fun x hx hSx => hn.2 x hx (.inl hSx)⟩
    cases e
    exact hbk x.block (isN_block hn.1.1) (fun k hk e => hn.2 x rfl (.inr ⟨k, hk, e⟩))
  · exact hi.num p hp
theorem hashX_ok {v : Value} {K : List Int → Nat → Hs → Prop} (h : hashX Z v s K H) (hi : Inv (nmH S) w0 (s.z Z G) w) : ∃ r n hb H', K r n H' ∧ n ≤ 4 ∧ v = hcell hb n ∧ r.length = 32 * n ∧ Dig r ∧ ∀ i j, i < n → j < 32 → w.cell? ⟨hb, 32 * i + j, none⟩ = some (.int .u8 (r.getD (32 * i + j) 0)) := by
  unfold hashX at h
  split at h
  · split at h
    · split at h
      · split at h
        · exact ⟨[], 0, 0, _, h, by omega, rfl, rfl, fun n hn => (by cases hn), fun i j hi => by omega⟩
        · exact h.elim
      · exact h.elim
    · rename_i n
      split at h
      · exact h.elim
      · rename_i q
        split at h
        · rename_i ho
          split at h
          · rename_i h4
            split at h
            · rename_i hc
              split at h
              · exact h.elim
              · split at h
                · rename_i b2 hb2
                  rw [nth_eq] at hb2
                  split at h
                  · rename_i l hl
                    obtain ⟨he, h⟩ := atB_ok h
                    obtain ⟨r, H2, hr, hd, h⟩ := bytesN_ok h
                    obtain ⟨h1, h2⟩ := cutL_get hl
                    have hlen : r.length = 32 * (n + 1) := by rw [← h1, hr, List.length_map]
                    refine ⟨r, n + 1, b2.b, H2, h, Nat.le_of_ble_eq_true h4, ?_, hlen, hd, fun i j hi' hj => ?_⟩
                    · rw [addr_eq he, ho, Nat.eq_of_beq_eq_true hc]
                      rfl
                    · have hlt : 32 * i + j < r.length := by omega
                      have := hi.cell (zl hb2) (h2 (32 * i + j) (.int .u8 (r.getD (32 * i + j) 0)) (by
                        rw [hr, List.getElem?_map, List.getElem?_eq_getElem hlt]
                        simp [List.getD_eq_getElem?_getD, hlt]))
                      rw [Nat.zero_add] at this
                      exact this
                  · exact h.elim
                · exact h.elim
            · exact h.elim
          · exact h.elim
        · exact h.elim
  · exact h.elim
theorem bv_ok : SpecOK 161 bvX := by
  intro S w0 hS Z G args Q s H w h hi
  unfold bvX at h
  split at h
  · rename_i p o x hargs
    rw [arr_eq hargs]
    split at h
    · rename_i q
      split at h
      · rename_i hoff
        split at h
        · rename_i c
          split at h
          · rename_i hc
            rw [eqB_eq] at hc
            obtain rfl := of_decide_eq_true hc
            obtain ⟨aa, al, ac, aN, H1, rfl, h, ha, haS⟩ := getN_out h hi
            split at h
            · exact h.elim
            · split at h
              · exact h.elim
              · rename_i blk hblk
                rw [nth_eq] at hblk
                split at h
                · rename_i u hu
                  rw [nth_eq] at hu
                  split at h
                  · rename_i num
                    split at h
                    · rename_i hsv hh
                      rw [nth_eq] at hh
                      obtain ⟨he, h⟩ := atB_ok h
                      obtain ⟨h0, h1, H2, h⟩ := inN_ok h
                      obtain ⟨hab, h⟩ := h
                      obtain ⟨r, n, hb, H3, hK, hn4, rfl, hrl, hrd, hcells⟩ := hashX_ok h hi
                      have hq : q = ⟨blk.b, 0, none⟩ := by rw [addr_eq he, hoff]
                      rw [hq]
                      refine (bv_calls (S := fun b => S b ∨ ∃ k ∈ (s.z Z G).M, k.b = b) (sb := blk.b) (hb := hb) (n := n) (num := num) (aN := aN) (h := fun i j => r.getD (32 * i + j) 0) ?_ hn4 ha ?_ (hi.cell (zl hblk) hu) (hi.cell (zl hblk) hh) hcells ⟨h0, h1⟩ hab ?_).mono ?_
                      · rintro b (hb | ⟨k, hk, rfl⟩)
                        · exact Nat.lt_of_lt_of_le (hS b hb) hi.below.size
                        · exact (hi.mem k hk).lt
                      · rintro x hx (hSx | ⟨k, hk, e⟩)
                        · exact (haS x hx).1 hSx
                        · exact (haS x hx).2 k hk e
                      · intro i hin
                        refine allIn_of fun y hy => ?_
                        obtain ⟨j, hj, rfl⟩ := List.mem_map.1 hy
                        rw [List.mem_range] at hj
                        exact hrd.getD _
                      · rintro e w' ⟨a', l', c', rfl, hn, hbel⟩
                        have hi' := (hi.later hbel).numberX hn ⟨_, _, _, rfl⟩
                        have hbig : hvL num aN r n < big := hn.1.2
                        unfold newN at hK
                        split at hK
                        · exact hK.elim
                        · split at hK
                          · split at hK
                            · exact ⟨_, _, _, rfl, hK a' l' c', hi'⟩
                            · exact hK.elim
                          · exact ⟨_, _, _, rfl, hK.2 a' l' c', hi'⟩
                    · exact h.elim
                  · exact h.elim
                · exact h.elim
          · exact h.elim
        · exact h.elim
      · exact h.elim
    · exact h.elim
  · exact h.elim
end Go.Proofs.EX
