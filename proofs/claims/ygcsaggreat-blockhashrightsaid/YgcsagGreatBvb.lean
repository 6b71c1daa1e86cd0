/-
  'blockValue' at BLOCKHASH: what it gives.
-/
import Derived.Test.YgcsagGreatBva
namespace Go.Proofs.EX
open Go.RowKit Go.Proofs.YgcsagGreat
set_option linter.unusedVariables false
set_option maxRecDepth 100000
theorem ho_nil : ∀ p ∈ ([] : List Prop), p := fun p hp => by cases hp
theorem ho_cons {q : Prop} {l : List Prop} (h : q) (hl : ∀ p ∈ l, p) : ∀ p ∈ q :: l, p := fun p hp => by
  rcases List.mem_cons.1 hp with rfl | hp
  · exact h
  · exact hl p hp
/-- What is looked up among the hashes: the number itself must be one more than a by less than n. -/
def hv (num a : Int) (h : Nat → Nat → Int) (n : Nat) : Int := if num < a + 1 then 0 else if num - (a + 1) < n then beV ((List.range 32).map (h (num - (a + 1)).toNat)) else 0
variable {S : Nat → Prop} {w : World}
theorem bv_fin_nil {f : FuncId} {args : Array Value} {N : List (Value × Int)} {H : Hs} {R d : Nat} (hS : ∀ b, S b → b < w.heap.size) (hN : ∀ p ∈ N, Stab [] w (fun w => nmH S w p.1 p.2)) (hrun : EF Sagg.prog natSpecs2 R d [] f args (fun v s _ => v = .slice none 0 0) ⟨[], N⟩ H) : Calls Sagg.prog f args w (fun e w' => ∃ a l c, e = .returned (.slice a l c) ∧ nmH S w' (.slice a l c) 0 ∧ Below w.heap.size w w') := by
  refine (closed natSpecs2_ok hS hrun hN).mono ?_
  rintro e w' ⟨v, s', H', rfl, rfl, hi⟩
  exact ⟨_, _, _, rfl, ⟨⟨(nil_isF (B := 0)).1, Int.pow_pos (by omega)⟩, fun x hx => (by cases hx)⟩, hi.below⟩
theorem bv_fin_num {f : FuncId} {args : Array Value} {N : List (Value × Int)} {H : Hs} {R d : Nat} {t : Int} (hS : ∀ b, S b → b < w.heap.size) (hN : ∀ p ∈ N, Stab [] w (fun w => nmH S w p.1 p.2)) (hrun : EF Sagg.prog natSpecs2 R d [] f args (fun v s _ => match nth s.N 0 with | some p => (match p.1 with | .slice _ _ _ => v = p.1 ∧ p.2 = t | _ => False) | none => False) ⟨[], N⟩ H) : Calls Sagg.prog f args w (fun e w' => ∃ a l c, e = .returned (.slice a l c) ∧ nmH S w' (.slice a l c) t ∧ Below w.heap.size w w') := by
  refine (closed natSpecs2_ok hS hrun hN).mono ?_
  rintro e w' ⟨v, s', H', rfl, hq, hi⟩
  split at hq
  · rename_i p hp
    split at hq
    · rename_i a l c hp1
      obtain ⟨rfl, rfl⟩ := hq
      rw [nth_eq] at hp
      have := hi.now (List.mem_of_getElem? hp)
      rw [hp1] at this ⊢
      exact ⟨_, _, _, rfl, this, hi.below⟩
    · exact hq.elim
  · exact hq.elim
theorem num_big {x : Int} (h : x < 18446744073709551616) : x < big := by
  have : (18446744073709551616 : Int) ≤ big := by
    rw [big_eq]
    exact pow256_mono (a := 8) (b := 128) (by omega)
  omega
theorem beV_big {l : List Int} (h : AllIn l) (hl : l.length = 32) : beV l < big := by
  rw [beV_eq, big_eq]
  have hd : Dig l.reverse := fun n hn => allIn_ok h n (List.mem_reverse.1 hn)
  have h1 := val_lt hd
  rw [List.length_reverse, hl] at h1
  have h2 := pow256_mono (a := 32) (b := 128) (by omega)
  unfold valB
  omega
theorem bv_0_f_run (sb hb : Nat) (num aN : Int) (h : Nat → Nat → Int) (aa : Option Addr) (al ac : Nat) (hnum : 0 ≤ num ∧ num < 18446744073709551616) (hab : aN + 1 < big) (hh : ∀ i, i < 0 → AllIn ((List.range 32).map (h i))) (ha : 0 ≤ aN) (hlt : num < aN + 1) : EF Sagg.prog natSpecs2 50 20 [] 161 #[.pointer (some ⟨sb, 0, none⟩), .int .u8 64, .slice aa al ac] (fun v s _ => v = .slice none 0 0) ⟨[], (.slice aa al ac, aN) :: bvN sb hb num h 0⟩ [nat_lit 0, nat_lit 400, nat_lit 1, nat_lit 0, nat_lit 1, nat_lit 1, nat_lit 0, nat_lit 0, nat_lit 0, nat_lit 3, nat_lit 1, nat_lit 1, nat_lit 3, nat_lit 1, nat_lit 2] := by
  have hnb : num < big := num_big hnum.2
  have hdb : num - (aN + 1) < big := by omega
  refine of_eq (bv_0_f sb hb num aN h aa al ac) ?_
  refine build_ok (r := [true, true, true, true]) ?_ _ _ (by kernel_rfl) (fun _ _ => rfl)
  exact (ho_cons (rfl) (ho_cons (hnum) (ho_cons (hnb) (ho_cons (hab) (ho_cons (hlt) ho_nil)))))
theorem bv_0_g_run (sb hb : Nat) (num aN : Int) (h : Nat → Nat → Int) (aa : Option Addr) (al ac : Nat) (hnum : 0 ≤ num ∧ num < 18446744073709551616) (hab : aN + 1 < big) (hh : ∀ i, i < 0 → AllIn ((List.range 32).map (h i))) (ha : 0 ≤ aN) (hle : aN + 1 ≤ num) (hge : (0 : Int) ≤ num - (aN + 1)) : EF Sagg.prog natSpecs2 50 20 [] 161 #[.pointer (some ⟨sb, 0, none⟩), .int .u8 64, .slice aa al ac] (fun v s _ => v = .slice none 0 0) ⟨[], (.slice aa al ac, aN) :: bvN sb hb num h 0⟩ [nat_lit 0, nat_lit 400, nat_lit 1, nat_lit 0, nat_lit 1, nat_lit 1, nat_lit 0, nat_lit 0, nat_lit 0, nat_lit 3, nat_lit 1, nat_lit 1, nat_lit 3, nat_lit 1, nat_lit 1, nat_lit 1, nat_lit 400, nat_lit 6, nat_lit 1, nat_lit 1] := by
  have hnb : num < big := num_big hnum.2
  have hdb : num - (aN + 1) < big := by omega
  refine of_eq (bv_0_g sb hb num aN h aa al ac) ?_
  refine build_ok (r := [true, true, true, true, true]) ?_ _ _ (by kernel_rfl) (fun _ _ => rfl)
  exact (ho_cons (rfl) (ho_cons (hnum) (ho_cons (hnb) (ho_cons (hab) (ho_cons (hle) (ho_cons (hdb) (ho_cons (rfl) (ho_cons (hge) ho_nil))))))))
theorem bv_1_f_run (sb hb : Nat) (num aN : Int) (h : Nat → Nat → Int) (aa : Option Addr) (al ac : Nat) (hnum : 0 ≤ num ∧ num < 18446744073709551616) (hab : aN + 1 < big) (hh : ∀ i, i < 1 → AllIn ((List.range 32).map (h i))) (ha : 0 ≤ aN) (hlt : num < aN + 1) : EF Sagg.prog natSpecs2 50 20 [] 161 #[.pointer (some ⟨sb, 0, none⟩), .int .u8 64, .slice aa al ac] (fun v s _ => v = .slice none 0 0) ⟨[], (.slice aa al ac, aN) :: bvN sb hb num h 1⟩ [nat_lit 0, nat_lit 400, nat_lit 1, nat_lit 0, nat_lit 1, nat_lit 1, nat_lit 0, nat_lit 0, nat_lit 0, nat_lit 3, nat_lit 1, nat_lit 1, nat_lit 3, nat_lit 1, nat_lit 2] := by
  have hnb : num < big := num_big hnum.2
  have hdb : num - (aN + 1) < big := by omega
  refine of_eq (bv_1_f sb hb num aN h aa al ac) ?_
  refine build_ok (r := [true, true, true, true]) ?_ _ _ (by kernel_rfl) (fun _ _ => rfl)
  exact (ho_cons (rfl) (ho_cons (hnum) (ho_cons (hnb) (ho_cons (hab) (ho_cons (hlt) ho_nil)))))
theorem bv_1_g_run (sb hb : Nat) (num aN : Int) (h : Nat → Nat → Int) (aa : Option Addr) (al ac : Nat) (hnum : 0 ≤ num ∧ num < 18446744073709551616) (hab : aN + 1 < big) (hh : ∀ i, i < 1 → AllIn ((List.range 32).map (h i))) (ha : 0 ≤ aN) (hle : aN + 1 ≤ num) (hge : (1 : Int) ≤ num - (aN + 1)) : EF Sagg.prog natSpecs2 50 20 [] 161 #[.pointer (some ⟨sb, 0, none⟩), .int .u8 64, .slice aa al ac] (fun v s _ => v = .slice none 0 0) ⟨[], (.slice aa al ac, aN) :: bvN sb hb num h 1⟩ [nat_lit 0, nat_lit 400, nat_lit 1, nat_lit 0, nat_lit 1, nat_lit 1, nat_lit 0, nat_lit 0, nat_lit 0, nat_lit 3, nat_lit 1, nat_lit 1, nat_lit 3, nat_lit 1, nat_lit 1, nat_lit 1, nat_lit 400, nat_lit 6, nat_lit 1, nat_lit 1] := by
  have hnb : num < big := num_big hnum.2
  have hdb : num - (aN + 1) < big := by omega
  refine of_eq (bv_1_g sb hb num aN h aa al ac) ?_
  refine build_ok (r := [true, true, true, true, true]) ?_ _ _ (by kernel_rfl) (fun _ _ => rfl)
  exact (ho_cons (rfl) (ho_cons (hnum) (ho_cons (hnb) (ho_cons (hab) (ho_cons (hle) (ho_cons (hdb) (ho_cons (rfl) (ho_cons (hge) ho_nil))))))))
theorem bv_1_0_run (sb hb : Nat) (num aN : Int) (h : Nat → Nat → Int) (aa : Option Addr) (al ac : Nat) (hnum : 0 ≤ num ∧ num < 18446744073709551616) (hab : aN + 1 < big) (hh : ∀ i, i < 1 → AllIn ((List.range 32).map (h i))) (ha : 0 ≤ aN) (hle : aN + 1 ≤ num) (heq : num - (aN + 1) = Int.ofNat 0) : EF Sagg.prog natSpecs2 50 20 [] 161 #[.pointer (some ⟨sb, 0, none⟩), .int .u8 64, .slice aa al ac] (fun v s _ => match nth s.N 0 with | some p => (match p.1 with | .slice _ _ _ => v = p.1 ∧ p.2 = beV ((List.range 32).map (h 0)) | _ => False) | none => False) ⟨[], (.slice aa al ac, aN) :: bvN sb hb num h 1⟩ [nat_lit 0, nat_lit 400, nat_lit 1, nat_lit 0, nat_lit 1, nat_lit 1, nat_lit 0, nat_lit 0, nat_lit 0, nat_lit 3, nat_lit 1, nat_lit 1, nat_lit 3, nat_lit 1, nat_lit 1, nat_lit 1, nat_lit 400, nat_lit 6, nat_lit 1, nat_lit 2, nat_lit 400, nat_lit 6, nat_lit 400, nat_lit 7, nat_lit 1, nat_lit 1] := by
  have hnb : num < big := num_big hnum.2
  have hdb : num - (aN + 1) < big := by omega
  refine of_eq (bv_1_0 sb hb num aN h aa al ac) ?_
  refine build_ok (r := [true, true, true, true, true, true]) ?_ _ _ (by kernel_rfl) (fun _ _ => ⟨rfl, rfl⟩)
  exact (ho_cons (rfl) (ho_cons (hnum) (ho_cons (hnb) (ho_cons (hab) (ho_cons (hle) (ho_cons (hdb) (ho_cons (rfl) (ho_cons (heq) (ho_cons (rfl) (ho_cons (hh 0 (by omega)) (ho_cons (beV_big (hh 0 (by omega)) rfl) ho_nil)))))))))))
theorem bv_2_f_run (sb hb : Nat) (num aN : Int) (h : Nat → Nat → Int) (aa : Option Addr) (al ac : Nat) (hnum : 0 ≤ num ∧ num < 18446744073709551616) (hab : aN + 1 < big) (hh : ∀ i, i < 2 → AllIn ((List.range 32).map (h i))) (ha : 0 ≤ aN) (hlt : num < aN + 1) : EF Sagg.prog natSpecs2 50 20 [] 161 #[.pointer (some ⟨sb, 0, none⟩), .int .u8 64, .slice aa al ac] (fun v s _ => v = .slice none 0 0) ⟨[], (.slice aa al ac, aN) :: bvN sb hb num h 2⟩ [nat_lit 0, nat_lit 400, nat_lit 1, nat_lit 0, nat_lit 1, nat_lit 1, nat_lit 0, nat_lit 0, nat_lit 0, nat_lit 3, nat_lit 1, nat_lit 1, nat_lit 3, nat_lit 1, nat_lit 2] := by
  have hnb : num < big := num_big hnum.2
  have hdb : num - (aN + 1) < big := by omega
  refine of_eq (bv_2_f sb hb num aN h aa al ac) ?_
  refine build_ok (r := [true, true, true, true]) ?_ _ _ (by kernel_rfl) (fun _ _ => rfl)
  exact (ho_cons (rfl) (ho_cons (hnum) (ho_cons (hnb) (ho_cons (hab) (ho_cons (hlt) ho_nil)))))
theorem bv_2_g_run (sb hb : Nat) (num aN : Int) (h : Nat → Nat → Int) (aa : Option Addr) (al ac : Nat) (hnum : 0 ≤ num ∧ num < 18446744073709551616) (hab : aN + 1 < big) (hh : ∀ i, i < 2 → AllIn ((List.range 32).map (h i))) (ha : 0 ≤ aN) (hle : aN + 1 ≤ num) (hge : (2 : Int) ≤ num - (aN + 1)) : EF Sagg.prog natSpecs2 50 20 [] 161 #[.pointer (some ⟨sb, 0, none⟩), .int .u8 64, .slice aa al ac] (fun v s _ => v = .slice none 0 0) ⟨[], (.slice aa al ac, aN) :: bvN sb hb num h 2⟩ [nat_lit 0, nat_lit 400, nat_lit 1, nat_lit 0, nat_lit 1, nat_lit 1, nat_lit 0, nat_lit 0, nat_lit 0, nat_lit 3, nat_lit 1, nat_lit 1, nat_lit 3, nat_lit 1, nat_lit 1, nat_lit 1, nat_lit 400, nat_lit 6, nat_lit 1, nat_lit 1] := by
  have hnb : num < big := num_big hnum.2
  have hdb : num - (aN + 1) < big := by omega
  refine of_eq (bv_2_g sb hb num aN h aa al ac) ?_
  refine build_ok (r := [true, true, true, true, true]) ?_ _ _ (by kernel_rfl) (fun _ _ => rfl)
  exact (ho_cons (rfl) (ho_cons (hnum) (ho_cons (hnb) (ho_cons (hab) (ho_cons (hle) (ho_cons (hdb) (ho_cons (rfl) (ho_cons (hge) ho_nil))))))))
theorem bv_2_0_run (sb hb : Nat) (num aN : Int) (h : Nat → Nat → Int) (aa : Option Addr) (al ac : Nat) (hnum : 0 ≤ num ∧ num < 18446744073709551616) (hab : aN + 1 < big) (hh : ∀ i, i < 2 → AllIn ((List.range 32).map (h i))) (ha : 0 ≤ aN) (hle : aN + 1 ≤ num) (heq : num - (aN + 1) = Int.ofNat 0) : EF Sagg.prog natSpecs2 50 20 [] 161 #[.pointer (some ⟨sb, 0, none⟩), .int .u8 64, .slice aa al ac] (fun v s _ => match nth s.N 0 with | some p => (match p.1 with | .slice _ _ _ => v = p.1 ∧ p.2 = beV ((List.range 32).map (h 0)) | _ => False) | none => False) ⟨[], (.slice aa al ac, aN) :: bvN sb hb num h 2⟩ [nat_lit 0, nat_lit 400, nat_lit 1, nat_lit 0, nat_lit 1, nat_lit 1, nat_lit 0, nat_lit 0, nat_lit 0, nat_lit 3, nat_lit 1, nat_lit 1, nat_lit 3, nat_lit 1, nat_lit 1, nat_lit 1, nat_lit 400, nat_lit 6, nat_lit 1, nat_lit 2, nat_lit 400, nat_lit 6, nat_lit 400, nat_lit 7, nat_lit 1, nat_lit 1] := by
  have hnb : num < big := num_big hnum.2
  have hdb : num - (aN + 1) < big := by omega
  refine of_eq (bv_2_0 sb hb num aN h aa al ac) ?_
  refine build_ok (r := [true, true, true, true, true, true]) ?_ _ _ (by kernel_rfl) (fun _ _ => ⟨rfl, rfl⟩)
  exact (ho_cons (rfl) (ho_cons (hnum) (ho_cons (hnb) (ho_cons (hab) (ho_cons (hle) (ho_cons (hdb) (ho_cons (rfl) (ho_cons (heq) (ho_cons (rfl) (ho_cons (hh 0 (by omega)) (ho_cons (beV_big (hh 0 (by omega)) rfl) ho_nil)))))))))))
theorem bv_2_1_run (sb hb : Nat) (num aN : Int) (h : Nat → Nat → Int) (aa : Option Addr) (al ac : Nat) (hnum : 0 ≤ num ∧ num < 18446744073709551616) (hab : aN + 1 < big) (hh : ∀ i, i < 2 → AllIn ((List.range 32).map (h i))) (ha : 0 ≤ aN) (hle : aN + 1 ≤ num) (heq : num - (aN + 1) = Int.ofNat 1) : EF Sagg.prog natSpecs2 50 20 [] 161 #[.pointer (some ⟨sb, 0, none⟩), .int .u8 64, .slice aa al ac] (fun v s _ => match nth s.N 0 with | some p => (match p.1 with | .slice _ _ _ => v = p.1 ∧ p.2 = beV ((List.range 32).map (h 1)) | _ => False) | none => False) ⟨[], (.slice aa al ac, aN) :: bvN sb hb num h 2⟩ [nat_lit 0, nat_lit 400, nat_lit 1, nat_lit 0, nat_lit 1, nat_lit 1, nat_lit 0, nat_lit 0, nat_lit 0, nat_lit 3, nat_lit 1, nat_lit 1, nat_lit 3, nat_lit 1, nat_lit 1, nat_lit 1, nat_lit 400, nat_lit 6, nat_lit 1, nat_lit 3, nat_lit 400, nat_lit 6, nat_lit 400, nat_lit 8, nat_lit 1, nat_lit 1] := by
  have hnb : num < big := num_big hnum.2
  have hdb : num - (aN + 1) < big := by omega
  refine of_eq (bv_2_1 sb hb num aN h aa al ac) ?_
  refine build_ok (r := [true, true, true, true, true, true]) ?_ _ _ (by kernel_rfl) (fun _ _ => ⟨rfl, rfl⟩)
  exact (ho_cons (rfl) (ho_cons (hnum) (ho_cons (hnb) (ho_cons (hab) (ho_cons (hle) (ho_cons (hdb) (ho_cons (rfl) (ho_cons (heq) (ho_cons (rfl) (ho_cons (hh 1 (by omega)) (ho_cons (beV_big (hh 1 (by omega)) rfl) ho_nil)))))))))))
theorem bv_3_f_run (sb hb : Nat) (num aN : Int) (h : Nat → Nat → Int) (aa : Option Addr) (al ac : Nat) (hnum : 0 ≤ num ∧ num < 18446744073709551616) (hab : aN + 1 < big) (hh : ∀ i, i < 3 → AllIn ((List.range 32).map (h i))) (ha : 0 ≤ aN) (hlt : num < aN + 1) : EF Sagg.prog natSpecs2 50 20 [] 161 #[.pointer (some ⟨sb, 0, none⟩), .int .u8 64, .slice aa al ac] (fun v s _ => v = .slice none 0 0) ⟨[], (.slice aa al ac, aN) :: bvN sb hb num h 3⟩ [nat_lit 0, nat_lit 400, nat_lit 1, nat_lit 0, nat_lit 1, nat_lit 1, nat_lit 0, nat_lit 0, nat_lit 0, nat_lit 3, nat_lit 1, nat_lit 1, nat_lit 3, nat_lit 1, nat_lit 2] := by
  have hnb : num < big := num_big hnum.2
  have hdb : num - (aN + 1) < big := by omega
  refine of_eq (bv_3_f sb hb num aN h aa al ac) ?_
  refine build_ok (r := [true, true, true, true]) ?_ _ _ (by kernel_rfl) (fun _ _ => rfl)
  exact (ho_cons (rfl) (ho_cons (hnum) (ho_cons (hnb) (ho_cons (hab) (ho_cons (hlt) ho_nil)))))
theorem bv_3_g_run (sb hb : Nat) (num aN : Int) (h : Nat → Nat → Int) (aa : Option Addr) (al ac : Nat) (hnum : 0 ≤ num ∧ num < 18446744073709551616) (hab : aN + 1 < big) (hh : ∀ i, i < 3 → AllIn ((List.range 32).map (h i))) (ha : 0 ≤ aN) (hle : aN + 1 ≤ num) (hge : (3 : Int) ≤ num - (aN + 1)) : EF Sagg.prog natSpecs2 50 20 [] 161 #[.pointer (some ⟨sb, 0, none⟩), .int .u8 64, .slice aa al ac] (fun v s _ => v = .slice none 0 0) ⟨[], (.slice aa al ac, aN) :: bvN sb hb num h 3⟩ [nat_lit 0, nat_lit 400, nat_lit 1, nat_lit 0, nat_lit 1, nat_lit 1, nat_lit 0, nat_lit 0, nat_lit 0, nat_lit 3, nat_lit 1, nat_lit 1, nat_lit 3, nat_lit 1, nat_lit 1, nat_lit 1, nat_lit 400, nat_lit 6, nat_lit 1, nat_lit 1] := by
  have hnb : num < big := num_big hnum.2
  have hdb : num - (aN + 1) < big := by omega
  refine of_eq (bv_3_g sb hb num aN h aa al ac) ?_
  refine build_ok (r := [true, true, true, true, true]) ?_ _ _ (by kernel_rfl) (fun _ _ => rfl)
  exact (ho_cons (rfl) (ho_cons (hnum) (ho_cons (hnb) (ho_cons (hab) (ho_cons (hle) (ho_cons (hdb) (ho_cons (rfl) (ho_cons (hge) ho_nil))))))))
theorem bv_3_0_run (sb hb : Nat) (num aN : Int) (h : Nat → Nat → Int) (aa : Option Addr) (al ac : Nat) (hnum : 0 ≤ num ∧ num < 18446744073709551616) (hab : aN + 1 < big) (hh : ∀ i, i < 3 → AllIn ((List.range 32).map (h i))) (ha : 0 ≤ aN) (hle : aN + 1 ≤ num) (heq : num - (aN + 1) = Int.ofNat 0) : EF Sagg.prog natSpecs2 50 20 [] 161 #[.pointer (some ⟨sb, 0, none⟩), .int .u8 64, .slice aa al ac] (fun v s _ => match nth s.N 0 with | some p => (match p.1 with | .slice _ _ _ => v = p.1 ∧ p.2 = beV ((List.range 32).map (h 0)) | _ => False) | none => False) ⟨[], (.slice aa al ac, aN) :: bvN sb hb num h 3⟩ [nat_lit 0, nat_lit 400, nat_lit 1, nat_lit 0, nat_lit 1, nat_lit 1, nat_lit 0, nat_lit 0, nat_lit 0, nat_lit 3, nat_lit 1, nat_lit 1, nat_lit 3, nat_lit 1, nat_lit 1, nat_lit 1, nat_lit 400, nat_lit 6, nat_lit 1, nat_lit 2, nat_lit 400, nat_lit 6, nat_lit 400, nat_lit 7, nat_lit 1, nat_lit 1] := by
  have hnb : num < big := num_big hnum.2
  have hdb : num - (aN + 1) < big := by omega
  refine of_eq (bv_3_0 sb hb num aN h aa al ac) ?_
  refine build_ok (r := [true, true, true, true, true, true]) ?_ _ _ (by kernel_rfl) (fun _ _ => ⟨rfl, rfl⟩)
  exact (ho_cons (rfl) (ho_cons (hnum) (ho_cons (hnb) (ho_cons (hab) (ho_cons (hle) (ho_cons (hdb) (ho_cons (rfl) (ho_cons (heq) (ho_cons (rfl) (ho_cons (hh 0 (by omega)) (ho_cons (beV_big (hh 0 (by omega)) rfl) ho_nil)))))))))))
theorem bv_3_1_run (sb hb : Nat) (num aN : Int) (h : Nat → Nat → Int) (aa : Option Addr) (al ac : Nat) (hnum : 0 ≤ num ∧ num < 18446744073709551616) (hab : aN + 1 < big) (hh : ∀ i, i < 3 → AllIn ((List.range 32).map (h i))) (ha : 0 ≤ aN) (hle : aN + 1 ≤ num) (heq : num - (aN + 1) = Int.ofNat 1) : EF Sagg.prog natSpecs2 50 20 [] 161 #[.pointer (some ⟨sb, 0, none⟩), .int .u8 64, .slice aa al ac] (fun v s _ => match nth s.N 0 with | some p => (match p.1 with | .slice _ _ _ => v = p.1 ∧ p.2 = beV ((List.range 32).map (h 1)) | _ => False) | none => False) ⟨[], (.slice aa al ac, aN) :: bvN sb hb num h 3⟩ [nat_lit 0, nat_lit 400, nat_lit 1, nat_lit 0, nat_lit 1, nat_lit 1, nat_lit 0, nat_lit 0, nat_lit 0, nat_lit 3, nat_lit 1, nat_lit 1, nat_lit 3, nat_lit 1, nat_lit 1, nat_lit 1, nat_lit 400, nat_lit 6, nat_lit 1, nat_lit 3, nat_lit 400, nat_lit 6, nat_lit 400, nat_lit 8, nat_lit 1, nat_lit 1] := by
  have hnb : num < big := num_big hnum.2
  have hdb : num - (aN + 1) < big := by omega
  refine of_eq (bv_3_1 sb hb num aN h aa al ac) ?_
  refine build_ok (r := [true, true, true, true, true, true]) ?_ _ _ (by kernel_rfl) (fun _ _ => ⟨rfl, rfl⟩)
  exact (ho_cons (rfl) (ho_cons (hnum) (ho_cons (hnb) (ho_cons (hab) (ho_cons (hle) (ho_cons (hdb) (ho_cons (rfl) (ho_cons (heq) (ho_cons (rfl) (ho_cons (hh 1 (by omega)) (ho_cons (beV_big (hh 1 (by omega)) rfl) ho_nil)))))))))))
theorem bv_3_2_run (sb hb : Nat) (num aN : Int) (h : Nat → Nat → Int) (aa : Option Addr) (al ac : Nat) (hnum : 0 ≤ num ∧ num < 18446744073709551616) (hab : aN + 1 < big) (hh : ∀ i, i < 3 → AllIn ((List.range 32).map (h i))) (ha : 0 ≤ aN) (hle : aN + 1 ≤ num) (heq : num - (aN + 1) = Int.ofNat 2) : EF Sagg.prog natSpecs2 50 20 [] 161 #[.pointer (some ⟨sb, 0, none⟩), .int .u8 64, .slice aa al ac] (fun v s _ => match nth s.N 0 with | some p => (match p.1 with | .slice _ _ _ => v = p.1 ∧ p.2 = beV ((List.range 32).map (h 2)) | _ => False) | none => False) ⟨[], (.slice aa al ac, aN) :: bvN sb hb num h 3⟩ [nat_lit 0, nat_lit 400, nat_lit 1, nat_lit 0, nat_lit 1, nat_lit 1, nat_lit 0, nat_lit 0, nat_lit 0, nat_lit 3, nat_lit 1, nat_lit 1, nat_lit 3, nat_lit 1, nat_lit 1, nat_lit 1, nat_lit 400, nat_lit 6, nat_lit 1, nat_lit 4, nat_lit 400, nat_lit 6, nat_lit 400, nat_lit 9, nat_lit 1, nat_lit 1] := by
  have hnb : num < big := num_big hnum.2
  have hdb : num - (aN + 1) < big := by omega
  refine of_eq (bv_3_2 sb hb num aN h aa al ac) ?_
  refine build_ok (r := [true, true, true, true, true, true]) ?_ _ _ (by kernel_rfl) (fun _ _ => ⟨rfl, rfl⟩)
  exact (ho_cons (rfl) (ho_cons (hnum) (ho_cons (hnb) (ho_cons (hab) (ho_cons (hle) (ho_cons (hdb) (ho_cons (rfl) (ho_cons (heq) (ho_cons (rfl) (ho_cons (hh 2 (by omega)) (ho_cons (beV_big (hh 2 (by omega)) rfl) ho_nil)))))))))))
theorem bv_4_f_run (sb hb : Nat) (num aN : Int) (h : Nat → Nat → Int) (aa : Option Addr) (al ac : Nat) (hnum : 0 ≤ num ∧ num < 18446744073709551616) (hab : aN + 1 < big) (hh : ∀ i, i < 4 → AllIn ((List.range 32).map (h i))) (ha : 0 ≤ aN) (hlt : num < aN + 1) : EF Sagg.prog natSpecs2 50 20 [] 161 #[.pointer (some ⟨sb, 0, none⟩), .int .u8 64, .slice aa al ac] (fun v s _ => v = .slice none 0 0) ⟨[], (.slice aa al ac, aN) :: bvN sb hb num h 4⟩ [nat_lit 0, nat_lit 400, nat_lit 1, nat_lit 0, nat_lit 1, nat_lit 1, nat_lit 0, nat_lit 0, nat_lit 0, nat_lit 3, nat_lit 1, nat_lit 1, nat_lit 3, nat_lit 1, nat_lit 2] := by
  have hnb : num < big := num_big hnum.2
  have hdb : num - (aN + 1) < big := by omega
  refine of_eq (bv_4_f sb hb num aN h aa al ac) ?_
  refine build_ok (r := [true, true, true, true]) ?_ _ _ (by kernel_rfl) (fun _ _ => rfl)
  exact (ho_cons (rfl) (ho_cons (hnum) (ho_cons (hnb) (ho_cons (hab) (ho_cons (hlt) ho_nil)))))
theorem bv_4_g_run (sb hb : Nat) (num aN : Int) (h : Nat → Nat → Int) (aa : Option Addr) (al ac : Nat) (hnum : 0 ≤ num ∧ num < 18446744073709551616) (hab : aN + 1 < big) (hh : ∀ i, i < 4 → AllIn ((List.range 32).map (h i))) (ha : 0 ≤ aN) (hle : aN + 1 ≤ num) (hge : (4 : Int) ≤ num - (aN + 1)) : EF Sagg.prog natSpecs2 50 20 [] 161 #[.pointer (some ⟨sb, 0, none⟩), .int .u8 64, .slice aa al ac] (fun v s _ => v = .slice none 0 0) ⟨[], (.slice aa al ac, aN) :: bvN sb hb num h 4⟩ [nat_lit 0, nat_lit 400, nat_lit 1, nat_lit 0, nat_lit 1, nat_lit 1, nat_lit 0, nat_lit 0, nat_lit 0, nat_lit 3, nat_lit 1, nat_lit 1, nat_lit 3, nat_lit 1, nat_lit 1, nat_lit 1, nat_lit 400, nat_lit 6, nat_lit 1, nat_lit 1] := by
  have hnb : num < big := num_big hnum.2
  have hdb : num - (aN + 1) < big := by omega
  refine of_eq (bv_4_g sb hb num aN h aa al ac) ?_
  refine build_ok (r := [true, true, true, true, true]) ?_ _ _ (by kernel_rfl) (fun _ _ => rfl)
  exact (ho_cons (rfl) (ho_cons (hnum) (ho_cons (hnb) (ho_cons (hab) (ho_cons (hle) (ho_cons (hdb) (ho_cons (rfl) (ho_cons (hge) ho_nil))))))))
theorem bv_4_0_run (sb hb : Nat) (num aN : Int) (h : Nat → Nat → Int) (aa : Option Addr) (al ac : Nat) (hnum : 0 ≤ num ∧ num < 18446744073709551616) (hab : aN + 1 < big) (hh : ∀ i, i < 4 → AllIn ((List.range 32).map (h i))) (ha : 0 ≤ aN) (hle : aN + 1 ≤ num) (heq : num - (aN + 1) = Int.ofNat 0) : EF Sagg.prog natSpecs2 50 20 [] 161 #[.pointer (some ⟨sb, 0, none⟩), .int .u8 64, .slice aa al ac] (fun v s _ => match nth s.N 0 with | some p => (match p.1 with | .slice _ _ _ => v = p.1 ∧ p.2 = beV ((List.range 32).map (h 0)) | _ => False) | none => False) ⟨[], (.slice aa al ac, aN) :: bvN sb hb num h 4⟩ [nat_lit 0, nat_lit 400, nat_lit 1, nat_lit 0, nat_lit 1, nat_lit 1, nat_lit 0, nat_lit 0, nat_lit 0, nat_lit 3, nat_lit 1, nat_lit 1, nat_lit 3, nat_lit 1, nat_lit 1, nat_lit 1, nat_lit 400, nat_lit 6, nat_lit 1, nat_lit 2, nat_lit 400, nat_lit 6, nat_lit 400, nat_lit 7, nat_lit 1, nat_lit 1] := by
  have hnb : num < big := num_big hnum.2
  have hdb : num - (aN + 1) < big := by omega
  refine of_eq (bv_4_0 sb hb num aN h aa al ac) ?_
  refine build_ok (r := [true, true, true, true, true, true]) ?_ _ _ (by kernel_rfl) (fun _ _ => ⟨rfl, rfl⟩)
  exact (ho_cons (rfl) (ho_cons (hnum) (ho_cons (hnb) (ho_cons (hab) (ho_cons (hle) (ho_cons (hdb) (ho_cons (rfl) (ho_cons (heq) (ho_cons (rfl) (ho_cons (hh 0 (by omega)) (ho_cons (beV_big (hh 0 (by omega)) rfl) ho_nil)))))))))))
theorem bv_4_1_run (sb hb : Nat) (num aN : Int) (h : Nat → Nat → Int) (aa : Option Addr) (al ac : Nat) (hnum : 0 ≤ num ∧ num < 18446744073709551616) (hab : aN + 1 < big) (hh : ∀ i, i < 4 → AllIn ((List.range 32).map (h i))) (ha : 0 ≤ aN) (hle : aN + 1 ≤ num) (heq : num - (aN + 1) = Int.ofNat 1) : EF Sagg.prog natSpecs2 50 20 [] 161 #[.pointer (some ⟨sb, 0, none⟩), .int .u8 64, .slice aa al ac] (fun v s _ => match nth s.N 0 with | some p => (match p.1 with | .slice _ _ _ => v = p.1 ∧ p.2 = beV ((List.range 32).map (h 1)) | _ => False) | none => False) ⟨[], (.slice aa al ac, aN) :: bvN sb hb num h 4⟩ [nat_lit 0, nat_lit 400, nat_lit 1, nat_lit 0, nat_lit 1, nat_lit 1, nat_lit 0, nat_lit 0, nat_lit 0, nat_lit 3, nat_lit 1, nat_lit 1, nat_lit 3, nat_lit 1, nat_lit 1, nat_lit 1, nat_lit 400, nat_lit 6, nat_lit 1, nat_lit 3, nat_lit 400, nat_lit 6, nat_lit 400, nat_lit 8, nat_lit 1, nat_lit 1] := by
  have hnb : num < big := num_big hnum.2
  have hdb : num - (aN + 1) < big := by omega
  refine of_eq (bv_4_1 sb hb num aN h aa al ac) ?_
  refine build_ok (r := [true, true, true, true, true, true]) ?_ _ _ (by kernel_rfl) (fun _ _ => ⟨rfl, rfl⟩)
  exact (ho_cons (rfl) (ho_cons (hnum) (ho_cons (hnb) (ho_cons (hab) (ho_cons (hle) (ho_cons (hdb) (ho_cons (rfl) (ho_cons (heq) (ho_cons (rfl) (ho_cons (hh 1 (by omega)) (ho_cons (beV_big (hh 1 (by omega)) rfl) ho_nil)))))))))))
theorem bv_4_2_run (sb hb : Nat) (num aN : Int) (h : Nat → Nat → Int) (aa : Option Addr) (al ac : Nat) (hnum : 0 ≤ num ∧ num < 18446744073709551616) (hab : aN + 1 < big) (hh : ∀ i, i < 4 → AllIn ((List.range 32).map (h i))) (ha : 0 ≤ aN) (hle : aN + 1 ≤ num) (heq : num - (aN + 1) = Int.ofNat 2) : EF Sagg.prog natSpecs2 50 20 [] 161 #[.pointer (some ⟨sb, 0, none⟩), .int .u8 64, .slice aa al ac] (fun v s _ => match nth s.N 0 with | some p => (match p.1 with | .slice _ _ _ => v = p.1 ∧ p.2 = beV ((List.range 32).map (h 2)) | _ => False) | none => False) ⟨[], (.slice aa al ac, aN) :: bvN sb hb num h 4⟩ [nat_lit 0, nat_lit 400, nat_lit 1, nat_lit 0, nat_lit 1, nat_lit 1, nat_lit 0, nat_lit 0, nat_lit 0, nat_lit 3, nat_lit 1, nat_lit 1, nat_lit 3, nat_lit 1, nat_lit 1, nat_lit 1, nat_lit 400, nat_lit 6, nat_lit 1, nat_lit 4, nat_lit 400, nat_lit 6, nat_lit 400, nat_lit 9, nat_lit 1, nat_lit 1] := by
  have hnb : num < big := num_big hnum.2
  have hdb : num - (aN + 1) < big := by omega
  refine of_eq (bv_4_2 sb hb num aN h aa al ac) ?_
  refine build_ok (r := [true, true, true, true, true, true]) ?_ _ _ (by kernel_rfl) (fun _ _ => ⟨rfl, rfl⟩)
  exact (ho_cons (rfl) (ho_cons (hnum) (ho_cons (hnb) (ho_cons (hab) (ho_cons (hle) (ho_cons (hdb) (ho_cons (rfl) (ho_cons (heq) (ho_cons (rfl) (ho_cons (hh 2 (by omega)) (ho_cons (beV_big (hh 2 (by omega)) rfl) ho_nil)))))))))))
theorem bv_4_3_run (sb hb : Nat) (num aN : Int) (h : Nat → Nat → Int) (aa : Option Addr) (al ac : Nat) (hnum : 0 ≤ num ∧ num < 18446744073709551616) (hab : aN + 1 < big) (hh : ∀ i, i < 4 → AllIn ((List.range 32).map (h i))) (ha : 0 ≤ aN) (hle : aN + 1 ≤ num) (heq : num - (aN + 1) = Int.ofNat 3) : EF Sagg.prog natSpecs2 50 20 [] 161 #[.pointer (some ⟨sb, 0, none⟩), .int .u8 64, .slice aa al ac] (fun v s _ => match nth s.N 0 with | some p => (match p.1 with | .slice _ _ _ => v = p.1 ∧ p.2 = beV ((List.range 32).map (h 3)) | _ => False) | none => False) ⟨[], (.slice aa al ac, aN) :: bvN sb hb num h 4⟩ [nat_lit 0, nat_lit 400, nat_lit 1, nat_lit 0, nat_lit 1, nat_lit 1, nat_lit 0, nat_lit 0, nat_lit 0, nat_lit 3, nat_lit 1, nat_lit 1, nat_lit 3, nat_lit 1, nat_lit 1, nat_lit 1, nat_lit 400, nat_lit 6, nat_lit 1, nat_lit 5, nat_lit 400, nat_lit 6, nat_lit 400, nat_lit 10, nat_lit 1, nat_lit 1] := by
  have hnb : num < big := num_big hnum.2
  have hdb : num - (aN + 1) < big := by omega
  refine of_eq (bv_4_3 sb hb num aN h aa al ac) ?_
  refine build_ok (r := [true, true, true, true, true, true]) ?_ _ _ (by kernel_rfl) (fun _ _ => ⟨rfl, rfl⟩)
  exact (ho_cons (rfl) (ho_cons (hnum) (ho_cons (hnb) (ho_cons (hab) (ho_cons (hle) (ho_cons (hdb) (ho_cons (rfl) (ho_cons (heq) (ho_cons (rfl) (ho_cons (hh 3 (by omega)) (ho_cons (beV_big (hh 3 (by omega)) rfl) ho_nil)))))))))))
theorem bvN_nm {sb hb n : Nat} {num aN : Int} {h : Nat → Nat → Int} {aa : Option Addr} {al ac : Nat} (ha : nmN w (.slice aa al ac) aN) (haS : ∀ x, aa = some x → ¬ S x.block) (hc1 : w.cell? ⟨sb, 79, none⟩ = some (.int .u64 num)) (hc2 : w.cell? ⟨sb, 178, none⟩ = some (hcell hb n))
    (hc3 : ∀ i j, i < n → j < 32 → w.cell? ⟨hb, 32 * i + j, none⟩ = some (.int .u8 (h i j))) : ∀ p ∈ (.slice aa al ac, aN) :: bvN sb hb num h n, Stab [] w (fun w => nmH S w p.1 p.2) := by
  have one : ∀ (o : Nat) (v : Value), w.cell? ⟨sb, o, none⟩ = some v → ∀ p, p = win sb o [v] → Stab [] w (fun w => nmH S w p.1 p.2) := by
    intro o v hv p hp
    refine win_nm (b := sb) (o := o) (cs := #[v]) (c := 0) hp ?_
    intro j u hu
    have hj : j = 0 := by
      have := (Array.getElem?_eq_some_iff.1 hu).1
      simp at this
      exact this
    subst hj
    simp at hu
    subst hu
    exact hv
  intro p hp
  rcases List.mem_cons.1 hp with rfl | hp
  · exact num_nm ha (fun x l c e => by cases e; exact haS x rfl)
  · unfold bvN at hp
    rcases List.mem_cons.1 hp with hp | hp
    · exact one 79 _ hc1 p hp
    · rcases List.mem_cons.1 hp with hp | hp
      · exact one 178 _ hc2 p hp
      · obtain ⟨i, hi, rfl⟩ := List.mem_map.1 hp
        rw [List.mem_range] at hi
        refine win_nm (b := hb) (o := 32 * i) (cs := (hrow h i).toArray) (c := 0) rfl ?_
        intro j u hu
        have hj : j < 32 := by
          have := (Array.getElem?_eq_some_iff.1 hu).1
          simpa [hrow] using this
        have : u = .int .u8 (h i j) := by
          simp [hrow, hj] at hu
          exact hu.symm
        rw [this]
        exact hc3 i j hi hj
theorem bv_calls {sb hb n : Nat} {num aN : Int} {h : Nat → Nat → Int} {aa : Option Addr} {al ac : Nat} (hS : ∀ b, S b → b < w.heap.size) (hn4 : n ≤ 4) (ha : nmN w (.slice aa al ac) aN) (haS : ∀ x, aa = some x → ¬ S x.block) (hc1 : w.cell? ⟨sb, 79, none⟩ = some (.int .u64 num)) (hc2 : w.cell? ⟨sb, 178, none⟩ = some (hcell hb n))
    (hc3 : ∀ i j, i < n → j < 32 → w.cell? ⟨hb, 32 * i + j, none⟩ = some (.int .u8 (h i j))) (hnum : 0 ≤ num ∧ num < 18446744073709551616) (hab : aN + 1 < big) (hh : ∀ i, i < n → AllIn ((List.range 32).map (h i))) :
    Calls Sagg.prog 161 #[.pointer (some ⟨sb, 0, none⟩), .int .u8 64, .slice aa al ac] w fun e w' => ∃ a l c, e = .returned (.slice a l c) ∧ nmH S w' (.slice a l c) (hv num aN h n) ∧ Below w.heap.size w w' := by
  have hN := bvN_nm (S := S) ha haS hc1 hc2 hc3
  have h0 : 0 ≤ aN := by
    obtain ⟨zs, a, c, e, h1, h2, h3, h4, rfl, h6⟩ := nmN_open ha
    exact val_nonneg h3.1
  clear hc1 hc2 hc3
  unfold hv
  have hcase : n = 0 ∨ n = 1 ∨ n = 2 ∨ n = 3 ∨ n = 4 := by omega
  rcases hcase with rfl | rfl | rfl | rfl | rfl
  · by_cases hlt : num < aN + 1
    · rw [if_pos hlt]
      exact bv_fin_nil hS hN (bv_0_f_run sb hb num aN h aa al ac hnum hab hh h0 hlt)
    · rw [if_neg hlt]
      by_cases hge : ((0 : Nat) : Int) ≤ num - (aN + 1)
      · rw [if_neg (by omega)]
        exact bv_fin_nil hS hN (bv_0_g_run sb hb num aN h aa al ac hnum hab hh h0 (by omega) hge)
      · exact absurd hge (by omega)
  · by_cases hlt : num < aN + 1
    · rw [if_pos hlt]
      exact bv_fin_nil hS hN (bv_1_f_run sb hb num aN h aa al ac hnum hab hh h0 hlt)
    · rw [if_neg hlt]
      by_cases hge : ((1 : Nat) : Int) ≤ num - (aN + 1)
      · rw [if_neg (by omega)]
        exact bv_fin_nil hS hN (bv_1_g_run sb hb num aN h aa al ac hnum hab hh h0 (by omega) hge)
      · rw [if_pos (by omega)]
        have hk : num - (aN + 1) = 0 := by omega
        rcases hk with hk
        · rw [hk]
          exact bv_fin_num hS hN (bv_1_0_run sb hb num aN h aa al ac hnum hab hh h0 (by omega) hk)
  · by_cases hlt : num < aN + 1
    · rw [if_pos hlt]
      exact bv_fin_nil hS hN (bv_2_f_run sb hb num aN h aa al ac hnum hab hh h0 hlt)
    · rw [if_neg hlt]
      by_cases hge : ((2 : Nat) : Int) ≤ num - (aN + 1)
      · rw [if_neg (by omega)]
        exact bv_fin_nil hS hN (bv_2_g_run sb hb num aN h aa al ac hnum hab hh h0 (by omega) hge)
      · rw [if_pos (by omega)]
        have hk : num - (aN + 1) = 0 ∨ num - (aN + 1) = 1 := by omega
        rcases hk with hk | hk
        · rw [hk]
          exact bv_fin_num hS hN (bv_2_0_run sb hb num aN h aa al ac hnum hab hh h0 (by omega) hk)
        · rw [hk]
          exact bv_fin_num hS hN (bv_2_1_run sb hb num aN h aa al ac hnum hab hh h0 (by omega) hk)
  · by_cases hlt : num < aN + 1
    · rw [if_pos hlt]
      exact bv_fin_nil hS hN (bv_3_f_run sb hb num aN h aa al ac hnum hab hh h0 hlt)
    · rw [if_neg hlt]
      by_cases hge : ((3 : Nat) : Int) ≤ num - (aN + 1)
      · rw [if_neg (by omega)]
        exact bv_fin_nil hS hN (bv_3_g_run sb hb num aN h aa al ac hnum hab hh h0 (by omega) hge)
      · rw [if_pos (by omega)]
        have hk : num - (aN + 1) = 0 ∨ num - (aN + 1) = 1 ∨ num - (aN + 1) = 2 := by omega
        rcases hk with hk | hk | hk
        · rw [hk]
          exact bv_fin_num hS hN (bv_3_0_run sb hb num aN h aa al ac hnum hab hh h0 (by omega) hk)
        · rw [hk]
          exact bv_fin_num hS hN (bv_3_1_run sb hb num aN h aa al ac hnum hab hh h0 (by omega) hk)
        · rw [hk]
          exact bv_fin_num hS hN (bv_3_2_run sb hb num aN h aa al ac hnum hab hh h0 (by omega) hk)
  · by_cases hlt : num < aN + 1
    · rw [if_pos hlt]
      exact bv_fin_nil hS hN (bv_4_f_run sb hb num aN h aa al ac hnum hab hh h0 hlt)
    · rw [if_neg hlt]
      by_cases hge : ((4 : Nat) : Int) ≤ num - (aN + 1)
      · rw [if_neg (by omega)]
        exact bv_fin_nil hS hN (bv_4_g_run sb hb num aN h aa al ac hnum hab hh h0 (by omega) hge)
      · rw [if_pos (by omega)]
        have hk : num - (aN + 1) = 0 ∨ num - (aN + 1) = 1 ∨ num - (aN + 1) = 2 ∨ num - (aN + 1) = 3 := by omega
        rcases hk with hk | hk | hk | hk
        · rw [hk]
          exact bv_fin_num hS hN (bv_4_0_run sb hb num aN h aa al ac hnum hab hh h0 (by omega) hk)
        · rw [hk]
          exact bv_fin_num hS hN (bv_4_1_run sb hb num aN h aa al ac hnum hab hh h0 (by omega) hk)
        · rw [hk]
          exact bv_fin_num hS hN (bv_4_2_run sb hb num aN h aa al ac hnum hab hh h0 (by omega) hk)
        · rw [hk]
          exact bv_fin_num hS hN (bv_4_3_run sb hb num aN h aa al ac hnum hab hh h0 (by omega) hk)
end Go.Proofs.EX
