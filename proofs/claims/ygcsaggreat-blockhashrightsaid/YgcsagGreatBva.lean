/-
  'blockValue' at BLOCKHASH, run by the engine: one run for each length of the row of hashes and each place.
-/
import Derived.Test.YgcsagGreatNW
import Derived.KernelRfl
namespace Go.Proofs.EX
open Go.RowKit Go.Proofs.YgcsagGreat
set_option linter.unusedVariables false
set_option maxRecDepth 100000
/-- A window. -/
def win (b o : Nat) (cs : List Value) : Value × Int := (.tuple #[.pointer (some ⟨b, o, none⟩), .agg cs.toArray], 0)
def hrow (h : Nat → Nat → Int) (i : Nat) : List Value := (List.range 32).map fun j => Value.int .u8 (h i j)
def hcell (hb n : Nat) : Value := match n with
  | 0 => .slice none 0 0
  | n + 1 => .slice (some ⟨hb, 0, none⟩) (n + 1) (n + 1)
def bvN (sb hb : Nat) (num : Int) (h : Nat → Nat → Int) (n : Nat) : List (Value × Int) := win sb 79 [.int .u64 num] :: win sb 178 [hcell hb n] :: (List.range n).map fun i => win hb (32 * i) (hrow h i)
theorem bv_0_f (sb hb : Nat) (num aN : Int) (h : Nat → Nat → Int) (aa : Option Addr) (al ac : Nat) : EF Sagg.prog natSpecs2 50 20 [] 161 #[.pointer (some ⟨sb, 0, none⟩), .int .u8 64, .slice aa al ac] (fun v s _ => v = .slice none 0 0) ⟨[], (.slice aa al ac, aN) :: bvN sb hb num h 0⟩ [nat_lit 0, nat_lit 400, nat_lit 1, nat_lit 0, nat_lit 1, nat_lit 1, nat_lit 0, nat_lit 0, nat_lit 0, nat_lit 3, nat_lit 1, nat_lit 1, nat_lit 3, nat_lit 1, nat_lit 2]
  = build [(⟨sb, 79, none⟩ : Addr) = ⟨sb, 79, none⟩,
  0 ≤ num ∧ num < 18446744073709551616,
  (num : Int) < big,
  ((aN + 1) : Int) < big,
  (num : Int) < (aN + 1)] (fun _ => (Value.slice none 0 0) = .slice none 0 0) [.lo (nat_lit 0), .lo (nat_lit 1), .lo (nat_lit 2), .v, .v, .lv (nat_lit 2), .lv (nat_lit 0), .lo (nat_lit 3), .v, .lv (nat_lit 2), .lv (nat_lit 0), .lo (nat_lit 4)] [.v aa al ac] := by kernel_rfl
theorem bv_0_g (sb hb : Nat) (num aN : Int) (h : Nat → Nat → Int) (aa : Option Addr) (al ac : Nat) : EF Sagg.prog natSpecs2 50 20 [] 161 #[.pointer (some ⟨sb, 0, none⟩), .int .u8 64, .slice aa al ac] (fun v s _ => v = .slice none 0 0) ⟨[], (.slice aa al ac, aN) :: bvN sb hb num h 0⟩ [nat_lit 0, nat_lit 400, nat_lit 1, nat_lit 0, nat_lit 1, nat_lit 1, nat_lit 0, nat_lit 0, nat_lit 0, nat_lit 3, nat_lit 1, nat_lit 1, nat_lit 3, nat_lit 1, nat_lit 1, nat_lit 1, nat_lit 400, nat_lit 6, nat_lit 1, nat_lit 1]
  = build [(⟨sb, 79, none⟩ : Addr) = ⟨sb, 79, none⟩,
  0 ≤ num ∧ num < 18446744073709551616,
  (num : Int) < big,
  ((aN + 1) : Int) < big,
  ((aN + 1) : Int) ≤ num,
  ((num - (aN + 1)) : Int) < big,
  (⟨sb, 178, none⟩ : Addr) = ⟨sb, 178, none⟩,
  (0 : Int) ≤ (num - (aN + 1))] (fun _ => (Value.slice none 0 0) = .slice none 0 0) [.lo (nat_lit 0), .lo (nat_lit 1), .lo (nat_lit 2), .v, .v, .lv (nat_lit 2), .lv (nat_lit 0), .lo (nat_lit 3), .v, .lv (nat_lit 2), .lv (nat_lit 0), .lo (nat_lit 4), .lo (nat_lit 5), .v, .lo (nat_lit 6), .lv (nat_lit 0), .lo (nat_lit 7)] [.v aa al ac] := by kernel_rfl
theorem bv_1_f (sb hb : Nat) (num aN : Int) (h : Nat → Nat → Int) (aa : Option Addr) (al ac : Nat) : EF Sagg.prog natSpecs2 50 20 [] 161 #[.pointer (some ⟨sb, 0, none⟩), .int .u8 64, .slice aa al ac] (fun v s _ => v = .slice none 0 0) ⟨[], (.slice aa al ac, aN) :: bvN sb hb num h 1⟩ [nat_lit 0, nat_lit 400, nat_lit 1, nat_lit 0, nat_lit 1, nat_lit 1, nat_lit 0, nat_lit 0, nat_lit 0, nat_lit 3, nat_lit 1, nat_lit 1, nat_lit 3, nat_lit 1, nat_lit 2]
  = build [(⟨sb, 79, none⟩ : Addr) = ⟨sb, 79, none⟩,
  0 ≤ num ∧ num < 18446744073709551616,
  (num : Int) < big,
  ((aN + 1) : Int) < big,
  (num : Int) < (aN + 1)] (fun _ => (Value.slice none 0 0) = .slice none 0 0) [.lo (nat_lit 0), .lo (nat_lit 1), .lo (nat_lit 2), .v, .v, .lv (nat_lit 2), .lv (nat_lit 0), .lo (nat_lit 3), .v, .lv (nat_lit 2), .lv (nat_lit 0), .lo (nat_lit 4)] [.v aa al ac] := by kernel_rfl
theorem bv_1_g (sb hb : Nat) (num aN : Int) (h : Nat → Nat → Int) (aa : Option Addr) (al ac : Nat) : EF Sagg.prog natSpecs2 50 20 [] 161 #[.pointer (some ⟨sb, 0, none⟩), .int .u8 64, .slice aa al ac] (fun v s _ => v = .slice none 0 0) ⟨[], (.slice aa al ac, aN) :: bvN sb hb num h 1⟩ [nat_lit 0, nat_lit 400, nat_lit 1, nat_lit 0, nat_lit 1, nat_lit 1, nat_lit 0, nat_lit 0, nat_lit 0, nat_lit 3, nat_lit 1, nat_lit 1, nat_lit 3, nat_lit 1, nat_lit 1, nat_lit 1, nat_lit 400, nat_lit 6, nat_lit 1, nat_lit 1]
  = build [(⟨sb, 79, none⟩ : Addr) = ⟨sb, 79, none⟩,
  0 ≤ num ∧ num < 18446744073709551616,
  (num : Int) < big,
  ((aN + 1) : Int) < big,
  ((aN + 1) : Int) ≤ num,
  ((num - (aN + 1)) : Int) < big,
  (⟨sb, 178, none⟩ : Addr) = ⟨sb, 178, none⟩,
  (1 : Int) ≤ (num - (aN + 1))] (fun _ => (Value.slice none 0 0) = .slice none 0 0) [.lo (nat_lit 0), .lo (nat_lit 1), .lo (nat_lit 2), .v, .v, .lv (nat_lit 2), .lv (nat_lit 0), .lo (nat_lit 3), .v, .lv (nat_lit 2), .lv (nat_lit 0), .lo (nat_lit 4), .lo (nat_lit 5), .v, .lo (nat_lit 6), .lv (nat_lit 0), .lo (nat_lit 7)] [.v aa al ac] := by kernel_rfl
theorem bv_1_0 (sb hb : Nat) (num aN : Int) (h : Nat → Nat → Int) (aa : Option Addr) (al ac : Nat) : EF Sagg.prog natSpecs2 50 20 [] 161 #[.pointer (some ⟨sb, 0, none⟩), .int .u8 64, .slice aa al ac] (fun v s _ => match nth s.N 0 with | some p => (match p.1 with | .slice _ _ _ => v = p.1 ∧ p.2 = beV [h 0 0, h 0 1, h 0 2, h 0 3, h 0 4, h 0 5, h 0 6, h 0 7, h 0 8, h 0 9, h 0 10, h 0 11, h 0 12, h 0 13, h 0 14, h 0 15, h 0 16, h 0 17, h 0 18, h 0 19, h 0 20, h 0 21, h 0 22, h 0 23, h 0 24, h 0 25, h 0 26, h 0 27, h 0 28, h 0 29, h 0 30, h 0 31] | _ => False) | none => False) ⟨[], (.slice aa al ac, aN) :: bvN sb hb num h 1⟩ [nat_lit 0, nat_lit 400, nat_lit 1, nat_lit 0, nat_lit 1, nat_lit 1, nat_lit 0, nat_lit 0, nat_lit 0, nat_lit 3, nat_lit 1, nat_lit 1, nat_lit 3, nat_lit 1, nat_lit 1, nat_lit 1, nat_lit 400, nat_lit 6, nat_lit 1, nat_lit 2, nat_lit 400, nat_lit 6, nat_lit 400, nat_lit 7, nat_lit 1, nat_lit 1]
  = build [(⟨sb, 79, none⟩ : Addr) = ⟨sb, 79, none⟩,
  0 ≤ num ∧ num < 18446744073709551616,
  (num : Int) < big,
  ((aN + 1) : Int) < big,
  ((aN + 1) : Int) ≤ num,
  ((num - (aN + 1)) : Int) < big,
  (⟨sb, 178, none⟩ : Addr) = ⟨sb, 178, none⟩,
  ((num - (aN + 1)) : Int) = Int.ofNat 0,
  (⟨hb, 0, none⟩ : Addr) = ⟨hb, 0, none⟩,
  AllIn [(h 0 0), (h 0 1), (h 0 2), (h 0 3), (h 0 4), (h 0 5), (h 0 6), (h 0 7), (h 0 8), (h 0 9), (h 0 10), (h 0 11), (h 0 12), (h 0 13), (h 0 14), (h 0 15), (h 0 16), (h 0 17), (h 0 18), (h 0 19), (h 0 20), (h 0 21), (h 0 22), (h 0 23), (h 0 24), (h 0 25), (h 0 26), (h 0 27), (h 0 28), (h 0 29), (h 0 30), (h 0 31)],
  ((beV [(h 0 0), (h 0 1), (h 0 2), (h 0 3), (h 0 4), (h 0 5), (h 0 6), (h 0 7), (h 0 8), (h 0 9), (h 0 10), (h 0 11), (h 0 12), (h 0 13), (h 0 14), (h 0 15), (h 0 16), (h 0 17), (h 0 18), (h 0 19), (h 0 20), (h 0 21), (h 0 22), (h 0 23), (h 0 24), (h 0 25), (h 0 26), (h 0 27), (h 0 28), (h 0 29), (h 0 30), (h 0 31)]) : Int) < big] (fun env => (envAt env 0).val = (envAt env 0).val ∧ beV [h 0 0, h 0 1, h 0 2, h 0 3, h 0 4, h 0 5, h 0 6, h 0 7, h 0 8, h 0 9, h 0 10, h 0 11, h 0 12, h 0 13, h 0 14, h 0 15, h 0 16, h 0 17, h 0 18, h 0 19, h 0 20, h 0 21, h 0 22, h 0 23, h 0 24, h 0 25, h 0 26, h 0 27, h 0 28, h 0 29, h 0 30, h 0 31] = beV [h 0 0, h 0 1, h 0 2, h 0 3, h 0 4, h 0 5, h 0 6, h 0 7, h 0 8, h 0 9, h 0 10, h 0 11, h 0 12, h 0 13, h 0 14, h 0 15, h 0 16, h 0 17, h 0 18, h 0 19, h 0 20, h 0 21, h 0 22, h 0 23, h 0 24, h 0 25, h 0 26, h 0 27, h 0 28, h 0 29, h 0 30, h 0 31]) [.lo (nat_lit 0), .lo (nat_lit 1), .lo (nat_lit 2), .v, .v, .lv (nat_lit 2), .lv (nat_lit 0), .lo (nat_lit 3), .v, .lv (nat_lit 2), .lv (nat_lit 0), .lo (nat_lit 4), .lo (nat_lit 5), .v, .lo (nat_lit 6), .lv (nat_lit 0), .lo (nat_lit 7), .lo (nat_lit 6), .lo (nat_lit 8), .lo (nat_lit 9), .lo (nat_lit 10), .v] [.v aa al ac] := by kernel_rfl
theorem bv_2_f (sb hb : Nat) (num aN : Int) (h : Nat → Nat → Int) (aa : Option Addr) (al ac : Nat) : EF Sagg.prog natSpecs2 50 20 [] 161 #[.pointer (some ⟨sb, 0, none⟩), .int .u8 64, .slice aa al ac] (fun v s _ => v = .slice none 0 0) ⟨[], (.slice aa al ac, aN) :: bvN sb hb num h 2⟩ [nat_lit 0, nat_lit 400, nat_lit 1, nat_lit 0, nat_lit 1, nat_lit 1, nat_lit 0, nat_lit 0, nat_lit 0, nat_lit 3, nat_lit 1, nat_lit 1, nat_lit 3, nat_lit 1, nat_lit 2]
  = build [(⟨sb, 79, none⟩ : Addr) = ⟨sb, 79, none⟩,
  0 ≤ num ∧ num < 18446744073709551616,
  (num : Int) < big,
  ((aN + 1) : Int) < big,
  (num : Int) < (aN + 1)] (fun _ => (Value.slice none 0 0) = .slice none 0 0) [.lo (nat_lit 0), .lo (nat_lit 1), .lo (nat_lit 2), .v, .v, .lv (nat_lit 2), .lv (nat_lit 0), .lo (nat_lit 3), .v, .lv (nat_lit 2), .lv (nat_lit 0), .lo (nat_lit 4)] [.v aa al ac] := by kernel_rfl
theorem bv_2_g (sb hb : Nat) (num aN : Int) (h : Nat → Nat → Int) (aa : Option Addr) (al ac : Nat) : EF Sagg.prog natSpecs2 50 20 [] 161 #[.pointer (some ⟨sb, 0, none⟩), .int .u8 64, .slice aa al ac] (fun v s _ => v = .slice none 0 0) ⟨[], (.slice aa al ac, aN) :: bvN sb hb num h 2⟩ [nat_lit 0, nat_lit 400, nat_lit 1, nat_lit 0, nat_lit 1, nat_lit 1, nat_lit 0, nat_lit 0, nat_lit 0, nat_lit 3, nat_lit 1, nat_lit 1, nat_lit 3, nat_lit 1, nat_lit 1, nat_lit 1, nat_lit 400, nat_lit 6, nat_lit 1, nat_lit 1]
  = build [(⟨sb, 79, none⟩ : Addr) = ⟨sb, 79, none⟩,
  0 ≤ num ∧ num < 18446744073709551616,
  (num : Int) < big,
  ((aN + 1) : Int) < big,
  ((aN + 1) : Int) ≤ num,
  ((num - (aN + 1)) : Int) < big,
  (⟨sb, 178, none⟩ : Addr) = ⟨sb, 178, none⟩,
  (2 : Int) ≤ (num - (aN + 1))] (fun _ => (Value.slice none 0 0) = .slice none 0 0) [.lo (nat_lit 0), .lo (nat_lit 1), .lo (nat_lit 2), .v, .v, .lv (nat_lit 2), .lv (nat_lit 0), .lo (nat_lit 3), .v, .lv (nat_lit 2), .lv (nat_lit 0), .lo (nat_lit 4), .lo (nat_lit 5), .v, .lo (nat_lit 6), .lv (nat_lit 0), .lo (nat_lit 7)] [.v aa al ac] := by kernel_rfl
theorem bv_2_0 (sb hb : Nat) (num aN : Int) (h : Nat → Nat → Int) (aa : Option Addr) (al ac : Nat) : EF Sagg.prog natSpecs2 50 20 [] 161 #[.pointer (some ⟨sb, 0, none⟩), .int .u8 64, .slice aa al ac] (fun v s _ => match nth s.N 0 with | some p => (match p.1 with | .slice _ _ _ => v = p.1 ∧ p.2 = beV [h 0 0, h 0 1, h 0 2, h 0 3, h 0 4, h 0 5, h 0 6, h 0 7, h 0 8, h 0 9, h 0 10, h 0 11, h 0 12, h 0 13, h 0 14, h 0 15, h 0 16, h 0 17, h 0 18, h 0 19, h 0 20, h 0 21, h 0 22, h 0 23, h 0 24, h 0 25, h 0 26, h 0 27, h 0 28, h 0 29, h 0 30, h 0 31] | _ => False) | none => False) ⟨[], (.slice aa al ac, aN) :: bvN sb hb num h 2⟩ [nat_lit 0, nat_lit 400, nat_lit 1, nat_lit 0, nat_lit 1, nat_lit 1, nat_lit 0, nat_lit 0, nat_lit 0, nat_lit 3, nat_lit 1, nat_lit 1, nat_lit 3, nat_lit 1, nat_lit 1, nat_lit 1, nat_lit 400, nat_lit 6, nat_lit 1, nat_lit 2, nat_lit 400, nat_lit 6, nat_lit 400, nat_lit 7, nat_lit 1, nat_lit 1]
  = build [(⟨sb, 79, none⟩ : Addr) = ⟨sb, 79, none⟩,
  0 ≤ num ∧ num < 18446744073709551616,
  (num : Int) < big,
  ((aN + 1) : Int) < big,
  ((aN + 1) : Int) ≤ num,
  ((num - (aN + 1)) : Int) < big,
  (⟨sb, 178, none⟩ : Addr) = ⟨sb, 178, none⟩,
  ((num - (aN + 1)) : Int) = Int.ofNat 0,
  (⟨hb, 0, none⟩ : Addr) = ⟨hb, 0, none⟩,
  AllIn [(h 0 0), (h 0 1), (h 0 2), (h 0 3), (h 0 4), (h 0 5), (h 0 6), (h 0 7), (h 0 8), (h 0 9), (h 0 10), (h 0 11), (h 0 12), (h 0 13), (h 0 14), (h 0 15), (h 0 16), (h 0 17), (h 0 18), (h 0 19), (h 0 20), (h 0 21), (h 0 22), (h 0 23), (h 0 24), (h 0 25), (h 0 26), (h 0 27), (h 0 28), (h 0 29), (h 0 30), (h 0 31)],
  ((beV [(h 0 0), (h 0 1), (h 0 2), (h 0 3), (h 0 4), (h 0 5), (h 0 6), (h 0 7), (h 0 8), (h 0 9), (h 0 10), (h 0 11), (h 0 12), (h 0 13), (h 0 14), (h 0 15), (h 0 16), (h 0 17), (h 0 18), (h 0 19), (h 0 20), (h 0 21), (h 0 22), (h 0 23), (h 0 24), (h 0 25), (h 0 26), (h 0 27), (h 0 28), (h 0 29), (h 0 30), (h 0 31)]) : Int) < big] (fun env => (envAt env 0).val = (envAt env 0).val ∧ beV [h 0 0, h 0 1, h 0 2, h 0 3, h 0 4, h 0 5, h 0 6, h 0 7, h 0 8, h 0 9, h 0 10, h 0 11, h 0 12, h 0 13, h 0 14, h 0 15, h 0 16, h 0 17, h 0 18, h 0 19, h 0 20, h 0 21, h 0 22, h 0 23, h 0 24, h 0 25, h 0 26, h 0 27, h 0 28, h 0 29, h 0 30, h 0 31] = beV [h 0 0, h 0 1, h 0 2, h 0 3, h 0 4, h 0 5, h 0 6, h 0 7, h 0 8, h 0 9, h 0 10, h 0 11, h 0 12, h 0 13, h 0 14, h 0 15, h 0 16, h 0 17, h 0 18, h 0 19, h 0 20, h 0 21, h 0 22, h 0 23, h 0 24, h 0 25, h 0 26, h 0 27, h 0 28, h 0 29, h 0 30, h 0 31]) [.lo (nat_lit 0), .lo (nat_lit 1), .lo (nat_lit 2), .v, .v, .lv (nat_lit 2), .lv (nat_lit 0), .lo (nat_lit 3), .v, .lv (nat_lit 2), .lv (nat_lit 0), .lo (nat_lit 4), .lo (nat_lit 5), .v, .lo (nat_lit 6), .lv (nat_lit 0), .lo (nat_lit 7), .lo (nat_lit 6), .lo (nat_lit 8), .lo (nat_lit 9), .lo (nat_lit 10), .v] [.v aa al ac] := by kernel_rfl
theorem bv_2_1 (sb hb : Nat) (num aN : Int) (h : Nat → Nat → Int) (aa : Option Addr) (al ac : Nat) : EF Sagg.prog natSpecs2 50 20 [] 161 #[.pointer (some ⟨sb, 0, none⟩), .int .u8 64, .slice aa al ac] (fun v s _ => match nth s.N 0 with | some p => (match p.1 with | .slice _ _ _ => v = p.1 ∧ p.2 = beV [h 1 0, h 1 1, h 1 2, h 1 3, h 1 4, h 1 5, h 1 6, h 1 7, h 1 8, h 1 9, h 1 10, h 1 11, h 1 12, h 1 13, h 1 14, h 1 15, h 1 16, h 1 17, h 1 18, h 1 19, h 1 20, h 1 21, h 1 22, h 1 23, h 1 24, h 1 25, h 1 26, h 1 27, h 1 28, h 1 29, h 1 30, h 1 31] | _ => False) | none => False) ⟨[], (.slice aa al ac, aN) :: bvN sb hb num h 2⟩ [nat_lit 0, nat_lit 400, nat_lit 1, nat_lit 0, nat_lit 1, nat_lit 1, nat_lit 0, nat_lit 0, nat_lit 0, nat_lit 3, nat_lit 1, nat_lit 1, nat_lit 3, nat_lit 1, nat_lit 1, nat_lit 1, nat_lit 400, nat_lit 6, nat_lit 1, nat_lit 3, nat_lit 400, nat_lit 6, nat_lit 400, nat_lit 8, nat_lit 1, nat_lit 1]
  = build [(⟨sb, 79, none⟩ : Addr) = ⟨sb, 79, none⟩,
  0 ≤ num ∧ num < 18446744073709551616,
  (num : Int) < big,
  ((aN + 1) : Int) < big,
  ((aN + 1) : Int) ≤ num,
  ((num - (aN + 1)) : Int) < big,
  (⟨sb, 178, none⟩ : Addr) = ⟨sb, 178, none⟩,
  ((num - (aN + 1)) : Int) = Int.ofNat 1,
  (⟨hb, 32, none⟩ : Addr) = ⟨hb, 32, none⟩,
  AllIn [(h 1 0), (h 1 1), (h 1 2), (h 1 3), (h 1 4), (h 1 5), (h 1 6), (h 1 7), (h 1 8), (h 1 9), (h 1 10), (h 1 11), (h 1 12), (h 1 13), (h 1 14), (h 1 15), (h 1 16), (h 1 17), (h 1 18), (h 1 19), (h 1 20), (h 1 21), (h 1 22), (h 1 23), (h 1 24), (h 1 25), (h 1 26), (h 1 27), (h 1 28), (h 1 29), (h 1 30), (h 1 31)],
  ((beV [(h 1 0), (h 1 1), (h 1 2), (h 1 3), (h 1 4), (h 1 5), (h 1 6), (h 1 7), (h 1 8), (h 1 9), (h 1 10), (h 1 11), (h 1 12), (h 1 13), (h 1 14), (h 1 15), (h 1 16), (h 1 17), (h 1 18), (h 1 19), (h 1 20), (h 1 21), (h 1 22), (h 1 23), (h 1 24), (h 1 25), (h 1 26), (h 1 27), (h 1 28), (h 1 29), (h 1 30), (h 1 31)]) : Int) < big] (fun env => (envAt env 0).val = (envAt env 0).val ∧ beV [h 1 0, h 1 1, h 1 2, h 1 3, h 1 4, h 1 5, h 1 6, h 1 7, h 1 8, h 1 9, h 1 10, h 1 11, h 1 12, h 1 13, h 1 14, h 1 15, h 1 16, h 1 17, h 1 18, h 1 19, h 1 20, h 1 21, h 1 22, h 1 23, h 1 24, h 1 25, h 1 26, h 1 27, h 1 28, h 1 29, h 1 30, h 1 31] = beV [h 1 0, h 1 1, h 1 2, h 1 3, h 1 4, h 1 5, h 1 6, h 1 7, h 1 8, h 1 9, h 1 10, h 1 11, h 1 12, h 1 13, h 1 14, h 1 15, h 1 16, h 1 17, h 1 18, h 1 19, h 1 20, h 1 21, h 1 22, h 1 23, h 1 24, h 1 25, h 1 26, h 1 27, h 1 28, h 1 29, h 1 30, h 1 31]) [.lo (nat_lit 0), .lo (nat_lit 1), .lo (nat_lit 2), .v, .v, .lv (nat_lit 2), .lv (nat_lit 0), .lo (nat_lit 3), .v, .lv (nat_lit 2), .lv (nat_lit 0), .lo (nat_lit 4), .lo (nat_lit 5), .v, .lo (nat_lit 6), .lv (nat_lit 0), .lo (nat_lit 7), .lo (nat_lit 6), .lo (nat_lit 8), .lo (nat_lit 9), .lo (nat_lit 10), .v] [.v aa al ac] := by kernel_rfl
theorem bv_3_f (sb hb : Nat) (num aN : Int) (h : Nat → Nat → Int) (aa : Option Addr) (al ac : Nat) : EF Sagg.prog natSpecs2 50 20 [] 161 #[.pointer (some ⟨sb, 0, none⟩), .int .u8 64, .slice aa al ac] (fun v s _ => v = .slice none 0 0) ⟨[], (.slice aa al ac, aN) :: bvN sb hb num h 3⟩ [nat_lit 0, nat_lit 400, nat_lit 1, nat_lit 0, nat_lit 1, nat_lit 1, nat_lit 0, nat_lit 0, nat_lit 0, nat_lit 3, nat_lit 1, nat_lit 1, nat_lit 3, nat_lit 1, nat_lit 2]
  = build [(⟨sb, 79, none⟩ : Addr) = ⟨sb, 79, none⟩,
  0 ≤ num ∧ num < 18446744073709551616,
  (num : Int) < big,
  ((aN + 1) : Int) < big,
  (num : Int) < (aN + 1)] (fun _ => (Value.slice none 0 0) = .slice none 0 0) [.lo (nat_lit 0), .lo (nat_lit 1), .lo (nat_lit 2), .v, .v, .lv (nat_lit 2), .lv (nat_lit 0), .lo (nat_lit 3), .v, .lv (nat_lit 2), .lv (nat_lit 0), .lo (nat_lit 4)] [.v aa al ac] := by kernel_rfl
theorem bv_3_g (sb hb : Nat) (num aN : Int) (h : Nat → Nat → Int) (aa : Option Addr) (al ac : Nat) : EF Sagg.prog natSpecs2 50 20 [] 161 #[.pointer (some ⟨sb, 0, none⟩), .int .u8 64, .slice aa al ac] (fun v s _ => v = .slice none 0 0) ⟨[], (.slice aa al ac, aN) :: bvN sb hb num h 3⟩ [nat_lit 0, nat_lit 400, nat_lit 1, nat_lit 0, nat_lit 1, nat_lit 1, nat_lit 0, nat_lit 0, nat_lit 0, nat_lit 3, nat_lit 1, nat_lit 1, nat_lit 3, nat_lit 1, nat_lit 1, nat_lit 1, nat_lit 400, nat_lit 6, nat_lit 1, nat_lit 1]
  = build [(⟨sb, 79, none⟩ : Addr) = ⟨sb, 79, none⟩,
  0 ≤ num ∧ num < 18446744073709551616,
  (num : Int) < big,
  ((aN + 1) : Int) < big,
  ((aN + 1) : Int) ≤ num,
  ((num - (aN + 1)) : Int) < big,
  (⟨sb, 178, none⟩ : Addr) = ⟨sb, 178, none⟩,
  (3 : Int) ≤ (num - (aN + 1))] (fun _ => (Value.slice none 0 0) = .slice none 0 0) [.lo (nat_lit 0), .lo (nat_lit 1), .lo (nat_lit 2), .v, .v, .lv (nat_lit 2), .lv (nat_lit 0), .lo (nat_lit 3), .v, .lv (nat_lit 2), .lv (nat_lit 0), .lo (nat_lit 4), .lo (nat_lit 5), .v, .lo (nat_lit 6), .lv (nat_lit 0), .lo (nat_lit 7)] [.v aa al ac] := by kernel_rfl
theorem bv_3_0 (sb hb : Nat) (num aN : Int) (h : Nat → Nat → Int) (aa : Option Addr) (al ac : Nat) : EF Sagg.prog natSpecs2 50 20 [] 161 #[.pointer (some ⟨sb, 0, none⟩), .int .u8 64, .slice aa al ac] (fun v s _ => match nth s.N 0 with | some p => (match p.1 with | .slice _ _ _ => v = p.1 ∧ p.2 = beV [h 0 0, h 0 1, h 0 2, h 0 3, h 0 4, h 0 5, h 0 6, h 0 7, h 0 8, h 0 9, h 0 10, h 0 11, h 0 12, h 0 13, h 0 14, h 0 15, h 0 16, h 0 17, h 0 18, h 0 19, h 0 20, h 0 21, h 0 22, h 0 23, h 0 24, h 0 25, h 0 26, h 0 27, h 0 28, h 0 29, h 0 30, h 0 31] | _ => False) | none => False) ⟨[], (.slice aa al ac, aN) :: bvN sb hb num h 3⟩ [nat_lit 0, nat_lit 400, nat_lit 1, nat_lit 0, nat_lit 1, nat_lit 1, nat_lit 0, nat_lit 0, nat_lit 0, nat_lit 3, nat_lit 1, nat_lit 1, nat_lit 3, nat_lit 1, nat_lit 1, nat_lit 1, nat_lit 400, nat_lit 6, nat_lit 1, nat_lit 2, nat_lit 400, nat_lit 6, nat_lit 400, nat_lit 7, nat_lit 1, nat_lit 1]
  = build [(⟨sb, 79, none⟩ : Addr) = ⟨sb, 79, none⟩,
  0 ≤ num ∧ num < 18446744073709551616,
  (num : Int) < big,
  ((aN + 1) : Int) < big,
  ((aN + 1) : Int) ≤ num,
  ((num - (aN + 1)) : Int) < big,
  (⟨sb, 178, none⟩ : Addr) = ⟨sb, 178, none⟩,
  ((num - (aN + 1)) : Int) = Int.ofNat 0,
  (⟨hb, 0, none⟩ : Addr) = ⟨hb, 0, none⟩,
  AllIn [(h 0 0), (h 0 1), (h 0 2), (h 0 3), (h 0 4), (h 0 5), (h 0 6), (h 0 7), (h 0 8), (h 0 9), (h 0 10), (h 0 11), (h 0 12), (h 0 13), (h 0 14), (h 0 15), (h 0 16), (h 0 17), (h 0 18), (h 0 19), (h 0 20), (h 0 21), (h 0 22), (h 0 23), (h 0 24), (h 0 25), (h 0 26), (h 0 27), (h 0 28), (h 0 29), (h 0 30), (h 0 31)],
  ((beV [(h 0 0), (h 0 1), (h 0 2), (h 0 3), (h 0 4), (h 0 5), (h 0 6), (h 0 7), (h 0 8), (h 0 9), (h 0 10), (h 0 11), (h 0 12), (h 0 13), (h 0 14), (h 0 15), (h 0 16), (h 0 17), (h 0 18), (h 0 19), (h 0 20), (h 0 21), (h 0 22), (h 0 23), (h 0 24), (h 0 25), (h 0 26), (h 0 27), (h 0 28), (h 0 29), (h 0 30), (h 0 31)]) : Int) < big] (fun env => (envAt env 0).val = (envAt env 0).val ∧ beV [h 0 0, h 0 1, h 0 2, h 0 3, h 0 4, h 0 5, h 0 6, h 0 7, h 0 8, h 0 9, h 0 10, h 0 11, h 0 12, h 0 13, h 0 14, h 0 15, h 0 16, h 0 17, h 0 18, h 0 19, h 0 20, h 0 21, h 0 22, h 0 23, h 0 24, h 0 25, h 0 26, h 0 27, h 0 28, h 0 29, h 0 30, h 0 31] = beV [h 0 0, h 0 1, h 0 2, h 0 3, h 0 4, h 0 5, h 0 6, h 0 7, h 0 8, h 0 9, h 0 10, h 0 11, h 0 12, h 0 13, h 0 14, h 0 15, h 0 16, h 0 17, h 0 18, h 0 19, h 0 20, h 0 21, h 0 22, h 0 23, h 0 24, h 0 25, h 0 26, h 0 27, h 0 28, h 0 29, h 0 30, h 0 31]) [.lo (nat_lit 0), .lo (nat_lit 1), .lo (nat_lit 2), .v, .v, .lv (nat_lit 2), .lv (nat_lit 0), .lo (nat_lit 3), .v, .lv (nat_lit 2), .lv (nat_lit 0), .lo (nat_lit 4), .lo (nat_lit 5), .v, .lo (nat_lit 6), .lv (nat_lit 0), .lo (nat_lit 7), .lo (nat_lit 6), .lo (nat_lit 8), .lo (nat_lit 9), .lo (nat_lit 10), .v] [.v aa al ac] := by kernel_rfl
theorem bv_3_1 (sb hb : Nat) (num aN : Int) (h : Nat → Nat → Int) (aa : Option Addr) (al ac : Nat) : EF Sagg.prog natSpecs2 50 20 [] 161 #[.pointer (some ⟨sb, 0, none⟩), .int .u8 64, .slice aa al ac] (fun v s _ => match nth s.N 0 with | some p => (match p.1 with | .slice _ _ _ => v = p.1 ∧ p.2 = beV [h 1 0, h 1 1, h 1 2, h 1 3, h 1 4, h 1 5, h 1 6, h 1 7, h 1 8, h 1 9, h 1 10, h 1 11, h 1 12, h 1 13, h 1 14, h 1 15, h 1 16, h 1 17, h 1 18, h 1 19, h 1 20, h 1 21, h 1 22, h 1 23, h 1 24, h 1 25, h 1 26, h 1 27, h 1 28, h 1 29, h 1 30, h 1 31] | _ => False) | none => False) ⟨[], (.slice aa al ac, aN) :: bvN sb hb num h 3⟩ [nat_lit 0, nat_lit 400, nat_lit 1, nat_lit 0, nat_lit 1, nat_lit 1, nat_lit 0, nat_lit 0, nat_lit 0, nat_lit 3, nat_lit 1, nat_lit 1, nat_lit 3, nat_lit 1, nat_lit 1, nat_lit 1, nat_lit 400, nat_lit 6, nat_lit 1, nat_lit 3, nat_lit 400, nat_lit 6, nat_lit 400, nat_lit 8, nat_lit 1, nat_lit 1]
  = build [(⟨sb, 79, none⟩ : Addr) = ⟨sb, 79, none⟩,
  0 ≤ num ∧ num < 18446744073709551616,
  (num : Int) < big,
  ((aN + 1) : Int) < big,
  ((aN + 1) : Int) ≤ num,
  ((num - (aN + 1)) : Int) < big,
  (⟨sb, 178, none⟩ : Addr) = ⟨sb, 178, none⟩,
  ((num - (aN + 1)) : Int) = Int.ofNat 1,
  (⟨hb, 32, none⟩ : Addr) = ⟨hb, 32, none⟩,
  AllIn [(h 1 0), (h 1 1), (h 1 2), (h 1 3), (h 1 4), (h 1 5), (h 1 6), (h 1 7), (h 1 8), (h 1 9), (h 1 10), (h 1 11), (h 1 12), (h 1 13), (h 1 14), (h 1 15), (h 1 16), (h 1 17), (h 1 18), (h 1 19), (h 1 20), (h 1 21), (h 1 22), (h 1 23), (h 1 24), (h 1 25), (h 1 26), (h 1 27), (h 1 28), (h 1 29), (h 1 30), (h 1 31)],
  ((beV [(h 1 0), (h 1 1), (h 1 2), (h 1 3), (h 1 4), (h 1 5), (h 1 6), (h 1 7), (h 1 8), (h 1 9), (h 1 10), (h 1 11), (h 1 12), (h 1 13), (h 1 14), (h 1 15), (h 1 16), (h 1 17), (h 1 18), (h 1 19), (h 1 20), (h 1 21), (h 1 22), (h 1 23), (h 1 24), (h 1 25), (h 1 26), (h 1 27), (h 1 28), (h 1 29), (h 1 30), (h 1 31)]) : Int) < big] (fun env => (envAt env 0).val = (envAt env 0).val ∧ beV [h 1 0, h 1 1, h 1 2, h 1 3, h 1 4, h 1 5, h 1 6, h 1 7, h 1 8, h 1 9, h 1 10, h 1 11, h 1 12, h 1 13, h 1 14, h 1 15, h 1 16, h 1 17, h 1 18, h 1 19, h 1 20, h 1 21, h 1 22, h 1 23, h 1 24, h 1 25, h 1 26, h 1 27, h 1 28, h 1 29, h 1 30, h 1 31] = beV [h 1 0, h 1 1, h 1 2, h 1 3, h 1 4, h 1 5, h 1 6, h 1 7, h 1 8, h 1 9, h 1 10, h 1 11, h 1 12, h 1 13, h 1 14, h 1 15, h 1 16, h 1 17, h 1 18, h 1 19, h 1 20, h 1 21, h 1 22, h 1 23, h 1 24, h 1 25, h 1 26, h 1 27, h 1 28, h 1 29, h 1 30, h 1 31]) [.lo (nat_lit 0), .lo (nat_lit 1), .lo (nat_lit 2), .v, .v, .lv (nat_lit 2), .lv (nat_lit 0), .lo (nat_lit 3), .v, .lv (nat_lit 2), .lv (nat_lit 0), .lo (nat_lit 4), .lo (nat_lit 5), .v, .lo (nat_lit 6), .lv (nat_lit 0), .lo (nat_lit 7), .lo (nat_lit 6), .lo (nat_lit 8), .lo (nat_lit 9), .lo (nat_lit 10), .v] [.v aa al ac] := by kernel_rfl
theorem bv_3_2 (sb hb : Nat) (num aN : Int) (h : Nat → Nat → Int) (aa : Option Addr) (al ac : Nat) : EF Sagg.prog natSpecs2 50 20 [] 161 #[.pointer (some ⟨sb, 0, none⟩), .int .u8 64, .slice aa al ac] (fun v s _ => match nth s.N 0 with | some p => (match p.1 with | .slice _ _ _ => v = p.1 ∧ p.2 = beV [h 2 0, h 2 1, h 2 2, h 2 3, h 2 4, h 2 5, h 2 6, h 2 7, h 2 8, h 2 9, h 2 10, h 2 11, h 2 12, h 2 13, h 2 14, h 2 15, h 2 16, h 2 17, h 2 18, h 2 19, h 2 20, h 2 21, h 2 22, h 2 23, h 2 24, h 2 25, h 2 26, h 2 27, h 2 28, h 2 29, h 2 30, h 2 31] | _ => False) | none => False) ⟨[], (.slice aa al ac, aN) :: bvN sb hb num h 3⟩ [nat_lit 0, nat_lit 400, nat_lit 1, nat_lit 0, nat_lit 1, nat_lit 1, nat_lit 0, nat_lit 0, nat_lit 0, nat_lit 3, nat_lit 1, nat_lit 1, nat_lit 3, nat_lit 1, nat_lit 1, nat_lit 1, nat_lit 400, nat_lit 6, nat_lit 1, nat_lit 4, nat_lit 400, nat_lit 6, nat_lit 400, nat_lit 9, nat_lit 1, nat_lit 1]
  = build [(⟨sb, 79, none⟩ : Addr) = ⟨sb, 79, none⟩,
  0 ≤ num ∧ num < 18446744073709551616,
  (num : Int) < big,
  ((aN + 1) : Int) < big,
  ((aN + 1) : Int) ≤ num,
  ((num - (aN + 1)) : Int) < big,
  (⟨sb, 178, none⟩ : Addr) = ⟨sb, 178, none⟩,
  ((num - (aN + 1)) : Int) = Int.ofNat 2,
  (⟨hb, 64, none⟩ : Addr) = ⟨hb, 64, none⟩,
  AllIn [(h 2 0), (h 2 1), (h 2 2), (h 2 3), (h 2 4), (h 2 5), (h 2 6), (h 2 7), (h 2 8), (h 2 9), (h 2 10), (h 2 11), (h 2 12), (h 2 13), (h 2 14), (h 2 15), (h 2 16), (h 2 17), (h 2 18), (h 2 19), (h 2 20), (h 2 21), (h 2 22), (h 2 23), (h 2 24), (h 2 25), (h 2 26), (h 2 27), (h 2 28), (h 2 29), (h 2 30), (h 2 31)],
  ((beV [(h 2 0), (h 2 1), (h 2 2), (h 2 3), (h 2 4), (h 2 5), (h 2 6), (h 2 7), (h 2 8), (h 2 9), (h 2 10), (h 2 11), (h 2 12), (h 2 13), (h 2 14), (h 2 15), (h 2 16), (h 2 17), (h 2 18), (h 2 19), (h 2 20), (h 2 21), (h 2 22), (h 2 23), (h 2 24), (h 2 25), (h 2 26), (h 2 27), (h 2 28), (h 2 29), (h 2 30), (h 2 31)]) : Int) < big] (fun env => (envAt env 0).val = (envAt env 0).val ∧ beV [h 2 0, h 2 1, h 2 2, h 2 3, h 2 4, h 2 5, h 2 6, h 2 7, h 2 8, h 2 9, h 2 10, h 2 11, h 2 12, h 2 13, h 2 14, h 2 15, h 2 16, h 2 17, h 2 18, h 2 19, h 2 20, h 2 21, h 2 22, h 2 23, h 2 24, h 2 25, h 2 26, h 2 27, h 2 28, h 2 29, h 2 30, h 2 31] = beV [h 2 0, h 2 1, h 2 2, h 2 3, h 2 4, h 2 5, h 2 6, h 2 7, h 2 8, h 2 9, h 2 10, h 2 11, h 2 12, h 2 13, h 2 14, h 2 15, h 2 16, h 2 17, h 2 18, h 2 19, h 2 20, h 2 21, h 2 22, h 2 23, h 2 24, h 2 25, h 2 26, h 2 27, h 2 28, h 2 29, h 2 30, h 2 31]) [.lo (nat_lit 0), .lo (nat_lit 1), .lo (nat_lit 2), .v, .v, .lv (nat_lit 2), .lv (nat_lit 0), .lo (nat_lit 3), .v, .lv (nat_lit 2), .lv (nat_lit 0), .lo (nat_lit 4), .lo (nat_lit 5), .v, .lo (nat_lit 6), .lv (nat_lit 0), .lo (nat_lit 7), .lo (nat_lit 6), .lo (nat_lit 8), .lo (nat_lit 9), .lo (nat_lit 10), .v] [.v aa al ac] := by kernel_rfl
theorem bv_4_f (sb hb : Nat) (num aN : Int) (h : Nat → Nat → Int) (aa : Option Addr) (al ac : Nat) : EF Sagg.prog natSpecs2 50 20 [] 161 #[.pointer (some ⟨sb, 0, none⟩), .int .u8 64, .slice aa al ac] (fun v s _ => v = .slice none 0 0) ⟨[], (.slice aa al ac, aN) :: bvN sb hb num h 4⟩ [nat_lit 0, nat_lit 400, nat_lit 1, nat_lit 0, nat_lit 1, nat_lit 1, nat_lit 0, nat_lit 0, nat_lit 0, nat_lit 3, nat_lit 1, nat_lit 1, nat_lit 3, nat_lit 1, nat_lit 2]
  = build [(⟨sb, 79, none⟩ : Addr) = ⟨sb, 79, none⟩,
  0 ≤ num ∧ num < 18446744073709551616,
  (num : Int) < big,
  ((aN + 1) : Int) < big,
  (num : Int) < (aN + 1)] (fun _ => (Value.slice none 0 0) = .slice none 0 0) [.lo (nat_lit 0), .lo (nat_lit 1), .lo (nat_lit 2), .v, .v, .lv (nat_lit 2), .lv (nat_lit 0), .lo (nat_lit 3), .v, .lv (nat_lit 2), .lv (nat_lit 0), .lo (nat_lit 4)] [.v aa al ac] := by kernel_rfl
theorem bv_4_g (sb hb : Nat) (num aN : Int) (h : Nat → Nat → Int) (aa : Option Addr) (al ac : Nat) : EF Sagg.prog natSpecs2 50 20 [] 161 #[.pointer (some ⟨sb, 0, none⟩), .int .u8 64, .slice aa al ac] (fun v s _ => v = .slice none 0 0) ⟨[], (.slice aa al ac, aN) :: bvN sb hb num h 4⟩ [nat_lit 0, nat_lit 400, nat_lit 1, nat_lit 0, nat_lit 1, nat_lit 1, nat_lit 0, nat_lit 0, nat_lit 0, nat_lit 3, nat_lit 1, nat_lit 1, nat_lit 3, nat_lit 1, nat_lit 1, nat_lit 1, nat_lit 400, nat_lit 6, nat_lit 1, nat_lit 1]
  = build [(⟨sb, 79, none⟩ : Addr) = ⟨sb, 79, none⟩,
  0 ≤ num ∧ num < 18446744073709551616,
  (num : Int) < big,
  ((aN + 1) : Int) < big,
  ((aN + 1) : Int) ≤ num,
  ((num - (aN + 1)) : Int) < big,
  (⟨sb, 178, none⟩ : Addr) = ⟨sb, 178, none⟩,
  (4 : Int) ≤ (num - (aN + 1))] (fun _ => (Value.slice none 0 0) = .slice none 0 0) [.lo (nat_lit 0), .lo (nat_lit 1), .lo (nat_lit 2), .v, .v, .lv (nat_lit 2), .lv (nat_lit 0), .lo (nat_lit 3), .v, .lv (nat_lit 2), .lv (nat_lit 0), .lo (nat_lit 4), .lo (nat_lit 5), .v, .lo (nat_lit 6), .lv (nat_lit 0), .lo (nat_lit 7)] [.v aa al ac] := by kernel_rfl
theorem bv_4_0 (sb hb : Nat) (num aN : Int) (h : Nat → Nat → Int) (aa : Option Addr) (al ac : Nat) : EF Sagg.prog natSpecs2 50 20 [] 161 #[.pointer (some ⟨sb, 0, none⟩), .int .u8 64, .slice aa al ac] (fun v s _ => match nth s.N 0 with | some p => (match p.1 with | .slice _ _ _ => v = p.1 ∧ p.2 = beV [h 0 0, h 0 1, h 0 2, h 0 3, h 0 4, h 0 5, h 0 6, h 0 7, h 0 8, h 0 9, h 0 10, h 0 11, h 0 12, h 0 13, h 0 14, h 0 15, h 0 16, h 0 17, h 0 18, h 0 19, h 0 20, h 0 21, h 0 22, h 0 23, h 0 24, h 0 25, h 0 26, h 0 27, h 0 28, h 0 29, h 0 30, h 0 31] | _ => False) | none => False) ⟨[], (.slice aa al ac, aN) :: bvN sb hb num h 4⟩ [nat_lit 0, nat_lit 400, nat_lit 1, nat_lit 0, nat_lit 1, nat_lit 1, nat_lit 0, nat_lit 0, nat_lit 0, nat_lit 3, nat_lit 1, nat_lit 1, nat_lit 3, nat_lit 1, nat_lit 1, nat_lit 1, nat_lit 400, nat_lit 6, nat_lit 1, nat_lit 2, nat_lit 400, nat_lit 6, nat_lit 400, nat_lit 7, nat_lit 1, nat_lit 1]
  = build [(⟨sb, 79, none⟩ : Addr) = ⟨sb, 79, none⟩,
  0 ≤ num ∧ num < 18446744073709551616,
  (num : Int) < big,
  ((aN + 1) : Int) < big,
  ((aN + 1) : Int) ≤ num,
  ((num - (aN + 1)) : Int) < big,
  (⟨sb, 178, none⟩ : Addr) = ⟨sb, 178, none⟩,
  ((num - (aN + 1)) : Int) = Int.ofNat 0,
  (⟨hb, 0, none⟩ : Addr) = ⟨hb, 0, none⟩,
  AllIn [(h 0 0), (h 0 1), (h 0 2), (h 0 3), (h 0 4), (h 0 5), (h 0 6), (h 0 7), (h 0 8), (h 0 9), (h 0 10), (h 0 11), (h 0 12), (h 0 13), (h 0 14), (h 0 15), (h 0 16), (h 0 17), (h 0 18), (h 0 19), (h 0 20), (h 0 21), (h 0 22), (h 0 23), (h 0 24), (h 0 25), (h 0 26), (h 0 27), (h 0 28), (h 0 29), (h 0 30), (h 0 31)],
  ((beV [(h 0 0), (h 0 1), (h 0 2), (h 0 3), (h 0 4), (h 0 5), (h 0 6), (h 0 7), (h 0 8), (h 0 9), (h 0 10), (h 0 11), (h 0 12), (h 0 13), (h 0 14), (h 0 15), (h 0 16), (h 0 17), (h 0 18), (h 0 19), (h 0 20), (h 0 21), (h 0 22), (h 0 23), (h 0 24), (h 0 25), (h 0 26), (h 0 27), (h 0 28), (h 0 29), (h 0 30), (h 0 31)]) : Int) < big] (fun env => (envAt env 0).val = (envAt env 0).val ∧ beV [h 0 0, h 0 1, h 0 2, h 0 3, h 0 4, h 0 5, h 0 6, h 0 7, h 0 8, h 0 9, h 0 10, h 0 11, h 0 12, h 0 13, h 0 14, h 0 15, h 0 16, h 0 17, h 0 18, h 0 19, h 0 20, h 0 21, h 0 22, h 0 23, h 0 24, h 0 25, h 0 26, h 0 27, h 0 28, h 0 29, h 0 30, h 0 31] = beV [h 0 0, h 0 1, h 0 2, h 0 3, h 0 4, h 0 5, h 0 6, h 0 7, h 0 8, h 0 9, h 0 10, h 0 11, h 0 12, h 0 13, h 0 14, h 0 15, h 0 16, h 0 17, h 0 18, h 0 19, h 0 20, h 0 21, h 0 22, h 0 23, h 0 24, h 0 25, h 0 26, h 0 27, h 0 28, h 0 29, h 0 30, h 0 31]) [.lo (nat_lit 0), .lo (nat_lit 1), .lo (nat_lit 2), .v, .v, .lv (nat_lit 2), .lv (nat_lit 0), .lo (nat_lit 3), .v, .lv (nat_lit 2), .lv (nat_lit 0), .lo (nat_lit 4), .lo (nat_lit 5), .v, .lo (nat_lit 6), .lv (nat_lit 0), .lo (nat_lit 7), .lo (nat_lit 6), .lo (nat_lit 8), .lo (nat_lit 9), .lo (nat_lit 10), .v] [.v aa al ac] := by kernel_rfl
theorem bv_4_1 (sb hb : Nat) (num aN : Int) (h : Nat → Nat → Int) (aa : Option Addr) (al ac : Nat) : EF Sagg.prog natSpecs2 50 20 [] 161 #[.pointer (some ⟨sb, 0, none⟩), .int .u8 64, .slice aa al ac] (fun v s _ => match nth s.N 0 with | some p => (match p.1 with | .slice _ _ _ => v = p.1 ∧ p.2 = beV [h 1 0, h 1 1, h 1 2, h 1 3, h 1 4, h 1 5, h 1 6, h 1 7, h 1 8, h 1 9, h 1 10, h 1 11, h 1 12, h 1 13, h 1 14, h 1 15, h 1 16, h 1 17, h 1 18, h 1 19, h 1 20, h 1 21, h 1 22, h 1 23, h 1 24, h 1 25, h 1 26, h 1 27, h 1 28, h 1 29, h 1 30, h 1 31] | _ => False) | none => False) ⟨[], (.slice aa al ac, aN) :: bvN sb hb num h 4⟩ [nat_lit 0, nat_lit 400, nat_lit 1, nat_lit 0, nat_lit 1, nat_lit 1, nat_lit 0, nat_lit 0, nat_lit 0, nat_lit 3, nat_lit 1, nat_lit 1, nat_lit 3, nat_lit 1, nat_lit 1, nat_lit 1, nat_lit 400, nat_lit 6, nat_lit 1, nat_lit 3, nat_lit 400, nat_lit 6, nat_lit 400, nat_lit 8, nat_lit 1, nat_lit 1]
  = build [(⟨sb, 79, none⟩ : Addr) = ⟨sb, 79, none⟩,
  0 ≤ num ∧ num < 18446744073709551616,
  (num : Int) < big,
  ((aN + 1) : Int) < big,
  ((aN + 1) : Int) ≤ num,
  ((num - (aN + 1)) : Int) < big,
  (⟨sb, 178, none⟩ : Addr) = ⟨sb, 178, none⟩,
  ((num - (aN + 1)) : Int) = Int.ofNat 1,
  (⟨hb, 32, none⟩ : Addr) = ⟨hb, 32, none⟩,
  AllIn [(h 1 0), (h 1 1), (h 1 2), (h 1 3), (h 1 4), (h 1 5), (h 1 6), (h 1 7), (h 1 8), (h 1 9), (h 1 10), (h 1 11), (h 1 12), (h 1 13), (h 1 14), (h 1 15), (h 1 16), (h 1 17), (h 1 18), (h 1 19), (h 1 20), (h 1 21), (h 1 22), (h 1 23), (h 1 24), (h 1 25), (h 1 26), (h 1 27), (h 1 28), (h 1 29), (h 1 30), (h 1 31)],
  ((beV [(h 1 0), (h 1 1), (h 1 2), (h 1 3), (h 1 4), (h 1 5), (h 1 6), (h 1 7), (h 1 8), (h 1 9), (h 1 10), (h 1 11), (h 1 12), (h 1 13), (h 1 14), (h 1 15), (h 1 16), (h 1 17), (h 1 18), (h 1 19), (h 1 20), (h 1 21), (h 1 22), (h 1 23), (h 1 24), (h 1 25), (h 1 26), (h 1 27), (h 1 28), (h 1 29), (h 1 30), (h 1 31)]) : Int) < big] (fun env => (envAt env 0).val = (envAt env 0).val ∧ beV [h 1 0, h 1 1, h 1 2, h 1 3, h 1 4, h 1 5, h 1 6, h 1 7, h 1 8, h 1 9, h 1 10, h 1 11, h 1 12, h 1 13, h 1 14, h 1 15, h 1 16, h 1 17, h 1 18, h 1 19, h 1 20, h 1 21, h 1 22, h 1 23, h 1 24, h 1 25, h 1 26, h 1 27, h 1 28, h 1 29, h 1 30, h 1 31] = beV [h 1 0, h 1 1, h 1 2, h 1 3, h 1 4, h 1 5, h 1 6, h 1 7, h 1 8, h 1 9, h 1 10, h 1 11, h 1 12, h 1 13, h 1 14, h 1 15, h 1 16, h 1 17, h 1 18, h 1 19, h 1 20, h 1 21, h 1 22, h 1 23, h 1 24, h 1 25, h 1 26, h 1 27, h 1 28, h 1 29, h 1 30, h 1 31]) [.lo (nat_lit 0), .lo (nat_lit 1), .lo (nat_lit 2), .v, .v, .lv (nat_lit 2), .lv (nat_lit 0), .lo (nat_lit 3), .v, .lv (nat_lit 2), .lv (nat_lit 0), .lo (nat_lit 4), .lo (nat_lit 5), .v, .lo (nat_lit 6), .lv (nat_lit 0), .lo (nat_lit 7), .lo (nat_lit 6), .lo (nat_lit 8), .lo (nat_lit 9), .lo (nat_lit 10), .v] [.v aa al ac] := by kernel_rfl
theorem bv_4_2 (sb hb : Nat) (num aN : Int) (h : Nat → Nat → Int) (aa : Option Addr) (al ac : Nat) : EF Sagg.prog natSpecs2 50 20 [] 161 #[.pointer (some ⟨sb, 0, none⟩), .int .u8 64, .slice aa al ac] (fun v s _ => match nth s.N 0 with | some p => (match p.1 with | .slice _ _ _ => v = p.1 ∧ p.2 = beV [h 2 0, h 2 1, h 2 2, h 2 3, h 2 4, h 2 5, h 2 6, h 2 7, h 2 8, h 2 9, h 2 10, h 2 11, h 2 12, h 2 13, h 2 14, h 2 15, h 2 16, h 2 17, h 2 18, h 2 19, h 2 20, h 2 21, h 2 22, h 2 23, h 2 24, h 2 25, h 2 26, h 2 27, h 2 28, h 2 29, h 2 30, h 2 31] | _ => False) | none => False) ⟨[], (.slice aa al ac, aN) :: bvN sb hb num h 4⟩ [nat_lit 0, nat_lit 400, nat_lit 1, nat_lit 0, nat_lit 1, nat_lit 1, nat_lit 0, nat_lit 0, nat_lit 0, nat_lit 3, nat_lit 1, nat_lit 1, nat_lit 3, nat_lit 1, nat_lit 1, nat_lit 1, nat_lit 400, nat_lit 6, nat_lit 1, nat_lit 4, nat_lit 400, nat_lit 6, nat_lit 400, nat_lit 9, nat_lit 1, nat_lit 1]
  = build [(⟨sb, 79, none⟩ : Addr) = ⟨sb, 79, none⟩,
  0 ≤ num ∧ num < 18446744073709551616,
  (num : Int) < big,
  ((aN + 1) : Int) < big,
  ((aN + 1) : Int) ≤ num,
  ((num - (aN + 1)) : Int) < big,
  (⟨sb, 178, none⟩ : Addr) = ⟨sb, 178, none⟩,
  ((num - (aN + 1)) : Int) = Int.ofNat 2,
  (⟨hb, 64, none⟩ : Addr) = ⟨hb, 64, none⟩,
  AllIn [(h 2 0), (h 2 1), (h 2 2), (h 2 3), (h 2 4), (h 2 5), (h 2 6), (h 2 7), (h 2 8), (h 2 9), (h 2 10), (h 2 11), (h 2 12), (h 2 13), (h 2 14), (h 2 15), (h 2 16), (h 2 17), (h 2 18), (h 2 19), (h 2 20), (h 2 21), (h 2 22), (h 2 23), (h 2 24), (h 2 25), (h 2 26), (h 2 27), (h 2 28), (h 2 29), (h 2 30), (h 2 31)],
  ((beV [(h 2 0), (h 2 1), (h 2 2), (h 2 3), (h 2 4), (h 2 5), (h 2 6), (h 2 7), (h 2 8), (h 2 9), (h 2 10), (h 2 11), (h 2 12), (h 2 13), (h 2 14), (h 2 15), (h 2 16), (h 2 17), (h 2 18), (h 2 19), (h 2 20), (h 2 21), (h 2 22), (h 2 23), (h 2 24), (h 2 25), (h 2 26), (h 2 27), (h 2 28), (h 2 29), (h 2 30), (h 2 31)]) : Int) < big] (fun env => (envAt env 0).val = (envAt env 0).val ∧ beV [h 2 0, h 2 1, h 2 2, h 2 3, h 2 4, h 2 5, h 2 6, h 2 7, h 2 8, h 2 9, h 2 10, h 2 11, h 2 12, h 2 13, h 2 14, h 2 15, h 2 16, h 2 17, h 2 18, h 2 19, h 2 20, h 2 21, h 2 22, h 2 23, h 2 24, h 2 25, h 2 26, h 2 27, h 2 28, h 2 29, h 2 30, h 2 31] = beV [h 2 0, h 2 1, h 2 2, h 2 3, h 2 4, h 2 5, h 2 6, h 2 7, h 2 8, h 2 9, h 2 10, h 2 11, h 2 12, h 2 13, h 2 14, h 2 15, h 2 16, h 2 17, h 2 18, h 2 19, h 2 20, h 2 21, h 2 22, h 2 23, h 2 24, h 2 25, h 2 26, h 2 27, h 2 28, h 2 29, h 2 30, h 2 31]) [.lo (nat_lit 0), .lo (nat_lit 1), .lo (nat_lit 2), .v, .v, .lv (nat_lit 2), .lv (nat_lit 0), .lo (nat_lit 3), .v, .lv (nat_lit 2), .lv (nat_lit 0), .lo (nat_lit 4), .lo (nat_lit 5), .v, .lo (nat_lit 6), .lv (nat_lit 0), .lo (nat_lit 7), .lo (nat_lit 6), .lo (nat_lit 8), .lo (nat_lit 9), .lo (nat_lit 10), .v] [.v aa al ac] := by kernel_rfl
theorem bv_4_3 (sb hb : Nat) (num aN : Int) (h : Nat → Nat → Int) (aa : Option Addr) (al ac : Nat) : EF Sagg.prog natSpecs2 50 20 [] 161 #[.pointer (some ⟨sb, 0, none⟩), .int .u8 64, .slice aa al ac] (fun v s _ => match nth s.N 0 with | some p => (match p.1 with | .slice _ _ _ => v = p.1 ∧ p.2 = beV [h 3 0, h 3 1, h 3 2, h 3 3, h 3 4, h 3 5, h 3 6, h 3 7, h 3 8, h 3 9, h 3 10, h 3 11, h 3 12, h 3 13, h 3 14, h 3 15, h 3 16, h 3 17, h 3 18, h 3 19, h 3 20, h 3 21, h 3 22, h 3 23, h 3 24, h 3 25, h 3 26, h 3 27, h 3 28, h 3 29, h 3 30, h 3 31] | _ => False) | none => False) ⟨[], (.slice aa al ac, aN) :: bvN sb hb num h 4⟩ [nat_lit 0, nat_lit 400, nat_lit 1, nat_lit 0, nat_lit 1, nat_lit 1, nat_lit 0, nat_lit 0, nat_lit 0, nat_lit 3, nat_lit 1, nat_lit 1, nat_lit 3, nat_lit 1, nat_lit 1, nat_lit 1, nat_lit 400, nat_lit 6, nat_lit 1, nat_lit 5, nat_lit 400, nat_lit 6, nat_lit 400, nat_lit 10, nat_lit 1, nat_lit 1]
  = build [(⟨sb, 79, none⟩ : Addr) = ⟨sb, 79, none⟩,
  0 ≤ num ∧ num < 18446744073709551616,
  (num : Int) < big,
  ((aN + 1) : Int) < big,
  ((aN + 1) : Int) ≤ num,
  ((num - (aN + 1)) : Int) < big,
  (⟨sb, 178, none⟩ : Addr) = ⟨sb, 178, none⟩,
  ((num - (aN + 1)) : Int) = Int.ofNat 3,
  (⟨hb, 96, none⟩ : Addr) = ⟨hb, 96, none⟩,
  AllIn [(h 3 0), (h 3 1), (h 3 2), (h 3 3), (h 3 4), (h 3 5), (h 3 6), (h 3 7), (h 3 8), (h 3 9), (h 3 10), (h 3 11), (h 3 12), (h 3 13), (h 3 14), (h 3 15), (h 3 16), (h 3 17), (h 3 18), (h 3 19), (h 3 20), (h 3 21), (h 3 22), (h 3 23), (h 3 24), (h 3 25), (h 3 26), (h 3 27), (h 3 28), (h 3 29), (h 3 30), (h 3 31)],
  ((beV [(h 3 0), (h 3 1), (h 3 2), (h 3 3), (h 3 4), (h 3 5), (h 3 6), (h 3 7), (h 3 8), (h 3 9), (h 3 10), (h 3 11), (h 3 12), (h 3 13), (h 3 14), (h 3 15), (h 3 16), (h 3 17), (h 3 18), (h 3 19), (h 3 20), (h 3 21), (h 3 22), (h 3 23), (h 3 24), (h 3 25), (h 3 26), (h 3 27), (h 3 28), (h 3 29), (h 3 30), (h 3 31)]) : Int) < big] (fun env => (envAt env 0).val = (envAt env 0).val ∧ beV [h 3 0, h 3 1, h 3 2, h 3 3, h 3 4, h 3 5, h 3 6, h 3 7, h 3 8, h 3 9, h 3 10, h 3 11, h 3 12, h 3 13, h 3 14, h 3 15, h 3 16, h 3 17, h 3 18, h 3 19, h 3 20, h 3 21, h 3 22, h 3 23, h 3 24, h 3 25, h 3 26, h 3 27, h 3 28, h 3 29, h 3 30, h 3 31] = beV [h 3 0, h 3 1, h 3 2, h 3 3, h 3 4, h 3 5, h 3 6, h 3 7, h 3 8, h 3 9, h 3 10, h 3 11, h 3 12, h 3 13, h 3 14, h 3 15, h 3 16, h 3 17, h 3 18, h 3 19, h 3 20, h 3 21, h 3 22, h 3 23, h 3 24, h 3 25, h 3 26, h 3 27, h 3 28, h 3 29, h 3 30, h 3 31]) [.lo (nat_lit 0), .lo (nat_lit 1), .lo (nat_lit 2), .v, .v, .lv (nat_lit 2), .lv (nat_lit 0), .lo (nat_lit 3), .v, .lv (nat_lit 2), .lv (nat_lit 0), .lo (nat_lit 4), .lo (nat_lit 5), .v, .lo (nat_lit 6), .lv (nat_lit 0), .lo (nat_lit 7), .lo (nat_lit 6), .lo (nat_lit 8), .lo (nat_lit 9), .lo (nat_lit 10), .v] [.v aa al ac] := by kernel_rfl
end Go.Proofs.EX
