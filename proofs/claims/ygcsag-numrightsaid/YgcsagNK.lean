/-
  'NumRight'.
-/
import Derived.Test.YgcsagNJ
namespace Go.Proofs.Ygcsag
open Go.RowKit
set_option linter.unusedVariables false
set_option linter.unusedSimpArgs false

/-- What BE64 answers. -/
structure BeRes (zs : List Int) (n : Nat) (off : Int) (X : Nat) (ok : Bool) : Prop where
  yes : Fits n off → ok = true ∧ (X : Int) = valB (cut zs off.toNat 8)
  no : ¬ Fits n off → ok = false ∧ X = 0
theorem nat_of {P : List Int} (hd : Dig P) {i : Nat} (hi : i < P.length) : ∃ p : Nat, P[i]? = some (p : Int) ∧ p < 256 := by
  have h1 := hd.getD i
  rw [List.getD_eq_getElem?_getD, List.getElem?_eq_getElem hi, Option.getD_some] at h1
  exact ⟨P[i].toNat, by rw [List.getElem?_eq_getElem hi]; congr 1; omega, by omega⟩
theorem eight {P : List Int} (hd : Dig P) (hl : P.length = 8) : ∃ p0 p1 p2 p3 p4 p5 p6 p7 : Nat, P = [(p0 : Int), p1, p2, p3, p4, p5, p6, p7] ∧ p0 < 256 ∧ p1 < 256 ∧ p2 < 256 ∧ p3 < 256 ∧ p4 < 256 ∧ p5 < 256 ∧ p6 < 256 ∧ p7 < 256 := by
  obtain ⟨p0, e0, b0⟩ := nat_of hd (i := 0) (by omega)
  obtain ⟨p1, e1, b1⟩ := nat_of hd (i := 1) (by omega)
  obtain ⟨p2, e2, b2⟩ := nat_of hd (i := 2) (by omega)
  obtain ⟨p3, e3, b3⟩ := nat_of hd (i := 3) (by omega)
  obtain ⟨p4, e4, b4⟩ := nat_of hd (i := 4) (by omega)
  obtain ⟨p5, e5, b5⟩ := nat_of hd (i := 5) (by omega)
  obtain ⟨p6, e6, b6⟩ := nat_of hd (i := 6) (by omega)
  obtain ⟨p7, e7, b7⟩ := nat_of hd (i := 7) (by omega)
  refine ⟨p0, p1, p2, p3, p4, p5, p6, p7, ?_, b0, b1, b2, b3, b4, b5, b6, b7⟩
  apply List.ext_getElem?
  intro i
  match i with
  | 0 => rw [e0]; rfl
  | 1 => rw [e1]; rfl
  | 2 => rw [e2]; rfl
  | 3 => rw [e3]; rfl
  | 4 => rw [e4]; rfl
  | 5 => rw [e5]; rfl
  | 6 => rw [e6]; rfl
  | 7 => rw [e7]; rfl
  | i + 8 => rw [List.getElem?_eq_none (by omega), List.getElem?_eq_none (by simp)]
theorem be8_val (p0 p1 p2 p3 p4 p5 p6 p7 : Nat) : ((be8 p0 p1 p2 p3 p4 p5 p6 p7 : Nat) : Int) = valB [(p0 : Int), p1, p2, p3, p4, p5, p6, p7] := by
  simp only [valB, be8, List.reverse_cons, List.reverse_nil, List.nil_append, List.cons_append, val]
  omega
theorem fits_nat {n : Nat} {off : Int} (h : Fits n off) : ∃ k : Nat, off = k ∧ k + 8 ≤ n := ⟨off.toNat, by have := h.1; omega, by have := h.1; have := h.2; omega⟩
theorem fits_row {n : Nat} {a : Option Addr} {zs : List Int} {w : World} (hl : zs.length = n) (h8 : 8 ≤ n) (hr : ByteRow w a zs) : ∃ b o, a = some ⟨b, o, none⟩ ∧ ∀ i, i < zs.length → w.cell? ⟨b, o + i, none⟩ = some (.int .u8 (zs.getD i 0)) := by
  rcases hr.2 with h0 | ⟨b, o, ha, hc⟩
  · subst h0; simp at hl; omega
  · exact ⟨b, o, ha, hc⟩
theorem be64_calls (a : Option Addr) (n c : Nat) (off : Int) (zs : List Int) (w : World) (hl : zs.length = n) (hc : n ≤ c) (hm : c ≤ 9223372036854775807) (hr : ByteRow w a zs) :
    Calls Sagg.prog 15 #[.slice a n c, .int .i64 off] w fun e w' => ∃ X ok, e = .returned (.tuple #[.int .u64 ((X : Nat) : Int), .bool ok]) ∧ BeRes zs n off X ok ∧ Below w.heap.size w w' := by
  by_cases hf : Fits n off
  · obtain ⟨k, rfl, hk⟩ := fits_nat hf
    obtain ⟨b, o, rfl, hcell⟩ := fits_row hl (by omega) hr
    have hd := dig_cut hr.1 k 8
    have h8 := cut_length zs k 8 (by omega)
    obtain ⟨p0, p1, p2, p3, p4, p5, p6, p7, hP, l0, l1, l2, l3, l4, l5, l6, l7⟩ := eight hd h8
    refine (be64Yes_core b o n c k p0 p1 p2 p3 p4 p5 p6 p7 _ w hc hm hk hP h8 (range_cut hcell k 8 (by omega)) l0 l1 l2 l3 l4 l5 l6 l7).mono ?_
    rintro e w' ⟨rfl, hb⟩
    exact ⟨_, true, rfl, ⟨fun _ => ⟨rfl, by rw [be8_val, ← hP]; rfl⟩, fun h => absurd hf h⟩, hb⟩
  · refine (be64No_core a n c off w (by omega) hf).mono ?_
    rintro e w' ⟨rfl, hb⟩
    exact ⟨0, false, rfl, ⟨fun h => absurd h hf, fun _ => ⟨rfl, rfl⟩⟩, hb⟩
theorem beHolds_calls {a : Option Addr} {n c X : Nat} {off : Int} {ok : Bool} {zs : List Int} (w : World) (hl : zs.length = n) (hc : n ≤ c) (hm : c ≤ 9223372036854775807) (hr : ByteRow w a zs) (hb : BeRes zs n off X ok) :
    Calls Sagg.prog 16 #[.slice a n c, .int .i64 off, .int .u64 (X : Int), .bool ok] w fun e w' => e = .returned (.bool true) ∧ w' = w := by
  by_cases hf : Fits n off
  · obtain ⟨rfl, hX⟩ := hb.yes hf
    obtain ⟨k, rfl, hk⟩ := fits_nat hf
    obtain ⟨b, o, rfl, hcell⟩ := fits_row hl (by omega) hr
    exact be64HoldsYes_core b o n c k X (cut zs k 8) w hc hm hk (cut_length zs k 8 (by omega)) (dig_cut hr.1 k 8) (range_cut hcell k 8 (by omega)) hX
  · obtain ⟨rfl, rfl⟩ := hb.no hf
    exact be64HoldsNo_core a n c off w (by omega) hf
/-- What PutBE64 leaves. -/
structure PutRes (zs : List Int) (n : Nat) (off : Int) (x : Nat) (v : Value) (ok : Bool) (w0 W : World) : Prop where
  below : Below w0.heap.size w0 W
  res : ∃ aa ca zsA, v = .slice aa n ca ∧ ByteRow W aa zsA ∧ (Fits n off → ok = true ∧ zsA = putJ zs off.toNat x 8) ∧ (¬ Fits n off → ok = false ∧ zsA = zs)
theorem put_calls {zs : List Int} {n x : Nat} {off : Int} {v : Value} {w0 W : World} (hl : zs.length = n) (hn : n ≤ 281474976710000) (hd : Dig zs) (hx : x < 18446744073709551616) (hc : Copied zs n v w0 W) :
    Calls Sagg.prog 18 #[v, .int .i64 off, .int .u64 (x : Int)] W fun e w' => ∃ ok, e = .returned (.bool ok) ∧ PutRes zs n off x v ok w0 w' := by
  by_cases hf : Fits n off
  · obtain ⟨k, rfl, hk⟩ := fits_nat hf
    rcases hc.val with ⟨_, h0⟩ | ⟨rfl, hrow⟩
    · omega
    · refine (putYes_core w0.heap.size n k x zs W (by omega) hk hl hx hrow).mono ?_
      rintro e w' ⟨rfl, hp⟩
      exact ⟨true, rfl, hc.below.trans hp.below, _, _, _, rfl, RowAt.byteRow hp.row (putJ_dig hd k x 8), fun _ => ⟨rfl, rfl⟩, fun h => absurd hf h⟩
  · rcases hc.val with ⟨rfl, h0⟩ | ⟨rfl, hrow⟩
    · subst h0
      refine (putNo_core none 0 0 off x W (by omega) hf).mono ?_
      rintro e w' ⟨rfl, rfl⟩
      have hz : zs = [] := List.length_eq_zero_iff.1 hl
      subst hz
      exact ⟨false, rfl, hc.below, _, _, _, rfl, ByteRow.nil _ _, fun h => absurd h hf, fun _ => ⟨rfl, rfl⟩⟩
    · refine (putNo_core _ n n off x W (by omega) hf).mono ?_
      rintro e w' ⟨rfl, rfl⟩
      exact ⟨false, rfl, hc.below, _, _, _, rfl, RowAt.byteRow hrow hd, fun h => absurd h hf, fun _ => ⟨rfl, rfl⟩⟩
theorem putHolds_calls {a : Option Addr} {zs : List Int} {n c x : Nat} {off : Int} {v : Value} {ok : Bool} {w0 W : World} (hl : zs.length = n) (hn : n ≤ 281474976710000) (hx : x < 18446744073709551616) (hr : ByteRow W a zs) (hp : PutRes zs n off x v ok w0 W) :
    Calls Sagg.prog 19 #[.slice a n c, .int .i64 off, .int .u64 (x : Int), v, .bool ok] W (postR2 W) := by
  obtain ⟨aa, ca, zsA, rfl, hA, h1, h2⟩ := hp.res
  by_cases hf : Fits n off
  · obtain ⟨rfl, rfl⟩ := h1 hf
    obtain ⟨k, rfl, hk⟩ := fits_nat hf
    exact putHoldsYes_core a aa n c ca k x zs W hl hn hk hx hr hA
  · obtain ⟨rfl, rfl⟩ := h2 hf
    exact putHoldsNo_core a aa n c ca x off _ W hl hn hf hr hA

structure G4 where
  W : World
  v : Value := .slice none 0 0
def g04 (w : World) : G4 := { W := w }
def G4.c (w : World) (v : Value) : G4 := { W := w, v := v }
def keepT (g : G4) (w : World) (C : G4 → Value → World → Prop) : Prop := ∀ W', Below w.heap.size w W' → C g (.bool true) W'
theorem keepT_ok {f : FuncId} {args : Array Value} {w : World} {g : G4} (h : Calls Sagg.prog f args w (postR2 w)) : CallOK Sagg.prog f args w fun C => keepT g w C := fun C hC => h.mono fun e w' ⟨h1, h2⟩ => ⟨g, _, h1, hC w' h2⟩
def t13 (hi lo y : Nat) (g : G4) (w : World) (C : G4 → Value → World → Prop) : Prop := ∀ (q r : Nat) (ok : Bool) (W' : World), DivRes hi lo y q r ok → Below w.heap.size w W' → C g (.tuple #[.int .u64 (q : Int), .int .u64 (r : Int), .bool ok]) W'
theorem t13_ok {hi lo y : Nat} {w : World} {g : G4} (hy : y < 18446744073709551616) (hlo : lo < 18446744073709551616) : CallOK Sagg.prog 13 #[.int .u64 (hi : Int), .int .u64 (lo : Int), .int .u64 (y : Int)] w fun C => t13 hi lo y g w C := fun C hC => (div64_calls hi lo y w hy hlo).mono (by
  rintro e w' ⟨q, r, ok, rfl, hd, m, rfl⟩
  exact ⟨g, _, rfl, hC q r ok _ hd (kept_drew (Below.refl _ _) m)⟩)
def t15 (zs : List Int) (n : Nat) (off : Int) (g : G4) (w : World) (C : G4 → Value → World → Prop) : Prop := ∀ (X : Nat) (ok : Bool) (W' : World), BeRes zs n off X ok → Below w.heap.size w W' → C g (.tuple #[.int .u64 (X : Int), .bool ok]) W'
theorem t15_ok {a : Option Addr} {n c : Nat} {off : Int} {zs : List Int} {w : World} {g : G4} (hl : zs.length = n) (hc : n ≤ c) (hm : c ≤ 9223372036854775807) (hr : ByteRow w a zs) : CallOK Sagg.prog 15 #[.slice a n c, .int .i64 off] w fun C => t15 zs n off g w C := fun C hC => (be64_calls a n c off zs w hl hc hm hr).mono (by
  rintro e w' ⟨X, ok, rfl, hb, hbel⟩
  exact ⟨g, _, rfl, hC X ok w' hb hbel⟩)
def t17 (zs : List Int) (n : Nat) (g : G4) (w : World) (C : G4 → Value → World → Prop) : Prop := ∀ (v : Value) (W' : World), Copied zs n v w W' → C (G4.c w v) v W'
theorem t17_ok {a : Option Addr} {n c : Nat} {zs : List Int} {w : World} {g : G4} (hl : zs.length = n) (hn : n ≤ 281474976710000) (hr : ByteRow w a zs) : CallOK Sagg.prog 17 #[.slice a n c] w fun C => t17 zs n g w C := fun C hC => (copyBytes_calls a n c zs w hl hn hr).mono (by
  rintro e w' ⟨v, rfl, hc⟩
  exact ⟨_, v, rfl, hC v w' hc⟩)
def t18 (zs : List Int) (n : Nat) (off : Int) (x : Nat) (g : G4) (w : World) (C : G4 → Value → World → Prop) : Prop := ∀ (ok : Bool) (W' : World), PutRes zs n off x g.v ok g.W W' → C g (.bool ok) W'
theorem t18_ok {zs : List Int} {n x : Nat} {off : Int} {v : Value} {w0 W : World} (hl : zs.length = n) (hn : n ≤ 281474976710000) (hd : Dig zs) (hx : x < 18446744073709551616) (hc : Copied zs n v w0 W) : CallOK Sagg.prog 18 #[v, .int .i64 off, .int .u64 (x : Int)] W fun C => t18 zs n off x (G4.c w0 v) W C := fun C hC => (put_calls hl hn hd hx hc).mono (by
  rintro e w' ⟨ok, rfl, hp⟩
  exact ⟨_, _, rfl, hC ok w' hp⟩)
def same4 (v : Value) : Tip G4 := { tr := some fun g w C => C g v w }
def keep4 : Tip G4 := { tr := some fun g w C => keepT g w C }
def tips4 (hi lo y n : Nat) (off : Int) (zs : List Int) : Tips G4 where
  ops := [(20, { tr := some fun g w C => t13 hi lo y g w C }), (30, keep4), (35, { tr := some fun g w C => t15 zs n off g w C }), (42, same4 (.bool true)), (45, { tr := some fun g w C => t17 zs n g w C }), (49, { tr := some fun g w C => t18 zs n off lo g w C }), (55, keep4),
    (59, same4 (.int .u64 ((hi + 31) / 32 : Nat))), (60, keep4), (64, same4 (.int .u64 ((lo + 31) / 32 : Nat))), (65, keep4), (70, same4 (.int .u64 ((y + 31) / 32 : Nat))), (71, keep4)]

set_option maxRecDepth 100000 in
set_option maxHeartbeats 8000000 in
theorem numRight_core (hi lo y : Nat) (a : Option Addr) (n c : Nat) (off : Int) (zs : List Int) (w : World) (hhi : hi < 18446744073709551616) (hlo : lo < 18446744073709551616) (hy : y < 18446744073709551616) (hl : zs.length = n) (hc : n ≤ c) (hm : c ≤ 9223372036854775807) (hn : n ≤ 281474976710000) (hr : ByteRow w a zs) : Calls Sagg.prog 4 #[.int .u64 (hi : Int), .int .u64 (lo : Int), .int .u64 (y : Int), .slice a n c, .int .i64 off] w (postR2 w) := by
  refine CX_calls (tips4 hi lo y n off zs) (g04 w) (by kernel_rfl) Sagg.func4 rfl _ rfl (by kernel_rfl) ?_
  refine of_eq (p := (CallOK Sagg.prog 13 { toList := [Value.int IntKind.u64 ↑hi, Value.int IntKind.u64 ↑lo, Value.int IntKind.u64 ↑y] } w fun (C : G4 → Value → World → Prop) => t13 hi lo y (g04 w) w C) ∧ ∀ (q r : Nat) (ok : Bool) (W' : World), DivRes hi lo y q r ok → Below w.heap.size w W' → (CallOK Sagg.prog 14 { toList := [Value.int IntKind.u64 ↑hi, Value.int IntKind.u64 ↑lo, Value.int IntKind.u64 ↑y, Value.int IntKind.u64 ↑q, Value.int IntKind.u64 ↑r, Value.bool ok] } W' fun (C : G4 → Value → World → Prop) => keepT (g04 w) W' C) ∧ ∀ (W'_1 : World), Below W'.heap.size W' W'_1 → (CallOK Sagg.prog 15 { toList := [Value.slice a n c, Value.int IntKind.i64 off] } W'_1 fun (C : G4 → Value → World → Prop) => t15 zs n off (g04 w) W'_1 C) ∧ ∀ (X : Nat) (ok : Bool) (W' : World), BeRes zs n off X ok → Below W'_1.heap.size W'_1 W' → (CallOK Sagg.prog 16 { toList := [Value.slice a n c, Value.int IntKind.i64 off, Value.int IntKind.u64 ↑X, Value.bool ok] } W' fun (C : G4 → Value → World → Prop) => C (g04 w) (Value.bool true) W') ∧ (CallOK Sagg.prog 17 { toList := [Value.slice a n c] } W' fun (C : G4 → Value → World → Prop) => t17 zs n (g04 w) W' C) ∧ ∀ (v : Value) (W'_2 : World), Copied zs n v W' W'_2 → (CallOK Sagg.prog 18 { toList := [v, Value.int IntKind.i64 off, Value.int IntKind.u64 ↑lo] } W'_2 fun (C : G4 → Value → World → Prop) => t18 zs n off lo (G4.c W' v) W'_2 C) ∧ ∀ (ok : Bool) (W'_3 : World), PutRes zs n off lo v ok W' W'_3 → (CallOK Sagg.prog 19 { toList := [Value.slice a n c, Value.int IntKind.i64 off, Value.int IntKind.u64 ↑lo, v, Value.bool ok] } W'_3 fun (C : G4 → Value → World → Prop) => keepT (G4.c W' v) W'_3 C) ∧ ∀ (W'_4 : World), Below W'_3.heap.size W'_3 W'_4 → (CallOK Sagg.prog 21 { toList := [Value.int IntKind.u64 ↑hi] } W'_4 fun (C : G4 → Value → World → Prop) => C (G4.c W' v) (Value.int IntKind.u64 ↑((hi + 31) / 32)) W'_4) ∧ (CallOK Sagg.prog 20 { toList := [Value.int IntKind.u64 ↑hi, Value.int IntKind.u64 ↑((hi + 31) / 32)] } W'_4 fun (C : G4 → Value → World → Prop) => keepT (G4.c W' v) W'_4 C) ∧ ∀ (W'_5 : World), Below W'_4.heap.size W'_4 W'_5 → (CallOK Sagg.prog 21 { toList := [Value.int IntKind.u64 ↑lo] } W'_5 fun (C : G4 → Value → World → Prop) => C (G4.c W' v) (Value.int IntKind.u64 ↑((lo + 31) / 32)) W'_5) ∧ (CallOK Sagg.prog 20 { toList := [Value.int IntKind.u64 ↑lo, Value.int IntKind.u64 ↑((lo + 31) / 32)] } W'_5 fun (C : G4 → Value → World → Prop) => keepT (G4.c W' v) W'_5 C) ∧ ∀ (W'_6 : World), Below W'_5.heap.size W'_5 W'_6 → (CallOK Sagg.prog 21 { toList := [Value.int IntKind.u64 ↑y] } W'_6 fun (C : G4 → Value → World → Prop) => C (G4.c W' v) (Value.int IntKind.u64 ↑((y + 31) / 32)) W'_6) ∧ (CallOK Sagg.prog 20 { toList := [Value.int IntKind.u64 ↑y, Value.int IntKind.u64 ↑((y + 31) / 32)] } W'_6 fun (C : G4 → Value → World → Prop) => keepT (G4.c W' v) W'_6 C) ∧ ∀ (W' : World), Below W'_6.heap.size W'_6 W' → (postR2 w) (Ending.returned (Value.bool true)) W') (by kernel_rfl) ?_
  exact ⟨(t13_ok hy hlo), (fun q1 => (fun r2 => (fun ok3 => (fun W'4 => (fun h5 => (fun h6 => ⟨(keepT_ok (divHolds_calls _ hy hlo (by assumption))), (fun W'8 => (fun h9 => ⟨(t15_ok hl hc hm (hr.ext (bel_tr2 (bel_tr2 (Below.refl _ _) h6) h9))), (fun X11 => (fun ok12 => (fun W'13 => (fun h14 => (fun h15 => ⟨(callSame (beHolds_calls _ hl hc hm (hr.ext (bel_tr2 (bel_tr2 (bel_tr2 (Below.refl _ _) h6) h9) h15)) (by assumption))), (t17_ok hl hn (hr.ext (bel_tr2 (bel_tr2 (bel_tr2 (Below.refl _ _) h6) h9) h15))), (fun v18 => (fun W'19 => (fun h20 => ⟨(t18_ok hl hn hr.1 hlo (by assumption)), (fun ok22 => (fun W'23 => (fun h24 => ⟨(keepT_ok (putHolds_calls hl hn hlo (hr.ext (bel_tr2 (bel_tr2 (bel_tr2 (bel_tr2 (Below.refl _ _) h6) h9) h15) h24.below)) (by assumption))), (fun W'26 => (fun h27 => ⟨(callSame (words_calls _ _ (by assumption))), (keepT_ok (wordsHolds_calls _ _ (by assumption))), (fun W'30 => (fun h31 => ⟨(callSame (words_calls _ _ (by assumption))), (keepT_ok (wordsHolds_calls _ _ (by assumption))), (fun W'34 => (fun h35 => ⟨(callSame (words_calls _ _ (by assumption))), (keepT_ok (wordsHolds_calls _ _ (by assumption))), (fun W'38 => (fun h39 => ⟨rfl, (bel_tr2 (bel_tr2 (bel_tr2 (bel_tr2 (bel_tr2 (bel_tr2 (bel_tr2 (bel_tr2 (Below.refl _ _) h6) h9) h15) h24.below) h27) h31) h35) h39)⟩))⟩))⟩))⟩))⟩)))⟩)))⟩)))))⟩))⟩))))))⟩
end Go.Proofs.Ygcsag
