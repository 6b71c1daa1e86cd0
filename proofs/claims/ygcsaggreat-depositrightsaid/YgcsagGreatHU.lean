/-
  NUMBERS: 'Sub', 'U64', 'BE32', 'natOf', 'addrOf'.
-/
import Derived.Test.YgcsagGreatNX
import Derived.Test.YgcsagGreatHX
import Derived.Laws.ResultCell
import Derived.Laws.Bits64b
namespace Go.Proofs.YgcsagGreat
open Go.RowKit
set_option linter.unusedVariables false
set_option linter.unusedSimpArgs false

/-! ### Norm, told exactly -/
def postS (zs : List Int) (m : Nat) (w : World) : Ending → World → Prop := fun e w' => (m = 0 ∧ e = .returned (.slice none 0 0) ∧ w' = w) ∨ (m ≠ 0 ∧ e = .returned (.slice (some ⟨w.heap.size, 0, none⟩) m m) ∧ RowAt w' w.heap.size (trimL zs) ∧ w'.heap.size = w.heap.size + 1 ∧ Below w.heap.size w w')
theorem fin61s_z {zs : List Int} {m : Nat} {w : World} (hm : (trimL zs).length = m) (h : (trimL zs).length = 0) : postS zs m w (.returned (.slice none 0 0)) w := .inl ⟨by omega, rfl, rfl⟩
theorem fin61s_n {zs : List Int} {m : Nat} {w : World} (hm : (trimL zs).length = m) (hd : Dig zs) (h : (trimL zs).length ≠ 0) (hM : m ≤ 281474976710000) : postS zs m w (.returned (.slice (some ⟨w.heap.size, 0, none⟩) m m)) ((w.alloc (.cells (rowOf (zeros m)) 5)).setRow w.heap.size (rowOf (trimL zs))) :=
  .inr ⟨by omega, rfl, setRow_heap _ _ _ _ _ _ alloc_row, by rw [setRow_size]; simp, kept_row ((Below.refl _ _).alloc (Nat.le_refl _) _) (Nat.le_refl _) _⟩
set_option maxRecDepth 100000 in
set_option maxHeartbeats 8000000 in
theorem norm_sharp (a : Option Addr) (n c m : Nat) (zs : List Int) (w : World) (hl : zs.length = n) (hlc : n ≤ c) (hm : c ≤ maxLen) (hr : ByteRow w a zs) (ht : (trimL zs).length = m) (hM : m ≤ 281474976710000) : Calls Sagg.prog 110 #[.slice a n c] w (postS zs m w) := by
  refine CX_calls (tips61 a zs m w) {} (by kernel_rfl) Sagg.func110 rfl _ rfl (by kernel_rfl) ?_
  refine of_eq (p := CutOK (fun (C : G61 → World → Prop) => cut61 zs w C) w ∧
  ((trimL zs).length = 0 → (CallOK Sagg.prog 108 { toList := [Value.slice a n c] } w fun (C : G61 → Value → World → Prop) => C { z := true } (Value.slice a m m) w) ∧ Sem.run Sagg.prog (binOp BinOp.eql 3 (Value.int IntKind.i64 ↑m) (Value.int IntKind.i64 0)) w = Result.ok (Value.bool true) w ∧ (postS zs m w) (Ending.returned (Value.slice none 0 0)) w) ∧
    ((trimL zs).length ≠ 0 →
      (CallOK Sagg.prog 108 { toList := [Value.slice a n c] } w fun (C : G61 → Value → World → Prop) => C { } (Value.slice a m m) w) ∧
        Sem.run Sagg.prog (binOp BinOp.eql 3 (Value.int IntKind.i64 ↑m) (Value.int IntKind.i64 0)) w = Result.ok (Value.bool false) w ∧
          Sem.run Sagg.prog (Instr.makeSlice 91 (Value.int IntKind.i64 ↑m) (Value.int IntKind.i64 ↑m)) w = Result.ok (Value.slice (some { block := w.heap.size, off := 0 }) m m) (w.alloc (Obj.cells { toList := List.map (Value.int IntKind.u8) (zeros m) } 5)) ∧
            Sem.run Sagg.prog
                  (do
                    let __do_lift ← builtin Builtin.copy { toList := [91, 91] } 3 { toList := [false, false] } { toList := [(Value.slice (some { block := w.heap.size, off := 0 }) m m), (Value.slice a m m)] }
                    match __do_lift with
                      | Next.value v => pure v
                      | x => stuck "no value")
                  (w.alloc (Obj.cells { toList := List.map (Value.int IntKind.u8) (zeros m) } 5)) =
                Result.ok (Value.int IntKind.i64 ↑m) ((w.alloc (Obj.cells { toList := List.map (Value.int IntKind.u8) (zeros m) } 5)).setRow w.heap.size { toList := List.map (Value.int IntKind.u8) (trimL zs) }) ∧
              (postS zs m w) (Ending.returned (Value.slice (some { block := w.heap.size, off := 0 }) m m)) ((w.alloc (Obj.cells { toList := List.map (Value.int IntKind.u8) (zeros m) } 5)).setRow w.heap.size { toList := List.map (Value.int IntKind.u8) (trimL zs) }))) (by kernel_rfl) ?_
  exact ⟨(cut61_ok _ _), (fun h1 => ⟨(callSame (by have := trim_calls a n c zs w hl hlc hm hr; rwa [ht] at this)), (eqlen ⟨fun _ => by omega, fun _ => rfl⟩), (fin61s_z ht (by assumption))⟩), (fun h5 => ⟨(callSame (by have := trim_calls a n c zs w hl hlc hm hr; rwa [ht] at this)), (eqlen (no_if (by omega))), (make_n (by omega)), (copy_new Sagg.underlying91 alloc_row (zeros_length _) ht (hr.trimL.ext ((Below.refl _ _).alloc (Nat.le_refl _) _))), (fin61s_n ht hr.1 (by assumption) hM)⟩)⟩

/-! ### Sub -/
set_option maxRecDepth 100000 in
theorem take_nil_run (b : Option Addr) (cb : Nat) : EX.EF Sagg.prog [] 1 1 [] 147 #[.slice none 0 0, .slice b 0 cb] (fun v _ _ => v = .int .u16 0) ⟨[], []⟩ [0] = (Value.int .u16 0 = Value.int .u16 0) := by kernel_rfl
theorem follows_mixed : Sagg.prog.follows .mixedOrders = true := by kernel_rfl
theorem no_specs {nm : World → Value → Int → Prop} {w0 : World} : EX.SpecsOK nm Sagg.prog w0 [] := fun f T hf => by cases hf
set_option maxRecDepth 100000 in
theorem take_nil (b : Option Addr) (cb : Nat) (w : World) : Calls Sagg.prog 147 #[.slice none 0 0, .slice b 0 cb] w fun e w' => e = .returned (.int .u16 0) ∧ Below w.heap.size w w' := by
  have h := of_eq (take_nil_run b cb) rfl
  refine Calls.mono (EX.EF_ok (nm := fun _ _ _ => False) (w0 := w) follows_mixed no_specs _ [] [] _ _ _ _ _ w h ⟨Below.refl _ _, fun k hk => (by cases hk), List.Pairwise.nil, fun p hp => (by cases hp), fun _ _ _ _ _ h => h.elim⟩) ?_
  rintro e w' ⟨v, s, H, rfl, hv, hi⟩
  exact ⟨by rw [hv], hi.below⟩

set_option maxHeartbeats 1000000 in
theorem sub_calls (a b : Option Addr) (la ca lb cb : Nat) (xs ys : List Int) (w : World) (hla : xs.length = la) (hlb : ys.length = lb) (hca : la ≤ ca) (hcb : lb ≤ cb) (hma : ca ≤ maxLen) (hmb : cb ≤ maxLen)
    (h48a : la ≤ 281474976710000) (h48b : lb ≤ 281474976710000) (hx : ByteRow w a xs) (hy : ByteRow w b ys) (hbo : ∀ x, b = some x → x.block < w.heap.size) :
    Calls Sagg.prog 115 #[.slice a la ca, .slice b lb cb] w fun e w' => (val xs < val ys → e = .returned (.tuple #[.slice none 0 0, .bool false])) ∧ (val ys ≤ val xs → ∃ v, e = .returned (.tuple #[v, .bool true]) ∧ IsF w.heap.size w' v (val xs - val ys)) ∧ Below w.heap.size w w' := by
  have hc := cmp_calls a b la ca lb cb xs ys w hla hlb hca hcb hma hmb hx hy
  by_cases hlt : val xs < val ys
  · have e1 : cmpI (val xs) (val ys) = -1 := by unfold cmpI; rw [if_pos hlt]
    rw [e1] at hc
    go_enter Sagg.func115, Sagg.ntmps115
    go_wp2_with fail
    refine hc.mono ?_
    rintro e w' ⟨rfl, n, rfl⟩
    go_wp2
    go_ret2
    exact ⟨fun _ => rfl, fun h => absurd hlt (by omega), ⟨rfl, rfl, rfl, Nat.le_refl _, fun _ _ => rfl⟩⟩
  · have hge : val ys ≤ val xs := by omega
    have e1 : ∃ c : Int, cmpI (val xs) (val ys) = c ∧ 0 ≤ c ∧ c ≤ 1 := by
      refine ⟨_, rfl, ?_⟩
      unfold cmpI
      rw [if_neg hlt]
      split <;> omega
    obtain ⟨c, e1, hc0, hc1⟩ := e1
    rw [e1] at hc
    have hle := trimL_le xs
    have hley := trimL_le ys
    have hy' := hy.trimL
    have dx := hx.1.trimL
    have dy := hy.1.trimL
    have nx := norm_trimL xs
    have ny := norm_trimL ys
    have vx := val_trimL xs
    have vy := val_trimL ys
    have hn := fun n => norm_sharp a la ca _ xs (w.drewN n) hla hca hma ⟨hx.1, hx.2⟩ rfl (by omega)
    have ht := fun w' (hb : Below w.heap.size w w') => trim_calls b lb cb ys w' hlb hcb hmb (hy.ext hb)
    rw [← vx, ← vy] at hge ⊢
    generalize hu : trimL xs = us at *
    generalize trimL ys = vs at *
    have hlen : vs.length ≤ us.length := by
      by_cases h : us.length < vs.length
      · have := val_lt_of_length dx dy ny h
        omega
      · omega
    go_enter Sagg.func115, Sagg.ntmps115
    go_wp2_with fail
    refine hc.mono ?_
    rintro e w' ⟨rfl, n, rfl⟩
    have hneg : ¬ c < 0 := by omega
    go_wp2_with fail
    refine (hn n).mono ?_
    rintro e w1 (⟨h0, rfl, rfl⟩ | ⟨h0, rfl, hrow, hsz, hbel⟩)
    · have hus : us = [] := List.length_eq_zero_iff.1 h0
      have hvs : vs = [] := List.length_eq_zero_iff.1 (by omega)
      go_wp2_with fail
      refine (ht (w.drewN n) ⟨rfl, rfl, rfl, Nat.le_refl _, fun _ _ => rfl⟩).mono ?_
      rintro e w2 ⟨rfl, rfl⟩
      have htk := take_nil b 0 (w.drewN n)
      rw [hvs]
      go_wp2_with fail
      refine htk.mono ?_
      rintro e w3 ⟨rfl, hb3⟩
      have hcl := clip_calls none 0 0 [] w3 rfl (Nat.le_refl _) (Nat.zero_le _) (ByteRow.nil _ _)
      go_wp2_with fail
      refine hcl.mono ?_
      rintro e w4 ⟨rfl, rfl⟩
      go_wp2
      go_ret2
      refine ⟨fun h => absurd h (by omega), fun _ => ⟨_, rfl, ?_⟩, ⟨hb3.os, hb3.tape, hb3.output, hb3.size, hb3.block⟩⟩
      rw [hus, hvs]
      show IsF _ _ (clipped none []) _
      have e2 : clipped none [] = .slice none 0 0 := by kernel_rfl
      rw [e2]
      exact nil_isF
    · have hby : Below w.heap.size w w1 := ⟨hbel.os, hbel.tape, hbel.output, hbel.size, hbel.block⟩
      rw [hu] at hrow
      go_wp2_with fail
      refine (ht w1 hby).mono ?_
      rintro e w2 ⟨rfl, rfl⟩
      have hy2 : ByteRow w2 b vs := hy'.ext hby
      have htk := take_calls w.heap.size b us.length us.length vs.length vs.length us vs w2 rfl rfl hlen (by omega) (by omega) dx hrow hy2 (fun x hx' => ?_)
      · go_wp2_with fail
        refine htk.mono ?_
        rintro e w3 ⟨cur, bw, rfl, hr3, hl3, hd3, hb0, hb1, hv3, hbut⟩
        have hbw : bw = 0 := by
          have h1 := val_lt hd3
          have h2 := val_nonneg hd3
          rw [hl3] at h1
          have h3 := val_lt dx
          by_cases hb : bw = 0
          · exact hb
          · have : bw = 1 := by omega
            subst this
            have := val_nonneg dy
            omega
        subst hbw
        have hcl := clip_calls (some ⟨w.heap.size, 0, none⟩) us.length us.length cur w3 hl3 (Nat.le_refl _) (by omega) (hr3.byteRow hd3)
        go_wp2_with fail
        refine hcl.mono ?_
        rintro e w4 ⟨rfl, rfl⟩
        go_wp2
        go_ret2
        refine ⟨fun h => absurd h (by omega), fun _ => ⟨_, rfl, ?_, clipped_block (Nat.le_refl _)⟩, hby.trans (hbut.below (Nat.le_refl _))⟩
        have := clipped_isN hr3 hd3 (by omega)
        rwa [hv3, Int.mul_zero, Int.add_zero] at this
      · exact Nat.ne_of_lt (hbo x hx')

/-! ### U64 -/
theorem or_byte (x d : Int) (hx0 : 0 ≤ x) (hx : x < 72057594037927936) (hd0 : 0 ≤ d) (hd : d < 256) : bits .or .u64 (IntKind.u64.wrap (x * 256)) d = d + 256 * x := by
  have hw : IntKind.u64.wrap (x * 256) = x * 256 := by
    simp [IntKind.wrap, IntKind.signed, IntKind.bits]; omega
  rw [hw]
  obtain ⟨X, rfl⟩ := Int.eq_ofNat_of_zero_le hx0
  obtain ⟨D, rfl⟩ := Int.eq_ofNat_of_zero_le hd0
  have h := bits_or_u64_nat (2 ^ 8 * X) D (by omega) (by omega)
  have e := Nat.two_pow_add_eq_or_of_lt (i := 8) (b := D) (by omega) X
  rw [← e] at h
  have e2 : ((2 ^ 8 * X : Nat) : Int) = (X : Int) * 256 := by omega
  rw [e2] at h
  rw [h]
  omega
theorem pow256_mono {a b : Nat} (h : a ≤ b) : (256 : Int) ^ a ≤ 256 ^ b := by
  have : (256 : Nat) ^ a ≤ 256 ^ b := Nat.pow_le_pow_right (by omega) h
  have := Int.ofNat_le.2 this
  rw [Int.natCast_pow, Int.natCast_pow] at this
  exact this
set_option maxHeartbeats 1000000 in
theorem u64_small (a : Option Addr) (n c : Nat) (zs : List Int) (w : World) (hl : zs.length = n) (hlc : n ≤ c) (hm : c ≤ maxLen) (hr : ByteRow w a zs) (h8 : (trimL zs).length ≤ 8) :
    Calls Sagg.prog 101 #[.slice a n c] w fun e w' => e = .returned (.tuple #[.int .u64 (val zs), .bool true]) ∧ ∃ n, w' = w.drewN n := by
  have ht := trim_calls a n c zs w hl hlc hm hr
  have hr' := hr.trimL
  rw [← val_trimL zs]
  generalize trimL zs = us at *
  go_enter Sagg.func101, Sagg.ntmps101
  go_wp2_with fail
  refine ht.mono ?_
  rintro e w' ⟨rfl, rfl⟩
  go_wp2
  go_loopw [4, 5] (fun x i wr => ∃ k : Nat, k ≤ us.length ∧ i = .int .i64 k ∧ x = .int .u64 (val (us.drop k)) ∧ wr = w') (fun _ i _ => (intOf i).toNat)
  case atStart => exact ⟨us.length, Nat.le_refl _, rfl, by simp [val], rfl⟩
  case round =>
    obtain ⟨k, hk, rfl, rfl, rfl⟩ := hrel
    by_cases h0 : k = 0
    · subst h0
      go_wp2
      go_ret2
      exact ⟨by simp, 0, rfl⟩
    · obtain ⟨b1, off1, hb1, hcd⟩ : ∃ b1 off1, a = some ⟨b1, off1, none⟩ ∧ wr.cell? ⟨b1, off1 + (k - 1), none⟩ = some (.int .u8 (us.getD (k - 1) 0)) := by
        rcases hr'.2 with h | ⟨b1, off1, hb1, hc1⟩
        · rw [h] at hk; simp at hk; omega
        · exact ⟨b1, off1, hb1, hc1 _ (by omega)⟩
      subst hb1
      have hd := hr'.1.getD (k - 1)
      have hv : val (us.drop (k - 1)) = us.getD (k - 1) 0 + 256 * val (us.drop k) := by
        rw [drop_getD_cons us (k - 1) (by omega), show k - 1 + 1 = k by omega]
        rfl
      have hx0 := val_nonneg (zs := us.drop k) (fun n hn => hr'.1 n (List.mem_of_mem_drop hn))
      have hx1 := val_lt (zs := us.drop k) (fun n hn => hr'.1 n (List.mem_of_mem_drop hn))
      have hx2 := pow256_mono (a := (us.drop k).length) (b := 7) (by rw [List.length_drop]; omega)
      generalize us.getD (k - 1) 0 = d at *
      generalize val (us.drop k) = x at *
      have HV : Hid (val (us.drop (k - 1)) = d + 256 * x) := hv
      have h7 : (256 : Int) ^ 7 = 72057594037927936 := rfl
      have HX : Hid (x < 72057594037927936) := (by omega : x < 72057594037927936)
      clear hv hx1 hx2 h7
      go_wp2
      go_roundw
      case rel =>
        refine ⟨k - 1, by omega, by go_num, ?_, True.intro⟩
        rw [HV.out, or_byte x d hx0 HX.out hd.1 hd.2]
      case measure => simp [intOf]; omega

/-! ### bytesOf, natOf -/
theorem make_t {t : TypeId} {n : Nat} {w : World} (ht : Sagg.prog.underlying t = some (.slice 5)) (h : n ≤ 281474976710000) : (Instr.makeSlice t (.int .i64 (n : Int)) (.int .i64 (n : Int))).run Sagg.prog w = .ok (.slice (some ⟨w.heap.size, 0, none⟩) n n) (w.alloc (.cells (rowOf (zeros n)) 5)) := by
  have := make_bytes ht (n : Int) (by omega) (by omega) w
  rwa [Int.toNat_natCast] at this
structure G0 where
  q : Bool := false
def tips17 (n : Nat) (zs : List Int) (w0 : World) : Tips G0 where
  ops := [(8, { val := some fun _ => .slice (some ⟨w0.heap.size, 0, none⟩) n n, wld := some fun _ w => w.alloc (.cells (rowOf (zeros n)) 5) }), (11, { val := some fun _ => .int .i64 (n : Int), wld := some fun _ w => w.setRow w0.heap.size (rowOf zs) })]
/-- What a copy is. -/
structure Copied (zs : List Int) (n : Nat) (v : Value) (w w' : World) : Prop where
  below : Below w.heap.size w w'
  val : v = .slice none 0 0 ∧ n = 0 ∨ v = .slice (some ⟨w.heap.size, 0, none⟩) n n ∧ w'.heap[w.heap.size]? = some (.cells (rowOf zs) 5 (0, 0))
def post17 (zs : List Int) (n : Nat) (w : World) : Ending → World → Prop := fun e w' => ∃ v, e = .returned v ∧ Copied zs n v w w'
set_option maxRecDepth 100000 in
set_option maxHeartbeats 8000000 in
theorem copyNil_core (n c : Nat) (zs : List Int) (w : World) (hz : n = 0) : Calls Sagg.prog 50 #[.slice none n c] w (post17 zs n w) := by
  refine CX_calls (tips17 n zs w) {} (by kernel_rfl) Sagg.func50 rfl _ rfl (by kernel_rfl) ?_
  refine of_eq (p := (post17 zs n w) (Ending.returned (Value.slice none 0 0)) w) (by kernel_rfl) ?_
  exact ⟨_, rfl, Below.refl _ _, .inl ⟨rfl, hz⟩⟩

set_option maxRecDepth 100000 in
set_option maxHeartbeats 8000000 in
theorem copySome_core (p : Addr) (n c : Nat) (zs : List Int) (w : World) (hl : zs.length = n) (hn : n ≤ 281474976710000) (hr : ByteRow w (some p) zs) : Calls Sagg.prog 50 #[.slice (some p) n c] w (post17 zs n w) := by
  refine CX_calls (tips17 n zs w) {} (by kernel_rfl) Sagg.func50 rfl _ rfl (by kernel_rfl) ?_
  refine of_eq (p := Sem.run Sagg.prog (Instr.makeSlice 30 (Value.int IntKind.i64 ↑n) (Value.int IntKind.i64 ↑n)) w = Result.ok (Value.slice (some { block := w.heap.size, off := 0 }) n n) (w.alloc (Obj.cells { toList := List.map (Value.int IntKind.u8) (zeros n) } 5)) ∧
  Sem.run Sagg.prog
        (do
          let __do_lift ← builtin Builtin.copy { toList := [30, 30] } 3 { toList := [false, false] } { toList := [(Value.slice (some { block := w.heap.size, off := 0 }) n n), (Value.slice (some p) n c)] }
          match __do_lift with
            | Next.value v => pure v
            | x => stuck "no value")
        (w.alloc (Obj.cells { toList := List.map (Value.int IntKind.u8) (zeros n) } 5)) =
      Result.ok (Value.int IntKind.i64 ↑n) ((w.alloc (Obj.cells { toList := List.map (Value.int IntKind.u8) (zeros n) } 5)).setRow w.heap.size { toList := List.map (Value.int IntKind.u8) zs }) ∧
    (post17 zs n w) (Ending.returned (Value.slice (some { block := w.heap.size, off := 0 }) n n)) ((w.alloc (Obj.cells { toList := List.map (Value.int IntKind.u8) (zeros n) } 5)).setRow w.heap.size { toList := List.map (Value.int IntKind.u8) zs })) (by kernel_rfl) ?_
  exact ⟨(make_t Sagg.underlying30 hn), (copy_new Sagg.underlying30 alloc_row (zeros_length _) hl (hr.ext ((Below.refl _ _).alloc (Nat.le_refl _) _))), ⟨_, rfl, kept_row ((Below.refl _ _).alloc (Nat.le_refl _) _) (Nat.le_refl _) _, .inr ⟨rfl, setRow_heap _ _ _ _ _ _ alloc_row⟩⟩⟩

theorem bytesOf_calls (a : Option Addr) (n c : Nat) (zs : List Int) (w : World) (hl : zs.length = n) (hn : n ≤ 281474976710000) (hr : ByteRow w a zs) : Calls Sagg.prog 50 #[.slice a n c] w fun e w' => ∃ v, e = .returned v ∧ Copied zs n v w w' := by
  cases a with
  | none =>
    refine copyNil_core n c zs w ?_
    rcases hr.2 with h | ⟨b, off, h, _⟩
    · rw [← hl, h]; rfl
    · cases h
  | some p => exact copySome_core p n c zs w hl hn hr

theorem norm_len {zs : List Int} {k : Nat} (hd : Dig zs) (hn : Norm zs) (h : val zs < 256 ^ k) : zs.length ≤ k := by
  by_cases hk : zs.length ≤ k
  · exact hk
  · exfalso
    rcases List.eq_nil_or_concat zs with rfl | ⟨l, x, rfl⟩
    · simp at hk
    · rw [List.concat_eq_append] at *
      have hx : x ≠ 0 := by
        intro e
        unfold Norm at hn
        simp [e] at hn
      have hx1 := hd x (by simp)
      have hl := val_nonneg (zs := l) (fun n hn => hd n (by simp [hn]))
      rw [val_append] at h
      have hp := pow256_mono (a := k) (b := l.length) (by simp at hk; omega)
      have h1 : (256 : Int) ^ l.length ≤ 256 ^ l.length * x := by
        have := Int.mul_le_mul_of_nonneg_left (show (1 : Int) ≤ x by omega) (Int.le_of_lt (Int.pow_pos (by omega) : (0 : Int) < 256 ^ l.length))
        rwa [Int.mul_one] at this
      simp [val] at h
      omega
set_option maxRecDepth 100000 in
theorem natOf_nil_run : EX.EF Sagg.prog [] 1 2 [] 148 #[.slice none 0 0] (fun v _ _ => v = .slice none 0 0) ⟨[], []⟩ [0, 0] = (Value.slice none 0 0 = Value.slice none 0 0) := by kernel_rfl
set_option maxRecDepth 100000 in
theorem natOf_nil (w : World) : Calls Sagg.prog 148 #[.slice none 0 0] w fun e w' => e = .returned (.slice none 0 0) ∧ Below w.heap.size w w' := by
  have h := of_eq natOf_nil_run rfl
  refine Calls.mono (EX.EF_ok (nm := fun _ _ _ => False) (w0 := w) follows_mixed no_specs _ [] [] _ _ _ _ _ w h ⟨Below.refl _ _, fun k hk => (by cases hk), List.Pairwise.nil, fun p hp => (by cases hp), fun _ _ _ _ _ h => h.elim⟩) ?_
  rintro e w' ⟨v, s, H, rfl, hv, hi⟩
  exact ⟨by rw [hv], hi.below⟩
set_option maxHeartbeats 1000000 in
theorem natOf_calls (v : Value) (n : Int) (w : World) (h : IsN w v n) (hb : n < 256 ^ 128) : Calls Sagg.prog 148 #[v] w fun e w' => ∃ v', e = .returned v' ∧ IsF w.heap.size w' v' n ∧ Below w.heap.size w w' := by
  obtain ⟨zs, ⟨a, c, rfl, hlc, hm, hr⟩, hn, rfl, h0⟩ := h
  by_cases hz0 : zs = []
  · have e := h0 hz0
    subst hz0
    rw [e]
    refine (natOf_nil w).mono ?_
    rintro e w' ⟨rfl, hbel⟩
    exact ⟨_, rfl, nil_isF, hbel⟩
  have hlen := norm_len hr.1 hn hb
  have hc := bytesOf_calls a zs.length c zs w rfl (by omega) hr
  go_enter Sagg.func148, Sagg.ntmps148
  go_wp2_with fail
  refine hc.mono ?_
  rintro e w' ⟨v, rfl, hcp⟩
  go_wp2
  go_ret
  refine ⟨v, rfl, ?_, hcp.below⟩
  rcases hcp.val with ⟨rfl, hz⟩ | ⟨rfl, hrow⟩
  · exact absurd (List.length_eq_zero_iff.1 hz) hz0
  · refine isF_row ⟨zs, RowAt.isB hrow hr.1 (by unfold maxLen; omega), hn, rfl, fun e => absurd e hz0⟩ (Nat.le_refl _)
end Go.Proofs.YgcsagGreat
