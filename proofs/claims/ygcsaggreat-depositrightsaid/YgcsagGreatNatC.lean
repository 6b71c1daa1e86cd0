/-
  WALKS: nat.take (in place), nat.Add.
-/
import Derived.Test.YgcsagGreatNatB
import Derived.WalkSpells
namespace Go.Proofs.YgcsagGreat
open Go.RowKit
set_option linter.unusedSimpArgs false
set_option linter.unusedVariables false

/-- Block g alone has turned. -/
structure But (g : Nat) (w w' : World) : Prop where
  os : w'.os = w.os
  tape : w'.tape = w.tape
  output : w'.output = w.output
  size : w'.heap.size = w.heap.size
  block : ∀ k, k ≠ g → w'.heap[k]? = w.heap[k]?

theorem But.refl (g : Nat) (w : World) : But g w w := ⟨rfl, rfl, rfl, rfl, fun _ _ => rfl⟩
theorem But.trans {g : Nat} {a b c : World} (h : But g a b) (k : But g b c) : But g a c :=
  ⟨k.os.trans h.os, k.tape.trans h.tape, k.output.trans h.output, k.size.trans h.size, fun i hi => (k.block i hi).trans (h.block i hi)⟩
theorem But.setCell {g : Nat} {a w : World} (h : But g a w) (o : Nat) (u : Value) : But g a (w.setCell ⟨g, o, none⟩ u) :=
  h.trans ⟨rfl, rfl, rfl, by simp [World.setCell], fun k hk => Below.heap_setCell _ _ _ _ (by simpa using hk)⟩
theorem But.drewN {g : Nat} {a w : World} (h : But g a w) (n : Nat) : But g a (w.drewN n) := ⟨h.os, h.tape, h.output, h.size, h.block⟩
theorem But.below {g B : Nat} {w w' : World} (h : But g w w') (hB : B ≤ g) : Below B w w' := ⟨h.os, h.tape, h.output, by rw [h.size]; exact Nat.le_refl _, fun k hk => h.block k (by omega)⟩
theorem But.cell {g : Nat} {w w' : World} (h : But g w w') {p : Addr} (hp : p.block ≠ g) : w'.cell? p = w.cell? p := World.cell?_of_block (w := w) (h.block p.block hp)
theorem But.row {g k : Nat} {w w' : World} {zs : List Int} (h : But g w w') (hk : k ≠ g) (hr : RowAt w k zs) : RowAt w' k zs := by
  unfold RowAt at *; rw [h.block k hk]; exact hr

theorem ByteRow.but {g : Nat} {w w' : World} {a : Option Addr} {zs : List Int} (h : ByteRow w a zs) (hb : But g w w') (hne : ∀ x, a = some x → x.block ≠ g) : ByteRow w' a zs := by
  refine ⟨h.1, ?_⟩
  rcases h.2 with h0 | ⟨b, off, ha, hc⟩
  · exact .inl h0
  · refine .inr ⟨b, off, ha, fun i hi => ?_⟩
    rw [hb.cell (p := ⟨b, off + i, none⟩) (show b ≠ g from hne _ ha)]
    exact hc i hi

theorem sub_step (p d bw y bw' x V1 V2 V3 : Int) (hx : x = d - bw - y + 256 * bw') (h : V1 = V2 - V3 + p * bw) : V1 + p * x = (V2 + p * d) - (V3 + p * y) + p * 256 * bw' := by
  subst hx
  rw [Int.mul_add, Int.mul_sub, Int.mul_sub, ← Int.mul_assoc]
  omega

/-- What take's loop holds behind i digits. -/
def TakeInv (xs ys : List Int) (cur : List Int) (i : Nat) (bw : Int) : Prop :=
  cur.length = xs.length ∧ Dig cur ∧ 0 ≤ bw ∧ bw ≤ 1 ∧ cur.drop i = xs.drop i ∧ val (cur.take i) = val (xs.take i) - val (ys.take i) + 256 ^ i * bw

theorem getD_of_drop {a b : List Int} {i : Nat} (h : a.drop i = b.drop i) : a.getD i 0 = b.getD i 0 := by
  have := congrArg (fun l : List Int => l.getD 0 0) h
  simpa [List.getD_eq_getElem?_getD, List.getElem?_drop] using this

theorem TakeInv.step {xs ys cur : List Int} {i : Nat} {bw : Int} (h : TakeInv xs ys cur i bw) (hi : i < xs.length) {x bw' : Int} (hx0 : 0 ≤ x ∧ x < 256) (hb' : 0 ≤ bw' ∧ bw' ≤ 1)
    (hx : x = cur.getD i 0 - bw - ys.getD i 0 + 256 * bw') : TakeInv xs ys (cur.set i x) (i + 1) bw' := by
  obtain ⟨h1, h2, h3, h4, h5, h6⟩ := h
  refine ⟨by simpa using h1, h2.set i hx0, hb'.1, hb'.2, ?_, ?_⟩
  · rw [List.drop_set_of_lt (by omega), ← List.drop_drop, ← List.drop_drop, h5]
  · rw [val_take_succ, val_take_succ, val_take_succ, getD_set_self _ _ _ (by omega), take_set_ge _ _ _ _ (Nat.le_refl _), Int.pow_succ]
    refine sub_step _ _ _ _ _ _ _ _ _ ?_ h6
    rw [hx, getD_of_drop h5]

theorem TakeInv.start (xs ys : List Int) (hd : Dig xs) : TakeInv xs ys xs 0 0 := ⟨rfl, hd, by omega, by omega, rfl, by simp [val]⟩

theorem TakeInv.done {xs ys cur : List Int} {bw : Int} (h : TakeInv xs ys cur xs.length bw) (hl : ys.length ≤ xs.length) :
    cur.length = xs.length ∧ Dig cur ∧ 0 ≤ bw ∧ bw ≤ 1 ∧ val cur = val xs - val ys + 256 ^ xs.length * bw := by
  obtain ⟨h1, h2, h3, h4, h5, h6⟩ := h
  rw [List.take_of_length_le (by omega), List.take_of_length_le (Nat.le_refl _), List.take_of_length_le hl] at h6
  exact ⟨h1, h2, h3, h4, h6⟩

set_option maxHeartbeats 1000000 in
theorem take_calls (g : Nat) (b : Option Addr) (n ca lb cb : Nat) (xs ys : List Int) (w : World) (hla : xs.length = n) (hlb : ys.length = lb) (hlab : lb ≤ n) (hma : n ≤ maxLen) (hmb : lb ≤ maxLen)
    (dx : Dig xs) (hx : RowAt w g xs) (hy : ByteRow w b ys) (hne : ∀ x, b = some x → x.block ≠ g) :
    Calls Sagg.prog 147 #[.slice (some ⟨g, 0, none⟩) n ca, .slice b lb cb] w fun e w' => ∃ cur bw, e = .returned (.int .u16 bw) ∧ RowAt w' g cur ∧ cur.length = n ∧ Dig cur ∧ 0 ≤ bw ∧ bw ≤ 1 ∧ val cur = val xs - val ys + 256 ^ n * bw ∧ But g w w' := by
  unfold maxLen at hma hmb
  go_enter Sagg.func147, Sagg.ntmps147
  go_wp2
  go_loopw [5, 11] (fun s i wr => ∃ (k : Nat) (cur : List Int) (bw : Int), k ≤ n ∧ i = .int .i64 k ∧ s = .int .u16 bw ∧ TakeInv xs ys cur k bw ∧ RowAt wr g cur ∧ But g w wr) (fun _ i _ => n - (intOf i).toNat)
  case atStart => exact ⟨0, xs, 0, Nat.zero_le _, rfl, rfl, TakeInv.start xs ys dx, hx, But.refl _ _⟩
  case round =>
    obtain ⟨k, cur, bw, hk, rfl, rfl, hinv, hrow, hbut⟩ := hrel
    by_cases hlt : k < n
    · have hcd := hrow.cell k (by rw [hinv.1]; omega)
      have hfz := hrow.frozen k
      have hd := hinv.2.1.getD k
      have hbw0 := hinv.2.2.1
      have hbw1 := hinv.2.2.2.1
      generalize hde : cur.getD k 0 = d at hcd hd
      have HD : Hid (cur.getD k 0 = d) := hde
      clear hde
      by_cases hlb' : k < lb
      · obtain ⟨b1, off1, hb1, hc1⟩ : ∃ b1 off1, b = some ⟨b1, off1, none⟩ ∧ wr.cell? ⟨b1, off1 + k, none⟩ = some (.int .u8 (ys.getD k 0)) := by
          rcases hy.2 with h0 | ⟨b1, off1, hb1, hc1⟩
          · subst h0; simp at hlb; omega
          · exact ⟨b1, off1, hb1, by rw [hbut.cell (p := ⟨b1, off1 + k, none⟩) (show b1 ≠ g from hne _ hb1)]; exact hc1 k (by omega)⟩
        subst hb1
        have hyd := hy.1.getD k
        generalize hye : ys.getD k 0 = y at hc1 hyd
        have HY : Hid (ys.getD k 0 = y) := hye
        have HI : Hid (TakeInv xs ys cur k bw) := hinv
        have HR : Hid (RowAt wr g cur) := hrow
        clear hye hinv hx hy hrow
        go_wp2
        · have hlt' : d < bw + y := by assumption
          exact ⟨⟨k + 1, cur.set k (d + 256 - (bw + y)), 1, by omega, by go_num, rfl, HI.out.step (by omega) (by omega) (by omega) (by rw [HD.out, HY.out]; omega), HR.out.set _ _, hbut.setCell _ _⟩, by simp [intOf]; omega⟩
        · have hge : bw + y ≤ d := by assumption
          exact ⟨⟨k + 1, cur.set k (d - (bw + y)), 0, by omega, by go_num, rfl, HI.out.step (by omega) (by omega) (by omega) (by rw [HD.out, HY.out]; omega), HR.out.set _ _, hbut.setCell _ _⟩, by simp [intOf]; omega⟩
      · have HY : Hid (ys.getD k 0 = 0) := getD_ge ys k (by omega)
        have HI : Hid (TakeInv xs ys cur k bw) := hinv
        have HR : Hid (RowAt wr g cur) := hrow
        clear hinv hx hy hrow
        go_wp2
        · have hlt' : d < bw := by assumption
          exact ⟨⟨k + 1, cur.set k (d + 256 - bw), 1, by omega, by go_num, rfl, HI.out.step (by omega) (by omega) (by omega) (by rw [HD.out, HY.out]; omega), HR.out.set _ _, hbut.setCell _ _⟩, by simp [intOf]; omega⟩
        · have hge : bw ≤ d := by assumption
          exact ⟨⟨k + 1, cur.set k (d - bw), 0, by omega, by go_num, rfl, HI.out.step (by omega) (by omega) (by omega) (by rw [HD.out, HY.out]; omega), HR.out.set _ _, hbut.setCell _ _⟩, by simp [intOf]; omega⟩
    · have hkn : k = n := by omega
      subst hkn
      subst hla
      have hfin := hinv.done (by omega)
      clear hinv
      go_wp2
      go_ret
      exact ⟨cur, bw, rfl, hrow, hfin.1, hfin.2.1, hfin.2.2.1, hfin.2.2.2.1, hfin.2.2.2.2, hbut⟩

/-- A number in memory as the package makes it: no zero at the top; zero is nil. -/
def IsN (w : World) (v : Value) (n : Int) : Prop := ∃ zs, IsB w v zs ∧ Norm zs ∧ val zs = n ∧ (zs = [] → v = .slice none 0 0)

/-- The same, made behind B. -/
def IsF (B : Nat) (w : World) (v : Value) (n : Int) : Prop := IsN w v n ∧ ∀ a l c, v = .slice (some a) l c → B ≤ a.block
theorem clipped_block {x : Addr} {zs : List Int} {B : Nat} (h : B ≤ x.block) : ∀ a l c, clipped (some x) zs = .slice (some a) l c → B ≤ a.block := by
  intro a l c e
  unfold clipped at e
  split at e
  · cases e
  · cases e
    exact h

/-- What Add's loop holds behind k digits. -/
def AddInv (P Q : List Int) (cur : List Int) (k : Nat) (c : Int) : Prop :=
  cur.length = P.length + 1 ∧ Dig cur ∧ 0 ≤ c ∧ c ≤ 1 ∧ val (cur.take k) + 256 ^ k * c = val (P.take k) + val (Q.take k)

theorem add_step (p t x c' c d y V V1 V2 : Int) (ht : c + d + y = x + 256 * c') (h : V + p * c = V1 + V2) : V + p * x + p * 256 * c' = (V1 + p * d) + (V2 + p * y) := by
  have : x = c + d + y - 256 * c' := by omega
  subst this
  rw [Int.mul_sub, Int.mul_add, Int.mul_add, ← Int.mul_assoc]
  omega

theorem AddInv.step {P Q cur : List Int} {k : Nat} {c : Int} (h : AddInv P Q cur k c) (hk : k < P.length) {x c' : Int} (hx : 0 ≤ x ∧ x < 256) (hc : 0 ≤ c' ∧ c' ≤ 1)
    (ht : c + P.getD k 0 + Q.getD k 0 = x + 256 * c') : AddInv P Q (cur.set k x) (k + 1) c' := by
  obtain ⟨h1, h2, h3, h4, h5⟩ := h
  refine ⟨by simpa using h1, h2.set k hx, hc.1, hc.2, ?_⟩
  rw [val_take_succ, val_take_succ, val_take_succ, getD_set_self _ _ _ (by omega), take_set_ge _ _ _ _ (Nat.le_refl _), Int.pow_succ]
  exact add_step _ 0 _ _ _ _ _ _ _ _ ht h5

theorem AddInv.start (P Q : List Int) : AddInv P Q (zeros (P.length + 1)) 0 0 := ⟨zeros_length _, dig_zeros _, by omega, by omega, by simp [val]⟩

theorem AddInv.done {P Q cur : List Int} {c : Int} (h : AddInv P Q cur P.length c) (hl : Q.length ≤ P.length) :
    (cur.set P.length c).length = P.length + 1 ∧ Dig (cur.set P.length c) ∧ val (cur.set P.length c) = val P + val Q := by
  obtain ⟨h1, h2, h3, h4, h5⟩ := h
  refine ⟨by simpa using h1, h2.set _ (by omega), ?_⟩
  rw [List.take_of_length_le (Nat.le_refl P.length), List.take_of_length_le hl] at h5
  rw [← h5]
  have := val_take_succ (cur.set P.length c) P.length
  rw [List.take_of_length_le (by simp; omega), getD_set_self _ _ _ (by omega), take_set_ge _ _ _ _ (Nat.le_refl _)] at this
  exact this

theorem clipped_isN {w : World} {g : Nat} {zs : List Int} (h : RowAt w g zs) (hd : Dig zs) (hm : zs.length ≤ maxLen) : IsN w (clipped (some ⟨g, 0, none⟩) zs) (val zs) := by
  refine ⟨trimL zs, ?_, norm_trimL zs, val_trimL zs, fun h0 => by simp [clipped, h0]⟩
  have hl := trimL_le zs
  unfold clipped
  by_cases h0 : (trimL zs).length = 0
  · rw [if_pos h0]
    have : trimL zs = [] := List.length_eq_zero_iff.1 h0
    rw [this]
    exact ⟨none, 0, rfl, Nat.le_refl _, by simp, ByteRow.nil _ _⟩
  · rw [if_neg h0]
    exact ⟨_, _, rfl, Nat.le_refl _, by omega, (h.byteRow hd).trimL⟩

set_option maxHeartbeats 1000000 in
theorem add_calls (a b : Option Addr) (la ca lb cb : Nat) (xs ys : List Int) (w : World) (hla : xs.length = la) (hlb : ys.length = lb) (hca : la ≤ ca) (hcb : lb ≤ cb) (hma : ca ≤ maxLen) (hmb : cb ≤ maxLen)
    (h48a : la ≤ 281474976710000) (h48b : lb ≤ 281474976710000) (hx : ByteRow w a xs) (hy : ByteRow w b ys) :
    Calls Sagg.prog 64 #[.slice a la ca, .slice b lb cb] w fun e w' => ∃ v, e = .returned v ∧ IsF w.heap.size w' v (val xs + val ys) ∧ Below w.heap.size w w' := by
  have ha := trim_calls a la ca xs w hla hca hma hx
  have hb := trim_calls b lb cb ys w hlb hcb hmb hy
  have hx' := hx.trimL
  have hy' := hy.trimL
  have hlx := trimL_le xs
  have hly := trimL_le ys
  rw [← val_trimL xs, ← val_trimL ys]
  unfold maxLen at hma hmb
  clear hx hy
  generalize trimL xs = us at *
  generalize trimL ys = vs at *
  by_cases h1 : us.length < vs.length
  · have hmk := fun w => make_bytes Sagg.underlying91 ((vs.length : Int) + 1) (by omega) (by omega) w
    go_enter Sagg.func64, Sagg.ntmps64
    go_wp2_with fail
    refine ha.mono ?_
    rintro e w' ⟨rfl, rfl⟩
    go_wp2_with fail
    refine hb.mono ?_
    rintro e w' ⟨rfl, rfl⟩
    clear ha hb
    go_wp2
    clear hmk
    go_loopw [6, 26] (fun s i wr => ∃ (k : Nat) (cur : List Int) (c : Int), k ≤ vs.length ∧ i = .int .i64 k ∧ s = .int .u16 c ∧ AddInv vs us cur k c ∧ RowAt wr w'.heap.size cur ∧ Below w'.heap.size w' wr) (fun _ i _ => vs.length - (intOf i).toNat)
    case atStart => exact ⟨0, _, 0, Nat.zero_le _, rfl, rfl, AddInv.start _ _, RowAt.alloc _, (Below.refl _ _).alloc (Nat.le_refl _) _⟩
    case round =>
      obtain ⟨k, cur, c, hk, rfl, rfl, hinv, hrow, hbel⟩ := hrel
      by_cases hlt : k < vs.length
      · have hfz := hrow.frozen k
        have hcu := hrow.cell k (by rw [hinv.1]; omega)
        have hc0 := hinv.2.2.1
        have hc1 := hinv.2.2.2.1
        obtain ⟨b1, off1, hb1, hcd⟩ : ∃ b1 off1, b = some ⟨b1, off1, none⟩ ∧ wr.cell? ⟨b1, off1 + k, none⟩ = some (.int .u8 (vs.getD k 0)) := by
          rcases hy'.2 with h0 | ⟨b1, off1, hb1, hc1⟩
          · rw [h0] at hlt; simp at hlt
          · exact ⟨b1, off1, hb1, cell_later hbel (hc1 k hlt)⟩
        subst hb1
        have hd := hy'.1.getD k
        generalize hde : vs.getD k 0 = d at hcd hd
        generalize hue : cur.getD k 0 = u0 at hcu
        have HD : Hid (vs.getD k 0 = d) := hde
        have HI : Hid (AddInv vs us cur k c) := hinv
        have HR : Hid (RowAt wr w'.heap.size cur) := hrow
        clear hde hue hinv hrow
        by_cases hlb' : k < us.length
        · obtain ⟨b2, off2, hb2, hcy⟩ : ∃ b2 off2, a = some ⟨b2, off2, none⟩ ∧ wr.cell? ⟨b2, off2 + k, none⟩ = some (.int .u8 (us.getD k 0)) := by
            rcases hx'.2 with h0 | ⟨b1, off1, hb1, hc1⟩
            · rw [h0] at hlb'; simp at hlb'
            · exact ⟨b1, off1, hb1, cell_later hbel (hc1 k hlb')⟩
          subst hb2
          have hyd := hx'.1.getD k
          generalize hye : us.getD k 0 = y at hcy hyd
          have HY : Hid (us.getD k 0 = y) := hye
          clear hye hx' hy'
          go_wp2
          go_roundw
          case rel => exact ⟨k + 1, cur.set k ((c + d + y) % 256), (c + d + y) / 256, by omega, by go_num, by go_num, HI.out.step hlt (by omega) (by omega) (by rw [HD.out, HY.out]; omega), HR.out.set _ _, hbel.setCell (Nat.le_refl _) _⟩
          case measure => simp [intOf]; omega
        · have HY : Hid (us.getD k 0 = 0) := getD_ge us k (by omega)
          clear hx' hy'
          go_wp2
          go_roundw
          case rel => exact ⟨k + 1, cur.set k ((c + d) % 256), (c + d) / 256, by omega, by go_num, by go_num, HI.out.step hlt (by omega) (by omega) (by rw [HD.out, HY.out]; omega), HR.out.set _ _, hbel.setCell (Nat.le_refl _) _⟩
          case measure => simp [intOf]; omega
      · have hkn : k = vs.length := by omega
        subst hkn
        have hfz := hrow.frozen vs.length
        have hcu := hrow.cell vs.length (by rw [hinv.1]; omega)
        have hc0 := hinv.2.2.1
        have hc1 := hinv.2.2.2.1
        have hfin := hinv.done (by omega)
        have hrow' := hrow.set vs.length c
        have hcl := clip_calls (some ⟨w'.heap.size, 0, none⟩) (vs.length + 1) (vs.length + 1) (cur.set vs.length c) (wr.setCell ⟨w'.heap.size, vs.length, none⟩ (.int .u8 c)) hfin.1 (Nat.le_refl _) (by unfold maxLen; omega) (hrow'.byteRow hfin.2.1)
        have hN := clipped_isN hrow' hfin.2.1 (by rw [hfin.1]; unfold maxLen; omega)
        rw [hfin.2.2, Int.add_comm] at hN
        clear hinv hfin hx' hy' hrow'
        generalize hue : cur.getD vs.length 0 = u0 at hcu
        clear hue
        go_wp2_with fail
        refine hcl.mono ?_
        rintro e w1 ⟨rfl, rfl⟩
        go_wp2
        go_ret
        exact ⟨_, rfl, ⟨hN, clipped_block (Nat.le_refl _)⟩, hbel.setCell (Nat.le_refl _) _⟩
  · have hmk := fun w => make_bytes Sagg.underlying91 ((us.length : Int) + 1) (by omega) (by omega) w
    go_enter Sagg.func64, Sagg.ntmps64
    go_wp2_with fail
    refine ha.mono ?_
    rintro e w' ⟨rfl, rfl⟩
    go_wp2_with fail
    refine hb.mono ?_
    rintro e w' ⟨rfl, rfl⟩
    clear ha hb
    go_wp2
    clear hmk
    go_loopw [6, 26] (fun s i wr => ∃ (k : Nat) (cur : List Int) (c : Int), k ≤ us.length ∧ i = .int .i64 k ∧ s = .int .u16 c ∧ AddInv us vs cur k c ∧ RowAt wr w'.heap.size cur ∧ Below w'.heap.size w' wr) (fun _ i _ => us.length - (intOf i).toNat)
    case atStart => exact ⟨0, _, 0, Nat.zero_le _, rfl, rfl, AddInv.start _ _, RowAt.alloc _, (Below.refl _ _).alloc (Nat.le_refl _) _⟩
    case round =>
      obtain ⟨k, cur, c, hk, rfl, rfl, hinv, hrow, hbel⟩ := hrel
      by_cases hlt : k < us.length
      · have hfz := hrow.frozen k
        have hcu := hrow.cell k (by rw [hinv.1]; omega)
        have hc0 := hinv.2.2.1
        have hc1 := hinv.2.2.2.1
        obtain ⟨b1, off1, hb1, hcd⟩ : ∃ b1 off1, a = some ⟨b1, off1, none⟩ ∧ wr.cell? ⟨b1, off1 + k, none⟩ = some (.int .u8 (us.getD k 0)) := by
          rcases hx'.2 with h0 | ⟨b1, off1, hb1, hc1⟩
          · rw [h0] at hlt; simp at hlt
          · exact ⟨b1, off1, hb1, cell_later hbel (hc1 k hlt)⟩
        subst hb1
        have hd := hx'.1.getD k
        generalize hde : us.getD k 0 = d at hcd hd
        generalize hue : cur.getD k 0 = u0 at hcu
        have HD : Hid (us.getD k 0 = d) := hde
        have HI : Hid (AddInv us vs cur k c) := hinv
        have HR : Hid (RowAt wr w'.heap.size cur) := hrow
        clear hde hue hinv hrow
        by_cases hlb' : k < vs.length
        · obtain ⟨b2, off2, hb2, hcy⟩ : ∃ b2 off2, b = some ⟨b2, off2, none⟩ ∧ wr.cell? ⟨b2, off2 + k, none⟩ = some (.int .u8 (vs.getD k 0)) := by
            rcases hy'.2 with h0 | ⟨b1, off1, hb1, hc1⟩
            · rw [h0] at hlb'; simp at hlb'
            · exact ⟨b1, off1, hb1, cell_later hbel (hc1 k hlb')⟩
          subst hb2
          have hyd := hy'.1.getD k
          generalize hye : vs.getD k 0 = y at hcy hyd
          have HY : Hid (vs.getD k 0 = y) := hye
          clear hye hx' hy'
          go_wp2
          go_roundw
          case rel => exact ⟨k + 1, cur.set k ((c + d + y) % 256), (c + d + y) / 256, by omega, by go_num, by go_num, HI.out.step hlt (by omega) (by omega) (by rw [HD.out, HY.out]; omega), HR.out.set _ _, hbel.setCell (Nat.le_refl _) _⟩
          case measure => simp [intOf]; omega
        · have HY : Hid (vs.getD k 0 = 0) := getD_ge vs k (by omega)
          clear hx' hy'
          go_wp2
          go_roundw
          case rel => exact ⟨k + 1, cur.set k ((c + d) % 256), (c + d) / 256, by omega, by go_num, by go_num, HI.out.step hlt (by omega) (by omega) (by rw [HD.out, HY.out]; omega), HR.out.set _ _, hbel.setCell (Nat.le_refl _) _⟩
          case measure => simp [intOf]; omega
      · have hkn : k = us.length := by omega
        subst hkn
        have hfz := hrow.frozen us.length
        have hcu := hrow.cell us.length (by rw [hinv.1]; omega)
        have hc0 := hinv.2.2.1
        have hc1 := hinv.2.2.2.1
        have hfin := hinv.done (by omega)
        have hrow' := hrow.set us.length c
        have hcl := clip_calls (some ⟨w'.heap.size, 0, none⟩) (us.length + 1) (us.length + 1) (cur.set us.length c) (wr.setCell ⟨w'.heap.size, us.length, none⟩ (.int .u8 c)) hfin.1 (Nat.le_refl _) (by unfold maxLen; omega) (hrow'.byteRow hfin.2.1)
        have hN := clipped_isN hrow' hfin.2.1 (by rw [hfin.1]; unfold maxLen; omega)
        rw [hfin.2.2] at hN
        clear hinv hfin hx' hy' hrow'
        generalize hue : cur.getD us.length 0 = u0 at hcu
        clear hue
        go_wp2_with fail
        refine hcl.mono ?_
        rintro e w1 ⟨rfl, rfl⟩
        go_wp2
        go_ret
        exact ⟨_, rfl, ⟨hN, clipped_block (Nat.le_refl _)⟩, hbel.setCell (Nat.le_refl _) _⟩
end Go.Proofs.YgcsagGreat
