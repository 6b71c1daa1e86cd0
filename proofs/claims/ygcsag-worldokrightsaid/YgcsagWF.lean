/-
  'WorldOK'.
-/
import Derived.Test.YgcsagWE
namespace Go.Proofs.Ygcsag
open Go.RowKit
set_option linter.unusedVariables false
set_option linter.unusedSimpArgs false

theorem slotsRise_calls (zs : List Int) (sa : Option Addr) (sn sc : Nat) (w : World) (hl : zs.length = 64 * sn) (hm : sn ≤ 9223372036854775807) (h : ByteRow w sa zs) (eb : Bool) (heb : eb = true ↔ RiseL zs sn sn) :
    Calls Sagg.prog 49 #[.slice sa sn sc] w fun e w' => e = .returned (.bool eb) ∧ Below w.heap.size w w' := by
  obtain ⟨sb, so, s⟩ := row_block h hl
  exact slotsRise_core zs sa sb so sn sc w h.1 hl hm s eb heb

def Good (A : AccD) : Prop := GoodA A A.code.length (A.slots.length / 64)
structure PreA (L : List AccD) (k : Nat) : Prop where
  all : ∀ i A, i < k → L[i]? = some A → Good A ∧ ∀ Z, 0 < i → L[i - 1]? = some Z → ltB Z.addr A.addr = true
theorem PreA.next {L : List AccD} {k : Nat} {A : AccD} (h : PreA L k) (hA : L[k]? = some A) (hg : Good A) (hz : ∀ Z, 0 < k → L[k - 1]? = some Z → ltB Z.addr A.addr = true) : PreA L (k + 1) := ⟨fun i B hi hB => by
  rcases Nat.lt_or_ge i k with h3 | h3
  · exact h.all i B h3 hB
  · obtain rfl : i = k := by omega
    rw [hA] at hB
    cases hB
    exact ⟨hg, hz⟩⟩
def total : List AccD → Int
  | [] => 0
  | A :: r => valB A.bal + total r
theorem total_append : ∀ (a b : List AccD), total (a ++ b) = total a + total b
  | [], b => by simp [total]
  | A :: a, b => by simp only [List.cons_append, total, total_append a b]; omega
theorem total_next {L : List AccD} {k : Nat} {A : AccD} (h : L[k]? = some A) : total (L.take (k + 1)) = total (L.take k) + valB A.bal := by
  rw [List.take_add_one, total_append, h]
  simp [total]
theorem total_nonneg : ∀ {L : List AccD}, (∀ A ∈ L, Dig A.bal) → 0 ≤ total L
  | [], _ => by simp [total]
  | A :: L, h => by
    have h1 := valB_nonneg (h A (by simp))
    have h2 := total_nonneg (L := L) (fun B hB => h B (by simp [hB]))
    simp only [total]; omega
theorem total_take_le {L : List AccD} (h : ∀ A ∈ L, Dig A.bal) (k : Nat) : total (L.take k) ≤ total L := by
  conv => rhs; rw [← List.take_append_drop k L]
  rw [total_append]
  have := total_nonneg (L := L.drop k) (fun A hA => h A (List.mem_of_mem_drop hA))
  omega
structure WGood (L : List AccD) : Prop where
  n8 : L.length ≤ 8
  pre : PreA L L.length
  sum : total L < 256 ^ 32
theorem AccRow.dig {w : World} {b o : Nat} {L : List AccD} (h : AccRow w b o L) : ∀ A ∈ L, Dig A.bal := fun A hA => by
  obtain ⟨i, hi⟩ := List.getElem?_of_mem hA
  obtain ⟨cs, ca, cn, cc, sa, sn, sc, k1, _⟩ := h i A hi
  exact k1.balD

structure Sum27 (L : List AccD) (k : Nat) (S : List Int) (w0 W : World) : Prop where
  len : S.length = 32
  dig : Dig S
  val : valB S = total (L.take k)
  pre : PreA L k
  below : Below w0.heap.size w0 W
  row : W.heap[w0.heap.size]? = some (.cells (rowOf S) 60 (0, 0))
structure G27 where
  big : Bool := false
  k : Nat := 0
  S : List Int := []
  A : AccD := ⟨[], 0, [], [], []⟩
  Z : AccD := ⟨[], 0, [], [], []⟩
  more : Bool := false
  pos : Bool := false
  ge : Bool := false
  ga : Bool := false
  fits : Bool := false
def G27.b1 : G27 := { big := true }
def G27.b2 : G27 := { big := false }
def G27.e (k : Nat) (S : List Int) : G27 := { k := k, S := S, more := false }
def G27.z1 (k : Nat) (S : List Int) (A : AccD) : G27 := { k := k, S := S, A := A, more := true, pos := false, ga := false }
def G27.z2 (k : Nat) (S : List Int) (A : AccD) : G27 := { k := k, S := S, A := A, more := true, pos := false, ga := true, fits := false }
def G27.z3 (k : Nat) (S : List Int) (A : AccD) : G27 := { k := k, S := S, A := A, more := true, pos := false, ga := true, fits := true }
def G27.p0 (k : Nat) (S : List Int) (A Z : AccD) : G27 := { k := k, S := S, A := A, Z := Z, more := true, pos := true, ge := true }
def G27.p1 (k : Nat) (S : List Int) (A Z : AccD) : G27 := { k := k, S := S, A := A, Z := Z, more := true, pos := true, ge := false, ga := false }
def G27.p2 (k : Nat) (S : List Int) (A Z : AccD) : G27 := { k := k, S := S, A := A, Z := Z, more := true, pos := true, ge := false, ga := true, fits := false }
def G27.p3 (k : Nat) (S : List Int) (A Z : AccD) : G27 := { k := k, S := S, A := A, Z := Z, more := true, pos := true, ge := false, ga := true, fits := true }
def G27.upd (g : G27) (S : List Int) : G27 := { g with S := S }
def cut27 (n : Nat) (w : World) (C : G27 → World → Prop) : Prop := (8 < n → C G27.b1 w) ∧ (n ≤ 8 → C G27.b2 w)
theorem cut27_ok (n : Nat) (w : World) : CutOK (cut27 n w) w := by
  rintro C ⟨h1, h2⟩
  by_cases e : n ≤ 8
  · exact ⟨_, h2 e⟩
  · exact ⟨_, h1 (by omega)⟩
def loop27 (L : List AccD) (n : Nat) (w0 : World) : LoopTip G27 where
  slots := [10]
  inv := fun _ w us w' => ∃ (k : Nat) (S : List Int), k ≤ n ∧ us = [.int .i64 k] ∧ Sum27 L k S w0 w'
  T := fun _ w C => ∀ (k : Nat) (S : List Int) (W : World), Sum27 L k S w0 W → (k = n → C (G27.e k S) [.int .i64 k] W) ∧
    ∀ A, k < n → L[k]? = some A → (k = 0 → (¬ Good A → C (G27.z1 k S A) [.int .i64 k] W) ∧ (Good A → ¬ valB S + valB A.bal < 256 ^ 32 → C (G27.z2 k S A) [.int .i64 k] W) ∧ (Good A → valB S + valB A.bal < 256 ^ 32 → C (G27.z3 k S A) [.int .i64 k] W)) ∧
      ∀ Z, 0 < k → L[k - 1]? = some Z → (ltB Z.addr A.addr = false → C (G27.p0 k S A Z) [.int .i64 k] W) ∧ (ltB Z.addr A.addr = true →
        (¬ Good A → C (G27.p1 k S A Z) [.int .i64 k] W) ∧ (Good A → ¬ valB S + valB A.bal < 256 ^ 32 → C (G27.p2 k S A Z) [.int .i64 k] W) ∧ (Good A → valB S + valB A.bal < 256 ^ 32 → C (G27.p3 k S A Z) [.int .i64 k] W))
  mu := fun _ us _ => n - (intOf (us.headD undef)).toNat
theorem loop27_ok {L : List AccD} {n : Nat} (hl : L.length = n) (w0 : World) (g : G27) (w : World) : LoopOK (loop27 L n w0) g w := by
  classical
  rintro C h us w' - ⟨k, S, hk, rfl, hm⟩
  obtain ⟨h1, h2⟩ := h k S w' hm
  by_cases e1 : k < n
  case neg => exact ⟨_, h1 (by omega)⟩
  obtain ⟨h3, h4⟩ := h2 _ e1 (List.getElem?_eq_getElem (by omega : k < L.length))
  by_cases e2 : 0 < k
  · obtain ⟨h5, h6⟩ := h4 _ e2 (List.getElem?_eq_getElem (by omega : k - 1 < L.length))
    cases e3 : ltB (L[k - 1]'(by omega)).addr (L[k]'(by omega)).addr with
    | false => exact ⟨_, h5 e3⟩
    | true =>
      obtain ⟨c1, c2, c3⟩ := h6 e3
      by_cases e4 : Good (L[k]'(by omega))
      · by_cases e5 : valB S + valB (L[k]'(by omega)).bal < 256 ^ 32
        · exact ⟨_, c3 e4 e5⟩
        · exact ⟨_, c2 e4 e5⟩
      · exact ⟨_, c1 e4⟩
  · obtain ⟨c1, c2, c3⟩ := h3 (by omega)
    by_cases e4 : Good (L[k]'(by omega))
    · by_cases e5 : valB S + valB (L[k]'(by omega)).bal < 256 ^ 32
      · exact ⟨_, c3 e4 e5⟩
      · exact ⟨_, c2 e4 e5⟩
    · exact ⟨_, c1 e4⟩
def accT (g : G27) (w : World) (C : G27 → Value → World → Prop) : Prop := ∀ m, C g (.bool g.ga) (w.drewN m)
def addT (w0 : World) (g : G27) (w : World) (C : G27 → Value → World → Prop) : Prop := ∀ cur W', Post51 g.S g.A.bal w0.heap.size w g.fits cur W' → C (g.upd cur) (.bool g.fits) W'
def tips27 (b1 o1 n : Nat) (L : List AccD) (w0 : World) : Tips G27 where
  ops := [(7, { val := some fun g => .bool g.big }), (3, { val := some fun g => .pointer (some ⟨w0.heap.size, 0, none⟩), wld := some fun g w => w.alloc (.cells (rowOf (zeros 32)) 60) }), (11, { val := some fun g => .bool g.more }), (14, { val := some fun g => .bool g.pos }),
    (18, { val := some fun g => .int .i64 (g.k - 1 : Nat) }), (19, { val := some fun g => .pointer (some ⟨b1, o1 + (g.k - 1) * 55, none⟩) }), (22, { val := some fun g => .string (strOfNums g.Z.addr) }), (25, { val := some fun g => .pointer (some ⟨b1, o1 + g.k * 55, none⟩) }), (28, { val := some fun g => .string (strOfNums g.A.addr) }),
    (29, { val := some fun g => .bool g.ge }), (33, { val := some fun g => .pointer (some ⟨b1, o1 + g.k * 55, none⟩) }), (34, { tr := some fun g w C => accT g w C }), (39, { val := some fun g => .pointer (some ⟨b1, o1 + g.k * 55, none⟩) }), (41, { tr := some fun g w C => addT w0 g w C }), (44, { val := some fun g => .int .i64 (g.k + 1 : Nat) })]
  cuts := [(1, fun _ w C => cut27 n w C)]
  loops := [(5, loop27 L n w0)]
theorem zero60 (w : World) : (zeroValue 60).run Sagg.prog w = .ok (.agg (rowOf (zeros 32))) w := by kernel_rfl
theorem sum27_start {L : List AccD} {w : World} : Sum27 L 0 (zeros 32) w (w.alloc (.cells (rowOf (zeros 32)) 60)) :=
  ⟨zeros_length _, Dig.zeros _, by rw [(valB_zero (zs := zeros 32) (Dig.zeros 32) (zeros_length 32)).2 rfl]; rfl, ⟨fun i A hi => by omega⟩, (Below.refl _ _).alloc (Nat.le_refl _) _, by
    show (w.heap.push _)[w.heap.size]? = _
    simp⟩
theorem good_eq {A : AccD} {w : World} {cs : List Value} {ca : Option Addr} {cn cc : Nat} {sa : Option Addr} {sn sc : Nat} (k : IsAcc w cs A ca cn cc sa sn sc) : Good A ↔ GoodA A cn sn := by
  unfold Good
  rw [k.codeL, k.slotsL, Nat.mul_div_cancel_left _ (by omega)]
theorem acc_call {w W : World} {b o k m : Nat} {L : List AccD} {A : AccD} {g : G27} (h : AccRow w b o L) (hb : Below w.heap.size w W) (hA : L[k]? = some A) (hg : g.ga = true ↔ Good A) :
    CallOK Sagg.prog 50 #[.pointer (some ⟨b, o + k * 55, none⟩)] (W.drewN m) (fun C => accT g (W.drewN m) C) := by
  intro C hC
  obtain ⟨cs, ca, cn, cc, sa, sn, sc, k1, k2⟩ := h k A hA
  refine (accountOK_calls (w := W.drewN m) (k1.ext (kept_drew hb m)) (range_ext k2 (kept_drew hb m)) g.ga (by rw [hg]; exact good_eq k1)).mono ?_
  rintro e w' ⟨rfl, n, rfl⟩
  exact ⟨g, _, rfl, hC n⟩
theorem add_call {w W : World} {b o k : Nat} {L : List AccD} {A : AccD} {S : List Int} {g : G27} (h : AccRow w b o L) (hs : Sum27 L k S w W) (hA : L[k]? = some A) (hg : g.fits = true ↔ valB S + valB A.bal < 256 ^ 32) (gS : g.S = S) (gA : g.A = A) {WX : World} (hx : WX.heap = W.heap) :
    CallOK Sagg.prog 51 #[.pointer (some ⟨w.heap.size, 0, none⟩), .pointer (some ⟨b, o + k * 55 + 21, none⟩)] WX (fun C => addT w g WX C) := by
  intro C hC
  obtain ⟨cs, ca, cn, cc, sa, sn, sc, k1, k2⟩ := h k A hA
  have hat := acc_at k1 (range_heap hx (range_ext k2 hs.below))
  have hlt : b < w.heap.size := cell_lt (acc_at k1 k2).nonce
  subst gS
  subst gA
  refine (addTo_calls w.heap.size b (o + k * 55 + 21) g.S g.A.bal WX hs.len k1.balL hs.dig k1.balD hlt (by rw [hx]; exact hs.row) hat.bal).mono ?_
  rintro e w' ⟨cur, q, rfl, hp⟩
  have : q = g.fits := by
    have h1 := hp.fits
    rw [← hg] at h1
    cases hq : g.fits <;> cases hq2 : q <;> simp_all
  subst this
  exact ⟨g.upd cur, _, rfl, hC cur w' hp⟩
theorem sum27_next {w W : World} {L : List AccD} {A : AccD} {k m : Nat} {S cur : List Int} {WX W' : World} {q : Bool} (hs : Sum27 L k S w W) (hA : L[k]? = some A) (hg : Good A) (hz : ∀ Z, 0 < k → L[k - 1]? = some Z → ltB Z.addr A.addr = true) (hq : q = true)
    (hx : WX = W.drewN m) (hp : Post51 S A.bal w.heap.size WX q cur W') : Sum27 L (k + 1) cur w W' := by
  subst hx
  exact ⟨hp.len, hp.dig, by rw [hp.sum hq, total_next hA, hs.val], hs.pre.next hA hg hz, (kept_drew hs.below m).trans hp.below, hp.row⟩
theorem addr_str {w W : World} {b o k m c : Nat} {L : List AccD} {A : AccD} (h : AccRow w b o L) (hb : Below w.heap.size w W) (hA : L[k]? = some A) :
    (convert 22 9 (.slice (some ⟨b, o + k * 55, none⟩) 20 c)).run Sagg.prog (W.drewN m) = .ok (.string (strOfNums A.addr)) (W.drewN m) := by
  obtain ⟨cs, ca, cn, cc, sa, sn, sc, k1, k2⟩ := h k A hA
  exact conv_range k1.addrL k1.addrD (acc_at k1 (range_ext k2 (kept_drew hb m))).addr
theorem AccRow.addr {w : World} {b o k : Nat} {L : List AccD} {A : AccD} (h : AccRow w b o L) (hA : L[k]? = some A) : Dig A.addr ∧ A.addr.length = 20 := by
  obtain ⟨cs, ca, cn, cc, sa, sn, sc, k1, k2⟩ := h k A hA
  exact ⟨k1.addrD, k1.addrL⟩
theorem geq_addr {w W : World} {b o i j : Nat} {L : List AccD} {Z A : AccD} (h : AccRow w b o L) (hZ : L[i]? = some Z) (hA : L[j]? = some A) {q : Bool} (hq : ltB Z.addr A.addr = !q) :
    (binOp .geq 9 (.string (strOfNums Z.addr)) (.string (strOfNums A.addr))).run Sagg.prog W = .ok (.bool q) W :=
  geqstr (h.addr hZ).1 (h.addr hA).1 (by rw [(h.addr hZ).2, (h.addr hA).2]) hq
theorem wgood_of {L : List AccD} {n k : Nat} {S : List Int} {w W : World} (hl : L.length = n) (hn : n ≤ 8) (hk : k = n) (h : Sum27 L k S w W) : WGood L := by
  subst hk
  refine ⟨by omega, by rw [hl]; exact h.pre, ?_⟩
  have h1 := h.val
  rw [List.take_of_length_le (by omega)] at h1
  rw [← h1]
  have := valB_lt h.dig
  rwa [h.len] at this
theorem not_fits {L : List AccD} {k : Nat} {S : List Int} {A : AccD} {w W : World} (hd : ∀ A ∈ L, Dig A.bal) (h : Sum27 L k S w W) (hA : L[k]? = some A) (hf : ¬ valB S + valB A.bal < 256 ^ 32) (hw : WGood L) : False := by
  have h1 := total_take_le hd (k + 1)
  rw [total_next hA, ← h.val] at h1
  exact hf (Int.lt_of_le_of_lt h1 hw.sum)
theorem not_good {L : List AccD} {k n : Nat} {A : AccD} (hl : L.length = n) (hk : k < n) (hA : L[k]? = some A) (hf : ¬ Good A) (hw : WGood L) : False := hf (hw.pre.all k A (by omega) hA).1
theorem not_lt {L : List AccD} {k n : Nat} {A Z : AccD} (hl : L.length = n) (hk : k < n) (hA : L[k]? = some A) (h0 : 0 < k) (hZ : L[k - 1]? = some Z) (hf : ltB Z.addr A.addr = false) (hw : WGood L) : False := by
  have := (hw.pre.all k A (by omega) hA).2 Z h0 hZ
  rw [hf] at this; cases this
theorem no_iff {p : Prop} (h : ¬ p) : false = true ↔ p := ⟨fun e => (by cases e), fun e => absurd e h⟩
theorem same_z {L : List AccD} {k : Nat} {A Z : AccD} (hZ : L[k - 1]? = some Z) (h : ltB Z.addr A.addr = true) : ∀ Z', 0 < k → L[k - 1]? = some Z' → ltB Z'.addr A.addr = true := fun Z' _ hZ' => by
  rw [hZ] at hZ'; cases hZ'; exact h

set_option maxRecDepth 100000 in
set_option maxHeartbeats 8000000 in
theorem worldOK_core (a : Option Addr) (b1 o1 n c : Nat) (L : List AccD) (w : World) (l : L.length = n) (s : 0 < n → a = some ⟨b1, o1, none⟩ ∧ AccRow w b1 o1 L) (hd : ∀ A ∈ L, Dig A.bal) (eb : Bool) (heb : eb = true ↔ WGood L) : Calls Sagg.prog 27 #[.slice a n c] w (postR eb w) := by
  refine CX_calls (tips27 b1 o1 n L w) {} (by kernel_rfl) Sagg.func27 rfl _ rfl (by kernel_rfl) ?_
  refine of_eq (p := CutOK (fun (C : G27 → World → Prop) => cut27 n w C) w ∧ (8 < n → Sem.run Sagg.prog (binOp BinOp.gtr 3 (Value.int IntKind.i64 ↑n) (Value.int IntKind.i64 8)) w = Result.ok (Value.bool true) w ∧ (postR eb w) (Ending.returned (Value.bool false)) w) ∧ (n ≤ 8 → Sem.run Sagg.prog (binOp BinOp.gtr 3 (Value.int IntKind.i64 ↑n) (Value.int IntKind.i64 8)) w = Result.ok (Value.bool false) w ∧ Sem.run Sagg.prog (Instr.alloc 60 true (Value.tuple { toList := [] })) w = Result.ok (Value.pointer (some { block := w.heap.size, off := 0 })) (w.alloc (Obj.cells { toList := [Value.int IntKind.u8 0, Value.int IntKind.u8 0, Value.int IntKind.u8 0, Value.int IntKind.u8 0, Value.int IntKind.u8 0, Value.int IntKind.u8 0, Value.int IntKind.u8 0, Value.int IntKind.u8 0, Value.int IntKind.u8 0, Value.int IntKind.u8 0, Value.int IntKind.u8 0, Value.int IntKind.u8 0, Value.int IntKind.u8 0, Value.int IntKind.u8 0, Value.int IntKind.u8 0, Value.int IntKind.u8 0, Value.int IntKind.u8 0, Value.int IntKind.u8 0, Value.int IntKind.u8 0, Value.int IntKind.u8 0, Value.int IntKind.u8 0, Value.int IntKind.u8 0, Value.int IntKind.u8 0, Value.int IntKind.u8 0, Value.int IntKind.u8 0, Value.int IntKind.u8 0, Value.int IntKind.u8 0, Value.int IntKind.u8 0, Value.int IntKind.u8 0, Value.int IntKind.u8 0, Value.int IntKind.u8 0, Value.int IntKind.u8 0] } 60)) ∧ (∃ (k : Nat), ∃ (S : List Int), k ≤ n ∧ [Value.int IntKind.i64 0] = [Value.int IntKind.i64 ↑k] ∧ Sum27 L k S w ((fun (g : G27) (w : World) => w.alloc (Obj.cells (rowOf (zeros 32)) 60)) G27.b2 w)) ∧ LoopOK (loop27 L n w) G27.b2 (w.alloc (Obj.cells { toList := [Value.int IntKind.u8 0, Value.int IntKind.u8 0, Value.int IntKind.u8 0, Value.int IntKind.u8 0, Value.int IntKind.u8 0, Value.int IntKind.u8 0, Value.int IntKind.u8 0, Value.int IntKind.u8 0, Value.int IntKind.u8 0, Value.int IntKind.u8 0, Value.int IntKind.u8 0, Value.int IntKind.u8 0, Value.int IntKind.u8 0, Value.int IntKind.u8 0, Value.int IntKind.u8 0, Value.int IntKind.u8 0, Value.int IntKind.u8 0, Value.int IntKind.u8 0, Value.int IntKind.u8 0, Value.int IntKind.u8 0, Value.int IntKind.u8 0, Value.int IntKind.u8 0, Value.int IntKind.u8 0, Value.int IntKind.u8 0, Value.int IntKind.u8 0, Value.int IntKind.u8 0, Value.int IntKind.u8 0, Value.int IntKind.u8 0, Value.int IntKind.u8 0, Value.int IntKind.u8 0, Value.int IntKind.u8 0, Value.int IntKind.u8 0] } 60)) ∧ ∀ (k : Nat) (S : List Int) (W : World), Sum27 L k S w W → (k = n → Sem.run Sagg.prog (binOp BinOp.lss 3 (Value.int IntKind.i64 ↑k) (Value.int IntKind.i64 ↑n)) W = Result.ok (Value.bool false) W ∧ (postR eb w) (Ending.returned (Value.bool true)) W) ∧ ∀ (A : AccD), k < n → L[k]? = some A → (k = 0 → (¬Good A → Sem.run Sagg.prog (binOp BinOp.lss 3 (Value.int IntKind.i64 ↑k) (Value.int IntKind.i64 ↑n)) W = Result.ok (Value.bool true) W ∧ (∀ (m : Nat), Sem.run Sagg.prog (binOp BinOp.gtr 3 (Value.int IntKind.i64 ↑k) (Value.int IntKind.i64 0)) (W.drewN m) = Result.ok (Value.bool false) (W.drewN m)) ∧ ∀ (m : Nat), Sem.run Sagg.prog (Instr.indexAt 53 (Value.slice a n c) (Value.int IntKind.i64 ↑k)) (W.drewN m) = Result.ok (Value.pointer (some { block := b1, off := o1 + k * 55 })) (W.drewN m) ∧ (CallOK Sagg.prog 50 { toList := [Value.pointer (some { block := b1, off := o1 + k * 55 })] } (W.drewN m) fun (C : G27 → Value → World → Prop) => accT (G27.z1 k S A) (W.drewN m) C) ∧ ∀ (m_1 : Nat), (postR eb w) (Ending.returned (Value.bool false)) ((W.drewN m).drewN m_1)) ∧ (Good A → ¬valB S + valB A.bal < 256 ^ 32 → Sem.run Sagg.prog (binOp BinOp.lss 3 (Value.int IntKind.i64 ↑k) (Value.int IntKind.i64 ↑n)) W = Result.ok (Value.bool true) W ∧ (∀ (m : Nat), Sem.run Sagg.prog (binOp BinOp.gtr 3 (Value.int IntKind.i64 ↑k) (Value.int IntKind.i64 0)) (W.drewN m) = Result.ok (Value.bool false) (W.drewN m)) ∧ ∀ (m : Nat), Sem.run Sagg.prog (Instr.indexAt 53 (Value.slice a n c) (Value.int IntKind.i64 ↑k)) (W.drewN m) = Result.ok (Value.pointer (some { block := b1, off := o1 + k * 55 })) (W.drewN m) ∧ (CallOK Sagg.prog 50 { toList := [Value.pointer (some { block := b1, off := o1 + k * 55 })] } (W.drewN m) fun (C : G27 → Value → World → Prop) => accT (G27.z2 k S A) (W.drewN m) C) ∧ ∀ (m_1 : Nat), Sem.run Sagg.prog (Instr.indexAt 53 (Value.slice a n c) (Value.int IntKind.i64 ↑k)) ((W.drewN m).drewN m_1) = Result.ok (Value.pointer (some { block := b1, off := o1 + k * 55 })) ((W.drewN m).drewN m_1) ∧ (CallOK Sagg.prog 51 { toList := [Value.pointer (some { block := w.heap.size, off := 0 }), Value.pointer (some { block := b1, off := o1 + k * 55 + 21 })] } ((W.drewN m).drewN m_1) fun (C : G27 → Value → World → Prop) => addT w (G27.z2 k S A) ((W.drewN m).drewN m_1) C) ∧ ∀ (cur : List Int) (W' : World), Post51 S A.bal w.heap.size ((W.drewN m).drewN m_1) false cur W' → (postR eb w) (Ending.returned (Value.bool false)) W') ∧ (Good A → valB S + valB A.bal < 256 ^ 32 → Sem.run Sagg.prog (binOp BinOp.lss 3 (Value.int IntKind.i64 ↑k) (Value.int IntKind.i64 ↑n)) W = Result.ok (Value.bool true) W ∧ (∀ (m : Nat), Sem.run Sagg.prog (binOp BinOp.gtr 3 (Value.int IntKind.i64 ↑k) (Value.int IntKind.i64 0)) (W.drewN m) = Result.ok (Value.bool false) (W.drewN m)) ∧ ∀ (m : Nat), Sem.run Sagg.prog (Instr.indexAt 53 (Value.slice a n c) (Value.int IntKind.i64 ↑k)) (W.drewN m) = Result.ok (Value.pointer (some { block := b1, off := o1 + k * 55 })) (W.drewN m) ∧ (CallOK Sagg.prog 50 { toList := [Value.pointer (some { block := b1, off := o1 + k * 55 })] } (W.drewN m) fun (C : G27 → Value → World → Prop) => accT (G27.z3 k S A) (W.drewN m) C) ∧ ∀ (m_1 : Nat), Sem.run Sagg.prog (Instr.indexAt 53 (Value.slice a n c) (Value.int IntKind.i64 ↑k)) ((W.drewN m).drewN m_1) = Result.ok (Value.pointer (some { block := b1, off := o1 + k * 55 })) ((W.drewN m).drewN m_1) ∧ (CallOK Sagg.prog 51 { toList := [Value.pointer (some { block := w.heap.size, off := 0 }), Value.pointer (some { block := b1, off := o1 + k * 55 + 21 })] } ((W.drewN m).drewN m_1) fun (C : G27 → Value → World → Prop) => addT w (G27.z3 k S A) ((W.drewN m).drewN m_1) C) ∧ ∀ (cur : List Int) (W' : World), Post51 S A.bal w.heap.size ((W.drewN m).drewN m_1) true cur W' → Sem.run Sagg.prog (binOp BinOp.add 3 (Value.int IntKind.i64 ↑k) (Value.int IntKind.i64 1)) W' = Result.ok (Value.int IntKind.i64 ↑(k + 1)) W' ∧ (∃ (k_1 : Nat), ∃ (S : List Int), k_1 ≤ n ∧ [Value.int IntKind.i64 ↑(k + 1)] = [Value.int IntKind.i64 ↑k_1] ∧ Sum27 L k_1 S w W') ∧ n - (((k + 1) : Nat) : Int).toNat < n - ((k : Nat) : Int).toNat)) ∧ ∀ (Z : AccD), 0 < k → L[k - 1]? = some Z → (ltB Z.addr A.addr = false → Sem.run Sagg.prog (binOp BinOp.lss 3 (Value.int IntKind.i64 ↑k) (Value.int IntKind.i64 ↑n)) W = Result.ok (Value.bool true) W ∧ (∀ (m : Nat), Sem.run Sagg.prog (binOp BinOp.gtr 3 (Value.int IntKind.i64 ↑k) (Value.int IntKind.i64 0)) (W.drewN m) = Result.ok (Value.bool true) (W.drewN m)) ∧ (∀ (m : Nat), Sem.run Sagg.prog (binOp BinOp.sub 3 (Value.int IntKind.i64 ↑k) (Value.int IntKind.i64 1)) (W.drewN m) = Result.ok (Value.int IntKind.i64 ↑(k - 1)) (W.drewN m)) ∧ (∀ (m : Nat), Sem.run Sagg.prog (Instr.indexAt 53 (Value.slice a n c) (Value.int IntKind.i64 ↑(k - 1))) (W.drewN m) = Result.ok (Value.pointer (some { block := b1, off := o1 + (k - 1) * 55 })) (W.drewN m)) ∧ (∀ (m : Nat), Sem.run Sagg.prog (convert 22 9 (Value.slice (some { block := b1, off := o1 + (k - 1) * 55 }) 20 20)) (W.drewN m) = Result.ok (Value.string (strOfNums Z.addr)) (W.drewN m)) ∧ (∀ (m : Nat), Sem.run Sagg.prog (Instr.indexAt 53 (Value.slice a n c) (Value.int IntKind.i64 ↑k)) (W.drewN m) = Result.ok (Value.pointer (some { block := b1, off := o1 + k * 55 })) (W.drewN m)) ∧ (∀ (m : Nat), Sem.run Sagg.prog (convert 22 9 (Value.slice (some { block := b1, off := o1 + k * 55 }) 20 20)) (W.drewN m) = Result.ok (Value.string (strOfNums A.addr)) (W.drewN m)) ∧ (∀ (m : Nat), Sem.run Sagg.prog (binOp BinOp.geq 9 (Value.string (strOfNums Z.addr)) (Value.string (strOfNums A.addr))) (W.drewN m) = Result.ok (Value.bool true) (W.drewN m)) ∧ ∀ (m : Nat), (postR eb w) (Ending.returned (Value.bool false)) (W.drewN m)) ∧ (ltB Z.addr A.addr = true → (¬Good A → Sem.run Sagg.prog (binOp BinOp.lss 3 (Value.int IntKind.i64 ↑k) (Value.int IntKind.i64 ↑n)) W = Result.ok (Value.bool true) W ∧ (∀ (m : Nat), Sem.run Sagg.prog (binOp BinOp.gtr 3 (Value.int IntKind.i64 ↑k) (Value.int IntKind.i64 0)) (W.drewN m) = Result.ok (Value.bool true) (W.drewN m)) ∧ (∀ (m : Nat), Sem.run Sagg.prog (binOp BinOp.sub 3 (Value.int IntKind.i64 ↑k) (Value.int IntKind.i64 1)) (W.drewN m) = Result.ok (Value.int IntKind.i64 ↑(k - 1)) (W.drewN m)) ∧ (∀ (m : Nat), Sem.run Sagg.prog (Instr.indexAt 53 (Value.slice a n c) (Value.int IntKind.i64 ↑(k - 1))) (W.drewN m) = Result.ok (Value.pointer (some { block := b1, off := o1 + (k - 1) * 55 })) (W.drewN m)) ∧ (∀ (m : Nat), Sem.run Sagg.prog (convert 22 9 (Value.slice (some { block := b1, off := o1 + (k - 1) * 55 }) 20 20)) (W.drewN m) = Result.ok (Value.string (strOfNums Z.addr)) (W.drewN m)) ∧ (∀ (m : Nat), Sem.run Sagg.prog (Instr.indexAt 53 (Value.slice a n c) (Value.int IntKind.i64 ↑k)) (W.drewN m) = Result.ok (Value.pointer (some { block := b1, off := o1 + k * 55 })) (W.drewN m)) ∧ (∀ (m : Nat), Sem.run Sagg.prog (convert 22 9 (Value.slice (some { block := b1, off := o1 + k * 55 }) 20 20)) (W.drewN m) = Result.ok (Value.string (strOfNums A.addr)) (W.drewN m)) ∧ (∀ (m : Nat), Sem.run Sagg.prog (binOp BinOp.geq 9 (Value.string (strOfNums Z.addr)) (Value.string (strOfNums A.addr))) (W.drewN m) = Result.ok (Value.bool false) (W.drewN m)) ∧ ∀ (m : Nat), Sem.run Sagg.prog (Instr.indexAt 53 (Value.slice a n c) (Value.int IntKind.i64 ↑k)) (W.drewN m) = Result.ok (Value.pointer (some { block := b1, off := o1 + k * 55 })) (W.drewN m) ∧ (CallOK Sagg.prog 50 { toList := [Value.pointer (some { block := b1, off := o1 + k * 55 })] } (W.drewN m) fun (C : G27 → Value → World → Prop) => accT (G27.p1 k S A Z) (W.drewN m) C) ∧ ∀ (m_1 : Nat), (postR eb w) (Ending.returned (Value.bool false)) ((W.drewN m).drewN m_1)) ∧ (Good A → ¬valB S + valB A.bal < 256 ^ 32 → Sem.run Sagg.prog (binOp BinOp.lss 3 (Value.int IntKind.i64 ↑k) (Value.int IntKind.i64 ↑n)) W = Result.ok (Value.bool true) W ∧ (∀ (m : Nat), Sem.run Sagg.prog (binOp BinOp.gtr 3 (Value.int IntKind.i64 ↑k) (Value.int IntKind.i64 0)) (W.drewN m) = Result.ok (Value.bool true) (W.drewN m)) ∧ (∀ (m : Nat), Sem.run Sagg.prog (binOp BinOp.sub 3 (Value.int IntKind.i64 ↑k) (Value.int IntKind.i64 1)) (W.drewN m) = Result.ok (Value.int IntKind.i64 ↑(k - 1)) (W.drewN m)) ∧ (∀ (m : Nat), Sem.run Sagg.prog (Instr.indexAt 53 (Value.slice a n c) (Value.int IntKind.i64 ↑(k - 1))) (W.drewN m) = Result.ok (Value.pointer (some { block := b1, off := o1 + (k - 1) * 55 })) (W.drewN m)) ∧ (∀ (m : Nat), Sem.run Sagg.prog (convert 22 9 (Value.slice (some { block := b1, off := o1 + (k - 1) * 55 }) 20 20)) (W.drewN m) = Result.ok (Value.string (strOfNums Z.addr)) (W.drewN m)) ∧ (∀ (m : Nat), Sem.run Sagg.prog (Instr.indexAt 53 (Value.slice a n c) (Value.int IntKind.i64 ↑k)) (W.drewN m) = Result.ok (Value.pointer (some { block := b1, off := o1 + k * 55 })) (W.drewN m)) ∧ (∀ (m : Nat), Sem.run Sagg.prog (convert 22 9 (Value.slice (some { block := b1, off := o1 + k * 55 }) 20 20)) (W.drewN m) = Result.ok (Value.string (strOfNums A.addr)) (W.drewN m)) ∧ (∀ (m : Nat), Sem.run Sagg.prog (binOp BinOp.geq 9 (Value.string (strOfNums Z.addr)) (Value.string (strOfNums A.addr))) (W.drewN m) = Result.ok (Value.bool false) (W.drewN m)) ∧ ∀ (m : Nat), Sem.run Sagg.prog (Instr.indexAt 53 (Value.slice a n c) (Value.int IntKind.i64 ↑k)) (W.drewN m) = Result.ok (Value.pointer (some { block := b1, off := o1 + k * 55 })) (W.drewN m) ∧ (CallOK Sagg.prog 50 { toList := [Value.pointer (some { block := b1, off := o1 + k * 55 })] } (W.drewN m) fun (C : G27 → Value → World → Prop) => accT (G27.p2 k S A Z) (W.drewN m) C) ∧ ∀ (m_1 : Nat), Sem.run Sagg.prog (Instr.indexAt 53 (Value.slice a n c) (Value.int IntKind.i64 ↑k)) ((W.drewN m).drewN m_1) = Result.ok (Value.pointer (some { block := b1, off := o1 + k * 55 })) ((W.drewN m).drewN m_1) ∧ (CallOK Sagg.prog 51 { toList := [Value.pointer (some { block := w.heap.size, off := 0 }), Value.pointer (some { block := b1, off := o1 + k * 55 + 21 })] } ((W.drewN m).drewN m_1) fun (C : G27 → Value → World → Prop) => addT w (G27.p2 k S A Z) ((W.drewN m).drewN m_1) C) ∧ ∀ (cur : List Int) (W' : World), Post51 S A.bal w.heap.size ((W.drewN m).drewN m_1) false cur W' → (postR eb w) (Ending.returned (Value.bool false)) W') ∧ (Good A → valB S + valB A.bal < 256 ^ 32 → Sem.run Sagg.prog (binOp BinOp.lss 3 (Value.int IntKind.i64 ↑k) (Value.int IntKind.i64 ↑n)) W = Result.ok (Value.bool true) W ∧ (∀ (m : Nat), Sem.run Sagg.prog (binOp BinOp.gtr 3 (Value.int IntKind.i64 ↑k) (Value.int IntKind.i64 0)) (W.drewN m) = Result.ok (Value.bool true) (W.drewN m)) ∧ (∀ (m : Nat), Sem.run Sagg.prog (binOp BinOp.sub 3 (Value.int IntKind.i64 ↑k) (Value.int IntKind.i64 1)) (W.drewN m) = Result.ok (Value.int IntKind.i64 ↑(k - 1)) (W.drewN m)) ∧ (∀ (m : Nat), Sem.run Sagg.prog (Instr.indexAt 53 (Value.slice a n c) (Value.int IntKind.i64 ↑(k - 1))) (W.drewN m) = Result.ok (Value.pointer (some { block := b1, off := o1 + (k - 1) * 55 })) (W.drewN m)) ∧ (∀ (m : Nat), Sem.run Sagg.prog (convert 22 9 (Value.slice (some { block := b1, off := o1 + (k - 1) * 55 }) 20 20)) (W.drewN m) = Result.ok (Value.string (strOfNums Z.addr)) (W.drewN m)) ∧ (∀ (m : Nat), Sem.run Sagg.prog (Instr.indexAt 53 (Value.slice a n c) (Value.int IntKind.i64 ↑k)) (W.drewN m) = Result.ok (Value.pointer (some { block := b1, off := o1 + k * 55 })) (W.drewN m)) ∧ (∀ (m : Nat), Sem.run Sagg.prog (convert 22 9 (Value.slice (some { block := b1, off := o1 + k * 55 }) 20 20)) (W.drewN m) = Result.ok (Value.string (strOfNums A.addr)) (W.drewN m)) ∧ (∀ (m : Nat), Sem.run Sagg.prog (binOp BinOp.geq 9 (Value.string (strOfNums Z.addr)) (Value.string (strOfNums A.addr))) (W.drewN m) = Result.ok (Value.bool false) (W.drewN m)) ∧ ∀ (m : Nat), Sem.run Sagg.prog (Instr.indexAt 53 (Value.slice a n c) (Value.int IntKind.i64 ↑k)) (W.drewN m) = Result.ok (Value.pointer (some { block := b1, off := o1 + k * 55 })) (W.drewN m) ∧ (CallOK Sagg.prog 50 { toList := [Value.pointer (some { block := b1, off := o1 + k * 55 })] } (W.drewN m) fun (C : G27 → Value → World → Prop) => accT (G27.p3 k S A Z) (W.drewN m) C) ∧ ∀ (m_1 : Nat), Sem.run Sagg.prog (Instr.indexAt 53 (Value.slice a n c) (Value.int IntKind.i64 ↑k)) ((W.drewN m).drewN m_1) = Result.ok (Value.pointer (some { block := b1, off := o1 + k * 55 })) ((W.drewN m).drewN m_1) ∧ (CallOK Sagg.prog 51 { toList := [Value.pointer (some { block := w.heap.size, off := 0 }), Value.pointer (some { block := b1, off := o1 + k * 55 + 21 })] } ((W.drewN m).drewN m_1) fun (C : G27 → Value → World → Prop) => addT w (G27.p3 k S A Z) ((W.drewN m).drewN m_1) C) ∧ ∀ (cur : List Int) (W' : World), Post51 S A.bal w.heap.size ((W.drewN m).drewN m_1) true cur W' → Sem.run Sagg.prog (binOp BinOp.add 3 (Value.int IntKind.i64 ↑k) (Value.int IntKind.i64 1)) W' = Result.ok (Value.int IntKind.i64 ↑(k + 1)) W' ∧ (∃ (k_1 : Nat), ∃ (S : List Int), k_1 ≤ n ∧ [Value.int IntKind.i64 ↑(k + 1)] = [Value.int IntKind.i64 ↑k_1] ∧ Sum27 L k_1 S w W') ∧ n - (((k + 1) : Nat) : Int).toNat < n - ((k : Nat) : Int).toNat)))) (by kernel_rfl) ?_
  exact ⟨(cut27_ok _ _), (fun h1 => ⟨(gtr_t (by omega)), (finR_f heb (fun hh => by have := hh.n8; omega) (Below.refl _ _))⟩), (fun h4 => ⟨(gtr_f (by omega)), (run_alloc zero60 rfl), ⟨0, _, Nat.zero_le _, rfl, sum27_start⟩, (loop27_ok l _ _ _), (fun k9 => (fun S10 => (fun W11 => (fun h12 => ⟨(fun h13 => ⟨(lss_f (by omega)), (finR_t heb (wgood_of l (by assumption) (by assumption) (show Sum27 _ _ _ _ _ by assumption)) (show Sum27 _ _ _ _ _ by assumption).below)⟩), (fun A16 => (fun h17 => (fun h18 => ⟨(fun h19 => ⟨(fun h20 => ⟨(lss_t (by omega)), (fun m22 => (gtr_f (by omega))), (fun m24 => ⟨(index_slice (i := k9) Sagg.underlying53 info91 (s (by omega)).1 (by omega)), (acc_call (s (by omega)).2 (show Sum27 _ _ _ _ _ by assumption).below (by assumption) (by simp [G27.z1, *])), (fun m27 => (finR_f heb (fun hh => by first | exact not_lt l (by assumption) (by assumption) (by assumption) (by assumption) (by assumption) hh | exact not_good l (by assumption) (by assumption) (by assumption) hh | exact not_fits hd (show Sum27 _ _ _ _ _ by assumption) (by assumption) (by assumption) hh) (by first | exact (show Sum27 _ _ _ _ _ by assumption).below | exact kept_drew (show Sum27 _ _ _ _ _ by assumption).below _ | exact (kept_drew (kept_drew (show Sum27 _ _ _ _ _ by assumption).below _) _) | exact (kept_drew (kept_drew (show Sum27 _ _ _ _ _ by assumption).below _) _).trans (show Post51 _ _ _ _ _ _ _ by assumption).below | exact (kept_drew (show Sum27 _ _ _ _ _ by assumption).below _).trans (show Post51 _ _ _ _ _ _ _ by assumption).below)))⟩)⟩), (fun h29 => (fun h30 => ⟨(lss_t (by omega)), (fun m32 => (gtr_f (by omega))), (fun m34 => ⟨(index_slice (i := k9) Sagg.underlying53 info91 (s (by omega)).1 (by omega)), (acc_call (s (by omega)).2 (show Sum27 _ _ _ _ _ by assumption).below (by assumption) (by simp [G27.z2, *])), (fun m37 => ⟨(index_slice (i := k9) Sagg.underlying53 info91 (s (by omega)).1 (by omega)), (add_call (s (by omega)).2 (show Sum27 _ _ _ _ W11 by assumption) (by assumption) (no_iff (by assumption)) rfl rfl rfl), (fun cur40 => (fun W'41 => (fun h42 => (finR_f heb (fun hh => by first | exact not_lt l (by assumption) (by assumption) (by assumption) (by assumption) (by assumption) hh | exact not_good l (by assumption) (by assumption) (by assumption) hh | exact not_fits hd (show Sum27 _ _ _ _ _ by assumption) (by assumption) (by assumption) hh) (by first | exact (show Sum27 _ _ _ _ _ by assumption).below | exact kept_drew (show Sum27 _ _ _ _ _ by assumption).below _ | exact (kept_drew (kept_drew (show Sum27 _ _ _ _ _ by assumption).below _) _) | exact (kept_drew (kept_drew (show Sum27 _ _ _ _ _ by assumption).below _) _).trans (show Post51 _ _ _ _ _ _ _ by assumption).below | exact (kept_drew (show Sum27 _ _ _ _ _ by assumption).below _).trans (show Post51 _ _ _ _ _ _ _ by assumption).below)))))⟩)⟩)⟩)), (fun h44 => (fun h45 => ⟨(lss_t (by omega)), (fun m47 => (gtr_f (by omega))), (fun m49 => ⟨(index_slice (i := k9) Sagg.underlying53 info91 (s (by omega)).1 (by omega)), (acc_call (s (by omega)).2 (show Sum27 _ _ _ _ _ by assumption).below (by assumption) (by simp [G27.z3, *])), (fun m52 => ⟨(index_slice (i := k9) Sagg.underlying53 info91 (s (by omega)).1 (by omega)), (add_call (s (by omega)).2 (show Sum27 _ _ _ _ W11 by assumption) (by assumption) ⟨fun _ => by assumption, fun _ => rfl⟩ rfl rfl rfl), (fun cur55 => (fun W'56 => (fun h57 => ⟨(inc_i (m := n) (by omega) (by omega)), ⟨_, _, Nat.succ_le_of_lt (by omega), rfl, sum27_next (show Sum27 _ _ _ _ _ by assumption) (by assumption) (by assumption) (by first | exact fun Z h0 hZ => absurd h0 (by omega) | exact same_z (by assumption) (by assumption)) rfl (drew2 _ _ _) (by assumption)⟩, (by simp [intOf]; omega)⟩)))⟩)⟩)⟩))⟩), (fun Z61 => (fun h62 => (fun h63 => ⟨(fun h64 => ⟨(lss_t (by omega)), (fun m66 => (gtr_t (by omega))), (fun m68 => (sub_1 (by omega) (by omega))), (fun m70 => (index_slice (i := (k9 - 1)) Sagg.underlying53 info91 (s (by omega)).1 (by omega))), (fun m72 => (addr_str (s (by omega)).2 (show Sum27 _ _ _ _ _ by assumption).below (by assumption))), (fun m74 => (index_slice (i := k9) Sagg.underlying53 info91 (s (by omega)).1 (by omega))), (fun m76 => (addr_str (s (by omega)).2 (show Sum27 _ _ _ _ _ by assumption).below (by assumption))), (fun m78 => (geq_addr (s (by omega)).2 (by assumption) (by assumption) (by assumption))), (fun m80 => (finR_f heb (fun hh => by first | exact not_lt l (by assumption) (by assumption) (by assumption) (by assumption) (by assumption) hh | exact not_good l (by assumption) (by assumption) (by assumption) hh | exact not_fits hd (show Sum27 _ _ _ _ _ by assumption) (by assumption) (by assumption) hh) (by first | exact (show Sum27 _ _ _ _ _ by assumption).below | exact kept_drew (show Sum27 _ _ _ _ _ by assumption).below _ | exact (kept_drew (kept_drew (show Sum27 _ _ _ _ _ by assumption).below _) _) | exact (kept_drew (kept_drew (show Sum27 _ _ _ _ _ by assumption).below _) _).trans (show Post51 _ _ _ _ _ _ _ by assumption).below | exact (kept_drew (show Sum27 _ _ _ _ _ by assumption).below _).trans (show Post51 _ _ _ _ _ _ _ by assumption).below)))⟩), (fun h82 => ⟨(fun h83 => ⟨(lss_t (by omega)), (fun m85 => (gtr_t (by omega))), (fun m87 => (sub_1 (by omega) (by omega))), (fun m89 => (index_slice (i := (k9 - 1)) Sagg.underlying53 info91 (s (by omega)).1 (by omega))), (fun m91 => (addr_str (s (by omega)).2 (show Sum27 _ _ _ _ _ by assumption).below (by assumption))), (fun m93 => (index_slice (i := k9) Sagg.underlying53 info91 (s (by omega)).1 (by omega))), (fun m95 => (addr_str (s (by omega)).2 (show Sum27 _ _ _ _ _ by assumption).below (by assumption))), (fun m97 => (geq_addr (s (by omega)).2 (by assumption) (by assumption) (by assumption))), (fun m99 => ⟨(index_slice (i := k9) Sagg.underlying53 info91 (s (by omega)).1 (by omega)), (acc_call (s (by omega)).2 (show Sum27 _ _ _ _ _ by assumption).below (by assumption) (by simp [G27.p1, *])), (fun m102 => (finR_f heb (fun hh => by first | exact not_lt l (by assumption) (by assumption) (by assumption) (by assumption) (by assumption) hh | exact not_good l (by assumption) (by assumption) (by assumption) hh | exact not_fits hd (show Sum27 _ _ _ _ _ by assumption) (by assumption) (by assumption) hh) (by first | exact (show Sum27 _ _ _ _ _ by assumption).below | exact kept_drew (show Sum27 _ _ _ _ _ by assumption).below _ | exact (kept_drew (kept_drew (show Sum27 _ _ _ _ _ by assumption).below _) _) | exact (kept_drew (kept_drew (show Sum27 _ _ _ _ _ by assumption).below _) _).trans (show Post51 _ _ _ _ _ _ _ by assumption).below | exact (kept_drew (show Sum27 _ _ _ _ _ by assumption).below _).trans (show Post51 _ _ _ _ _ _ _ by assumption).below)))⟩)⟩), (fun h104 => (fun h105 => ⟨(lss_t (by omega)), (fun m107 => (gtr_t (by omega))), (fun m109 => (sub_1 (by omega) (by omega))), (fun m111 => (index_slice (i := (k9 - 1)) Sagg.underlying53 info91 (s (by omega)).1 (by omega))), (fun m113 => (addr_str (s (by omega)).2 (show Sum27 _ _ _ _ _ by assumption).below (by assumption))), (fun m115 => (index_slice (i := k9) Sagg.underlying53 info91 (s (by omega)).1 (by omega))), (fun m117 => (addr_str (s (by omega)).2 (show Sum27 _ _ _ _ _ by assumption).below (by assumption))), (fun m119 => (geq_addr (s (by omega)).2 (by assumption) (by assumption) (by assumption))), (fun m121 => ⟨(index_slice (i := k9) Sagg.underlying53 info91 (s (by omega)).1 (by omega)), (acc_call (s (by omega)).2 (show Sum27 _ _ _ _ _ by assumption).below (by assumption) (by simp [G27.p2, *])), (fun m124 => ⟨(index_slice (i := k9) Sagg.underlying53 info91 (s (by omega)).1 (by omega)), (add_call (s (by omega)).2 (show Sum27 _ _ _ _ W11 by assumption) (by assumption) (no_iff (by assumption)) rfl rfl rfl), (fun cur127 => (fun W'128 => (fun h129 => (finR_f heb (fun hh => by first | exact not_lt l (by assumption) (by assumption) (by assumption) (by assumption) (by assumption) hh | exact not_good l (by assumption) (by assumption) (by assumption) hh | exact not_fits hd (show Sum27 _ _ _ _ _ by assumption) (by assumption) (by assumption) hh) (by first | exact (show Sum27 _ _ _ _ _ by assumption).below | exact kept_drew (show Sum27 _ _ _ _ _ by assumption).below _ | exact (kept_drew (kept_drew (show Sum27 _ _ _ _ _ by assumption).below _) _) | exact (kept_drew (kept_drew (show Sum27 _ _ _ _ _ by assumption).below _) _).trans (show Post51 _ _ _ _ _ _ _ by assumption).below | exact (kept_drew (show Sum27 _ _ _ _ _ by assumption).below _).trans (show Post51 _ _ _ _ _ _ _ by assumption).below)))))⟩)⟩)⟩)), (fun h131 => (fun h132 => ⟨(lss_t (by omega)), (fun m134 => (gtr_t (by omega))), (fun m136 => (sub_1 (by omega) (by omega))), (fun m138 => (index_slice (i := (k9 - 1)) Sagg.underlying53 info91 (s (by omega)).1 (by omega))), (fun m140 => (addr_str (s (by omega)).2 (show Sum27 _ _ _ _ _ by assumption).below (by assumption))), (fun m142 => (index_slice (i := k9) Sagg.underlying53 info91 (s (by omega)).1 (by omega))), (fun m144 => (addr_str (s (by omega)).2 (show Sum27 _ _ _ _ _ by assumption).below (by assumption))), (fun m146 => (geq_addr (s (by omega)).2 (by assumption) (by assumption) (by assumption))), (fun m148 => ⟨(index_slice (i := k9) Sagg.underlying53 info91 (s (by omega)).1 (by omega)), (acc_call (s (by omega)).2 (show Sum27 _ _ _ _ _ by assumption).below (by assumption) (by simp [G27.p3, *])), (fun m151 => ⟨(index_slice (i := k9) Sagg.underlying53 info91 (s (by omega)).1 (by omega)), (add_call (s (by omega)).2 (show Sum27 _ _ _ _ W11 by assumption) (by assumption) ⟨fun _ => by assumption, fun _ => rfl⟩ rfl rfl rfl), (fun cur154 => (fun W'155 => (fun h156 => ⟨(inc_i (m := n) (by omega) (by omega)), ⟨_, _, Nat.succ_le_of_lt (by omega), rfl, sum27_next (show Sum27 _ _ _ _ _ by assumption) (by assumption) (by assumption) (by first | exact fun Z h0 hZ => absurd h0 (by omega) | exact same_z (by assumption) (by assumption)) rfl (drew2 _ _ _) (by assumption)⟩, (by simp [intOf]; omega)⟩)))⟩)⟩)⟩))⟩)⟩)))⟩)))⟩))))⟩)⟩
end Go.Proofs.Ygcsag
