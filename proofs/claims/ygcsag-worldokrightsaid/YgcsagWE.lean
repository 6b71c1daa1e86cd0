/-
  'slotsRise'.
-/
import Derived.Test.YgcsagWD
namespace Go.Proofs.Ygcsag
open Go.RowKit
set_option linter.unusedVariables false
set_option linter.unusedSimpArgs false

theorem accountOK_calls {b o : Nat} {A : AccD} {cs : List Value} {ca : Option Addr} {cn cc : Nat} {sa : Option Addr} {sn sc : Nat} {w : World} (k : IsAcc w cs A ca cn cc sa sn sc) (hr : w.rangeAt b o cs) (eb : Bool) (heb : eb = true ↔ GoodA A cn sn) :
    Calls Sagg.prog 50 #[.pointer (some ⟨b, o, none⟩)] w fun e w' => e = .returned (.bool eb) ∧ ∃ n, w' = w.drewN n := by
  obtain ⟨sb, so, s⟩ := row_block k.slotsR k.slotsL
  exact accountOK_core b o A ca cn cc sa sb so sn sc w (fun wx hx => acc_at k (range_heap hx hr)) k.balL k.slotsR.1 k.slotsL k.slotsM (fun h => ⟨(s h).1, fun wx hx i hi => by rw [cell_heap hx]; exact (s h).2 i hi⟩) eb heb

theorem zeros_of_val : ∀ {zs : List Int}, Dig zs → val zs = 0 → zs = zeros zs.length
  | [], _, _ => rfl
  | x :: r, hd, h => by
    have h1 := hd.head
    have h2 := val_nonneg hd.tail
    simp only [val] at h
    have h3 : x = 0 := by omega
    have h4 : val r = 0 := by omega
    have := zeros_of_val hd.tail h4
    rw [h3]
    show 0 :: r = 0 :: List.replicate r.length 0
    exact congrArg _ this
theorem valB_zero {zs : List Int} (hd : Dig zs) {n : Nat} (hl : zs.length = n) : valB zs = 0 ↔ zs = zeros n := by
  constructor
  · intro h
    have := zeros_of_val (zs := zs.reverse) (fun n hn => hd n (List.mem_reverse.1 hn)) h
    rw [List.length_reverse, hl] at this
    rw [← List.reverse_reverse zs, this]
    exact List.reverse_replicate ..
  · intro h
    rw [h]
    show val (List.replicate n 0).reverse = 0
    rw [List.reverse_replicate, val_zeros]

structure RiseL (zs : List Int) (sn k : Nat) : Prop where
  all : ∀ i, i < k → slotVal zs i ≠ zeros 32 ∧ (i + 1 < sn → ltB (slotKey zs i) (slotKey zs (i + 1)) = true)
theorem RiseL.next {zs : List Int} {sn k : Nat} (h : RiseL zs sn k) (h1 : slotVal zs k ≠ zeros 32) (h2 : k + 1 < sn → ltB (slotKey zs k) (slotKey zs (k + 1)) = true) : RiseL zs sn (k + 1) := ⟨fun i hi => by
  rcases Nat.lt_or_ge i k with h3 | h3
  · exact h.all i h3
  · obtain rfl : i = k := by omega
    exact ⟨h1, h2⟩⟩
theorem rise_iff (zs : List Int) (sn : Nat) : RiseA zs sn ↔ RiseL zs sn sn := by
  constructor
  · intro h
    exact ⟨fun i hi => ⟨(h.all i hi).1, fun h2 => (h.all (i + 1) h2).2 (by omega)⟩⟩
  · intro h
    refine ⟨fun i hi => ⟨(h.all i hi).1, fun h2 => ?_⟩⟩
    have := (h.all (i - 1) (by omega)).2 (by omega)
    rwa [show i - 1 + 1 = i by omega] at this

structure G49 where
  k : Nat := 0
  h : Nat := 0
  W : World
  more : Bool := false
  qz : Bool := false
  nx : Bool := false
  lt : Bool := false
def G49.k1 (k : Nat) (W : World) : G49 := { k := k, W := W, h := W.heap.size, more := false }
def G49.k2 (k : Nat) (W : World) : G49 := { k := k, W := W, h := W.heap.size, more := true, qz := true }
def G49.k3 (k : Nat) (W : World) : G49 := { k := k, W := W, h := W.heap.size, more := true, qz := false, nx := false }
def G49.k4 (k : Nat) (W : World) : G49 := { k := k, W := W, h := W.heap.size, more := true, qz := false, nx := true, lt := false }
def G49.k5 (k : Nat) (W : World) : G49 := { k := k, W := W, h := W.heap.size, more := true, qz := false, nx := true, lt := true }
def loop49 (zs : List Int) (sn : Nat) : LoopTip G49 where
  slots := [7]
  inv := fun _ w us w' => ∃ k : Nat, k ≤ sn ∧ us = [.int .i64 k] ∧ Below w.heap.size w w' ∧ RiseL zs sn k
  T := fun _ w C => ∀ (k : Nat) (W : World), Below w.heap.size w W → RiseL zs sn k → (k = sn → C (G49.k1 k W) [.int .i64 k] W) ∧ (k < sn → slotVal zs k = zeros 32 → C (G49.k2 k W) [.int .i64 k] W) ∧
    (k < sn → slotVal zs k ≠ zeros 32 → k + 1 = sn → C (G49.k3 k W) [.int .i64 k] W) ∧
    (k < sn → slotVal zs k ≠ zeros 32 → k + 1 < sn → ltB (slotKey zs k) (slotKey zs (k + 1)) = false → C (G49.k4 k W) [.int .i64 k] W) ∧
    (k < sn → slotVal zs k ≠ zeros 32 → k + 1 < sn → ltB (slotKey zs k) (slotKey zs (k + 1)) = true → C (G49.k5 k W) [.int .i64 k] W)
  mu := fun _ us _ => sn - (intOf (us.headD undef)).toNat
theorem loop49_ok (zs : List Int) (sn : Nat) (g : G49) (w : World) : LoopOK (loop49 zs sn) g w := by
  rintro C h us w' - ⟨k, hk, rfl, hb, hr⟩
  obtain ⟨h1, h2, h3, h4, h5⟩ := h k w' hb hr
  by_cases e1 : k < sn
  case neg => exact ⟨_, h1 (by omega)⟩
  by_cases e2 : slotVal zs k = zeros 32
  case pos => exact ⟨_, h2 e1 e2⟩
  by_cases e3 : k + 1 < sn
  case neg => exact ⟨_, h3 e1 e2 (by omega)⟩
  cases e4 : ltB (slotKey zs k) (slotKey zs (k + 1)) with
  | false => exact ⟨_, h4 e1 e2 e3 e4⟩
  | true => exact ⟨_, h5 e1 e2 e3 e4⟩
structure Slot49 (W W5 : World) (x : List Int) : Prop where
  below : Below W.heap.size W W5
  r1 : W5.rangeAt W.heap.size 0 (bcells x)
theorem Slot49.later {W W5 W6 : World} {x : List Int} (h : Slot49 W W5 x) (k : Below W5.heap.size W5 W6) : Slot49 W W6 x :=
  ⟨h.below.trans (Below.mono ⟨k.os, k.tape, k.output, k.size, k.block⟩ h.below.size), range_ext h.r1 k⟩
theorem slot49_ok {W : World} {x : List Int} : Slot49 W (W.alloc (.cells (bcells x).toArray 108)) x := by
  have h : (W.alloc (.cells (bcells x).toArray 108)).heap[W.heap.size]? = some (.cells (bcells x).toArray 108 (0, 0)) := by
    show (W.heap.push _)[W.heap.size]? = _
    simp
  exact ⟨(Below.refl _ _).alloc (Nat.le_refl _) _, range_tail h 0 _ (by simp)⟩
def cut49 (zs : List Int) (g : G49) (w : World) (C : G49 → World → Prop) : Prop := ∀ W5, Slot49 g.W W5 (cut zs (g.k * 64) 64) → C g W5
theorem cut49_ok {zs : List Int} {g : G49} {w : World} (h : Slot49 g.W w (cut zs (g.k * 64) 64)) : CutOK (cut49 zs g w) w := fun C hC => ⟨g, hC w h⟩
/-- What a call of FromBE leaves. -/
def fromT (g : G49) (w : World) (C : G49 → Value → World → Prop) : Prop := ∀ W', Below w.heap.size w W' → match g.qz with
  | true => C g (.slice none 0 0) W'
  | false => ∀ a n c, C g (.slice (some a) n c) W'
def tips49 (zs : List Int) (sa : Option Addr) (sb so sn sc : Nat) : Tips G49 where
  ops := [(8, { val := some fun g => .bool g.more }), (10, { val := some fun g => .pointer (some ⟨sb, so + g.k * 64, none⟩) }), (11, { val := some fun g => .agg (bcells (cut zs (g.k * 64) 64)).toArray }), (4, { val := some fun g => .pointer (some ⟨g.h, 0, none⟩), wld := some fun g w => w.alloc (.cells zeroSlot 108) }),
    (1003005, { val := some fun g => undef, wld := some fun g _ => g.W.alloc (.cells (bcells (cut zs (g.k * 64) 64)).toArray 108) }), (14, { tr := some fun g w C => fromT g w C }),
    (17, { val := some fun g => .int .i64 (g.k + 1 : Nat) }), (20, { val := some fun g => .bool g.nx }), (26, { val := some fun g => .int .i64 (g.k + 1 : Nat) }), (27, { val := some fun g => .pointer (some ⟨sb, so + (g.k + 1) * 64, none⟩) }), (30, { val := some fun g => .bool g.lt }), (33, { val := some fun g => .int .i64 (g.k + 1 : Nat) })]
  cuts := [(4, fun g w C => cut49 zs g w C)]
  loops := [(2, loop49 zs sn)]
def postR (eb : Bool) (w : World) : Ending → World → Prop := fun e w' => e = .returned (.bool eb) ∧ Below w.heap.size w w'
theorem finR_t {eb : Bool} {w w' : World} {p : Prop} (heb : eb = true ↔ p) (h : p) (hw : Below w.heap.size w w') : postR eb w (.returned (.bool true)) w' := ⟨by rw [heb.2 h], hw⟩
theorem finR_f {eb : Bool} {w w' : World} {p : Prop} (heb : eb = true ↔ p) (h : ¬ p) (hw : Below w.heap.size w w') : postR eb w (.returned (.bool false)) w' := by
  have : eb = false := by cases eb with | false => rfl | true => exact absurd (heb.1 rfl) h
  exact ⟨by rw [this], hw⟩
theorem IsN.shape {w : World} {v : Value} {n : Int} (h : IsN w v n) : (n = 0 → v = .slice none 0 0) ∧ (n ≠ 0 → ∃ a len cap, v = .slice (some a) len cap ∧ 0 < len) := by
  obtain ⟨zs, ⟨a, cap, hv, h1, h2, hr⟩, hn, hval, h0⟩ := h
  constructor
  · intro e; exact h0 (norm_zero hr.1 hn (by rw [hval, e]))
  · intro e
    rcases hr.2 with hz | ⟨b, off, ha, hc⟩
    · subst hz; exact absurd hval.symm e
    · subst ha
      refine ⟨_, _, _, hv, ?_⟩
      rcases Nat.eq_zero_or_pos zs.length with h3 | h3
      · rw [List.length_eq_zero_iff.1 h3] at hval; exact absurd hval.symm e
      · exact h3
theorem from_ok {g : G49} {w : World} {a : Option Addr} {c : Nat} {zs : List Int} (hl : zs.length = 32) (h : ByteRow w a zs) (hz : g.qz = true ↔ zs = zeros 32) : CallOK Sagg.prog 48 #[.slice a 32 c] w (fun C => fromT g w C) := by
  intro C hC
  refine (fromBE_calls a 32 c zs w hl (by omega) h).mono ?_
  rintro e w' ⟨v, rfl, hn, hb⟩
  have hT := hC w' hb
  have hs := hn.shape
  cases hq : g.qz with
  | true =>
    rw [hq] at hT
    exact ⟨g, v, rfl, by rw [hs.1 ((valB_zero h.1 hl).2 (hz.1 hq))]; exact hT⟩
  | false =>
    rw [hq] at hT
    obtain ⟨a, len, cap, rfl, _⟩ := hs.2 (fun e => by rw [hz.2 ((valB_zero h.1 hl).1 e)] at hq; cases hq)
    exact ⟨g, _, rfl, hT a len cap⟩
theorem slot_parts {zs : List Int} {k sn : Nat} (hl : zs.length = 64 * sn) (hk : k < sn) : (cut zs (k * 64) 64).take 32 = slotKey zs k ∧ (cut zs (k * 64) 64).drop 32 = slotVal zs k := by
  unfold slotKey slotVal cut
  constructor
  · rw [List.take_take]; rfl
  · rw [List.drop_take, List.drop_drop]
theorem slot49_key {W W5 : World} {zs : List Int} {k sn : Nat} (hl : zs.length = 64 * sn) (hd : Dig zs) (hk : k < sn) (h : Slot49 W W5 (cut zs (k * 64) 64)) : ByteRow W5 (some ⟨W.heap.size, 0, none⟩) (slotKey zs k) := by
  rw [← (slot_parts hl hk).1]; exact half1 h.r1 (dig_cut hd _ _)
theorem slot49_val {W W5 : World} {zs : List Int} {k sn : Nat} (hl : zs.length = 64 * sn) (hd : Dig zs) (hk : k < sn) (h : Slot49 W W5 (cut zs (k * 64) 64)) : ByteRow W5 (some ⟨W.heap.size, 32, none⟩) (slotVal zs k) := by
  rw [← (slot_parts hl hk).2]; exact half2 h.r1 (dig_cut hd _ _)
theorem below_drew {W : World} {m : Nat} {a1 a2 : Option Addr} {n c1 c2 : Nat} {xs ys : List Int} (l1 : xs.length = n) (l2 : ys.length = n) (h63 : n ≤ 9223372036854775807) (h1 : ByteRow W a1 xs) (h2 : ByteRow W a2 ys) {q : Bool} (hq : ltB xs ys = q) :
    Calls Sagg.prog 47 #[.slice a1 n c1, .slice a2 n c2] (W.drewN m) fun e w' => e = .returned (.bool q) ∧ ∃ m, w' = W.drewN m := by
  subst hq
  exact (below_calls a1 a2 n c1 n c2 xs ys (W.drewN m) l1 l2 h63 (row_heap (w := W) rfl h1) (row_heap (w := W) rfl h2)).mono fun e w' ⟨h, k⟩ => ⟨h, m, k⟩
theorem bel_tr {a b c : World} (h : Below a.heap.size a b) (k : Below b.heap.size b c) : Below a.heap.size a c := h.trans (Below.mono ⟨k.os, k.tape, k.output, k.size, k.block⟩ h.size)
theorem keep_key {w W : World} {sb so sn k : Nat} {zs : List Int} (hl : zs.length = 64 * sn) (hd : Dig zs) (hk : k < sn) (hc : ∀ i, i < zs.length → w.cell? ⟨sb, so + i, none⟩ = some (.int .u8 (zs.getD i 0))) (hb : Below w.heap.size w W) : ByteRow W (some ⟨sb, so + k * 64, none⟩) (slotKey zs k) :=
  row_range (range_ext (slotKey_at hl hk hc) hb) (dig_cut hd _ _)
theorem rise_no {zs : List Int} {sn k : Nat} (h : RiseL zs sn sn) (hk : ltB (slotKey zs k) (slotKey zs (k + 1)) = false) (hs : k + 1 < sn) : False := by
  have := (h.all k (by omega)).2 hs
  rw [hk] at this; cases this

set_option maxRecDepth 100000 in
set_option maxHeartbeats 8000000 in
theorem slotsRise_core (zs : List Int) (sa : Option Addr) (sb so sn sc : Nat) (w : World) (hd : Dig zs) (hl : zs.length = 64 * sn) (hm : sn ≤ 9223372036854775807) (s : 0 < sn → sa = some ⟨sb, so, none⟩ ∧ ∀ i, i < zs.length → w.cell? ⟨sb, so + i, none⟩ = some (.int .u8 (zs.getD i 0))) (eb : Bool) (heb : eb = true ↔ RiseL zs sn sn) : Calls Sagg.prog 49 #[.slice sa sn sc] w (postR eb w) := by
  refine CX_calls (tips49 zs sa sb so sn sc) { W := w } (by kernel_rfl) Sagg.func49 rfl _ rfl (by kernel_rfl) ?_
  refine of_eq (p := (∃ (k : Nat), k ≤ sn ∧ [Value.int IntKind.i64 0] = [Value.int IntKind.i64 ↑k] ∧ Below w.heap.size w w ∧ RiseL zs sn k) ∧
  LoopOK (loop49 zs sn) { W := w } w ∧
    ∀ (k : Nat) (W : World),
      Below w.heap.size w W →
        RiseL zs sn k →
          (k = sn → Sem.run Sagg.prog (binOp BinOp.lss 3 (Value.int IntKind.i64 ↑k) (Value.int IntKind.i64 ↑sn)) W = Result.ok (Value.bool false) W ∧ (postR eb w) (Ending.returned (Value.bool true)) W) ∧
            (k < sn →
                slotVal zs k = zeros 32 →
                  Sem.run Sagg.prog (binOp BinOp.lss 3 (Value.int IntKind.i64 ↑k) (Value.int IntKind.i64 ↑sn)) W = Result.ok (Value.bool true) W ∧
                    Sem.run Sagg.prog (Instr.indexAt 89 (Value.slice sa sn sc) (Value.int IntKind.i64 ↑k)) W = Result.ok (Value.pointer (some { block := sb, off := so + k * 64 })) W ∧
                      Sem.run Sagg.prog (loadVar 108 { block := sb, off := so + k * 64 }) W = Result.ok (Value.agg { toList := bcells (cut zs (k * 64) 64) }) W ∧
                        Sem.run Sagg.prog (Instr.alloc 108 true (Value.tuple { toList := [] })) W = Result.ok (Value.pointer (some { block := W.heap.size, off := 0 })) (W.alloc (Obj.cells zeroSlot 108)) ∧
                          Sem.run Sagg.prog
                                (do
                                  storeVar 108 { block := W.heap.size, off := 0 } (Value.agg { toList := bcells (cut zs (k * 64) 64) })
                                  pure undef)
                                (W.alloc (Obj.cells zeroSlot 108)) =
                              Result.ok (Value.tuple { toList := [] }) (W.alloc (Obj.cells { toList := bcells (cut zs (k * 64) 64) } 108)) ∧
                            CutOK (fun (C : G49 → World → Prop) => cut49 zs (G49.k2 k W) (W.alloc (Obj.cells (bcells (cut zs (k * 64) 64)).toArray 108)) C) (W.alloc (Obj.cells { toList := bcells (cut zs (k * 64) 64) } 108)) ∧ ∀ (W5 : World), Slot49 W W5 (cut zs (k * 64) 64) → (CallOK Sagg.prog 48 { toList := [Value.slice (some { block := W.heap.size, off := 32 }) 32 32] } W5 fun (C : G49 → Value → World → Prop) => fromT (G49.k2 k W) W5 C) ∧ ∀ (W' : World), Below W5.heap.size W5 W' → (postR eb w) (Ending.returned (Value.bool false)) W') ∧
              (k < sn →
                  slotVal zs k ≠ zeros 32 →
                    k + 1 = sn →
                      Sem.run Sagg.prog (binOp BinOp.lss 3 (Value.int IntKind.i64 ↑k) (Value.int IntKind.i64 ↑sn)) W = Result.ok (Value.bool true) W ∧
                        Sem.run Sagg.prog (Instr.indexAt 89 (Value.slice sa sn sc) (Value.int IntKind.i64 ↑k)) W = Result.ok (Value.pointer (some { block := sb, off := so + k * 64 })) W ∧
                          Sem.run Sagg.prog (loadVar 108 { block := sb, off := so + k * 64 }) W = Result.ok (Value.agg { toList := bcells (cut zs (k * 64) 64) }) W ∧
                            Sem.run Sagg.prog (Instr.alloc 108 true (Value.tuple { toList := [] })) W = Result.ok (Value.pointer (some { block := W.heap.size, off := 0 })) (W.alloc (Obj.cells zeroSlot 108)) ∧
                              Sem.run Sagg.prog
                                    (do
                                      storeVar 108 { block := W.heap.size, off := 0 } (Value.agg { toList := bcells (cut zs (k * 64) 64) })
                                      pure undef)
                                    (W.alloc (Obj.cells zeroSlot 108)) =
                                  Result.ok (Value.tuple { toList := [] }) (W.alloc (Obj.cells { toList := bcells (cut zs (k * 64) 64) } 108)) ∧
                                CutOK (fun (C : G49 → World → Prop) => cut49 zs (G49.k3 k W) (W.alloc (Obj.cells (bcells (cut zs (k * 64) 64)).toArray 108)) C) (W.alloc (Obj.cells { toList := bcells (cut zs (k * 64) 64) } 108)) ∧ ∀ (W5 : World), Slot49 W W5 (cut zs (k * 64) 64) → (CallOK Sagg.prog 48 { toList := [Value.slice (some { block := W.heap.size, off := 32 }) 32 32] } W5 fun (C : G49 → Value → World → Prop) => fromT (G49.k3 k W) W5 C) ∧ ∀ (W' : World), Below W5.heap.size W5 W' → ∀ (a : Addr) (n c : Nat), (∀ (m : Nat), Sem.run Sagg.prog (binOp BinOp.add 3 (Value.int IntKind.i64 ↑k) (Value.int IntKind.i64 1)) (W'.drewN m) = Result.ok (Value.int IntKind.i64 ↑(k + 1)) (W'.drewN m)) ∧ (∀ (m : Nat), Sem.run Sagg.prog (binOp BinOp.lss 3 (Value.int IntKind.i64 ↑(k + 1)) (Value.int IntKind.i64 ↑sn)) (W'.drewN m) = Result.ok (Value.bool false) (W'.drewN m)) ∧ ∀ (m : Nat), Sem.run Sagg.prog (binOp BinOp.add 3 (Value.int IntKind.i64 ↑k) (Value.int IntKind.i64 1)) (W'.drewN m) = Result.ok (Value.int IntKind.i64 ↑(k + 1)) (W'.drewN m) ∧ (∃ (k_1 : Nat), k_1 ≤ sn ∧ [Value.int IntKind.i64 ↑(k + 1)] = [Value.int IntKind.i64 ↑k_1] ∧ Below w.heap.size w (W'.drewN m) ∧ RiseL zs sn k_1) ∧ sn - (((k + 1) : Nat) : Int).toNat < sn - ((k : Nat) : Int).toNat) ∧
                (k < sn →
                    slotVal zs k ≠ zeros 32 →
                      k + 1 < sn →
                        ltB (slotKey zs k) (slotKey zs (k + 1)) = false →
                          Sem.run Sagg.prog (binOp BinOp.lss 3 (Value.int IntKind.i64 ↑k) (Value.int IntKind.i64 ↑sn)) W = Result.ok (Value.bool true) W ∧
                            Sem.run Sagg.prog (Instr.indexAt 89 (Value.slice sa sn sc) (Value.int IntKind.i64 ↑k)) W = Result.ok (Value.pointer (some { block := sb, off := so + k * 64 })) W ∧
                              Sem.run Sagg.prog (loadVar 108 { block := sb, off := so + k * 64 }) W = Result.ok (Value.agg { toList := bcells (cut zs (k * 64) 64) }) W ∧
                                Sem.run Sagg.prog (Instr.alloc 108 true (Value.tuple { toList := [] })) W = Result.ok (Value.pointer (some { block := W.heap.size, off := 0 })) (W.alloc (Obj.cells zeroSlot 108)) ∧
                                  Sem.run Sagg.prog
                                        (do
                                          storeVar 108 { block := W.heap.size, off := 0 } (Value.agg { toList := bcells (cut zs (k * 64) 64) })
                                          pure undef)
                                        (W.alloc (Obj.cells zeroSlot 108)) =
                                      Result.ok (Value.tuple { toList := [] }) (W.alloc (Obj.cells { toList := bcells (cut zs (k * 64) 64) } 108)) ∧
                                    CutOK (fun (C : G49 → World → Prop) => cut49 zs (G49.k4 k W) (W.alloc (Obj.cells (bcells (cut zs (k * 64) 64)).toArray 108)) C) (W.alloc (Obj.cells { toList := bcells (cut zs (k * 64) 64) } 108)) ∧ ∀ (W5 : World), Slot49 W W5 (cut zs (k * 64) 64) → (CallOK Sagg.prog 48 { toList := [Value.slice (some { block := W.heap.size, off := 32 }) 32 32] } W5 fun (C : G49 → Value → World → Prop) => fromT (G49.k4 k W) W5 C) ∧ ∀ (W' : World), Below W5.heap.size W5 W' → ∀ (a : Addr) (n c : Nat), (∀ (m : Nat), Sem.run Sagg.prog (binOp BinOp.add 3 (Value.int IntKind.i64 ↑k) (Value.int IntKind.i64 1)) (W'.drewN m) = Result.ok (Value.int IntKind.i64 ↑(k + 1)) (W'.drewN m)) ∧ (∀ (m : Nat), Sem.run Sagg.prog (binOp BinOp.lss 3 (Value.int IntKind.i64 ↑(k + 1)) (Value.int IntKind.i64 ↑sn)) (W'.drewN m) = Result.ok (Value.bool true) (W'.drewN m)) ∧ (∀ (m : Nat), Sem.run Sagg.prog (binOp BinOp.add 3 (Value.int IntKind.i64 ↑k) (Value.int IntKind.i64 1)) (W'.drewN m) = Result.ok (Value.int IntKind.i64 ↑(k + 1)) (W'.drewN m)) ∧ (∀ (m : Nat), Sem.run Sagg.prog (Instr.indexAt 89 (Value.slice sa sn sc) (Value.int IntKind.i64 ↑(k + 1))) (W'.drewN m) = Result.ok (Value.pointer (some { block := sb, off := so + (k + 1) * 64 })) (W'.drewN m)) ∧ (∀ (m : Nat), Calls Sagg.prog 47 { toList := [Value.slice (some { block := W.heap.size, off := 0 }) 32 32, Value.slice (some { block := sb, off := so + (k + 1) * 64 }) 32 32] } (W'.drewN m) fun (e : Ending) (w' : World) => e = Ending.returned (Value.bool false) ∧ ∃ (m : Nat), w' = W'.drewN m) ∧ ∀ (m : Nat), (postR eb w) (Ending.returned (Value.bool false)) (W'.drewN m)) ∧
                  (k < sn →
                    slotVal zs k ≠ zeros 32 →
                      k + 1 < sn →
                        ltB (slotKey zs k) (slotKey zs (k + 1)) = true →
                          Sem.run Sagg.prog (binOp BinOp.lss 3 (Value.int IntKind.i64 ↑k) (Value.int IntKind.i64 ↑sn)) W = Result.ok (Value.bool true) W ∧
                            Sem.run Sagg.prog (Instr.indexAt 89 (Value.slice sa sn sc) (Value.int IntKind.i64 ↑k)) W = Result.ok (Value.pointer (some { block := sb, off := so + k * 64 })) W ∧
                              Sem.run Sagg.prog (loadVar 108 { block := sb, off := so + k * 64 }) W = Result.ok (Value.agg { toList := bcells (cut zs (k * 64) 64) }) W ∧
                                Sem.run Sagg.prog (Instr.alloc 108 true (Value.tuple { toList := [] })) W = Result.ok (Value.pointer (some { block := W.heap.size, off := 0 })) (W.alloc (Obj.cells zeroSlot 108)) ∧
                                  Sem.run Sagg.prog
                                        (do
                                          storeVar 108 { block := W.heap.size, off := 0 } (Value.agg { toList := bcells (cut zs (k * 64) 64) })
                                          pure undef)
                                        (W.alloc (Obj.cells zeroSlot 108)) =
                                      Result.ok (Value.tuple { toList := [] }) (W.alloc (Obj.cells { toList := bcells (cut zs (k * 64) 64) } 108)) ∧
                                    CutOK (fun (C : G49 → World → Prop) => cut49 zs (G49.k5 k W) (W.alloc (Obj.cells (bcells (cut zs (k * 64) 64)).toArray 108)) C) (W.alloc (Obj.cells { toList := bcells (cut zs (k * 64) 64) } 108)) ∧ ∀ (W5 : World), Slot49 W W5 (cut zs (k * 64) 64) → (CallOK Sagg.prog 48 { toList := [Value.slice (some { block := W.heap.size, off := 32 }) 32 32] } W5 fun (C : G49 → Value → World → Prop) => fromT (G49.k5 k W) W5 C) ∧ ∀ (W' : World), Below W5.heap.size W5 W' → ∀ (a : Addr) (n c : Nat), (∀ (m : Nat), Sem.run Sagg.prog (binOp BinOp.add 3 (Value.int IntKind.i64 ↑k) (Value.int IntKind.i64 1)) (W'.drewN m) = Result.ok (Value.int IntKind.i64 ↑(k + 1)) (W'.drewN m)) ∧ (∀ (m : Nat), Sem.run Sagg.prog (binOp BinOp.lss 3 (Value.int IntKind.i64 ↑(k + 1)) (Value.int IntKind.i64 ↑sn)) (W'.drewN m) = Result.ok (Value.bool true) (W'.drewN m)) ∧ (∀ (m : Nat), Sem.run Sagg.prog (binOp BinOp.add 3 (Value.int IntKind.i64 ↑k) (Value.int IntKind.i64 1)) (W'.drewN m) = Result.ok (Value.int IntKind.i64 ↑(k + 1)) (W'.drewN m)) ∧ (∀ (m : Nat), Sem.run Sagg.prog (Instr.indexAt 89 (Value.slice sa sn sc) (Value.int IntKind.i64 ↑(k + 1))) (W'.drewN m) = Result.ok (Value.pointer (some { block := sb, off := so + (k + 1) * 64 })) (W'.drewN m)) ∧ (∀ (m : Nat), Calls Sagg.prog 47 { toList := [Value.slice (some { block := W.heap.size, off := 0 }) 32 32, Value.slice (some { block := sb, off := so + (k + 1) * 64 }) 32 32] } (W'.drewN m) fun (e : Ending) (w' : World) => e = Ending.returned (Value.bool true) ∧ ∃ (m : Nat), w' = W'.drewN m) ∧ ∀ (m : Nat), Sem.run Sagg.prog (binOp BinOp.add 3 (Value.int IntKind.i64 ↑k) (Value.int IntKind.i64 1)) (W'.drewN m) = Result.ok (Value.int IntKind.i64 ↑(k + 1)) (W'.drewN m) ∧ (∃ (k_1 : Nat), k_1 ≤ sn ∧ [Value.int IntKind.i64 ↑(k + 1)] = [Value.int IntKind.i64 ↑k_1] ∧ Below w.heap.size w (W'.drewN m) ∧ RiseL zs sn k_1) ∧ sn - (((k + 1) : Nat) : Int).toNat < sn - ((k : Nat) : Int).toNat)) (by kernel_rfl) ?_
  exact ⟨⟨0, Nat.zero_le _, rfl, Below.refl _ _, ⟨fun i hi => by omega⟩⟩, (loop49_ok _ _ _ _), (fun k2 => (fun W3 => (fun h4 => (fun h5 => ⟨(fun h6 => ⟨(lss_f (by omega)), (finR_t heb (by have hr := (show RiseL zs sn _ by assumption); have hk := (show _ = sn by assumption); rwa [hk] at hr) (by assumption))⟩), (fun h9 => (fun h10 => ⟨(lss_t (by omega)), (index_slice (i := k2) Sagg.underlying89 info108 (s (by omega)).1 (by omega)), (load_slot2 (by rfl) (fun i hi => kept_cell (by assumption) ((s (by omega)).2 i hi)) _ (by omega)), (run_alloc zero108 rfl), (store_slot rfl (cut_length _ _ _ (by omega))), (cut49_ok slot49_ok), (fun W517 => (fun h18 => ⟨(from_ok (slotVal_len (k := k2) hl (by omega)) (slot49_val (k := k2) hl hd (by omega) (by assumption)) (by simp [G49.k2, *])), (fun W'20 => (fun h21 => (finR_f heb (fun hh => by have hz := hh.all _ (show _ < sn by assumption); exact hz.1 (by assumption)) (bel_tr (by assumption) (show Slot49 _ W'20 _ from Slot49.later (by assumption) (by assumption)).below))))⟩))⟩)), (fun h23 => (fun h24 => (fun h25 => ⟨(lss_t (by omega)), (index_slice (i := k2) Sagg.underlying89 info108 (s (by omega)).1 (by omega)), (load_slot2 (by rfl) (fun i hi => kept_cell (by assumption) ((s (by omega)).2 i hi)) _ (by omega)), (run_alloc zero108 rfl), (store_slot rfl (cut_length _ _ _ (by omega))), (cut49_ok slot49_ok), (fun W532 => (fun h33 => ⟨(from_ok (slotVal_len (k := k2) hl (by omega)) (slot49_val (k := k2) hl hd (by omega) (by assumption)) (by simp [G49.k3, *])), (fun W'35 => (fun h36 => (fun a37 => (fun n38 => (fun c39 => ⟨(fun m40 => (inc_i (m := sn) (by omega) hm)), (fun m42 => (lss_f (by omega))), (fun m44 => ⟨(inc_i (m := sn) (by omega) hm), ⟨_, Nat.succ_le_of_lt (by omega), rfl, kept_drew (show Below w.heap.size w W'35 from bel_tr (by assumption) (show Slot49 _ W'35 _ from Slot49.later (by assumption) (by assumption)).below) _, RiseL.next (by assumption) (by assumption) (fun h => by first | assumption | omega)⟩, (by simp [intOf]; omega)⟩)⟩)))))⟩))⟩))), (fun h48 => (fun h49 => (fun h50 => (fun h51 => ⟨(lss_t (by omega)), (index_slice (i := k2) Sagg.underlying89 info108 (s (by omega)).1 (by omega)), (load_slot2 (by rfl) (fun i hi => kept_cell (by assumption) ((s (by omega)).2 i hi)) _ (by omega)), (run_alloc zero108 rfl), (store_slot rfl (cut_length _ _ _ (by omega))), (cut49_ok slot49_ok), (fun W558 => (fun h59 => ⟨(from_ok (slotVal_len (k := k2) hl (by omega)) (slot49_val (k := k2) hl hd (by omega) (by assumption)) (by simp [G49.k4, *])), (fun W'61 => (fun h62 => (fun a63 => (fun n64 => (fun c65 => ⟨(fun m66 => (inc_i (m := sn) (by omega) hm)), (fun m68 => (lss_t (by omega))), (fun m70 => (inc_i (m := sn) (by omega) hm)), (fun m72 => (index_slice (i := (k2 + 1)) Sagg.underlying89 info108 (s (by omega)).1 (by omega))), (fun m74 => (below_drew (slotKey_len (k := k2) hl (by omega)) (slotKey_len (k := k2 + 1) hl (by omega)) (by omega) (slot49_key (k := k2) hl hd (by omega) (show Slot49 _ W'61 _ from Slot49.later (by assumption) (by assumption))) (keep_key (k := k2 + 1) hl hd (by omega) (s (by omega)).2 (show Below w.heap.size w W'61 from bel_tr (by assumption) (show Slot49 _ W'61 _ from Slot49.later (by assumption) (by assumption)).below)) (by assumption))), (fun m76 => (finR_f heb (fun hh => rise_no hh (by assumption) (by assumption)) (kept_drew (show Below w.heap.size w W'61 from bel_tr (by assumption) (show Slot49 _ W'61 _ from Slot49.later (by assumption) (by assumption)).below) _)))⟩)))))⟩))⟩)))), (fun h78 => (fun h79 => (fun h80 => (fun h81 => ⟨(lss_t (by omega)), (index_slice (i := k2) Sagg.underlying89 info108 (s (by omega)).1 (by omega)), (load_slot2 (by rfl) (fun i hi => kept_cell (by assumption) ((s (by omega)).2 i hi)) _ (by omega)), (run_alloc zero108 rfl), (store_slot rfl (cut_length _ _ _ (by omega))), (cut49_ok slot49_ok), (fun W588 => (fun h89 => ⟨(from_ok (slotVal_len (k := k2) hl (by omega)) (slot49_val (k := k2) hl hd (by omega) (by assumption)) (by simp [G49.k5, *])), (fun W'91 => (fun h92 => (fun a93 => (fun n94 => (fun c95 => ⟨(fun m96 => (inc_i (m := sn) (by omega) hm)), (fun m98 => (lss_t (by omega))), (fun m100 => (inc_i (m := sn) (by omega) hm)), (fun m102 => (index_slice (i := (k2 + 1)) Sagg.underlying89 info108 (s (by omega)).1 (by omega))), (fun m104 => (below_drew (slotKey_len (k := k2) hl (by omega)) (slotKey_len (k := k2 + 1) hl (by omega)) (by omega) (slot49_key (k := k2) hl hd (by omega) (show Slot49 _ W'91 _ from Slot49.later (by assumption) (by assumption))) (keep_key (k := k2 + 1) hl hd (by omega) (s (by omega)).2 (show Below w.heap.size w W'91 from bel_tr (by assumption) (show Slot49 _ W'91 _ from Slot49.later (by assumption) (by assumption)).below)) (by assumption))), (fun m106 => ⟨(inc_i (m := sn) (by omega) hm), ⟨_, Nat.succ_le_of_lt (by omega), rfl, kept_drew (show Below w.heap.size w W'91 from bel_tr (by assumption) (show Slot49 _ W'91 _ from Slot49.later (by assumption) (by assumption)).below) _, RiseL.next (by assumption) (by assumption) (fun h => by first | assumption | omega)⟩, (by simp [intOf]; omega)⟩)⟩)))))⟩))⟩))))⟩))))⟩
end Go.Proofs.Ygcsag
