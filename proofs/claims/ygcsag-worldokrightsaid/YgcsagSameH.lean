/-
  WALK: law.worldsMeet.
-/
import Derived.Test.YgcsagSameG
import Derived.Test.YgcsagSameE
namespace Go.Proofs.Ygcsag
open Go.RowKit
set_option linter.unusedSimpArgs false
set_option linter.unusedVariables false

def zeroAcc : Array Value := (bcells (zeros 20) ++ (Value.int .u64 0 :: (bcells (zeros 32) ++ [Value.slice none 0 0, Value.slice none 0 0]))).toArray
def zeroSlot : Array Value := (bcells (zeros 64)).toArray
theorem zero91 (w : World) : (zeroValue 91).run Sagg.prog w = .ok (.agg zeroAcc) w := by kernel_rfl
theorem zero108 (w : World) : (zeroValue 108).run Sagg.prog w = .ok (.agg zeroSlot) w := by kernel_rfl
theorem zeroAcc_size : zeroAcc.size = 55 := by kernel_rfl
theorem zeroSlot_size : zeroSlot.size = 64 := by kernel_rfl
theorem run_alloc {P : Program} {t : TypeId} {z : Array Value} {w : World} {h : Nat} (hz : ∀ w, (zeroValue t).run P w = .ok (.agg z) w) (hh : h = w.heap.size) : (Instr.alloc t true (.tuple #[])).run P w = .ok (.pointer (some ⟨h, 0, none⟩)) (w.alloc (.cells z t)) := by
  subst hh
  simp [Instr.alloc, hz, newVar, newRow, Value.cells]
theorem store_new {P : Program} {t : TypeId} {c c' : Array Value} {w : World} {g : Nat} (hg : g = w.heap.size) (hi : (P.info? t).map (·.size) = some c'.size) (ho : c.size = c'.size) (h1 : c'.all (·.oneCell') = true) :
    (do storeVar t ⟨g, 0, none⟩ (.agg c'); pure undef : Sem Value).run P (w.alloc (.cells c t)) = .ok undef (w.alloc (.cells c' t)) := by
  subst hg
  rw [Sem.run_bind, run_storeVar_new w t c c' hi ho h1]
  rfl

theorem IsAcc.size {w : World} {cs : List Value} {A : AccD} {ca : Option Addr} {cn cc : Nat} {sa : Option Addr} {sn sc : Nat} (h : IsAcc w cs A ca cn cc sa sn sc) : cs.length = 55 := by
  rw [h.cells]; simp [bcells_length, h.addrL, h.balL]
theorem IsAcc.one {w : World} {cs : List Value} {A : AccD} {ca : Option Addr} {cn cc : Nat} {sa : Option Addr} {sn sc : Nat} (h : IsAcc w cs A ca cn cc sa sn sc) : cs.toArray.all (·.oneCell') = true := by
  apply all_oneCell_toArray
  intro v hv
  rw [h.cells] at hv
  rcases List.mem_append.1 hv with h1 | h1
  · obtain ⟨n, _, rfl⟩ := List.mem_map.1 h1
    rfl
  · rcases List.mem_cons.1 h1 with rfl | h1
    · rfl
    · rcases List.mem_append.1 h1 with h1 | h1
      · obtain ⟨n, _, rfl⟩ := List.mem_map.1 h1
        rfl
      · simp at h1
        rcases h1 with rfl | rfl <;> rfl
theorem load_acc {w : World} {b o : Nat} {cs : List Value} {A : AccD} {ca : Option Addr} {cn cc : Nat} {sa : Option Addr} {sn sc : Nat} (h : IsAcc w cs A ca cn cc sa sn sc) {wx : World} (hr : wx.rangeAt b o cs) : (loadVar 91 ⟨b, o, none⟩).run Sagg.prog wx = .ok (.agg cs.toArray) wx :=
  run_loadVar_mid wx b o 91 cs _ hr Sagg.underlying91 rfl (by rw [h.size]; exact info91)

/-- The two copies lie in memory. -/
structure Pair46 (w W4 : World) (h : Nat) (A B : AccD) (cs1 : List Value) (ca1 : Option Addr) (cn1 cc1 : Nat) (sa1 : Option Addr) (sn1 sc1 : Nat) (cs2 : List Value) (ca2 : Option Addr) (cn2 cc2 : Nat) (sa2 : Option Addr) (sn2 sc2 sb1 so1 sb2 so2 : Nat) : Prop where
  below : Below w.heap.size w W4
  a1 : AccAt W4 h 0 A ca1 cn1 cc1 sa1 sn1 sc1
  a2 : AccAt W4 (h + 1) 0 B ca2 cn2 cc2 sa2 sn2 sc2
  i1 : IsAcc W4 cs1 A ca1 cn1 cc1 sa1 sn1 sc1
  i2 : IsAcc W4 cs2 B ca2 cn2 cc2 sa2 sn2 sc2
  s1 : 0 < sn1 → sa1 = some ⟨sb1, so1, none⟩ ∧ ∀ i, i < A.slots.length → W4.cell? ⟨sb1, so1 + i, none⟩ = some (.int .u8 (A.slots.getD i 0))
  s2 : 0 < sn2 → sa2 = some ⟨sb2, so2, none⟩ ∧ ∀ i, i < B.slots.length → W4.cell? ⟨sb2, so2 + i, none⟩ = some (.int .u8 (B.slots.getD i 0))

theorem AccAt.heap {w wx : World} (hx : wx.heap = w.heap) {b o : Nat} {A : AccD} {ca : Option Addr} {cn cc : Nat} {sa : Option Addr} {sn sc : Nat} (h : AccAt w b o A ca cn cc sa sn sc) : AccAt wx b o A ca cn cc sa sn sc :=
  ⟨range_heap hx h.addr, by rw [cell_heap hx]; exact h.nonce, range_heap hx h.bal, by rw [cell_heap hx]; exact h.code, by rw [cell_heap hx]; exact h.slots⟩
theorem AccAt.ext {w wx : World} (hx : Below w.heap.size w wx) {b o : Nat} {A : AccD} {ca : Option Addr} {cn cc : Nat} {sa : Option Addr} {sn sc : Nat} (h : AccAt w b o A ca cn cc sa sn sc) : AccAt wx b o A ca cn cc sa sn sc :=
  ⟨range_ext h.addr hx, by rw [hx.cell (cell_lt h.nonce)]; exact h.nonce, range_ext h.bal hx, by rw [hx.cell (cell_lt h.code)]; exact h.code, by rw [hx.cell (cell_lt h.slots)]; exact h.slots⟩

/-- What the walk keeps in mind. -/
structure G46 where
  W : World
  W2 : World
  h2 : Nat := 0
  k : Nat := 0
  j : Nat := 0
  h : Nat := 0
  A : AccD := ⟨[], 0, [], [], []⟩
  B : AccD := ⟨[], 0, [], [], []⟩
  cs1 : List Value := []
  cs2 : List Value := []
  ca1 : Option Addr := none
  cn1 : Nat := 0
  cc1 : Nat := 0
  sa1 : Option Addr := none
  sn1 : Nat := 0
  sc1 : Nat := 0
  ca2 : Option Addr := none
  cn2 : Nat := 0
  cc2 : Nat := 0
  sa2 : Option Addr := none
  sn2 : Nat := 0
  sc2 : Nat := 0
  sb1 : Nat := 0
  so1 : Nat := 0
  sb2 : Nat := 0
  so2 : Nat := 0
  ql : Bool := false
  more : Bool := false
  qa : Bool := false
  qn : Bool := false
  qb : Bool := false
  qc : Bool := false
  qm : Bool := false
  more2 : Bool := false
  qk : Bool := false
  qv : Bool := false

def g046 (w : World) : G46 := { W := w, W2 := w }
def G46.c1 (g : G46) : G46 := { g with more := true, qa := false }
def G46.c2 (g : G46) : G46 := { g with more := true, qa := true, qn := false }
def G46.c3 (g : G46) : G46 := { g with more := true, qa := true, qn := true, qb := false }
def G46.c4 (g : G46) : G46 := { g with more := true, qa := true, qn := true, qb := true, qc := false }
def G46.c5 (g : G46) : G46 := { g with more := true, qa := true, qn := true, qb := true, qc := true, qm := false }
def G46.c6 (g : G46) : G46 := { g with more := true, qa := true, qn := true, qb := true, qc := true, qm := true }
def G46.c7 (g : G46) : G46 := { g with more := false }
def G46.d1 (g : G46) (j : Nat) (W : World) : G46 := { g with j := j, W2 := W, h2 := W.heap.size, more2 := true, qk := false }
def G46.d2 (g : G46) (j : Nat) (W : World) : G46 := { g with j := j, W2 := W, h2 := W.heap.size, more2 := true, qk := true, qv := false }
def G46.d3 (g : G46) (j : Nat) (W : World) : G46 := { g with j := j, W2 := W, h2 := W.heap.size, more2 := true, qk := true, qv := true }
def G46.d4 (g : G46) (j : Nat) (W : World) : G46 := { g with j := j, W2 := W, more2 := false }
def G46.l1 (g : G46) : G46 := { g with ql := false }
def G46.l2 (g : G46) : G46 := { g with ql := true }

/-- The row's k-th accounts. -/
structure Acc46 (W : World) (b1 o1 b2 o2 k : Nat) (A B : AccD) (cs1 : List Value) (ca1 : Option Addr) (cn1 cc1 : Nat) (sa1 : Option Addr) (sn1 sc1 : Nat) (cs2 : List Value) (ca2 : Option Addr) (cn2 cc2 : Nat) (sa2 : Option Addr) (sn2 sc2 sb1 so1 sb2 so2 : Nat) : Prop where
  i1 : IsAcc W cs1 A ca1 cn1 cc1 sa1 sn1 sc1
  i2 : IsAcc W cs2 B ca2 cn2 cc2 sa2 sn2 sc2
  r1 : W.rangeAt b1 (o1 + k * 55) cs1
  r2 : W.rangeAt b2 (o2 + k * 55) cs2
  s1 : 0 < sn1 → sa1 = some ⟨sb1, so1, none⟩ ∧ ∀ i, i < A.slots.length → W.cell? ⟨sb1, so1 + i, none⟩ = some (.int .u8 (A.slots.getD i 0))
  s2 : 0 < sn2 → sa2 = some ⟨sb2, so2, none⟩ ∧ ∀ i, i < B.slots.length → W.cell? ⟨sb2, so2 + i, none⟩ = some (.int .u8 (B.slots.getD i 0))

def acc46 (W : World) (b1 o1 b2 o2 : Nat) (g : G46) : Prop := Acc46 W b1 o1 b2 o2 g.k g.A g.B g.cs1 g.ca1 g.cn1 g.cc1 g.sa1 g.sn1 g.sc1 g.cs2 g.ca2 g.cn2 g.cc2 g.sa2 g.sn2 g.sc2 g.sb1 g.so1 g.sb2 g.so2
def pair46 (w W4 : World) (g : G46) : Prop := Pair46 w W4 g.h g.A g.B g.cs1 g.ca1 g.cn1 g.cc1 g.sa1 g.sn1 g.sc1 g.cs2 g.ca2 g.cn2 g.cc2 g.sa2 g.sn2 g.sc2 g.sb1 g.so1 g.sb2 g.so2

theorem acc46_exists {W : World} {b1 o1 b2 o2 k : Nat} {L1 L2 : List AccD} {A B : AccD} (h1 : AccRow W b1 o1 L1) (h2 : AccRow W b2 o2 L2) (hA : L1[k]? = some A) (hB : L2[k]? = some B) (W4 : World) :
    ∃ g : G46, g.k = k ∧ g.A = A ∧ g.B = B ∧ g.W = W ∧ g.W2 = W4 ∧ g.h = W.heap.size ∧ acc46 W b1 o1 b2 o2 g := by
  obtain ⟨cs1, ca1, cn1, cc1, sa1, sn1, sc1, k1, r1⟩ := h1 k A hA
  obtain ⟨cs2, ca2, cn2, cc2, sa2, sn2, sc2, k2, r2⟩ := h2 k B hB
  obtain ⟨sb1, so1, s1⟩ := row_block k1.slotsR k1.slotsL
  obtain ⟨sb2, so2, s2⟩ := row_block k2.slotsR k2.slotsL
  exact ⟨{ W := W, W2 := W4, k := k, h := W.heap.size, A := A, B := B, cs1 := cs1, cs2 := cs2, ca1 := ca1, cn1 := cn1, cc1 := cc1, sa1 := sa1, sn1 := sn1, sc1 := sc1, ca2 := ca2, cn2 := cn2, cc2 := cc2, sa2 := sa2, sn2 := sn2, sc2 := sc2, sb1 := sb1, so1 := so1, sb2 := sb2, so2 := so2 }, rfl, rfl, rfl, rfl, rfl, rfl, ⟨k1, k2, r1, r2, s1, s2⟩⟩

theorem cells_ext {w w' : World} {b off : Nat} {zs : List Int} (hb : Below w.heap.size w w') (hc : ∀ i, i < zs.length → w.cell? ⟨b, off + i, none⟩ = some (.int .u8 (zs.getD i 0))) : ∀ i, i < zs.length → w'.cell? ⟨b, off + i, none⟩ = some (.int .u8 (zs.getD i 0)) := fun i hi => by
  rw [hb.cell (cell_lt (hc i hi))]; exact hc i hi

theorem pair46_ok {w : World} {b1 o1 b2 o2 : Nat} {g : G46} (hb : Below w.heap.size w g.W) (hh : g.h = g.W.heap.size) (h : acc46 g.W b1 o1 b2 o2 g) : pair46 w ((g.W.alloc (.cells g.cs1.toArray 91)).alloc (.cells g.cs2.toArray 91)) g := by
  have hb4 := below2 (w := g.W) (.cells g.cs1.toArray 91) (.cells g.cs2.toArray 91)
  have hr4 := boxes (w := g.W) g.cs1.toArray g.cs2.toArray 91
  have i1 := h.i1.ext hb4
  have i2 := h.i2.ext hb4
  refine ⟨hb.trans (hb4.mono hb.size), ?_, ?_, i1, i2, fun h0 => ⟨(h.s1 h0).1, cells_ext hb4 (h.s1 h0).2⟩, fun h0 => ⟨(h.s2 h0).1, cells_ext hb4 (h.s2 h0).2⟩⟩
  · rw [hh]; exact acc_at i1 (range_tail hr4.1 0 _ (by simp))
  · rw [hh]; exact acc_at i2 (range_tail hr4.2 0 _ (by simp))

/-- The k-th pair, told apart. -/
def T46 (b1 o1 b2 o2 n : Nat) (L1 L2 : List AccD) (w : World) (C : G46 → List Value → World → Prop) : Prop :=
  (∀ g : G46, g.k < n → g.h = g.W.heap.size → Below w.heap.size w g.W → L1.take g.k = L2.take g.k → L1[g.k]? = some g.A → L2[g.k]? = some g.B → acc46 g.W b1 o1 b2 o2 g →
    (g.A.addr ≠ g.B.addr → C (G46.c1 g) [.int .i64 g.k] g.W) ∧
    (g.A.addr = g.B.addr → g.A.nonce ≠ g.B.nonce → C (G46.c2 g) [.int .i64 g.k] g.W) ∧
    (g.A.addr = g.B.addr → g.A.nonce = g.B.nonce → g.A.bal ≠ g.B.bal → C (G46.c3 g) [.int .i64 g.k] g.W) ∧
    (g.A.addr = g.B.addr → g.A.nonce = g.B.nonce → g.A.bal = g.B.bal → g.A.code ≠ g.B.code → C (G46.c4 g) [.int .i64 g.k] g.W) ∧
    (g.A.addr = g.B.addr → g.A.nonce = g.B.nonce → g.A.bal = g.B.bal → g.A.code = g.B.code → g.sn1 ≠ g.sn2 → C (G46.c5 g) [.int .i64 g.k] g.W) ∧
    (g.A.addr = g.B.addr → g.A.nonce = g.B.nonce → g.A.bal = g.B.bal → g.A.code = g.B.code → g.sn1 = g.sn2 → C (G46.c6 g) [.int .i64 g.k] g.W)) ∧
  (∀ (g : G46), g.k = n → Below w.heap.size w g.W → L1.take g.k = L2.take g.k → C (G46.c7 g) [.int .i64 g.k] g.W)

def loopA46 (b1 o1 b2 o2 n : Nat) (L1 L2 : List AccD) : LoopTip G46 where
  slots := [18]
  inv := fun _ w us w' => ∃ k : Nat, k ≤ n ∧ us = [.int .i64 k] ∧ Below w.heap.size w w' ∧ L1.take k = L2.take k
  T := fun _ w C => T46 b1 o1 b2 o2 n L1 L2 w C
  mu := fun _ us _ => n - (intOf (us.getD 0 undef)).toNat

theorem loopA46_ok {b1 o1 b2 o2 n : Nat} {L1 L2 : List AccD} (l1 : L1.length = n) (l2 : L2.length = n) {w : World} (s1 : 0 < n → AccRow w b1 o1 L1) (s2 : 0 < n → AccRow w b2 o2 L2) (g0 : G46) : LoopOK (loopA46 b1 o1 b2 o2 n L1 L2) g0 w := by
  rintro C ⟨h1, h2⟩ us w' - ⟨k, hk, rfl, hb, ht⟩
  by_cases hlt : k < n
  · have hA : L1[k]? = some (L1[k]'(by omega)) := List.getElem?_eq_getElem (by omega)
    have hB : L2[k]? = some (L2[k]'(by omega)) := List.getElem?_eq_getElem (by omega)
    obtain ⟨g, rfl, e2, e3, rfl, e5, e6, hacc⟩ := acc46_exists ((s1 (by omega)).ext hb) ((s2 (by omega)).ext hb) hA hB w
    rw [← e2] at hA
    rw [← e3] at hB
    obtain ⟨c1, c2, c3, c4, c5, c6⟩ := h1 g hlt e6 hb ht hA hB hacc
    by_cases q1 : g.A.addr = g.B.addr
    case neg => exact ⟨_, c1 q1⟩
    by_cases q2 : g.A.nonce = g.B.nonce
    case neg => exact ⟨_, c2 q1 q2⟩
    by_cases q3 : g.A.bal = g.B.bal
    case neg => exact ⟨_, c3 q1 q2 q3⟩
    by_cases q4 : g.A.code = g.B.code
    case neg => exact ⟨_, c4 q1 q2 q3 q4⟩
    by_cases q5 : g.sn1 = g.sn2
    case neg => exact ⟨_, c5 q1 q2 q3 q4 q5⟩
    exact ⟨_, c6 q1 q2 q3 q4 q5⟩
  · exact ⟨_, h2 { W := w', W2 := w', k := k } (show k = n by omega) hb ht⟩

/-- The j-th slots, told apart. -/
def Ti46 (g : G46) (w : World) (C : G46 → List Value → World → Prop) : Prop :=
  (∀ (j : Nat) (W : World), j < g.sn1 → Below w.heap.size w W → g.A.slots.take (j * 64) = g.B.slots.take (j * 64) →
    ((cut g.A.slots (j * 64) 64).take 32 ≠ (cut g.B.slots (j * 64) 64).take 32 → C (G46.d1 g j W) [.int .i64 j] W) ∧
    ((cut g.A.slots (j * 64) 64).take 32 = (cut g.B.slots (j * 64) 64).take 32 → (cut g.A.slots (j * 64) 64).drop 32 ≠ (cut g.B.slots (j * 64) 64).drop 32 → C (G46.d2 g j W) [.int .i64 j] W) ∧
    ((cut g.A.slots (j * 64) 64).take 32 = (cut g.B.slots (j * 64) 64).take 32 → (cut g.A.slots (j * 64) 64).drop 32 = (cut g.B.slots (j * 64) 64).drop 32 → C (G46.d3 g j W) [.int .i64 j] W)) ∧
  (∀ (j : Nat) (W : World), j = g.sn1 → Below w.heap.size w W → g.A.slots.take (j * 64) = g.B.slots.take (j * 64) → C (G46.d4 g j W) [.int .i64 j] W)

def loopB46 : LoopTip G46 where
  slots := [66]
  inv := fun g w us w' => ∃ j : Nat, j ≤ g.sn1 ∧ us = [.int .i64 j] ∧ Below w.heap.size w w' ∧ g.A.slots.take (j * 64) = g.B.slots.take (j * 64)
  T := fun g w C => Ti46 g w C
  mu := fun g us _ => g.sn1 - (intOf (us.getD 0 undef)).toNat

theorem loopB46_ok (g : G46) (w : World) : LoopOK loopB46 g w := by
  rintro C ⟨h1, h2⟩ us w' - ⟨j, hj, rfl, hb, ht⟩
  by_cases hlt : j < g.sn1
  · obtain ⟨c1, c2, c3⟩ := h1 j w' hlt hb ht
    by_cases q1 : (cut g.A.slots (j * 64) 64).take 32 = (cut g.B.slots (j * 64) 64).take 32
    case neg => exact ⟨_, c1 q1⟩
    by_cases q2 : (cut g.A.slots (j * 64) 64).drop 32 = (cut g.B.slots (j * 64) 64).drop 32
    case neg => exact ⟨_, c2 q1 q2⟩
    exact ⟨_, c3 q1 q2⟩
  · exact ⟨_, h2 j w' (by omega) hb ht⟩

def cut46 (n1 n2 : Nat) (g : G46) (w : World) (C : G46 → World → Prop) : Prop := (n1 ≠ n2 → C (G46.l1 g) w) ∧ (n1 = n2 → C (G46.l2 g) w)
theorem cut46_ok (n1 n2 : Nat) (g : G46) (w : World) : CutOK (cut46 n1 n2 g w) w := by
  rintro C ⟨h1, h2⟩
  by_cases e : n1 = n2
  · exact ⟨_, h2 e⟩
  · exact ⟨_, h1 e⟩
/-- Behind the two copies. -/
def cutP46 (w0 : World) (g : G46) (w : World) (C : G46 → World → Prop) : Prop := ∀ W4, pair46 w0 W4 g → C g W4
theorem cutP46_ok {w0 : World} {g : G46} {w : World} (h : pair46 w0 w g) : CutOK (cutP46 w0 g w) w := fun C hC => ⟨g, hC w h⟩

structure Slot46 (W W5 : World) (h : Nat) (x y : List Int) : Prop where
  below : Below W.heap.size W W5
  r1 : W5.rangeAt h 0 (bcells x)
  r2 : W5.rangeAt (h + 1) 0 (bcells y)
def cutS46 (g : G46) (w : World) (C : G46 → World → Prop) : Prop := ∀ W5, Slot46 g.W2 W5 g.h2 (cut g.A.slots (g.j * 64) 64) (cut g.B.slots (g.j * 64) 64) → C g W5
theorem cutS46_ok {g : G46} {w : World} (h : Slot46 g.W2 w g.h2 (cut g.A.slots (g.j * 64) 64) (cut g.B.slots (g.j * 64) 64)) : CutOK (cutS46 g w) w := fun C hC => ⟨g, hC w h⟩
theorem slot46_ok {W : World} {h : Nat} {x y : List Int} (hh : h = W.heap.size) : Slot46 W ((W.alloc (.cells (bcells x).toArray 108)).alloc (.cells (bcells y).toArray 108)) h x y := by
  have hr4 := boxes (w := W) (bcells x).toArray (bcells y).toArray 108
  subst hh
  exact ⟨below2 _ _, range_tail hr4.1 0 _ (by simp), range_tail hr4.2 0 _ (by simp)⟩

/-- A call that only reads. -/
def still (v : G46 → Value) : Tip G46 := { tr := some fun g w C => C g (v g) w }
theorem call_still {Γ : Type} {P : Program} {f : FuncId} {args : Array Value} {w : World} {g : Γ} {v : Value} (h : Calls P f args w fun e w' => e = .returned v ∧ w' = w) : CallOK P f args w fun C : Γ → Value → World → Prop => C g v w :=
  fun C hC => h.mono fun e w' ⟨h1, h2⟩ => ⟨g, v, h1, by rw [h2]; exact hC⟩

def tips46 (b1 o1 b2 o2 n1 n2 : Nat) (L1 L2 : List AccD) (w0 : World) : Tips G46 where
  ops := [(15, { val := some fun g => .bool (!g.ql) }), (19, { val := some fun g => .bool g.more }),
    (21, { val := some fun g => .pointer (some ⟨b1, o1 + g.k * 55, none⟩) }), (22, { val := some fun g => .agg g.cs1.toArray }), (6, { val := some fun g => .pointer (some ⟨g.h, 0, none⟩), wld := some fun g w => w.alloc (.cells zeroAcc 91) }),
    (1005005, { val := some fun g => undef, wld := some fun g _ => g.W.alloc (.cells g.cs1.toArray 91) }),
    (25, { val := some fun g => .pointer (some ⟨b2, o2 + g.k * 55, none⟩) }), (26, { val := some fun g => .agg g.cs2.toArray }), (7, { val := some fun g => .pointer (some ⟨g.h + 1, 0, none⟩), wld := some fun g w => w.alloc (.cells zeroAcc 91) }),
    (1006005, { val := some fun g => undef, wld := some fun g _ => (g.W.alloc (.cells g.cs1.toArray 91)).alloc (.cells g.cs2.toArray 91) }),
    (31, { val := some fun g => .bool g.qa }), (35, { val := some fun g => .int .u64 g.A.nonce }), (37, { val := some fun g => .int .u64 g.B.nonce }), (38, { val := some fun g => .bool (!g.qn) }), (45, { val := some fun g => .bool g.qb }),
    (49, { val := some fun g => .slice g.ca1 g.cn1 g.cc1 }), (51, { val := some fun g => .slice g.ca2 g.cn2 g.cc2 }), (52, still fun g => .bool g.qc), (56, { val := some fun g => .slice g.sa1 g.sn1 g.sc1 }), (59, { val := some fun g => .slice g.sa2 g.sn2 g.sc2 }), (61, { val := some fun g => .bool (!g.qm) }),
    (64, { val := some fun g => .slice g.sa1 g.sn1 g.sc1 }), (67, { val := some fun g => .bool g.more2 }),
    (69, { val := some fun g => .pointer (some ⟨g.sb1, g.so1 + g.j * 64, none⟩) }), (70, { val := some fun g => .agg (bcells (cut g.A.slots (g.j * 64) 64)).toArray }), (9, { val := some fun g => .pointer (some ⟨g.h2, 0, none⟩), wld := some fun g w => w.alloc (.cells zeroSlot 108) }),
    (1013005, { val := some fun g => undef, wld := some fun g _ => g.W2.alloc (.cells (bcells (cut g.A.slots (g.j * 64) 64)).toArray 108) }),
    (72, { val := some fun g => .slice g.sa2 g.sn2 g.sc2 }), (74, { val := some fun g => .pointer (some ⟨g.sb2, g.so2 + g.j * 64, none⟩) }), (75, { val := some fun g => .agg (bcells (cut g.B.slots (g.j * 64) 64)).toArray }), (10, { val := some fun g => .pointer (some ⟨g.h2 + 1, 0, none⟩), wld := some fun g w => w.alloc (.cells zeroSlot 108) }),
    (1014006, { val := some fun g => undef, wld := some fun g _ => (g.W2.alloc (.cells (bcells (cut g.A.slots (g.j * 64) 64)).toArray 108)).alloc (.cells (bcells (cut g.B.slots (g.j * 64) 64)).toArray 108) }),
    (80, { val := some fun g => .bool g.qk }), (87, { val := some fun g => .bool g.qv }), (90, { val := some fun g => .int .i64 (g.j + 1 : Nat) }), (91, { val := some fun g => .int .i64 (g.k + 1 : Nat) })]
  cuts := [(0, fun g w C => cut46 n1 n2 g w C), (7, fun g w C => cutP46 w0 g w C), (15, fun g w C => cutS46 g w C)]
  loops := [(4, loopA46 b1 o1 b2 o2 n1 L1 L2), (12, loopB46)]

theorem later46 {w W4 W : World} {m : Nat} {g : G46} (hp : pair46 w W4 g) (hb : Below (W4.drewN m).heap.size (W4.drewN m) W) : pair46 w W g :=
  ⟨hp.below.trans (Below.mono ⟨hb.os, hb.tape, hb.output, hb.size, hb.block⟩ hp.below.size), (AccAt.heap (w := W4) (wx := W4.drewN m) rfl hp.a1).ext hb, (AccAt.heap (w := W4) (wx := W4.drewN m) rfl hp.a2).ext hb, (IsAcc.heap (w := W4) (wx := W4.drewN m) rfl hp.i1).ext hb, (IsAcc.heap (w := W4) (wx := W4.drewN m) rfl hp.i2).ext hb,
    fun h => ⟨(hp.s1 h).1, cells_ext hb (hp.s1 h).2⟩, fun h => ⟨(hp.s2 h).1, cells_ext hb (hp.s2 h).2⟩⟩
theorem pair_alloc {w W : World} {g : G46} (hp : pair46 w W g) (o : Obj) : pair46 w (W.alloc o) g := later46 (m := 0) hp ((Below.refl _ _).alloc (Nat.le_refl _) o)
theorem store_acc {w : World} {g : Nat} (hg : g = w.heap.size) {W : World} {cs : List Value} {A : AccD} {ca : Option Addr} {cn cc : Nat} {sa : Option Addr} {sn sc : Nat} (h : IsAcc W cs A ca cn cc sa sn sc) :
    (do storeVar 91 ⟨g, 0, none⟩ (.agg cs.toArray); pure undef : Sem Value).run Sagg.prog (w.alloc (.cells zeroAcc 91)) = .ok undef (w.alloc (.cells cs.toArray 91)) :=
  store_new hg (by rw [info91]; simp [h.size]) (by rw [zeroAcc_size]; simp [h.size]) h.one
theorem bytes_one (zs : List Int) : (bcells zs).toArray.all (·.oneCell') = true := by
  apply all_oneCell_toArray
  intro v hv
  obtain ⟨n, _, rfl⟩ := List.mem_map.1 hv
  rfl
theorem store_slot {w : World} {g : Nat} (hg : g = w.heap.size) {zs : List Int} (h : zs.length = 64) :
    (do storeVar 108 ⟨g, 0, none⟩ (.agg (bcells zs).toArray); pure undef : Sem Value).run Sagg.prog (w.alloc (.cells zeroSlot 108)) = .ok undef (w.alloc (.cells (bcells zs).toArray 108)) :=
  store_new hg (by rw [info108]; simp [bcells_length, h]) (by rw [zeroSlot_size]; simp [bcells_length, h]) (bytes_one zs)
theorem row_range0 {w : World} {g o : Nat} {zs : List Int} (h : w.rangeAt g o (bcells zs)) (hd : Dig zs) : ByteRow w (some ⟨g, o, none⟩) zs := row_range h hd
theorem eqs {a b : Option Addr} {na ca nb cb : Nat} {xs ys : List Int} {w : World} (hla : xs.length = na) (hlb : ys.length = nb) (hx : ByteRow w a xs) (hy : ByteRow w b ys) (q : Bool) (hq : decide (xs = ys) = q) :
    Calls Sagg.prog 8 #[.slice a na ca, .slice b nb cb] w fun e w' => e = .returned (.bool q) ∧ w' = w := by
  rw [← hq]; exact equalBytes_calls a b na ca nb cb xs ys w hla hlb hx hy
theorem eqsd {a b : Option Addr} {na ca nb cb : Nat} {xs ys : List Int} {W : World} {m : Nat} (hla : xs.length = na) (hlb : ys.length = nb) (hx : ByteRow W a xs) (hy : ByteRow W b ys) (q : Bool) (hq : decide (xs = ys) = q) :
    Calls Sagg.prog 8 #[.slice a na ca, .slice b nb cb] (W.drewN m) fun e w' => e = .returned (.bool q) ∧ w' = W.drewN m := eqs (w := W.drewN m) hla hlb hx hy q hq
theorem eqb {a b : Option Addr} {na ca nb cb : Nat} {xs ys : List Int} {W : World} {m : Nat} (hla : xs.length = na) (hlb : ys.length = nb) (hx : ByteRow W a xs) (hy : ByteRow W b ys) (q : Bool) (hq : decide (xs = ys) = q) :
    Calls Sagg.prog 8 #[.slice a na ca, .slice b nb cb] (W.drewN m) fun e w' => e = .returned (.bool q) ∧ ∃ m, w' = W.drewN m :=
  (eqs (w := W.drewN m) hla hlb hx hy q hq).mono fun e w' ⟨h1, h2⟩ => ⟨h1, m, h2⟩
theorem half1 {W : World} {h : Nat} {x : List Int} (hr : W.rangeAt h 0 (bcells x)) (hd : Dig x) : ByteRow W (some ⟨h, 0, none⟩) (x.take 32) :=
  row_range (fun j v hv => hr j v (by
    unfold bcells at *
    rw [List.map_take] at hv
    have := (List.getElem?_eq_some_iff.1 hv).1
    rw [List.getElem?_take_of_lt (by simp at this; omega)] at hv
    exact hv)) (hd.take 32)
theorem half2 {W : World} {h : Nat} {x : List Int} (hr : W.rangeAt h 0 (bcells x)) (hd : Dig x) : ByteRow W (some ⟨h, 32, none⟩) (x.drop 32) :=
  row_range (fun j v hv => by
    have := hr (32 + j) v (by
      unfold bcells at *
      rw [List.map_drop, List.getElem?_drop] at hv
      exact hv)
    rwa [Nat.zero_add] at this) (hd.drop 32)
theorem slot_key {W W5 : World} {h m : Nat} {x y : List Int} (hs : Slot46 W W5 h x y) (lx : x.length = 64) (ly : y.length = 64) (dx : Dig x) (dy : Dig y) (q : Bool) (hq : decide (x.take 32 = y.take 32) = q) :
    Calls Sagg.prog 8 #[.slice (some ⟨h, 0, none⟩) 32 32, .slice (some ⟨h + 1, 0, none⟩) 32 32] (W5.drewN m) fun e w' => e = .returned (.bool q) ∧ ∃ m, w' = W5.drewN m :=
  eqb (by simp; omega) (by simp; omega) (half1 hs.r1 dx) (half1 hs.r2 dy) q hq
theorem slot_val {W W5 : World} {h m : Nat} {x y : List Int} (hs : Slot46 W W5 h x y) (lx : x.length = 64) (ly : y.length = 64) (dx : Dig x) (dy : Dig y) (q : Bool) (hq : decide (x.drop 32 = y.drop 32) = q) :
    Calls Sagg.prog 8 #[.slice (some ⟨h, 32, none⟩) 32 32, .slice (some ⟨h + 1, 32, none⟩) 32 32] (W5.drewN m) fun e w' => e = .returned (.bool q) ∧ ∃ m, w' = W5.drewN m :=
  eqb (by simp; omega) (by simp; omega) (half2 hs.r1 dx) (half2 hs.r2 dy) q hq
theorem halves {x y : List Int} (h1 : x.take 32 = y.take 32) (h2 : x.drop 32 = y.drop 32) : x = y := by rw [← List.take_append_drop 32 x, h1, h2, List.take_append_drop]
theorem acc_ne {L1 L2 : List AccD} {k : Nat} {A B : AccD} (hA : L1[k]? = some A) (hB : L2[k]? = some B) (e : L1 = L2) (h : A = B → False) : False := by
  subst e; rw [hA] at hB; exact h (Option.some.inj hB)
def post46 (eb : Bool) (w : World) : Ending → World → Prop := fun e w' => e = .returned (.bool eb) ∧ Below w.heap.size w w'
theorem fin46_t {eb : Bool} {w w' : World} {A B : List AccD} (heb : eb = true ↔ A = B) (h : A = B) (hw : Below w.heap.size w w') : post46 eb w (.returned (.bool true)) w' := ⟨by rw [heb.2 h], hw⟩
theorem fin46_f {eb : Bool} {w w' : World} {A B : List AccD} (heb : eb = true ↔ A = B) (h : ¬ A = B) (hw : Below w.heap.size w w') : post46 eb w (.returned (.bool false)) w' := by
  have : eb = false := by cases eb with | false => rfl | true => exact absurd (heb.1 rfl) h
  exact ⟨by rw [this], hw⟩

set_option maxRecDepth 100000 in
set_option maxHeartbeats 8000000 in
theorem worldsMeet_core (a1 a2 : Option Addr) (b1 o1 b2 o2 : Nat) (n1 c1 n2 c2 : Nat) (L1 L2 : List AccD) (w : World) (l1 : L1.length = n1) (l2 : L2.length = n2) (h63 : n1 ≤ 9223372036854775807)
    (s1 : 0 < n1 → a1 = some ⟨b1, o1, none⟩ ∧ AccRow w b1 o1 L1) (s2 : 0 < n2 → a2 = some ⟨b2, o2, none⟩ ∧ AccRow w b2 o2 L2)
    (eb : Bool) (heb : eb = true ↔ L1 = L2) : Calls Sagg.prog 46 #[.slice a1 n1 c1, .slice a2 n2 c2] w (post46 eb w) := by
  refine CX_calls (tips46 b1 o1 b2 o2 n1 n2 L1 L2 w) (g046 w) (by kernel_rfl) Sagg.func46 rfl _ rfl (by kernel_rfl) ?_
  refine of_eq (p := CutOK (fun C => cut46 n1 n2 (g046 w) w C) w ∧
  (n1 ≠ n2 → Sem.run Sagg.prog (binOp BinOp.neq 3 (Value.int IntKind.i64 ↑n1) (Value.int IntKind.i64 ↑n2)) w = Result.ok (Value.bool true) w ∧ (post46 eb w) (Ending.returned (Value.bool false)) w) ∧
    (n1 = n2 →
      Sem.run Sagg.prog (binOp BinOp.neq 3 (Value.int IntKind.i64 ↑n1) (Value.int IntKind.i64 ↑n2)) w = Result.ok (Value.bool false) w ∧
        (∃ k, k ≤ n1 ∧ [Value.int IntKind.i64 0] = [Value.int IntKind.i64 ↑k] ∧ Below w.heap.size w w ∧ List.take k L1 = List.take k L2) ∧
          LoopOK (loopA46 b1 o1 b2 o2 n1 L1 L2) (g046 w).l2 w ∧
            (∀ (g : G46),
                g.k < n1 →
                  g.h = g.W.heap.size →
                    Below w.heap.size w g.W →
                      List.take g.k L1 = List.take g.k L2 →
                        L1[g.k]? = some g.A →
                          L2[g.k]? = some g.B →
                            acc46 g.W b1 o1 b2 o2 g →
                              (g.A.addr ≠ g.B.addr →
                                  Sem.run Sagg.prog (binOp BinOp.lss 3 (Value.int IntKind.i64 ↑g.k) (Value.int IntKind.i64 ↑n1)) g.W = Result.ok (Value.bool true) g.W ∧
                                    Sem.run Sagg.prog (Instr.indexAt 53 (Value.slice a1 n1 c1) (Value.int IntKind.i64 ↑g.k)) g.W = Result.ok (Value.pointer (some { block := b1, off := o1 + g.k * 55 })) g.W ∧
                                      Sem.run Sagg.prog (loadVar 91 { block := b1, off := o1 + g.k * 55 }) g.W = Result.ok (Value.agg { toList := g.cs1 }) g.W ∧
                                        Sem.run Sagg.prog (Instr.alloc 91 true (Value.tuple { toList := [] })) g.W = Result.ok (Value.pointer (some { block := g.h, off := 0 })) (g.W.alloc (Obj.cells zeroAcc 91)) ∧
                                          Sem.run Sagg.prog
                                                (do
                                                  storeVar 91 { block := g.h, off := 0 } (Value.agg { toList := g.cs1 })
                                                  pure undef)
                                                (g.W.alloc (Obj.cells zeroAcc 91)) =
                                              Result.ok (Value.tuple { toList := [] }) (g.W.alloc (Obj.cells { toList := g.cs1 } 91)) ∧
                                            Sem.run Sagg.prog (Instr.indexAt 53 (Value.slice a2 n2 c2) (Value.int IntKind.i64 ↑g.k)) (g.W.alloc (Obj.cells { toList := g.cs1 } 91)) = Result.ok (Value.pointer (some { block := b2, off := o2 + g.k * 55 })) (g.W.alloc (Obj.cells { toList := g.cs1 } 91)) ∧
                                              Sem.run Sagg.prog (loadVar 91 { block := b2, off := o2 + g.k * 55 }) (g.W.alloc (Obj.cells { toList := g.cs1 } 91)) = Result.ok (Value.agg { toList := g.cs2 }) (g.W.alloc (Obj.cells { toList := g.cs1 } 91)) ∧
                                                Sem.run Sagg.prog (Instr.alloc 91 true (Value.tuple { toList := [] })) (g.W.alloc (Obj.cells { toList := g.cs1 } 91)) = Result.ok (Value.pointer (some { block := g.h + 1, off := 0 })) ((g.W.alloc (Obj.cells { toList := g.cs1 } 91)).alloc (Obj.cells zeroAcc 91)) ∧
                                                  Sem.run Sagg.prog
                                                        (do
                                                          storeVar 91 { block := g.h + 1, off := 0 } (Value.agg { toList := g.cs2 })
                                                          pure undef)
                                                        ((g.W.alloc (Obj.cells { toList := g.cs1 } 91)).alloc (Obj.cells zeroAcc 91)) =
                                                      Result.ok (Value.tuple { toList := [] }) ((g.W.alloc (Obj.cells { toList := g.cs1 } 91)).alloc (Obj.cells { toList := g.cs2 } 91)) ∧
                                                    CutOK (fun C => cutP46 w g.c1 ((g.W.alloc (Obj.cells g.cs1.toArray 91)).alloc (Obj.cells g.cs2.toArray 91)) C) ((g.W.alloc (Obj.cells { toList := g.cs1 } 91)).alloc (Obj.cells { toList := g.cs2 } 91)) ∧ ∀ (W4 : World), pair46 w W4 g.c1 → (∀ (m : Nat), Calls Sagg.prog 8 { toList := [Value.slice (some { block := g.h, off := 0 }) 20 20, Value.slice (some { block := g.h + 1, off := 0 }) 20 20] } (W4.drewN m) fun e w' => e = Ending.returned (Value.bool false) ∧ ∃ m, w' = W4.drewN m) ∧ ∀ (m : Nat), (post46 eb w) (Ending.returned (Value.bool false)) (W4.drewN m)) ∧
                                (g.A.addr = g.B.addr →
                                    g.A.nonce ≠ g.B.nonce →
                                      Sem.run Sagg.prog (binOp BinOp.lss 3 (Value.int IntKind.i64 ↑g.k) (Value.int IntKind.i64 ↑n1)) g.W = Result.ok (Value.bool true) g.W ∧
                                        Sem.run Sagg.prog (Instr.indexAt 53 (Value.slice a1 n1 c1) (Value.int IntKind.i64 ↑g.k)) g.W = Result.ok (Value.pointer (some { block := b1, off := o1 + g.k * 55 })) g.W ∧
                                          Sem.run Sagg.prog (loadVar 91 { block := b1, off := o1 + g.k * 55 }) g.W = Result.ok (Value.agg { toList := g.cs1 }) g.W ∧
                                            Sem.run Sagg.prog (Instr.alloc 91 true (Value.tuple { toList := [] })) g.W = Result.ok (Value.pointer (some { block := g.h, off := 0 })) (g.W.alloc (Obj.cells zeroAcc 91)) ∧
                                              Sem.run Sagg.prog
                                                    (do
                                                      storeVar 91 { block := g.h, off := 0 } (Value.agg { toList := g.cs1 })
                                                      pure undef)
                                                    (g.W.alloc (Obj.cells zeroAcc 91)) =
                                                  Result.ok (Value.tuple { toList := [] }) (g.W.alloc (Obj.cells { toList := g.cs1 } 91)) ∧
                                                Sem.run Sagg.prog (Instr.indexAt 53 (Value.slice a2 n2 c2) (Value.int IntKind.i64 ↑g.k)) (g.W.alloc (Obj.cells { toList := g.cs1 } 91)) = Result.ok (Value.pointer (some { block := b2, off := o2 + g.k * 55 })) (g.W.alloc (Obj.cells { toList := g.cs1 } 91)) ∧
                                                  Sem.run Sagg.prog (loadVar 91 { block := b2, off := o2 + g.k * 55 }) (g.W.alloc (Obj.cells { toList := g.cs1 } 91)) = Result.ok (Value.agg { toList := g.cs2 }) (g.W.alloc (Obj.cells { toList := g.cs1 } 91)) ∧
                                                    Sem.run Sagg.prog (Instr.alloc 91 true (Value.tuple { toList := [] })) (g.W.alloc (Obj.cells { toList := g.cs1 } 91)) = Result.ok (Value.pointer (some { block := g.h + 1, off := 0 })) ((g.W.alloc (Obj.cells { toList := g.cs1 } 91)).alloc (Obj.cells zeroAcc 91)) ∧
                                                      Sem.run Sagg.prog
                                                            (do
                                                              storeVar 91 { block := g.h + 1, off := 0 } (Value.agg { toList := g.cs2 })
                                                              pure undef)
                                                            ((g.W.alloc (Obj.cells { toList := g.cs1 } 91)).alloc (Obj.cells zeroAcc 91)) =
                                                          Result.ok (Value.tuple { toList := [] }) ((g.W.alloc (Obj.cells { toList := g.cs1 } 91)).alloc (Obj.cells { toList := g.cs2 } 91)) ∧
                                                        CutOK (fun C => cutP46 w g.c2 ((g.W.alloc (Obj.cells g.cs1.toArray 91)).alloc (Obj.cells g.cs2.toArray 91)) C) ((g.W.alloc (Obj.cells { toList := g.cs1 } 91)).alloc (Obj.cells { toList := g.cs2 } 91)) ∧ ∀ (W4 : World), pair46 w W4 g.c2 → (∀ (m : Nat), Calls Sagg.prog 8 { toList := [Value.slice (some { block := g.h, off := 0 }) 20 20, Value.slice (some { block := g.h + 1, off := 0 }) 20 20] } (W4.drewN m) fun e w' => e = Ending.returned (Value.bool true) ∧ ∃ m, w' = W4.drewN m) ∧ (∀ (m : Nat), Sem.run Sagg.prog (loadVar 31 { block := g.h, off := 20 }) (W4.drewN m) = Result.ok (Value.int IntKind.u64 g.A.nonce) (W4.drewN m)) ∧ (∀ (m : Nat), Sem.run Sagg.prog (loadVar 31 { block := g.h + 1, off := 20 }) (W4.drewN m) = Result.ok (Value.int IntKind.u64 g.B.nonce) (W4.drewN m)) ∧ (∀ (m : Nat), Sem.run Sagg.prog (binOp BinOp.neq 31 (Value.int IntKind.u64 g.A.nonce) (Value.int IntKind.u64 g.B.nonce)) (W4.drewN m) = Result.ok (Value.bool true) (W4.drewN m)) ∧ ∀ (m : Nat), (post46 eb w) (Ending.returned (Value.bool false)) (W4.drewN m)) ∧
                                  (g.A.addr = g.B.addr →
                                      g.A.nonce = g.B.nonce →
                                        g.A.bal ≠ g.B.bal →
                                          Sem.run Sagg.prog (binOp BinOp.lss 3 (Value.int IntKind.i64 ↑g.k) (Value.int IntKind.i64 ↑n1)) g.W = Result.ok (Value.bool true) g.W ∧
                                            Sem.run Sagg.prog (Instr.indexAt 53 (Value.slice a1 n1 c1) (Value.int IntKind.i64 ↑g.k)) g.W = Result.ok (Value.pointer (some { block := b1, off := o1 + g.k * 55 })) g.W ∧
                                              Sem.run Sagg.prog (loadVar 91 { block := b1, off := o1 + g.k * 55 }) g.W = Result.ok (Value.agg { toList := g.cs1 }) g.W ∧
                                                Sem.run Sagg.prog (Instr.alloc 91 true (Value.tuple { toList := [] })) g.W = Result.ok (Value.pointer (some { block := g.h, off := 0 })) (g.W.alloc (Obj.cells zeroAcc 91)) ∧
                                                  Sem.run Sagg.prog
                                                        (do
                                                          storeVar 91 { block := g.h, off := 0 } (Value.agg { toList := g.cs1 })
                                                          pure undef)
                                                        (g.W.alloc (Obj.cells zeroAcc 91)) =
                                                      Result.ok (Value.tuple { toList := [] }) (g.W.alloc (Obj.cells { toList := g.cs1 } 91)) ∧
                                                    Sem.run Sagg.prog (Instr.indexAt 53 (Value.slice a2 n2 c2) (Value.int IntKind.i64 ↑g.k)) (g.W.alloc (Obj.cells { toList := g.cs1 } 91)) = Result.ok (Value.pointer (some { block := b2, off := o2 + g.k * 55 })) (g.W.alloc (Obj.cells { toList := g.cs1 } 91)) ∧
                                                      Sem.run Sagg.prog (loadVar 91 { block := b2, off := o2 + g.k * 55 }) (g.W.alloc (Obj.cells { toList := g.cs1 } 91)) = Result.ok (Value.agg { toList := g.cs2 }) (g.W.alloc (Obj.cells { toList := g.cs1 } 91)) ∧
                                                        Sem.run Sagg.prog (Instr.alloc 91 true (Value.tuple { toList := [] })) (g.W.alloc (Obj.cells { toList := g.cs1 } 91)) = Result.ok (Value.pointer (some { block := g.h + 1, off := 0 })) ((g.W.alloc (Obj.cells { toList := g.cs1 } 91)).alloc (Obj.cells zeroAcc 91)) ∧
                                                          Sem.run Sagg.prog
                                                                (do
                                                                  storeVar 91 { block := g.h + 1, off := 0 } (Value.agg { toList := g.cs2 })
                                                                  pure undef)
                                                                ((g.W.alloc (Obj.cells { toList := g.cs1 } 91)).alloc (Obj.cells zeroAcc 91)) =
                                                              Result.ok (Value.tuple { toList := [] }) ((g.W.alloc (Obj.cells { toList := g.cs1 } 91)).alloc (Obj.cells { toList := g.cs2 } 91)) ∧
                                                            CutOK (fun C => cutP46 w g.c3 ((g.W.alloc (Obj.cells g.cs1.toArray 91)).alloc (Obj.cells g.cs2.toArray 91)) C) ((g.W.alloc (Obj.cells { toList := g.cs1 } 91)).alloc (Obj.cells { toList := g.cs2 } 91)) ∧ ∀ (W4 : World), pair46 w W4 g.c3 → (∀ (m : Nat), Calls Sagg.prog 8 { toList := [Value.slice (some { block := g.h, off := 0 }) 20 20, Value.slice (some { block := g.h + 1, off := 0 }) 20 20] } (W4.drewN m) fun e w' => e = Ending.returned (Value.bool true) ∧ ∃ m, w' = W4.drewN m) ∧ (∀ (m : Nat), Sem.run Sagg.prog (loadVar 31 { block := g.h, off := 20 }) (W4.drewN m) = Result.ok (Value.int IntKind.u64 g.A.nonce) (W4.drewN m)) ∧ (∀ (m : Nat), Sem.run Sagg.prog (loadVar 31 { block := g.h + 1, off := 20 }) (W4.drewN m) = Result.ok (Value.int IntKind.u64 g.B.nonce) (W4.drewN m)) ∧ (∀ (m : Nat), Sem.run Sagg.prog (binOp BinOp.neq 31 (Value.int IntKind.u64 g.A.nonce) (Value.int IntKind.u64 g.B.nonce)) (W4.drewN m) = Result.ok (Value.bool false) (W4.drewN m)) ∧ (∀ (m : Nat), Calls Sagg.prog 8 { toList := [Value.slice (some { block := g.h, off := 21 }) 32 32, Value.slice (some { block := g.h + 1, off := 21 }) 32 32] } (W4.drewN m) fun e w' => e = Ending.returned (Value.bool false) ∧ ∃ m, w' = W4.drewN m) ∧ ∀ (m : Nat), (post46 eb w) (Ending.returned (Value.bool false)) (W4.drewN m)) ∧
                                    (g.A.addr = g.B.addr →
                                        g.A.nonce = g.B.nonce →
                                          g.A.bal = g.B.bal →
                                            g.A.code ≠ g.B.code →
                                              Sem.run Sagg.prog (binOp BinOp.lss 3 (Value.int IntKind.i64 ↑g.k) (Value.int IntKind.i64 ↑n1)) g.W = Result.ok (Value.bool true) g.W ∧
                                                Sem.run Sagg.prog (Instr.indexAt 53 (Value.slice a1 n1 c1) (Value.int IntKind.i64 ↑g.k)) g.W = Result.ok (Value.pointer (some { block := b1, off := o1 + g.k * 55 })) g.W ∧
                                                  Sem.run Sagg.prog (loadVar 91 { block := b1, off := o1 + g.k * 55 }) g.W = Result.ok (Value.agg { toList := g.cs1 }) g.W ∧
                                                    Sem.run Sagg.prog (Instr.alloc 91 true (Value.tuple { toList := [] })) g.W = Result.ok (Value.pointer (some { block := g.h, off := 0 })) (g.W.alloc (Obj.cells zeroAcc 91)) ∧
                                                      Sem.run Sagg.prog
                                                            (do
                                                              storeVar 91 { block := g.h, off := 0 } (Value.agg { toList := g.cs1 })
                                                              pure undef)
                                                            (g.W.alloc (Obj.cells zeroAcc 91)) =
                                                          Result.ok (Value.tuple { toList := [] }) (g.W.alloc (Obj.cells { toList := g.cs1 } 91)) ∧
                                                        Sem.run Sagg.prog (Instr.indexAt 53 (Value.slice a2 n2 c2) (Value.int IntKind.i64 ↑g.k)) (g.W.alloc (Obj.cells { toList := g.cs1 } 91)) = Result.ok (Value.pointer (some { block := b2, off := o2 + g.k * 55 })) (g.W.alloc (Obj.cells { toList := g.cs1 } 91)) ∧
                                                          Sem.run Sagg.prog (loadVar 91 { block := b2, off := o2 + g.k * 55 }) (g.W.alloc (Obj.cells { toList := g.cs1 } 91)) = Result.ok (Value.agg { toList := g.cs2 }) (g.W.alloc (Obj.cells { toList := g.cs1 } 91)) ∧
                                                            Sem.run Sagg.prog (Instr.alloc 91 true (Value.tuple { toList := [] })) (g.W.alloc (Obj.cells { toList := g.cs1 } 91)) = Result.ok (Value.pointer (some { block := g.h + 1, off := 0 })) ((g.W.alloc (Obj.cells { toList := g.cs1 } 91)).alloc (Obj.cells zeroAcc 91)) ∧
                                                              Sem.run Sagg.prog
                                                                    (do
                                                                      storeVar 91 { block := g.h + 1, off := 0 } (Value.agg { toList := g.cs2 })
                                                                      pure undef)
                                                                    ((g.W.alloc (Obj.cells { toList := g.cs1 } 91)).alloc (Obj.cells zeroAcc 91)) =
                                                                  Result.ok (Value.tuple { toList := [] }) ((g.W.alloc (Obj.cells { toList := g.cs1 } 91)).alloc (Obj.cells { toList := g.cs2 } 91)) ∧
                                                                CutOK (fun C => cutP46 w g.c4 ((g.W.alloc (Obj.cells g.cs1.toArray 91)).alloc (Obj.cells g.cs2.toArray 91)) C) ((g.W.alloc (Obj.cells { toList := g.cs1 } 91)).alloc (Obj.cells { toList := g.cs2 } 91)) ∧ ∀ (W4 : World), pair46 w W4 g.c4 → (∀ (m : Nat), Calls Sagg.prog 8 { toList := [Value.slice (some { block := g.h, off := 0 }) 20 20, Value.slice (some { block := g.h + 1, off := 0 }) 20 20] } (W4.drewN m) fun e w' => e = Ending.returned (Value.bool true) ∧ ∃ m, w' = W4.drewN m) ∧ (∀ (m : Nat), Sem.run Sagg.prog (loadVar 31 { block := g.h, off := 20 }) (W4.drewN m) = Result.ok (Value.int IntKind.u64 g.A.nonce) (W4.drewN m)) ∧ (∀ (m : Nat), Sem.run Sagg.prog (loadVar 31 { block := g.h + 1, off := 20 }) (W4.drewN m) = Result.ok (Value.int IntKind.u64 g.B.nonce) (W4.drewN m)) ∧ (∀ (m : Nat), Sem.run Sagg.prog (binOp BinOp.neq 31 (Value.int IntKind.u64 g.A.nonce) (Value.int IntKind.u64 g.B.nonce)) (W4.drewN m) = Result.ok (Value.bool false) (W4.drewN m)) ∧ (∀ (m : Nat), Calls Sagg.prog 8 { toList := [Value.slice (some { block := g.h, off := 21 }) 32 32, Value.slice (some { block := g.h + 1, off := 21 }) 32 32] } (W4.drewN m) fun e w' => e = Ending.returned (Value.bool true) ∧ ∃ m, w' = W4.drewN m) ∧ ∀ (m : Nat), Sem.run Sagg.prog (loadVar 22 { block := g.h, off := 53 }) (W4.drewN m) = Result.ok (Value.slice g.ca1 g.cn1 g.cc1) (W4.drewN m) ∧ Sem.run Sagg.prog (loadVar 22 { block := g.h + 1, off := 53 }) (W4.drewN m) = Result.ok (Value.slice g.ca2 g.cn2 g.cc2) (W4.drewN m) ∧ (CallOK Sagg.prog 8 { toList := [Value.slice g.ca1 g.cn1 g.cc1, Value.slice g.ca2 g.cn2 g.cc2] } (W4.drewN m) fun C => C g.c4 (Value.bool false) (W4.drewN m)) ∧ (post46 eb w) (Ending.returned (Value.bool false)) (W4.drewN m)) ∧
                                      (g.A.addr = g.B.addr →
                                          g.A.nonce = g.B.nonce →
                                            g.A.bal = g.B.bal →
                                              g.A.code = g.B.code →
                                                g.sn1 ≠ g.sn2 →
                                                  Sem.run Sagg.prog (binOp BinOp.lss 3 (Value.int IntKind.i64 ↑g.k) (Value.int IntKind.i64 ↑n1)) g.W = Result.ok (Value.bool true) g.W ∧
                                                    Sem.run Sagg.prog (Instr.indexAt 53 (Value.slice a1 n1 c1) (Value.int IntKind.i64 ↑g.k)) g.W = Result.ok (Value.pointer (some { block := b1, off := o1 + g.k * 55 })) g.W ∧
                                                      Sem.run Sagg.prog (loadVar 91 { block := b1, off := o1 + g.k * 55 }) g.W = Result.ok (Value.agg { toList := g.cs1 }) g.W ∧
                                                        Sem.run Sagg.prog (Instr.alloc 91 true (Value.tuple { toList := [] })) g.W = Result.ok (Value.pointer (some { block := g.h, off := 0 })) (g.W.alloc (Obj.cells zeroAcc 91)) ∧
                                                          Sem.run Sagg.prog
                                                                (do
                                                                  storeVar 91 { block := g.h, off := 0 } (Value.agg { toList := g.cs1 })
                                                                  pure undef)
                                                                (g.W.alloc (Obj.cells zeroAcc 91)) =
                                                              Result.ok (Value.tuple { toList := [] }) (g.W.alloc (Obj.cells { toList := g.cs1 } 91)) ∧
                                                            Sem.run Sagg.prog (Instr.indexAt 53 (Value.slice a2 n2 c2) (Value.int IntKind.i64 ↑g.k)) (g.W.alloc (Obj.cells { toList := g.cs1 } 91)) = Result.ok (Value.pointer (some { block := b2, off := o2 + g.k * 55 })) (g.W.alloc (Obj.cells { toList := g.cs1 } 91)) ∧
                                                              Sem.run Sagg.prog (loadVar 91 { block := b2, off := o2 + g.k * 55 }) (g.W.alloc (Obj.cells { toList := g.cs1 } 91)) = Result.ok (Value.agg { toList := g.cs2 }) (g.W.alloc (Obj.cells { toList := g.cs1 } 91)) ∧
                                                                Sem.run Sagg.prog (Instr.alloc 91 true (Value.tuple { toList := [] })) (g.W.alloc (Obj.cells { toList := g.cs1 } 91)) = Result.ok (Value.pointer (some { block := g.h + 1, off := 0 })) ((g.W.alloc (Obj.cells { toList := g.cs1 } 91)).alloc (Obj.cells zeroAcc 91)) ∧
                                                                  Sem.run Sagg.prog
                                                                        (do
                                                                          storeVar 91 { block := g.h + 1, off := 0 } (Value.agg { toList := g.cs2 })
                                                                          pure undef)
                                                                        ((g.W.alloc (Obj.cells { toList := g.cs1 } 91)).alloc (Obj.cells zeroAcc 91)) =
                                                                      Result.ok (Value.tuple { toList := [] }) ((g.W.alloc (Obj.cells { toList := g.cs1 } 91)).alloc (Obj.cells { toList := g.cs2 } 91)) ∧
                                                                    CutOK (fun C => cutP46 w g.c5 ((g.W.alloc (Obj.cells g.cs1.toArray 91)).alloc (Obj.cells g.cs2.toArray 91)) C) ((g.W.alloc (Obj.cells { toList := g.cs1 } 91)).alloc (Obj.cells { toList := g.cs2 } 91)) ∧ ∀ (W4 : World), pair46 w W4 g.c5 → (∀ (m : Nat), Calls Sagg.prog 8 { toList := [Value.slice (some { block := g.h, off := 0 }) 20 20, Value.slice (some { block := g.h + 1, off := 0 }) 20 20] } (W4.drewN m) fun e w' => e = Ending.returned (Value.bool true) ∧ ∃ m, w' = W4.drewN m) ∧ (∀ (m : Nat), Sem.run Sagg.prog (loadVar 31 { block := g.h, off := 20 }) (W4.drewN m) = Result.ok (Value.int IntKind.u64 g.A.nonce) (W4.drewN m)) ∧ (∀ (m : Nat), Sem.run Sagg.prog (loadVar 31 { block := g.h + 1, off := 20 }) (W4.drewN m) = Result.ok (Value.int IntKind.u64 g.B.nonce) (W4.drewN m)) ∧ (∀ (m : Nat), Sem.run Sagg.prog (binOp BinOp.neq 31 (Value.int IntKind.u64 g.A.nonce) (Value.int IntKind.u64 g.B.nonce)) (W4.drewN m) = Result.ok (Value.bool false) (W4.drewN m)) ∧ (∀ (m : Nat), Calls Sagg.prog 8 { toList := [Value.slice (some { block := g.h, off := 21 }) 32 32, Value.slice (some { block := g.h + 1, off := 21 }) 32 32] } (W4.drewN m) fun e w' => e = Ending.returned (Value.bool true) ∧ ∃ m, w' = W4.drewN m) ∧ ∀ (m : Nat), Sem.run Sagg.prog (loadVar 22 { block := g.h, off := 53 }) (W4.drewN m) = Result.ok (Value.slice g.ca1 g.cn1 g.cc1) (W4.drewN m) ∧ Sem.run Sagg.prog (loadVar 22 { block := g.h + 1, off := 53 }) (W4.drewN m) = Result.ok (Value.slice g.ca2 g.cn2 g.cc2) (W4.drewN m) ∧ (CallOK Sagg.prog 8 { toList := [Value.slice g.ca1 g.cn1 g.cc1, Value.slice g.ca2 g.cn2 g.cc2] } (W4.drewN m) fun C => C g.c5 (Value.bool true) (W4.drewN m)) ∧ Sem.run Sagg.prog (loadVar 89 { block := g.h, off := 54 }) (W4.drewN m) = Result.ok (Value.slice g.sa1 g.sn1 g.sc1) (W4.drewN m) ∧ Sem.run Sagg.prog (loadVar 89 { block := g.h + 1, off := 54 }) (W4.drewN m) = Result.ok (Value.slice g.sa2 g.sn2 g.sc2) (W4.drewN m) ∧ Sem.run Sagg.prog (binOp BinOp.neq 3 (Value.int IntKind.i64 ↑g.sn1) (Value.int IntKind.i64 ↑g.sn2)) (W4.drewN m) = Result.ok (Value.bool true) (W4.drewN m) ∧ (post46 eb w) (Ending.returned (Value.bool false)) (W4.drewN m)) ∧
                                        (g.A.addr = g.B.addr →
                                          g.A.nonce = g.B.nonce →
                                            g.A.bal = g.B.bal →
                                              g.A.code = g.B.code →
                                                g.sn1 = g.sn2 →
                                                  Sem.run Sagg.prog (binOp BinOp.lss 3 (Value.int IntKind.i64 ↑g.k) (Value.int IntKind.i64 ↑n1)) g.W = Result.ok (Value.bool true) g.W ∧
                                                    Sem.run Sagg.prog (Instr.indexAt 53 (Value.slice a1 n1 c1) (Value.int IntKind.i64 ↑g.k)) g.W = Result.ok (Value.pointer (some { block := b1, off := o1 + g.k * 55 })) g.W ∧
                                                      Sem.run Sagg.prog (loadVar 91 { block := b1, off := o1 + g.k * 55 }) g.W = Result.ok (Value.agg { toList := g.cs1 }) g.W ∧
                                                        Sem.run Sagg.prog (Instr.alloc 91 true (Value.tuple { toList := [] })) g.W = Result.ok (Value.pointer (some { block := g.h, off := 0 })) (g.W.alloc (Obj.cells zeroAcc 91)) ∧
                                                          Sem.run Sagg.prog
                                                                (do
                                                                  storeVar 91 { block := g.h, off := 0 } (Value.agg { toList := g.cs1 })
                                                                  pure undef)
                                                                (g.W.alloc (Obj.cells zeroAcc 91)) =
                                                              Result.ok (Value.tuple { toList := [] }) (g.W.alloc (Obj.cells { toList := g.cs1 } 91)) ∧
                                                            Sem.run Sagg.prog (Instr.indexAt 53 (Value.slice a2 n2 c2) (Value.int IntKind.i64 ↑g.k)) (g.W.alloc (Obj.cells { toList := g.cs1 } 91)) = Result.ok (Value.pointer (some { block := b2, off := o2 + g.k * 55 })) (g.W.alloc (Obj.cells { toList := g.cs1 } 91)) ∧
                                                              Sem.run Sagg.prog (loadVar 91 { block := b2, off := o2 + g.k * 55 }) (g.W.alloc (Obj.cells { toList := g.cs1 } 91)) = Result.ok (Value.agg { toList := g.cs2 }) (g.W.alloc (Obj.cells { toList := g.cs1 } 91)) ∧
                                                                Sem.run Sagg.prog (Instr.alloc 91 true (Value.tuple { toList := [] })) (g.W.alloc (Obj.cells { toList := g.cs1 } 91)) = Result.ok (Value.pointer (some { block := g.h + 1, off := 0 })) ((g.W.alloc (Obj.cells { toList := g.cs1 } 91)).alloc (Obj.cells zeroAcc 91)) ∧
                                                                  Sem.run Sagg.prog
                                                                        (do
                                                                          storeVar 91 { block := g.h + 1, off := 0 } (Value.agg { toList := g.cs2 })
                                                                          pure undef)
                                                                        ((g.W.alloc (Obj.cells { toList := g.cs1 } 91)).alloc (Obj.cells zeroAcc 91)) =
                                                                      Result.ok (Value.tuple { toList := [] }) ((g.W.alloc (Obj.cells { toList := g.cs1 } 91)).alloc (Obj.cells { toList := g.cs2 } 91)) ∧
                                                                    CutOK (fun C => cutP46 w g.c6 ((g.W.alloc (Obj.cells g.cs1.toArray 91)).alloc (Obj.cells g.cs2.toArray 91)) C) ((g.W.alloc (Obj.cells { toList := g.cs1 } 91)).alloc (Obj.cells { toList := g.cs2 } 91)) ∧
                                                                      ∀ (W4 : World),
                                                                        pair46 w W4 g.c6 →
                                                                          (∀ (m : Nat), Calls Sagg.prog 8 { toList := [Value.slice (some { block := g.h, off := 0 }) 20 20, Value.slice (some { block := g.h + 1, off := 0 }) 20 20] } (W4.drewN m) fun e w' => e = Ending.returned (Value.bool true) ∧ ∃ m, w' = W4.drewN m) ∧
                                                                            (∀ (m : Nat), Sem.run Sagg.prog (loadVar 31 { block := g.h, off := 20 }) (W4.drewN m) = Result.ok (Value.int IntKind.u64 g.A.nonce) (W4.drewN m)) ∧
                                                                              (∀ (m : Nat), Sem.run Sagg.prog (loadVar 31 { block := g.h + 1, off := 20 }) (W4.drewN m) = Result.ok (Value.int IntKind.u64 g.B.nonce) (W4.drewN m)) ∧
                                                                                (∀ (m : Nat), Sem.run Sagg.prog (binOp BinOp.neq 31 (Value.int IntKind.u64 g.A.nonce) (Value.int IntKind.u64 g.B.nonce)) (W4.drewN m) = Result.ok (Value.bool false) (W4.drewN m)) ∧
                                                                                  (∀ (m : Nat), Calls Sagg.prog 8 { toList := [Value.slice (some { block := g.h, off := 21 }) 32 32, Value.slice (some { block := g.h + 1, off := 21 }) 32 32] } (W4.drewN m) fun e w' => e = Ending.returned (Value.bool true) ∧ ∃ m, w' = W4.drewN m) ∧
                                                                                    ∀ (m : Nat),
                                                                                      Sem.run Sagg.prog (loadVar 22 { block := g.h, off := 53 }) (W4.drewN m) = Result.ok (Value.slice g.ca1 g.cn1 g.cc1) (W4.drewN m) ∧
                                                                                        Sem.run Sagg.prog (loadVar 22 { block := g.h + 1, off := 53 }) (W4.drewN m) = Result.ok (Value.slice g.ca2 g.cn2 g.cc2) (W4.drewN m) ∧
                                                                                          (CallOK Sagg.prog 8 { toList := [Value.slice g.ca1 g.cn1 g.cc1, Value.slice g.ca2 g.cn2 g.cc2] } (W4.drewN m) fun C => C g.c6 (Value.bool true) (W4.drewN m)) ∧
                                                                                            Sem.run Sagg.prog (loadVar 89 { block := g.h, off := 54 }) (W4.drewN m) = Result.ok (Value.slice g.sa1 g.sn1 g.sc1) (W4.drewN m) ∧
                                                                                              Sem.run Sagg.prog (loadVar 89 { block := g.h + 1, off := 54 }) (W4.drewN m) = Result.ok (Value.slice g.sa2 g.sn2 g.sc2) (W4.drewN m) ∧
                                                                                                Sem.run Sagg.prog (binOp BinOp.neq 3 (Value.int IntKind.i64 ↑g.sn1) (Value.int IntKind.i64 ↑g.sn2)) (W4.drewN m) = Result.ok (Value.bool false) (W4.drewN m) ∧
                                                                                                  Sem.run Sagg.prog (loadVar 89 { block := g.h, off := 54 }) (W4.drewN m) = Result.ok (Value.slice g.sa1 g.sn1 g.sc1) (W4.drewN m) ∧
                                                                                                    (∃ j, j ≤ g.sn1 ∧ [Value.int IntKind.i64 0] = [Value.int IntKind.i64 ↑j] ∧ Below W4.heap.size (W4.drewN m) (W4.drewN m) ∧ List.take (j * 64) g.A.slots = List.take (j * 64) g.B.slots) ∧
                                                                                                      LoopOK loopB46 g.c6 (W4.drewN m) ∧
                                                                                                        (∀ (j : Nat) (W : World),
                                                                                                            j < g.sn1 →
                                                                                                              Below W4.heap.size (W4.drewN m) W →
                                                                                                                List.take (j * 64) g.A.slots = List.take (j * 64) g.B.slots →
                                                                                                                  (List.take 32 (cut g.A.slots (j * 64) 64) ≠ List.take 32 (cut g.B.slots (j * 64) 64) →
                                                                                                                      Sem.run Sagg.prog (binOp BinOp.lss 3 (Value.int IntKind.i64 ↑j) (Value.int IntKind.i64 ↑g.sn1)) W = Result.ok (Value.bool true) W ∧
                                                                                                                        Sem.run Sagg.prog (Instr.indexAt 89 (Value.slice g.sa1 g.sn1 g.sc1) (Value.int IntKind.i64 ↑j)) W = Result.ok (Value.pointer (some { block := g.sb1, off := g.so1 + j * 64 })) W ∧
                                                                                                                          Sem.run Sagg.prog (loadVar 108 { block := g.sb1, off := g.so1 + j * 64 }) W = Result.ok (Value.agg { toList := bcells (cut g.A.slots (j * 64) 64) }) W ∧
                                                                                                                            Sem.run Sagg.prog (Instr.alloc 108 true (Value.tuple { toList := [] })) W = Result.ok (Value.pointer (some { block := W.heap.size, off := 0 })) (W.alloc (Obj.cells zeroSlot 108)) ∧
                                                                                                                              Sem.run Sagg.prog
                                                                                                                                    (do
                                                                                                                                      storeVar 108 { block := W.heap.size, off := 0 } (Value.agg { toList := bcells (cut g.A.slots (j * 64) 64) })
                                                                                                                                      pure undef)
                                                                                                                                    (W.alloc (Obj.cells zeroSlot 108)) =
                                                                                                                                  Result.ok (Value.tuple { toList := [] }) (W.alloc (Obj.cells { toList := bcells (cut g.A.slots (j * 64) 64) } 108)) ∧
                                                                                                                                Sem.run Sagg.prog (loadVar 89 { block := g.h + 1, off := 54 }) (W.alloc (Obj.cells { toList := bcells (cut g.A.slots (j * 64) 64) } 108)) = Result.ok (Value.slice g.sa2 g.sn2 g.sc2) (W.alloc (Obj.cells { toList := bcells (cut g.A.slots (j * 64) 64) } 108)) ∧
                                                                                                                                  Sem.run Sagg.prog (Instr.indexAt 89 (Value.slice g.sa2 g.sn2 g.sc2) (Value.int IntKind.i64 ↑j)) (W.alloc (Obj.cells { toList := bcells (cut g.A.slots (j * 64) 64) } 108)) = Result.ok (Value.pointer (some { block := g.sb2, off := g.so2 + j * 64 })) (W.alloc (Obj.cells { toList := bcells (cut g.A.slots (j * 64) 64) } 108)) ∧
                                                                                                                                    Sem.run Sagg.prog (loadVar 108 { block := g.sb2, off := g.so2 + j * 64 }) (W.alloc (Obj.cells { toList := bcells (cut g.A.slots (j * 64) 64) } 108)) = Result.ok (Value.agg { toList := bcells (cut g.B.slots (j * 64) 64) }) (W.alloc (Obj.cells { toList := bcells (cut g.A.slots (j * 64) 64) } 108)) ∧
                                                                                                                                      Sem.run Sagg.prog (Instr.alloc 108 true (Value.tuple { toList := [] })) (W.alloc (Obj.cells { toList := bcells (cut g.A.slots (j * 64) 64) } 108)) = Result.ok (Value.pointer (some { block := W.heap.size + 1, off := 0 })) ((W.alloc (Obj.cells { toList := bcells (cut g.A.slots (j * 64) 64) } 108)).alloc (Obj.cells zeroSlot 108)) ∧
                                                                                                                                        Sem.run Sagg.prog
                                                                                                                                              (do
                                                                                                                                                storeVar 108 { block := W.heap.size + 1, off := 0 } (Value.agg { toList := bcells (cut g.B.slots (j * 64) 64) })
                                                                                                                                                pure undef)
                                                                                                                                              ((W.alloc (Obj.cells { toList := bcells (cut g.A.slots (j * 64) 64) } 108)).alloc (Obj.cells zeroSlot 108)) =
                                                                                                                                            Result.ok (Value.tuple { toList := [] }) ((W.alloc (Obj.cells { toList := bcells (cut g.A.slots (j * 64) 64) } 108)).alloc (Obj.cells { toList := bcells (cut g.B.slots (j * 64) 64) } 108)) ∧
                                                                                                                                          CutOK (fun C => cutS46 (g.c6.d1 j W) ((W.alloc (Obj.cells (bcells (cut g.A.slots (j * 64) 64)).toArray 108)).alloc (Obj.cells (bcells (cut g.B.slots (j * 64) 64)).toArray 108)) C) ((W.alloc (Obj.cells { toList := bcells (cut g.A.slots (j * 64) 64) } 108)).alloc (Obj.cells { toList := bcells (cut g.B.slots (j * 64) 64) } 108)) ∧ ∀ (W5 : World), Slot46 W W5 W.heap.size (cut g.A.slots (j * 64) 64) (cut g.B.slots (j * 64) 64) → (∀ (m : Nat), Calls Sagg.prog 8 { toList := [Value.slice (some { block := W.heap.size, off := 0 }) 32 32, Value.slice (some { block := W.heap.size + 1, off := 0 }) 32 32] } (W5.drewN m) fun e w' => e = Ending.returned (Value.bool false) ∧ ∃ m, w' = W5.drewN m) ∧ ∀ (m : Nat), (post46 eb w) (Ending.returned (Value.bool false)) (W5.drewN m)) ∧
                                                                                                                    (List.take 32 (cut g.A.slots (j * 64) 64) = List.take 32 (cut g.B.slots (j * 64) 64) →
                                                                                                                        List.drop 32 (cut g.A.slots (j * 64) 64) ≠ List.drop 32 (cut g.B.slots (j * 64) 64) →
                                                                                                                          Sem.run Sagg.prog (binOp BinOp.lss 3 (Value.int IntKind.i64 ↑j) (Value.int IntKind.i64 ↑g.sn1)) W = Result.ok (Value.bool true) W ∧
                                                                                                                            Sem.run Sagg.prog (Instr.indexAt 89 (Value.slice g.sa1 g.sn1 g.sc1) (Value.int IntKind.i64 ↑j)) W = Result.ok (Value.pointer (some { block := g.sb1, off := g.so1 + j * 64 })) W ∧
                                                                                                                              Sem.run Sagg.prog (loadVar 108 { block := g.sb1, off := g.so1 + j * 64 }) W = Result.ok (Value.agg { toList := bcells (cut g.A.slots (j * 64) 64) }) W ∧
                                                                                                                                Sem.run Sagg.prog (Instr.alloc 108 true (Value.tuple { toList := [] })) W = Result.ok (Value.pointer (some { block := W.heap.size, off := 0 })) (W.alloc (Obj.cells zeroSlot 108)) ∧
                                                                                                                                  Sem.run Sagg.prog
                                                                                                                                        (do
                                                                                                                                          storeVar 108 { block := W.heap.size, off := 0 } (Value.agg { toList := bcells (cut g.A.slots (j * 64) 64) })
                                                                                                                                          pure undef)
                                                                                                                                        (W.alloc (Obj.cells zeroSlot 108)) =
                                                                                                                                      Result.ok (Value.tuple { toList := [] }) (W.alloc (Obj.cells { toList := bcells (cut g.A.slots (j * 64) 64) } 108)) ∧
                                                                                                                                    Sem.run Sagg.prog (loadVar 89 { block := g.h + 1, off := 54 }) (W.alloc (Obj.cells { toList := bcells (cut g.A.slots (j * 64) 64) } 108)) = Result.ok (Value.slice g.sa2 g.sn2 g.sc2) (W.alloc (Obj.cells { toList := bcells (cut g.A.slots (j * 64) 64) } 108)) ∧
                                                                                                                                      Sem.run Sagg.prog (Instr.indexAt 89 (Value.slice g.sa2 g.sn2 g.sc2) (Value.int IntKind.i64 ↑j)) (W.alloc (Obj.cells { toList := bcells (cut g.A.slots (j * 64) 64) } 108)) = Result.ok (Value.pointer (some { block := g.sb2, off := g.so2 + j * 64 })) (W.alloc (Obj.cells { toList := bcells (cut g.A.slots (j * 64) 64) } 108)) ∧
                                                                                                                                        Sem.run Sagg.prog (loadVar 108 { block := g.sb2, off := g.so2 + j * 64 }) (W.alloc (Obj.cells { toList := bcells (cut g.A.slots (j * 64) 64) } 108)) = Result.ok (Value.agg { toList := bcells (cut g.B.slots (j * 64) 64) }) (W.alloc (Obj.cells { toList := bcells (cut g.A.slots (j * 64) 64) } 108)) ∧
                                                                                                                                          Sem.run Sagg.prog (Instr.alloc 108 true (Value.tuple { toList := [] })) (W.alloc (Obj.cells { toList := bcells (cut g.A.slots (j * 64) 64) } 108)) = Result.ok (Value.pointer (some { block := W.heap.size + 1, off := 0 })) ((W.alloc (Obj.cells { toList := bcells (cut g.A.slots (j * 64) 64) } 108)).alloc (Obj.cells zeroSlot 108)) ∧
                                                                                                                                            Sem.run Sagg.prog
                                                                                                                                                  (do
                                                                                                                                                    storeVar 108 { block := W.heap.size + 1, off := 0 } (Value.agg { toList := bcells (cut g.B.slots (j * 64) 64) })
                                                                                                                                                    pure undef)
                                                                                                                                                  ((W.alloc (Obj.cells { toList := bcells (cut g.A.slots (j * 64) 64) } 108)).alloc (Obj.cells zeroSlot 108)) =
                                                                                                                                                Result.ok (Value.tuple { toList := [] }) ((W.alloc (Obj.cells { toList := bcells (cut g.A.slots (j * 64) 64) } 108)).alloc (Obj.cells { toList := bcells (cut g.B.slots (j * 64) 64) } 108)) ∧
                                                                                                                                              CutOK (fun C => cutS46 (g.c6.d2 j W) ((W.alloc (Obj.cells (bcells (cut g.A.slots (j * 64) 64)).toArray 108)).alloc (Obj.cells (bcells (cut g.B.slots (j * 64) 64)).toArray 108)) C) ((W.alloc (Obj.cells { toList := bcells (cut g.A.slots (j * 64) 64) } 108)).alloc (Obj.cells { toList := bcells (cut g.B.slots (j * 64) 64) } 108)) ∧ ∀ (W5 : World), Slot46 W W5 W.heap.size (cut g.A.slots (j * 64) 64) (cut g.B.slots (j * 64) 64) → (∀ (m : Nat), Calls Sagg.prog 8 { toList := [Value.slice (some { block := W.heap.size, off := 0 }) 32 32, Value.slice (some { block := W.heap.size + 1, off := 0 }) 32 32] } (W5.drewN m) fun e w' => e = Ending.returned (Value.bool true) ∧ ∃ m, w' = W5.drewN m) ∧ (∀ (m : Nat), Calls Sagg.prog 8 { toList := [Value.slice (some { block := W.heap.size, off := 32 }) 32 32, Value.slice (some { block := W.heap.size + 1, off := 32 }) 32 32] } (W5.drewN m) fun e w' => e = Ending.returned (Value.bool false) ∧ ∃ m, w' = W5.drewN m) ∧ ∀ (m : Nat), (post46 eb w) (Ending.returned (Value.bool false)) (W5.drewN m)) ∧
                                                                                                                      (List.take 32 (cut g.A.slots (j * 64) 64) = List.take 32 (cut g.B.slots (j * 64) 64) →
                                                                                                                        List.drop 32 (cut g.A.slots (j * 64) 64) = List.drop 32 (cut g.B.slots (j * 64) 64) →
                                                                                                                          Sem.run Sagg.prog (binOp BinOp.lss 3 (Value.int IntKind.i64 ↑j) (Value.int IntKind.i64 ↑g.sn1)) W = Result.ok (Value.bool true) W ∧
                                                                                                                            Sem.run Sagg.prog (Instr.indexAt 89 (Value.slice g.sa1 g.sn1 g.sc1) (Value.int IntKind.i64 ↑j)) W = Result.ok (Value.pointer (some { block := g.sb1, off := g.so1 + j * 64 })) W ∧
                                                                                                                              Sem.run Sagg.prog (loadVar 108 { block := g.sb1, off := g.so1 + j * 64 }) W = Result.ok (Value.agg { toList := bcells (cut g.A.slots (j * 64) 64) }) W ∧
                                                                                                                                Sem.run Sagg.prog (Instr.alloc 108 true (Value.tuple { toList := [] })) W = Result.ok (Value.pointer (some { block := W.heap.size, off := 0 })) (W.alloc (Obj.cells zeroSlot 108)) ∧
                                                                                                                                  Sem.run Sagg.prog
                                                                                                                                        (do
                                                                                                                                          storeVar 108 { block := W.heap.size, off := 0 } (Value.agg { toList := bcells (cut g.A.slots (j * 64) 64) })
                                                                                                                                          pure undef)
                                                                                                                                        (W.alloc (Obj.cells zeroSlot 108)) =
                                                                                                                                      Result.ok (Value.tuple { toList := [] }) (W.alloc (Obj.cells { toList := bcells (cut g.A.slots (j * 64) 64) } 108)) ∧
                                                                                                                                    Sem.run Sagg.prog (loadVar 89 { block := g.h + 1, off := 54 }) (W.alloc (Obj.cells { toList := bcells (cut g.A.slots (j * 64) 64) } 108)) = Result.ok (Value.slice g.sa2 g.sn2 g.sc2) (W.alloc (Obj.cells { toList := bcells (cut g.A.slots (j * 64) 64) } 108)) ∧
                                                                                                                                      Sem.run Sagg.prog (Instr.indexAt 89 (Value.slice g.sa2 g.sn2 g.sc2) (Value.int IntKind.i64 ↑j)) (W.alloc (Obj.cells { toList := bcells (cut g.A.slots (j * 64) 64) } 108)) = Result.ok (Value.pointer (some { block := g.sb2, off := g.so2 + j * 64 })) (W.alloc (Obj.cells { toList := bcells (cut g.A.slots (j * 64) 64) } 108)) ∧
                                                                                                                                        Sem.run Sagg.prog (loadVar 108 { block := g.sb2, off := g.so2 + j * 64 }) (W.alloc (Obj.cells { toList := bcells (cut g.A.slots (j * 64) 64) } 108)) = Result.ok (Value.agg { toList := bcells (cut g.B.slots (j * 64) 64) }) (W.alloc (Obj.cells { toList := bcells (cut g.A.slots (j * 64) 64) } 108)) ∧
                                                                                                                                          Sem.run Sagg.prog (Instr.alloc 108 true (Value.tuple { toList := [] })) (W.alloc (Obj.cells { toList := bcells (cut g.A.slots (j * 64) 64) } 108)) = Result.ok (Value.pointer (some { block := W.heap.size + 1, off := 0 })) ((W.alloc (Obj.cells { toList := bcells (cut g.A.slots (j * 64) 64) } 108)).alloc (Obj.cells zeroSlot 108)) ∧
                                                                                                                                            Sem.run Sagg.prog
                                                                                                                                                  (do
                                                                                                                                                    storeVar 108 { block := W.heap.size + 1, off := 0 } (Value.agg { toList := bcells (cut g.B.slots (j * 64) 64) })
                                                                                                                                                    pure undef)
                                                                                                                                                  ((W.alloc (Obj.cells { toList := bcells (cut g.A.slots (j * 64) 64) } 108)).alloc (Obj.cells zeroSlot 108)) =
                                                                                                                                                Result.ok (Value.tuple { toList := [] }) ((W.alloc (Obj.cells { toList := bcells (cut g.A.slots (j * 64) 64) } 108)).alloc (Obj.cells { toList := bcells (cut g.B.slots (j * 64) 64) } 108)) ∧
                                                                                                                                              CutOK (fun C => cutS46 (g.c6.d3 j W) ((W.alloc (Obj.cells (bcells (cut g.A.slots (j * 64) 64)).toArray 108)).alloc (Obj.cells (bcells (cut g.B.slots (j * 64) 64)).toArray 108)) C) ((W.alloc (Obj.cells { toList := bcells (cut g.A.slots (j * 64) 64) } 108)).alloc (Obj.cells { toList := bcells (cut g.B.slots (j * 64) 64) } 108)) ∧ ∀ (W5 : World), Slot46 W W5 W.heap.size (cut g.A.slots (j * 64) 64) (cut g.B.slots (j * 64) 64) → (∀ (m : Nat), Calls Sagg.prog 8 { toList := [Value.slice (some { block := W.heap.size, off := 0 }) 32 32, Value.slice (some { block := W.heap.size + 1, off := 0 }) 32 32] } (W5.drewN m) fun e w' => e = Ending.returned (Value.bool true) ∧ ∃ m, w' = W5.drewN m) ∧ (∀ (m : Nat), Calls Sagg.prog 8 { toList := [Value.slice (some { block := W.heap.size, off := 32 }) 32 32, Value.slice (some { block := W.heap.size + 1, off := 32 }) 32 32] } (W5.drewN m) fun e w' => e = Ending.returned (Value.bool true) ∧ ∃ m, w' = W5.drewN m) ∧ ∀ (m_1 : Nat), Sem.run Sagg.prog (binOp BinOp.add 3 (Value.int IntKind.i64 ↑j) (Value.int IntKind.i64 1)) (W5.drewN m_1) = Result.ok (Value.int IntKind.i64 ↑(j + 1)) (W5.drewN m_1) ∧ (∃ j_1, j_1 ≤ g.sn1 ∧ [Value.int IntKind.i64 ↑(j + 1)] = [Value.int IntKind.i64 ↑j_1] ∧ Below W4.heap.size (W4.drewN m) (W5.drewN m_1) ∧ List.take (j_1 * 64) g.A.slots = List.take (j_1 * 64) g.B.slots) ∧ g.sn1 - (((j + 1) : Nat) : Int).toNat < g.sn1 - ((j : Nat) : Int).toNat)) ∧
                                                                                                          ∀ (j : Nat) (W : World), j = g.sn1 → Below W4.heap.size (W4.drewN m) W → List.take (j * 64) g.A.slots = List.take (j * 64) g.B.slots → Sem.run Sagg.prog (binOp BinOp.lss 3 (Value.int IntKind.i64 ↑j) (Value.int IntKind.i64 ↑g.sn1)) W = Result.ok (Value.bool false) W ∧ Sem.run Sagg.prog (binOp BinOp.add 3 (Value.int IntKind.i64 ↑g.k) (Value.int IntKind.i64 1)) W = Result.ok (Value.int IntKind.i64 ↑(g.k + 1)) W ∧ (∃ k, k ≤ n1 ∧ [Value.int IntKind.i64 ↑(g.k + 1)] = [Value.int IntKind.i64 ↑k] ∧ Below w.heap.size w W ∧ List.take k L1 = List.take k L2) ∧ n1 - (((g.k + 1) : Nat) : Int).toNat < n1 - ((g.k : Nat) : Int).toNat)) ∧
              ∀ (g : G46), g.k = n1 → Below w.heap.size w g.W → List.take g.k L1 = List.take g.k L2 → Sem.run Sagg.prog (binOp BinOp.lss 3 (Value.int IntKind.i64 ↑g.k) (Value.int IntKind.i64 ↑n1)) g.W = Result.ok (Value.bool false) g.W ∧ (post46 eb w) (Ending.returned (Value.bool true)) g.W)) (by kernel_rfl) ?_
  exact ⟨(cut46_ok n1 n2 _ w), (fun h1 => ⟨(neq_t (by omega)), (fin46_f heb (by rintro rfl; omega) (Below.refl _ _))⟩), (fun h4 => ⟨(neq_f (by omega)), ⟨0, Nat.zero_le _, rfl, Below.refl _ _, by simp⟩, (loopA46_ok l1 (by omega) (fun h => (s1 h).2) (fun h => (s2 (by omega)).2) _), (fun g8 => (fun h9 => (fun h10 => (fun h11 => (fun h12 => (fun h13 => (fun h14 => (fun h15 => ⟨(fun h16 => ⟨(lss_t (by omega)), (index_slice (i := g8.k) Sagg.underlying53 info91 (s1 (by omega)).1 (by omega)), (load_acc (show acc46 g8.W b1 o1 b2 o2 g8 by assumption).i1 (show acc46 g8.W b1 o1 b2 o2 g8 by assumption).r1), (run_alloc zero91 (by assumption)), (store_acc (by assumption) (show acc46 g8.W b1 o1 b2 o2 g8 by assumption).i1), (index_slice (i := g8.k) Sagg.underlying53 info91 (s2 (by omega)).1 (by omega)), (load_acc (show acc46 g8.W b1 o1 b2 o2 g8 by assumption).i2 (range_ext (show acc46 g8.W b1 o1 b2 o2 g8 by assumption).r2 ((Below.refl _ _).alloc (Nat.le_refl _) _))), (run_alloc zero91 (by rw [show g8.h = g8.W.heap.size by assumption]; simp)), (store_acc (by rw [show g8.h = g8.W.heap.size by assumption]; simp) (show acc46 g8.W b1 o1 b2 o2 g8 by assumption).i2), (cutP46_ok (pair46_ok (by assumption) (by assumption) (by assumption))), (fun W427 => (fun h28 => ⟨(fun m29 => (eqb (show acc46 g8.W b1 o1 b2 o2 g8 by assumption).i1.addrL (show acc46 g8.W b1 o1 b2 o2 g8 by assumption).i2.addrL (row_range0 (show pair46 w W427 g8 by assumption).a1.addr (show acc46 g8.W b1 o1 b2 o2 g8 by assumption).i1.addrD) (row_range0 (show pair46 w W427 g8 by assumption).a2.addr (show acc46 g8.W b1 o1 b2 o2 g8 by assumption).i2.addrD) false (by simp_all))), (fun m31 => (fin46_f heb (fun e => acc_ne (by assumption) (by assumption) e (fun e => by first | exact absurd (congrArg AccD.addr e) (by assumption) | exact absurd (congrArg AccD.nonce e) (by assumption) | exact absurd (congrArg AccD.bal e) (by assumption) | exact absurd (congrArg AccD.code e) (by assumption) | (have h1 := (show acc46 g8.W b1 o1 b2 o2 g8 by assumption).i1.slotsL; have h2 := (show acc46 g8.W b1 o1 b2 o2 g8 by assumption).i2.slotsL; have h3 := congrArg AccD.slots e; rw [h3] at h1; omega))) (bel4 (Below.refl _ _) (show pair46 w W427 g8 by assumption).below _)))⟩))⟩), (fun h33 => (fun h34 => ⟨(lss_t (by omega)), (index_slice (i := g8.k) Sagg.underlying53 info91 (s1 (by omega)).1 (by omega)), (load_acc (show acc46 g8.W b1 o1 b2 o2 g8 by assumption).i1 (show acc46 g8.W b1 o1 b2 o2 g8 by assumption).r1), (run_alloc zero91 (by assumption)), (store_acc (by assumption) (show acc46 g8.W b1 o1 b2 o2 g8 by assumption).i1), (index_slice (i := g8.k) Sagg.underlying53 info91 (s2 (by omega)).1 (by omega)), (load_acc (show acc46 g8.W b1 o1 b2 o2 g8 by assumption).i2 (range_ext (show acc46 g8.W b1 o1 b2 o2 g8 by assumption).r2 ((Below.refl _ _).alloc (Nat.le_refl _) _))), (run_alloc zero91 (by rw [show g8.h = g8.W.heap.size by assumption]; simp)), (store_acc (by rw [show g8.h = g8.W.heap.size by assumption]; simp) (show acc46 g8.W b1 o1 b2 o2 g8 by assumption).i2), (cutP46_ok (pair46_ok (by assumption) (by assumption) (by assumption))), (fun W445 => (fun h46 => ⟨(fun m47 => (eqb (show acc46 g8.W b1 o1 b2 o2 g8 by assumption).i1.addrL (show acc46 g8.W b1 o1 b2 o2 g8 by assumption).i2.addrL (row_range0 (show pair46 w W445 g8 by assumption).a1.addr (show acc46 g8.W b1 o1 b2 o2 g8 by assumption).i1.addrD) (row_range0 (show pair46 w W445 g8 by assumption).a2.addr (show acc46 g8.W b1 o1 b2 o2 g8 by assumption).i2.addrD) true (by simp_all))), (fun m49 => (load_one agg31 (show pair46 w W445 g8 by assumption).a1.nonce)), (fun m51 => (load_one agg31 (show pair46 w W445 g8 by assumption).a2.nonce)), (fun m53 => (neq_t (by assumption))), (fun m55 => (fin46_f heb (fun e => acc_ne (by assumption) (by assumption) e (fun e => by first | exact absurd (congrArg AccD.addr e) (by assumption) | exact absurd (congrArg AccD.nonce e) (by assumption) | exact absurd (congrArg AccD.bal e) (by assumption) | exact absurd (congrArg AccD.code e) (by assumption) | (have h1 := (show acc46 g8.W b1 o1 b2 o2 g8 by assumption).i1.slotsL; have h2 := (show acc46 g8.W b1 o1 b2 o2 g8 by assumption).i2.slotsL; have h3 := congrArg AccD.slots e; rw [h3] at h1; omega))) (bel4 (Below.refl _ _) (show pair46 w W445 g8 by assumption).below _)))⟩))⟩)), (fun h57 => (fun h58 => (fun h59 => ⟨(lss_t (by omega)), (index_slice (i := g8.k) Sagg.underlying53 info91 (s1 (by omega)).1 (by omega)), (load_acc (show acc46 g8.W b1 o1 b2 o2 g8 by assumption).i1 (show acc46 g8.W b1 o1 b2 o2 g8 by assumption).r1), (run_alloc zero91 (by assumption)), (store_acc (by assumption) (show acc46 g8.W b1 o1 b2 o2 g8 by assumption).i1), (index_slice (i := g8.k) Sagg.underlying53 info91 (s2 (by omega)).1 (by omega)), (load_acc (show acc46 g8.W b1 o1 b2 o2 g8 by assumption).i2 (range_ext (show acc46 g8.W b1 o1 b2 o2 g8 by assumption).r2 ((Below.refl _ _).alloc (Nat.le_refl _) _))), (run_alloc zero91 (by rw [show g8.h = g8.W.heap.size by assumption]; simp)), (store_acc (by rw [show g8.h = g8.W.heap.size by assumption]; simp) (show acc46 g8.W b1 o1 b2 o2 g8 by assumption).i2), (cutP46_ok (pair46_ok (by assumption) (by assumption) (by assumption))), (fun W470 => (fun h71 => ⟨(fun m72 => (eqb (show acc46 g8.W b1 o1 b2 o2 g8 by assumption).i1.addrL (show acc46 g8.W b1 o1 b2 o2 g8 by assumption).i2.addrL (row_range0 (show pair46 w W470 g8 by assumption).a1.addr (show acc46 g8.W b1 o1 b2 o2 g8 by assumption).i1.addrD) (row_range0 (show pair46 w W470 g8 by assumption).a2.addr (show acc46 g8.W b1 o1 b2 o2 g8 by assumption).i2.addrD) true (by simp_all))), (fun m74 => (load_one agg31 (show pair46 w W470 g8 by assumption).a1.nonce)), (fun m76 => (load_one agg31 (show pair46 w W470 g8 by assumption).a2.nonce)), (fun m78 => (neq_f (by assumption))), (fun m80 => (eqb (show acc46 g8.W b1 o1 b2 o2 g8 by assumption).i1.balL (show acc46 g8.W b1 o1 b2 o2 g8 by assumption).i2.balL (row_range0 (show pair46 w W470 g8 by assumption).a1.bal (show acc46 g8.W b1 o1 b2 o2 g8 by assumption).i1.balD) (row_range0 (show pair46 w W470 g8 by assumption).a2.bal (show acc46 g8.W b1 o1 b2 o2 g8 by assumption).i2.balD) false (by simp_all))), (fun m82 => (fin46_f heb (fun e => acc_ne (by assumption) (by assumption) e (fun e => by first | exact absurd (congrArg AccD.addr e) (by assumption) | exact absurd (congrArg AccD.nonce e) (by assumption) | exact absurd (congrArg AccD.bal e) (by assumption) | exact absurd (congrArg AccD.code e) (by assumption) | (have h1 := (show acc46 g8.W b1 o1 b2 o2 g8 by assumption).i1.slotsL; have h2 := (show acc46 g8.W b1 o1 b2 o2 g8 by assumption).i2.slotsL; have h3 := congrArg AccD.slots e; rw [h3] at h1; omega))) (bel4 (Below.refl _ _) (show pair46 w W470 g8 by assumption).below _)))⟩))⟩))), (fun h84 => (fun h85 => (fun h86 => (fun h87 => ⟨(lss_t (by omega)), (index_slice (i := g8.k) Sagg.underlying53 info91 (s1 (by omega)).1 (by omega)), (load_acc (show acc46 g8.W b1 o1 b2 o2 g8 by assumption).i1 (show acc46 g8.W b1 o1 b2 o2 g8 by assumption).r1), (run_alloc zero91 (by assumption)), (store_acc (by assumption) (show acc46 g8.W b1 o1 b2 o2 g8 by assumption).i1), (index_slice (i := g8.k) Sagg.underlying53 info91 (s2 (by omega)).1 (by omega)), (load_acc (show acc46 g8.W b1 o1 b2 o2 g8 by assumption).i2 (range_ext (show acc46 g8.W b1 o1 b2 o2 g8 by assumption).r2 ((Below.refl _ _).alloc (Nat.le_refl _) _))), (run_alloc zero91 (by rw [show g8.h = g8.W.heap.size by assumption]; simp)), (store_acc (by rw [show g8.h = g8.W.heap.size by assumption]; simp) (show acc46 g8.W b1 o1 b2 o2 g8 by assumption).i2), (cutP46_ok (pair46_ok (by assumption) (by assumption) (by assumption))), (fun W498 => (fun h99 => ⟨(fun m100 => (eqb (show acc46 g8.W b1 o1 b2 o2 g8 by assumption).i1.addrL (show acc46 g8.W b1 o1 b2 o2 g8 by assumption).i2.addrL (row_range0 (show pair46 w W498 g8 by assumption).a1.addr (show acc46 g8.W b1 o1 b2 o2 g8 by assumption).i1.addrD) (row_range0 (show pair46 w W498 g8 by assumption).a2.addr (show acc46 g8.W b1 o1 b2 o2 g8 by assumption).i2.addrD) true (by simp_all))), (fun m102 => (load_one agg31 (show pair46 w W498 g8 by assumption).a1.nonce)), (fun m104 => (load_one agg31 (show pair46 w W498 g8 by assumption).a2.nonce)), (fun m106 => (neq_f (by assumption))), (fun m108 => (eqb (show acc46 g8.W b1 o1 b2 o2 g8 by assumption).i1.balL (show acc46 g8.W b1 o1 b2 o2 g8 by assumption).i2.balL (row_range0 (show pair46 w W498 g8 by assumption).a1.bal (show acc46 g8.W b1 o1 b2 o2 g8 by assumption).i1.balD) (row_range0 (show pair46 w W498 g8 by assumption).a2.bal (show acc46 g8.W b1 o1 b2 o2 g8 by assumption).i2.balD) true (by simp_all))), (fun m110 => ⟨(load_one agg22 (show pair46 w W498 g8 by assumption).a1.code), (load_one agg22 (show pair46 w W498 g8 by assumption).a2.code), (call_still (eqsd (show acc46 g8.W b1 o1 b2 o2 g8 by assumption).i1.codeL (show acc46 g8.W b1 o1 b2 o2 g8 by assumption).i2.codeL (show pair46 w W498 g8 by assumption).i1.codeR (show pair46 w W498 g8 by assumption).i2.codeR false (by simp_all))), (fin46_f heb (fun e => acc_ne (by assumption) (by assumption) e (fun e => by first | exact absurd (congrArg AccD.addr e) (by assumption) | exact absurd (congrArg AccD.nonce e) (by assumption) | exact absurd (congrArg AccD.bal e) (by assumption) | exact absurd (congrArg AccD.code e) (by assumption) | (have h1 := (show acc46 g8.W b1 o1 b2 o2 g8 by assumption).i1.slotsL; have h2 := (show acc46 g8.W b1 o1 b2 o2 g8 by assumption).i2.slotsL; have h3 := congrArg AccD.slots e; rw [h3] at h1; omega))) (bel4 (Below.refl _ _) (show pair46 w W498 g8 by assumption).below _))⟩)⟩))⟩)))), (fun h115 => (fun h116 => (fun h117 => (fun h118 => (fun h119 => ⟨(lss_t (by omega)), (index_slice (i := g8.k) Sagg.underlying53 info91 (s1 (by omega)).1 (by omega)), (load_acc (show acc46 g8.W b1 o1 b2 o2 g8 by assumption).i1 (show acc46 g8.W b1 o1 b2 o2 g8 by assumption).r1), (run_alloc zero91 (by assumption)), (store_acc (by assumption) (show acc46 g8.W b1 o1 b2 o2 g8 by assumption).i1), (index_slice (i := g8.k) Sagg.underlying53 info91 (s2 (by omega)).1 (by omega)), (load_acc (show acc46 g8.W b1 o1 b2 o2 g8 by assumption).i2 (range_ext (show acc46 g8.W b1 o1 b2 o2 g8 by assumption).r2 ((Below.refl _ _).alloc (Nat.le_refl _) _))), (run_alloc zero91 (by rw [show g8.h = g8.W.heap.size by assumption]; simp)), (store_acc (by rw [show g8.h = g8.W.heap.size by assumption]; simp) (show acc46 g8.W b1 o1 b2 o2 g8 by assumption).i2), (cutP46_ok (pair46_ok (by assumption) (by assumption) (by assumption))), (fun W4130 => (fun h131 => ⟨(fun m132 => (eqb (show acc46 g8.W b1 o1 b2 o2 g8 by assumption).i1.addrL (show acc46 g8.W b1 o1 b2 o2 g8 by assumption).i2.addrL (row_range0 (show pair46 w W4130 g8 by assumption).a1.addr (show acc46 g8.W b1 o1 b2 o2 g8 by assumption).i1.addrD) (row_range0 (show pair46 w W4130 g8 by assumption).a2.addr (show acc46 g8.W b1 o1 b2 o2 g8 by assumption).i2.addrD) true (by simp_all))), (fun m134 => (load_one agg31 (show pair46 w W4130 g8 by assumption).a1.nonce)), (fun m136 => (load_one agg31 (show pair46 w W4130 g8 by assumption).a2.nonce)), (fun m138 => (neq_f (by assumption))), (fun m140 => (eqb (show acc46 g8.W b1 o1 b2 o2 g8 by assumption).i1.balL (show acc46 g8.W b1 o1 b2 o2 g8 by assumption).i2.balL (row_range0 (show pair46 w W4130 g8 by assumption).a1.bal (show acc46 g8.W b1 o1 b2 o2 g8 by assumption).i1.balD) (row_range0 (show pair46 w W4130 g8 by assumption).a2.bal (show acc46 g8.W b1 o1 b2 o2 g8 by assumption).i2.balD) true (by simp_all))), (fun m142 => ⟨(load_one agg22 (show pair46 w W4130 g8 by assumption).a1.code), (load_one agg22 (show pair46 w W4130 g8 by assumption).a2.code), (call_still (eqsd (show acc46 g8.W b1 o1 b2 o2 g8 by assumption).i1.codeL (show acc46 g8.W b1 o1 b2 o2 g8 by assumption).i2.codeL (show pair46 w W4130 g8 by assumption).i1.codeR (show pair46 w W4130 g8 by assumption).i2.codeR true (by simp_all))), (load_one agg89 (show pair46 w W4130 g8 by assumption).a1.slots), (load_one agg89 (show pair46 w W4130 g8 by assumption).a2.slots), (neq_t (by omega)), (fin46_f heb (fun e => acc_ne (by assumption) (by assumption) e (fun e => by first | exact absurd (congrArg AccD.addr e) (by assumption) | exact absurd (congrArg AccD.nonce e) (by assumption) | exact absurd (congrArg AccD.bal e) (by assumption) | exact absurd (congrArg AccD.code e) (by assumption) | (have h1 := (show acc46 g8.W b1 o1 b2 o2 g8 by assumption).i1.slotsL; have h2 := (show acc46 g8.W b1 o1 b2 o2 g8 by assumption).i2.slotsL; have h3 := congrArg AccD.slots e; rw [h3] at h1; omega))) (bel4 (Below.refl _ _) (show pair46 w W4130 g8 by assumption).below _))⟩)⟩))⟩))))), (fun h150 => (fun h151 => (fun h152 => (fun h153 => (fun h154 => ⟨(lss_t (by omega)), (index_slice (i := g8.k) Sagg.underlying53 info91 (s1 (by omega)).1 (by omega)), (load_acc (show acc46 g8.W b1 o1 b2 o2 g8 by assumption).i1 (show acc46 g8.W b1 o1 b2 o2 g8 by assumption).r1), (run_alloc zero91 (by assumption)), (store_acc (by assumption) (show acc46 g8.W b1 o1 b2 o2 g8 by assumption).i1), (index_slice (i := g8.k) Sagg.underlying53 info91 (s2 (by omega)).1 (by omega)), (load_acc (show acc46 g8.W b1 o1 b2 o2 g8 by assumption).i2 (range_ext (show acc46 g8.W b1 o1 b2 o2 g8 by assumption).r2 ((Below.refl _ _).alloc (Nat.le_refl _) _))), (run_alloc zero91 (by rw [show g8.h = g8.W.heap.size by assumption]; simp)), (store_acc (by rw [show g8.h = g8.W.heap.size by assumption]; simp) (show acc46 g8.W b1 o1 b2 o2 g8 by assumption).i2), (cutP46_ok (pair46_ok (by assumption) (by assumption) (by assumption))), (fun W4165 => (fun h166 => ⟨(fun m167 => (eqb (show acc46 g8.W b1 o1 b2 o2 g8 by assumption).i1.addrL (show acc46 g8.W b1 o1 b2 o2 g8 by assumption).i2.addrL (row_range0 (show pair46 w W4165 g8 by assumption).a1.addr (show acc46 g8.W b1 o1 b2 o2 g8 by assumption).i1.addrD) (row_range0 (show pair46 w W4165 g8 by assumption).a2.addr (show acc46 g8.W b1 o1 b2 o2 g8 by assumption).i2.addrD) true (by simp_all))), (fun m169 => (load_one agg31 (show pair46 w W4165 g8 by assumption).a1.nonce)), (fun m171 => (load_one agg31 (show pair46 w W4165 g8 by assumption).a2.nonce)), (fun m173 => (neq_f (by assumption))), (fun m175 => (eqb (show acc46 g8.W b1 o1 b2 o2 g8 by assumption).i1.balL (show acc46 g8.W b1 o1 b2 o2 g8 by assumption).i2.balL (row_range0 (show pair46 w W4165 g8 by assumption).a1.bal (show acc46 g8.W b1 o1 b2 o2 g8 by assumption).i1.balD) (row_range0 (show pair46 w W4165 g8 by assumption).a2.bal (show acc46 g8.W b1 o1 b2 o2 g8 by assumption).i2.balD) true (by simp_all))), (fun m177 => ⟨(load_one agg22 (show pair46 w W4165 g8 by assumption).a1.code), (load_one agg22 (show pair46 w W4165 g8 by assumption).a2.code), (call_still (eqsd (show acc46 g8.W b1 o1 b2 o2 g8 by assumption).i1.codeL (show acc46 g8.W b1 o1 b2 o2 g8 by assumption).i2.codeL (show pair46 w W4165 g8 by assumption).i1.codeR (show pair46 w W4165 g8 by assumption).i2.codeR true (by simp_all))), (load_one agg89 (show pair46 w W4165 g8 by assumption).a1.slots), (load_one agg89 (show pair46 w W4165 g8 by assumption).a2.slots), (neq_f (by omega)), (load_one agg89 (show pair46 w W4165 g8 by assumption).a1.slots), ⟨0, Nat.zero_le _, rfl, Below.refl _ _, by simp⟩, (loopB46_ok _ _), (fun j187 => (fun W188 => (fun h189 => (fun h190 => (fun h191 => ⟨(fun h192 => ⟨(lss_t (by omega)), (index_slice (i := j187) Sagg.underlying89 info108 ((show acc46 g8.W b1 o1 b2 o2 g8 by assumption).s1 (by omega)).1 (by omega)), (load_slot2 (by rfl) ((show pair46 w W188 g8 from later46 (by assumption) (by assumption)).s1 (by omega)).2 j187 (by have := (show acc46 g8.W b1 o1 b2 o2 g8 by assumption).i1.slotsL; omega)), (run_alloc zero108 rfl), (store_slot rfl (cut_length _ _ _ (by have := (show acc46 g8.W b1 o1 b2 o2 g8 by assumption).i1.slotsL; omega))), (load_one agg89 (pair_alloc (show pair46 w W188 g8 from later46 (by assumption) (by assumption)) _).a2.slots), (index_slice (i := j187) Sagg.underlying89 info108 ((show acc46 g8.W b1 o1 b2 o2 g8 by assumption).s2 (by omega)).1 (by omega)), (load_slot2 (by rfl) ((pair_alloc (show pair46 w W188 g8 from later46 (by assumption) (by assumption)) _).s2 (by omega)).2 j187 (by have := (show acc46 g8.W b1 o1 b2 o2 g8 by assumption).i2.slotsL; omega)), (run_alloc zero108 (by simp)), (store_slot (by simp) (cut_length _ _ _ (by have := (show acc46 g8.W b1 o1 b2 o2 g8 by assumption).i2.slotsL; omega))), (cutS46_ok (slot46_ok rfl)), (fun W5204 => (fun h205 => ⟨(fun m206 => (slot_key (show Slot46 _ W5204 _ _ _ by assumption) (cut_length _ _ _ (by have := (show acc46 g8.W b1 o1 b2 o2 g8 by assumption).i1.slotsL; omega)) (cut_length _ _ _ (by have := (show acc46 g8.W b1 o1 b2 o2 g8 by assumption).i2.slotsL; omega)) (dig_cut (show acc46 g8.W b1 o1 b2 o2 g8 by assumption).i1.slotsR.1 _ _) (dig_cut (show acc46 g8.W b1 o1 b2 o2 g8 by assumption).i2.slotsR.1 _ _) false (by simp_all))), (fun m208 => (fin46_f heb (fun e => acc_ne (by assumption) (by assumption) e (fun e => by have e9 := congrArg AccD.slots e; simp_all)) (bel4 (later46 (g := g8) (by assumption) (by assumption)).below (show Slot46 _ W5204 _ _ _ by assumption).below _)))⟩))⟩), (fun h210 => (fun h211 => ⟨(lss_t (by omega)), (index_slice (i := j187) Sagg.underlying89 info108 ((show acc46 g8.W b1 o1 b2 o2 g8 by assumption).s1 (by omega)).1 (by omega)), (load_slot2 (by rfl) ((show pair46 w W188 g8 from later46 (by assumption) (by assumption)).s1 (by omega)).2 j187 (by have := (show acc46 g8.W b1 o1 b2 o2 g8 by assumption).i1.slotsL; omega)), (run_alloc zero108 rfl), (store_slot rfl (cut_length _ _ _ (by have := (show acc46 g8.W b1 o1 b2 o2 g8 by assumption).i1.slotsL; omega))), (load_one agg89 (pair_alloc (show pair46 w W188 g8 from later46 (by assumption) (by assumption)) _).a2.slots), (index_slice (i := j187) Sagg.underlying89 info108 ((show acc46 g8.W b1 o1 b2 o2 g8 by assumption).s2 (by omega)).1 (by omega)), (load_slot2 (by rfl) ((pair_alloc (show pair46 w W188 g8 from later46 (by assumption) (by assumption)) _).s2 (by omega)).2 j187 (by have := (show acc46 g8.W b1 o1 b2 o2 g8 by assumption).i2.slotsL; omega)), (run_alloc zero108 (by simp)), (store_slot (by simp) (cut_length _ _ _ (by have := (show acc46 g8.W b1 o1 b2 o2 g8 by assumption).i2.slotsL; omega))), (cutS46_ok (slot46_ok rfl)), (fun W5223 => (fun h224 => ⟨(fun m225 => (slot_key (show Slot46 _ W5223 _ _ _ by assumption) (cut_length _ _ _ (by have := (show acc46 g8.W b1 o1 b2 o2 g8 by assumption).i1.slotsL; omega)) (cut_length _ _ _ (by have := (show acc46 g8.W b1 o1 b2 o2 g8 by assumption).i2.slotsL; omega)) (dig_cut (show acc46 g8.W b1 o1 b2 o2 g8 by assumption).i1.slotsR.1 _ _) (dig_cut (show acc46 g8.W b1 o1 b2 o2 g8 by assumption).i2.slotsR.1 _ _) true (by simp_all))), (fun m227 => (slot_val (show Slot46 _ W5223 _ _ _ by assumption) (cut_length _ _ _ (by have := (show acc46 g8.W b1 o1 b2 o2 g8 by assumption).i1.slotsL; omega)) (cut_length _ _ _ (by have := (show acc46 g8.W b1 o1 b2 o2 g8 by assumption).i2.slotsL; omega)) (dig_cut (show acc46 g8.W b1 o1 b2 o2 g8 by assumption).i1.slotsR.1 _ _) (dig_cut (show acc46 g8.W b1 o1 b2 o2 g8 by assumption).i2.slotsR.1 _ _) false (by simp_all))), (fun m229 => (fin46_f heb (fun e => acc_ne (by assumption) (by assumption) e (fun e => by have e9 := congrArg AccD.slots e; simp_all)) (bel4 (later46 (g := g8) (by assumption) (by assumption)).below (show Slot46 _ W5223 _ _ _ by assumption).below _)))⟩))⟩)), (fun h231 => (fun h232 => ⟨(lss_t (by omega)), (index_slice (i := j187) Sagg.underlying89 info108 ((show acc46 g8.W b1 o1 b2 o2 g8 by assumption).s1 (by omega)).1 (by omega)), (load_slot2 (by rfl) ((show pair46 w W188 g8 from later46 (by assumption) (by assumption)).s1 (by omega)).2 j187 (by have := (show acc46 g8.W b1 o1 b2 o2 g8 by assumption).i1.slotsL; omega)), (run_alloc zero108 rfl), (store_slot rfl (cut_length _ _ _ (by have := (show acc46 g8.W b1 o1 b2 o2 g8 by assumption).i1.slotsL; omega))), (load_one agg89 (pair_alloc (show pair46 w W188 g8 from later46 (by assumption) (by assumption)) _).a2.slots), (index_slice (i := j187) Sagg.underlying89 info108 ((show acc46 g8.W b1 o1 b2 o2 g8 by assumption).s2 (by omega)).1 (by omega)), (load_slot2 (by rfl) ((pair_alloc (show pair46 w W188 g8 from later46 (by assumption) (by assumption)) _).s2 (by omega)).2 j187 (by have := (show acc46 g8.W b1 o1 b2 o2 g8 by assumption).i2.slotsL; omega)), (run_alloc zero108 (by simp)), (store_slot (by simp) (cut_length _ _ _ (by have := (show acc46 g8.W b1 o1 b2 o2 g8 by assumption).i2.slotsL; omega))), (cutS46_ok (slot46_ok rfl)), (fun W5244 => (fun h245 => ⟨(fun m246 => (slot_key (show Slot46 _ W5244 _ _ _ by assumption) (cut_length _ _ _ (by have := (show acc46 g8.W b1 o1 b2 o2 g8 by assumption).i1.slotsL; omega)) (cut_length _ _ _ (by have := (show acc46 g8.W b1 o1 b2 o2 g8 by assumption).i2.slotsL; omega)) (dig_cut (show acc46 g8.W b1 o1 b2 o2 g8 by assumption).i1.slotsR.1 _ _) (dig_cut (show acc46 g8.W b1 o1 b2 o2 g8 by assumption).i2.slotsR.1 _ _) true (by simp_all))), (fun m248 => (slot_val (show Slot46 _ W5244 _ _ _ by assumption) (cut_length _ _ _ (by have := (show acc46 g8.W b1 o1 b2 o2 g8 by assumption).i1.slotsL; omega)) (cut_length _ _ _ (by have := (show acc46 g8.W b1 o1 b2 o2 g8 by assumption).i2.slotsL; omega)) (dig_cut (show acc46 g8.W b1 o1 b2 o2 g8 by assumption).i1.slotsR.1 _ _) (dig_cut (show acc46 g8.W b1 o1 b2 o2 g8 by assumption).i2.slotsR.1 _ _) true (by simp_all))), (fun m250 => ⟨(inc_i (by assumption) (show acc46 g8.W b1 o1 b2 o2 g8 by assumption).i1.slotsM), ⟨_, Nat.succ_le_of_lt (by assumption), rfl, bel4 (W := W4165.drewN m177) (show Below (W4165.drewN m177).heap.size (W4165.drewN m177) _ by assumption) (show Slot46 _ W5244 _ _ _ by assumption).below _, take_cut 64 (by assumption) (halves (by assumption) (by assumption))⟩, (by simp [intOf]; omega)⟩)⟩))⟩))⟩))))), (fun j254 => (fun W255 => (fun h256 => (fun h257 => (fun h258 => ⟨(lss_f (by omega)), (inc_i (by assumption) h63), ⟨_, Nat.succ_le_of_lt (by assumption), rfl, (show pair46 w W255 g8 from later46 (by assumption) (by assumption)).below, next_acc (by assumption) (by assumption) (by assumption) (acc_eq (by assumption) (by assumption) (by assumption) (by assumption) (slots_eq (by assumption) (show acc46 g8.W b1 o1 b2 o2 g8 by assumption).i1.slotsL (show acc46 g8.W b1 o1 b2 o2 g8 by assumption).i2.slotsL (by assumption) (by assumption)))⟩, (by simp [intOf]; omega)⟩)))))⟩)⟩))⟩)))))⟩)))))))), (fun g263 => (fun h264 => (fun h265 => (fun h266 => ⟨(lss_f (by omega)), (fin46_t heb (accs_eq l1 l2 (by omega) (by assumption) (by assumption)) (by assumption))⟩))))⟩)⟩
theorem worldsMeet_calls (a1 a2 : Option Addr) (n1 c1 n2 c2 : Nat) (L1 L2 : List AccD) (w : World) (l1 : L1.length = n1) (l2 : L2.length = n2) (h63 : n1 ≤ 9223372036854775807) (h1 : IsAccs w a1 L1) (h2 : IsAccs w a2 L2) (eb : Bool) (heb : eb = true ↔ L1 = L2) :
    Calls Sagg.prog 46 #[.slice a1 n1 c1, .slice a2 n2 c2] w fun e w' => e = .returned (.bool eb) ∧ Below w.heap.size w w' := by
  obtain ⟨b1, o1, s1⟩ := h1.block l1
  obtain ⟨b2, o2, s2⟩ := h2.block l2
  exact worldsMeet_core a1 a2 b1 o1 b2 o2 n1 c1 n2 c2 L1 L2 w l1 l2 h63 s1 s2 eb heb
end Go.Proofs.Ygcsag
