/-
  ROWS OF BITS (for 'kmodel'), memory as a list of rows, loops that count.
-/
import Derived.Test.YgcsagGreatNX
import Derived.Test.YgcsagGreatCT
namespace Go.Proofs.YgcsagGreat
open Go.RowKit
set_option linter.unusedVariables false
set_option linter.unusedSimpArgs false

/-! ### Bits of a number -/
def tKN (N i : Nat) : Bool := Nat.beq (Nat.land (Nat.shiftRight N i) 1) 1
theorem tKN_eq (N i : Nat) : tKN N i = N.testBit i := by
  unfold tKN
  have e : Nat.land (Nat.shiftRight N i) 1 = (N >>> i) &&& 1 := rfl
  rw [e, Nat.and_one_is_mod, Nat.testBit_eq_decide_div_mod_eq, Nat.shiftRight_eq_div_pow]
  rcases Nat.mod_two_eq_zero_or_one (N / 2 ^ i) with h | h <;> rw [h] <;> rfl
def xKN (a b : Bool) : Bool := match a with
  | true => match b with
    | true => false
    | false => true
  | false => b
def setKN (N i : Nat) (b : Bool) : Nat := match xKN (tKN N i) b with
  | true => Nat.xor N (Nat.shiftLeft 1 i)
  | false => N
theorem one_shift (i j : Nat) : (Nat.shiftLeft 1 i).testBit j = decide (i = j) := by
  show (1 <<< i).testBit j = _
  rw [Nat.shiftLeft_eq, Nat.one_mul, Nat.testBit_two_pow]
theorem setKN_bit (N i j : Nat) (b : Bool) : tKN (setKN N i b) j = if j = i then b else tKN N j := by
  have hx : (Nat.xor N (Nat.shiftLeft 1 i)).testBit j = ((N.testBit j) ^^ decide (i = j)) := by
    show (N ^^^ Nat.shiftLeft 1 i).testBit j = _
    rw [Nat.testBit_xor, one_shift]
  unfold setKN
  by_cases h : j = i
  · subst h
    rw [if_pos rfl]
    cases hb : tKN N j <;> cases b <;> simp only [xKN, hb] <;> rw [tKN_eq, hx, ← tKN_eq, hb] <;> simp
  · rw [if_neg h]
    have h' : i ≠ j := fun e => h e.symm
    cases hb : tKN N i <;> cases b <;> simp only [xKN] <;> rw [tKN_eq, hx, ← tKN_eq] <;> simp [h']
def iterKN (f : Nat → Nat → Nat) (c : Nat) : Nat → Nat
  | 0 => c
  | n + 1 => f n (iterKN f c n)
theorem iter_zero {f : Nat → Nat → Nat} {c : Nat} : iterKN f c 0 = c := rfl
theorem iter_succ {f : Nat → Nat → Nat} {c n : Nat} : iterKN f c (n + 1) = f n (iterKN f c n) := rfl
theorem put_bit (f : Nat → Bool) (N o i : Nat) : ∀ k, tKN (iterKN (fun j c => setKN c (o + j) (f j)) N k) i = if o ≤ i ∧ i < o + k then f (i - o) else tKN N i
  | 0 => by
    rw [if_neg (by omega)]
    rfl
  | k + 1 => by
    show tKN (setKN (iterKN (fun j c => setKN c (o + j) (f j)) N k) (o + k) (f k)) i = _
    rw [setKN_bit, put_bit f N o i k]
    by_cases h : i = o + k
    · rw [if_pos h, if_pos (by omega)]
      congr 1
      omega
    · rw [if_neg h]
      by_cases h2 : o ≤ i ∧ i < o + k
      · rw [if_pos h2, if_pos (by omega)]
      · rw [if_neg h2, if_neg (by omega)]

/-! ### Rows of bits -/
def rowKN (n N : Nat) : Array Value := ((List.range n).map fun i => Value.bool (tKN N i)).toArray
theorem rowKN_size (n N : Nat) : (rowKN n N).size = n := by simp [rowKN]
theorem rowKN_get {n N i : Nat} (h : i < n) : (rowKN n N)[i]? = some (.bool (tKN N i)) := by simp [rowKN, h]
theorem rowKN_none {n N i : Nat} (h : n ≤ i) : (rowKN n N)[i]? = none := Array.getElem?_eq_none (by rw [rowKN_size]; exact h)
theorem row_put {n N o k : Nat} {f : Nat → Bool} (h : o + k ≤ n) : ((rowKN n N).toList.take o ++ (List.range k).map (fun j => Value.bool (f j)) ++ (rowKN n N).toList.drop (o + k)).toArray = rowKN n (iterKN (fun j c => setKN c (o + j) (f j)) N k) := by
  apply Array.ext_getElem?
  intro i
  rw [List.getElem?_toArray]
  have hl : (rowKN n N).toList.length = n := by rw [Array.length_toList, rowKN_size]
  by_cases hi : i < n
  · rw [rowKN_get hi, put_bit]
    by_cases h1 : i < o
    · rw [if_neg (by omega), List.append_assoc, List.getElem?_append_left (by rw [List.length_take, hl]; omega), List.getElem?_take_of_lt h1, Array.getElem?_toList, rowKN_get hi]
    · by_cases h2 : i < o + k
      · rw [if_pos (by omega), List.append_assoc, List.getElem?_append_right (by rw [List.length_take, hl]; omega), List.length_take, hl, Nat.min_eq_left (by omega),
          List.getElem?_append_left (by simp; omega), List.getElem?_map, List.getElem?_range (by omega)]
        rfl
      · rw [if_neg (by omega), List.getElem?_append_right (by rw [List.length_append, List.length_take, hl]; simp; omega), List.length_append, List.length_take, hl, Nat.min_eq_left (by omega), List.length_map, List.length_range,
          List.getElem?_drop, Array.getElem?_toList, show o + k + (i - (o + k)) = i by omega, rowKN_get hi]
  · rw [rowKN_none (by omega), List.getElem?_eq_none]
    rw [List.length_append, List.length_append, List.length_take, List.length_drop, hl]
    simp
    omega

/-! ### Memory as a list of rows -/
structure KS (w0 : World) (D : List Nat) (L : List (Nat × Array Value × TypeId)) (W : World) : Prop where
  os : W.os = w0.os
  tape : W.tape = w0.tape
  output : W.output = w0.output
  size : w0.heap.size ≤ W.heap.size
  block : ∀ k, k < w0.heap.size → k ∉ D → W.heap[k]? = w0.heap[k]?
  rows : ∀ p ∈ L, W.heap[p.1]? = some (.cells p.2.1 p.2.2 (0, 0))
section
variable {w0 W W' : World} {D D' : List Nat} {L L' L2 : List (Nat × Array Value × TypeId)} {p q s : Nat × Array Value × TypeId} {g : Nat} {r r' : Array Value} {t : TypeId}
theorem KS.refl (h : ∀ p ∈ L, w0.heap[p.1]? = some (.cells p.2.1 p.2.2 (0, 0))) : KS w0 D L w0 := ⟨rfl, rfl, rfl, Nat.le_refl _, fun _ _ _ => rfl, h⟩
theorem KS.nil : KS w0 D [] w0 := .refl (fun p hp => by cases hp)
theorem KS.r0 (h : KS w0 D (p :: L) W) : W.heap[p.1]? = some (.cells p.2.1 p.2.2 (0, 0)) := h.rows _ List.mem_cons_self
theorem KS.r1 (h : KS w0 D (q :: p :: L) W) : W.heap[p.1]? = some (.cells p.2.1 p.2.2 (0, 0)) := h.rows _ (List.mem_cons_of_mem _ List.mem_cons_self)
theorem KS.r2 (h : KS w0 D (s :: q :: p :: L) W) : W.heap[p.1]? = some (.cells p.2.1 p.2.2 (0, 0)) := h.rows _ (List.mem_cons_of_mem _ (List.mem_cons_of_mem _ List.mem_cons_self))
theorem KS.drew (h : KS w0 D L W) (m : Nat) : KS w0 D L (W.drewN m) := ⟨h.os, h.tape, h.output, h.size, h.block, h.rows⟩
theorem KS.sub (h : KS w0 D L W) (hs : ∀ p ∈ L', p ∈ L) : KS w0 D L' W := ⟨h.os, h.tape, h.output, h.size, h.block, fun p hp => h.rows p (hs p hp)⟩
theorem KS.tail (h : KS w0 D (p :: L) W) : KS w0 D L W := h.sub fun _ hp => List.mem_cons_of_mem _ hp
theorem KS.swap (h : KS w0 D (p :: q :: L) W) : KS w0 D (q :: p :: L) W := h.sub fun x hx => by
  rcases List.mem_cons.1 hx with rfl | hx
  · exact List.mem_cons_of_mem _ List.mem_cons_self
  · rcases List.mem_cons.1 hx with rfl | hx
    · exact List.mem_cons_self
    · exact List.mem_cons_of_mem _ (List.mem_cons_of_mem _ hx)
theorem KS.lt (h : KS w0 D L W) (hp : p ∈ L) : p.1 < W.heap.size := (Array.getElem?_eq_some_iff.1 (h.rows p hp)).1
theorem KS.alloc (h : KS w0 D L W) (r : Array Value) (t : TypeId) : KS w0 D ((W.heap.size, r, t) :: L) (W.alloc (.cells r t)) := by
  refine ⟨h.os, h.tape, h.output, by rw [World.size_alloc]; have := h.size; omega, fun k hk hd => ?_, fun p hp => ?_⟩
  · rw [← h.block k hk hd]
    show (W.heap.push _)[k]? = _
    rw [Array.getElem?_push_lt (by have := h.size; omega), Array.getElem?_eq_getElem]
  · rcases List.mem_cons.1 hp with rfl | hp
    · exact alloc_row
    · have := h.lt hp
      show (W.heap.push _)[p.1]? = _
      rw [Array.getElem?_push_lt this, ← Array.getElem?_eq_getElem]
      exact h.rows p hp
theorem KS.set (h : KS w0 D ((g, r, t) :: L) W) (hg : g ∈ D ∨ w0.heap.size ≤ g) (hne : ∀ p ∈ L, p.1 ≠ g) (r' : Array Value) : KS w0 D ((g, r', t) :: L) (W.setRow g r') := by
  refine ⟨h.os, h.tape, h.output, by rw [setRow_size]; exact h.size, fun k hk hd => ?_, fun p hp => ?_⟩
  · rw [setRow_other _ _ _ _ (fun e => by subst e; rcases hg with hg | hg; exact hd hg; omega)]
    exact h.block k hk hd
  · rcases List.mem_cons.1 hp with rfl | hp
    · exact setRow_heap _ _ _ _ _ _ h.r0
    · rw [setRow_other _ _ _ _ (hne p hp)]
      exact h.rows p (List.mem_cons_of_mem _ hp)
/-- Behind a call. -/
theorem KS.comp (h : KS w0 D L W) (k : KS W D' L' W') (hD : ∀ b ∈ D', b ∈ D ∨ w0.heap.size ≤ b) (hL : ∀ p ∈ L2, p ∈ L' ∨ (p ∈ L ∧ p.1 ∉ D')) : KS w0 D L2 W' := by
  refine ⟨k.os.trans h.os, k.tape.trans h.tape, k.output.trans h.output, Nat.le_trans h.size k.size, fun b hb hd => ?_, fun p hp => ?_⟩
  · rw [k.block b (by have := h.size; omega) (fun hb' => by rcases hD b hb' with h1 | h1; exact hd h1; omega)]
    exact h.block b hb hd
  · rcases hL p hp with h1 | ⟨h1, h2⟩
    · exact k.rows p h1
    · rw [k.block p.1 (h.lt h1) h2]
      exact h.rows p h1
theorem KS.rot3 (h : KS w0 D (p :: q :: s :: L) W) : KS w0 D (q :: s :: p :: L) W := h.sub fun x hx => by
  simp only [List.mem_cons] at hx ⊢
  rcases hx with h | h | h | h
  · exact .inr (.inl h)
  · exact .inr (.inr (.inl h))
  · exact .inl h
  · exact .inr (.inr (.inr h))
theorem KS.rot3' (h : KS w0 D (q :: s :: p :: L) W) : KS w0 D (p :: q :: s :: L) W := h.sub fun x hx => by
  simp only [List.mem_cons] at hx ⊢
  rcases hx with h | h | h | h
  · exact .inr (.inr (.inl h))
  · exact .inl h
  · exact .inr (.inl h)
  · exact .inr (.inr (.inr h))
theorem KS.one (h : KS w0 D (p :: L) W) : KS w0 D [p] W := h.sub fun x hx => by
  rcases List.mem_cons.1 hx with rfl | hx
  · exact List.mem_cons_self
  · cases hx
theorem ne_nil {g : Nat} : ∀ p ∈ ([] : List (Nat × Array Value × TypeId)), p.1 ≠ g := fun p hp => by cases hp
theorem ne_cons {g : Nat} (h : p.1 ≠ g) (h' : ∀ p ∈ L, p.1 ≠ g) : ∀ q ∈ p :: L, q.1 ≠ g := fun q hq => by
  rcases List.mem_cons.1 hq with rfl | hq
  · exact h
  · exact h' q hq
theorem KS.below (h : KS w0 [] L W) : Below w0.heap.size w0 W := ⟨h.os, h.tape, h.output, h.size, fun k hk => h.block k hk (by simp)⟩
end

/-! ### Loads and stores -/
section
variable {w : World} {g n N i : Nat} {tt : TypeId}
theorem cell_t (hg : w.heap[g]? = some (.cells (rowKN n N) tt (0, 0))) (hi : i < n) : w.cell? ⟨g, i, none⟩ = some (.bool (tKN N i)) := by
  unfold World.cell?
  rw [hg]
  simp [rowKN_get hi]
theorem agg4q (w : World) : (isAgg 4).run Sagg.prog w = .ok false w := by kernel_rfl
theorem size4q (w : World) : (sizeOf 4).run Sagg.prog w = .ok 1 w := by kernel_rfl
theorem load_t (hg : w.heap[g]? = some (.cells (rowKN n N) tt (0, 0))) (hi : i < n) : (loadVar 4 ⟨g, i, none⟩).run Sagg.prog w = .ok (.bool (tKN N i)) w := load_one agg4q (cell_t hg hi)
theorem store_row {t : TypeId} {k o : Nat} {v : Value} {f : Nat → Bool} (hs : (sizeOf t).run Sagg.prog w = .ok k w) (hv : v.cells.toList = (List.range k).map fun j => Value.bool (f j)) (hg : w.heap[g]? = some (.cells (rowKN n N) tt (0, 0))) (hi : o + k ≤ n) :
    (do storeVar t ⟨g, o, none⟩ v; pure undef : Sem Value).run Sagg.prog w = .ok undef (w.setRow g (rowKN n (iterKN (fun j c => setKN c (o + j) (f j)) N k))) := by
  have hk : v.cells.size = k := by rw [← Array.length_toList, hv]; simp
  have h1 := run_storeCells_at (P := Sagg.prog) g o tt v.cells.toList 0 (rowKN n N) w hg (by rw [rowKN_size, Array.length_toList, hk]; omega) (by
    rw [hv]
    intro x hx
    obtain ⟨j, _, rfl⟩ := List.mem_map.1 hx
    rfl)
  rw [Nat.add_zero, hv, List.length_map, List.length_range, row_put hi] at h1
  have h2 : (storeVar t ⟨g, o, none⟩ v).run Sagg.prog w = .ok () (w.setRow g (rowKN n (iterKN (fun j c => setKN c (o + j) (f j)) N k))) := by
    simp only [storeVar, Sem.run_bind, hs, Result.andThen_ok, hk]
    rw [hv]
    simpa using h1
  simp [h2]
theorem store_t {b : Bool} (hg : w.heap[g]? = some (.cells (rowKN n N) tt (0, 0))) (hi : i < n) :
    (do storeVar 4 ⟨g, i, none⟩ (.bool b); pure undef : Sem Value).run Sagg.prog w = .ok undef (w.setRow g (rowKN n (setKN N i b))) :=
  store_row (t := 4) (k := 1) (f := fun _ => b) (size4q w) rfl hg (by omega)
theorem load_row {t : TypeId} {k o M : Nat} (ha : (isAgg t).run Sagg.prog w = .ok true w) (hs : (sizeOf t).run Sagg.prog w = .ok k w) (hg : w.heap[g]? = some (.cells (rowKN n N) tt (0, 0))) (hi : o + k ≤ n) (hM : ∀ j, j < k → tKN M j = tKN N (o + j)) :
    (loadVar t ⟨g, o, none⟩).run Sagg.prog w = .ok (.agg (rowKN k M)) w := by
  have h1 := run_loadCells (P := Sagg.prog) w ⟨g, o, none⟩ k (fun j => .bool (tKN M j)) (fun j hj => by
    have e : (Addr.add ⟨g, o, none⟩ j) = ⟨g, o + j, none⟩ := by
      unfold Addr.add
      split
      · simp_all
      · rfl
    rw [e, hM j hj]
    exact cell_t hg (by omega))
  simp only [loadVar, Sem.run_bind, ha, Result.andThen_ok, if_true, hs, h1, Sem.run_pure]
  rfl
theorem shr_bit (N o j : Nat) : tKN (Nat.shiftRight N o) j = tKN N (o + j) := by
  rw [tKN_eq, tKN_eq]
  exact Nat.testBit_shiftRight N
end
section
variable {P : Program} {t : TypeId} {w : World}
theorem index_k {e : TypeId} {len s g o i : Nat} (ht : P.underlying t = some (.array len e)) (hs : (P.info? e).map (·.size) = some s) (hi : i < len) :
    (Instr.indexAt t (.pointer (some ⟨g, o, none⟩)) (.int .i64 i)).run P w = .ok (.pointer (some ⟨g, o + i * s, none⟩)) w := by
  have h1 : (0 : Int) ≤ (i : Int) ∧ (i : Int) < (len : Int) := by omega
  simp [Instr.indexAt, asIntOf, run_underlying ht, h1, size_info hs, Addr.add, Instr.sureAddr]
  rw [if_pos hi]
  by_cases hz : i * s = 0
  · simp [hz]
  · simp [hz]
theorem neq_k {a b : Bool} : (binOp .neq 4 (.bool a) (.bool b)).run Sagg.prog w = .ok (.bool (xKN a b)) w := by
  cases a <;> cases b <;> kernel_rfl
theorem add_k {a b : Nat} (hc : a + b ≤ 9223372036854775807) : (binOp .add t (.int .i64 (a : Int)) (.int .i64 (b : Int))).run P w = .ok (.int .i64 ((a + b : Nat) : Int)) w := add_i (by rw [wrap64 (by omega) (by omega)]; omega)
theorem sub_k {a b : Nat} (hb : b ≤ a) (hc : a ≤ 9223372036854775807) : (binOp .sub t (.int .i64 (a : Int)) (.int .i64 (b : Int))).run P w = .ok (.int .i64 ((a - b : Nat) : Int)) w := sub_i (by rw [wrap64 (by omega) (by omega)]; omega)
theorem mul_k {a b : Nat} (hc : a * b ≤ 9223372036854775807) : (binOp .mul t (.int .i64 (a : Int)) (.int .i64 (b : Int))).run P w = .ok (.int .i64 ((a * b : Nat) : Int)) w := mul_i (by rw [wrap64 (by omega) (by omega)]; omega)
theorem rem_k {k : IntKind} {a b : Nat} (hb : 0 < b) : (binOp .rem t (.int k (a : Int)) (.int k (b : Int))).run P w = .ok (.int k ((a % b : Nat) : Int)) w := by
  have e : ((a : Int).tmod (b : Int)) = ((a % b : Nat) : Int) := (Int.ofNat_tmod a b).symm
  have hb1 : b ≠ 0 := by omega
  simp [binOp, Op.intArith, Op.intDiv, hb1, e]
theorem quo_k {a b : Nat} (hb : 0 < b) (ha : a ≤ 9223372036854775807) : (binOp .quo t (.int .i64 (a : Int)) (.int .i64 (b : Int))).run P w = .ok (.int .i64 ((a / b : Nat) : Int)) w := by
  have e : ((a : Int).tdiv (b : Int)) = ((a / b : Nat) : Int) := (Int.ofNat_tdiv a b).symm
  have hb1 : b ≠ 0 := by omega
  have h2 : a / b ≤ a := Nat.div_le_self a b
  generalize a / b = q at *
  have hw : IntKind.i64.wrap (q : Int) = (q : Int) := wrap64 (by omega) (by omega)
  simp only [binOp, Op.intArith, Op.intDiv, e, hw]
  simp [hb1]
end

set_option maxRecDepth 100000 in
theorem alloc239 {w : World} : (Instr.alloc 239 true (.tuple #[])).run Sagg.prog w = .ok (.pointer (some ⟨w.heap.size, 0, none⟩)) (w.alloc (.cells (rowKN 320 0) 239)) := by kernel_rfl
set_option maxRecDepth 100000 in
theorem alloc238 {w : World} : (Instr.alloc 238 true (.tuple #[])).run Sagg.prog w = .ok (.pointer (some ⟨w.heap.size, 0, none⟩)) (w.alloc (.cells (rowKN 64 0) 238)) := by kernel_rfl
set_option maxRecDepth 100000 in
theorem alloc241 {w : World} : (Instr.alloc 241 true (.tuple #[])).run Sagg.prog w = .ok (.pointer (some ⟨w.heap.size, 0, none⟩)) (w.alloc (.cells (rowKN 1600 0) 241)) := by kernel_rfl

/-! ### A loop that counts up -/
def intOfQ : Value → Int
  | .int _ n => n
  | _ => 0
def cntF {Γ : Type} (slot bound : Nat) (k : IntKind) (f : Γ → Nat → Nat) (I : Γ → Nat → World → Prop) (up : Γ → Nat → World → Γ) (fin : Γ → World → Γ) (mu : Nat → Nat) : LoopTip Γ where
  slots := [slot]
  inv := fun γ _ us W => ∃ x : Nat, x ≤ bound ∧ us = [.int k ((f γ x : Nat) : Int)] ∧ I γ x W
  T := fun γ _ C => (∀ (x : Nat) (W : World), x < bound → I γ x W → C (up γ x W) [.int k ((f γ x : Nat) : Int)] W) ∧ (∀ W, I γ bound W → C (fin γ W) [.int k ((f γ bound : Nat) : Int)] W)
  mu := fun _ us _ => mu (intOfQ (us.getLastD undef)).toNat
theorem cntF_ok {Γ : Type} {slot bound : Nat} {k : IntKind} {f : Γ → Nat → Nat} {I : Γ → Nat → World → Prop} {up : Γ → Nat → World → Γ} {fin : Γ → World → Γ} {mu : Nat → Nat} {γ : Γ} {w : World} : LoopOK (cntF slot bound k f I up fin mu) γ w := by
  rintro C ⟨h1, h2⟩ us w' hl ⟨x, hx, rfl, hi⟩
  rcases Nat.lt_or_ge x bound with h | h
  · exact ⟨_, h1 x w' h hi⟩
  · obtain rfl : x = bound := by omega
    exact ⟨_, h2 w' hi⟩
/-- What tells the ways apart. -/
structure GQ where
  x : Nat := 0
  y : Nat := 0
  z : Nat := 0
  q : Bool := false
  p : Bool := false
  gd : Nat := 0
  ge : Nat := 0
  gf : Nat := 0
end Go.Proofs.YgcsagGreat
