/-
  'EnvOps': words and laws that its runs share; the row of hashes is copied and not asked for again.
-/
import Derived.Test.YgcsagGreatHch
namespace Go.Proofs.EX
open Go.RowKit Go.Proofs.YgcsagGreat
set_option linter.unusedVariables false
set_option linter.unusedSimpArgs false

/-! ### wordsOf -/
theorem make_words {n : Nat} {w : World} (h : n ≤ 4) : (Instr.makeSlice 66 (.int .i64 (n : Int)) (.int .i64 (n : Int))).run Sagg.prog w = .ok (.slice (some ⟨w.heap.size, 0, none⟩) n n) (w.alloc (.cells (rowOf (zeros (32 * n))) 29)) := by
  obtain rfl | rfl | rfl | rfl | rfl : n = 0 ∨ n = 1 ∨ n = 2 ∨ n = 3 ∨ n = 4 := by omega
  all_goals kernel_rfl
theorem size29 (w : World) : (sizeOf 29).run Sagg.prog w = .ok 32 w := by kernel_rfl
theorem under66 : Sagg.prog.underlying 66 = some (.slice 29) := by kernel_rfl
theorem copy_words {g n c sc : Nat} {p : Addr} {zs cur : List Int} {w : World} (hp : zs ≠ [] → p.spot = none) (hg : w.heap[g]? = some (.cells (rowOf cur) 29 (0, 0))) (hc : cur.length = 32 * n) (hl : zs.length = 32 * n) (hr : ∀ j, j < zs.length → w.cell? ⟨p.block, p.off + j, none⟩ = some (.int .u8 (zs.getD j 0))) :
    (do match ← builtin .copy #[66, 66] 3 #[false, false] #[.slice (some ⟨g, 0, none⟩) n c, .slice (some p) n sc] with
        | .value v => pure v
        | _ => stuck "no value" : Sem Value).run Sagg.prog w = .ok (.int .i64 (n : Int)) (w.setRow g (rowOf zs)) := by
  have hld := run_firstCells_some (P := Sagg.prog) w 32 n p n sc (bcells zs) (by rw [bcells_length, hl]; omega) (fun j v hv => by
    have hj : j < zs.length := by have := (List.getElem?_eq_some_iff.1 hv).1; rwa [bcells_length] at this
    rw [bcells_get _ _ hj] at hv
    cases hv
    have hp := hp (fun e => by rw [e] at hj; cases hj)
    have : p = ⟨p.block, p.off, none⟩ := by cases p; cases hp; rfl
    rw [this, WideShapes.add_plain]
    exact hr j hj)
  have hst := run_storeCells_at Sagg.prog g 0 29 (bcells zs) 0 (rowOf cur) w hg (by rw [bcells_length, rowOf_size]; omega) (fun v hv => by
    obtain ⟨k, _, rfl⟩ := List.mem_map.1 hv
    rfl)
  have key : (Builtin.copy_ #[66, 66] 3 #[.slice (some ⟨g, 0, none⟩) n c, .slice (some p) n sc]).run Sagg.prog w = .ok (.int .i64 (n : Int)) (w.setRow g (rowOf zs)) := by
    have e : ((rowOf cur).toList.take (0 + 0) ++ bcells zs ++ (rowOf cur).toList.drop (0 + 0 + (bcells zs).length)).toArray = rowOf zs := by
      rw [List.drop_eq_nil_of_le (by rw [bcells_length]; have := rowOf_size cur; simp at this ⊢; omega)]
      simp [rowOf, bcells]
    rw [e] at hst
    simp [Builtin.copy_, run_underlying under66, Builtin.lenOf, size29, hld, hst, goInt]
  have hb : (builtin .copy #[66, 66] 3 #[false, false] #[.slice (some ⟨g, 0, none⟩) n c, .slice (some p) n sc]) = (do pure (.value (← Builtin.copy_ #[66, 66] 3 #[.slice (some ⟨g, 0, none⟩) n c, .slice (some p) n sc]))) := rfl
  simp [hb, key]
def tips61 (n : Nat) (zs : List Int) (w0 : World) : Tips G0 where
  ops := [(8, { val := some fun _ => .slice (some ⟨w0.heap.size, 0, none⟩) n n, wld := some fun _ w => w.alloc (.cells (rowOf (zeros (32 * n))) 29) }), (11, { val := some fun _ => .int .i64 (n : Int), wld := some fun _ w => w.setRow w0.heap.size (rowOf zs) })]
def post61 (w : World) : Ending → World → Prop := fun e w' => ∃ a l c, e = .returned (.slice a l c) ∧ Below w.heap.size w w'
set_option maxRecDepth 100000 in
set_option maxHeartbeats 8000000 in
theorem wordsNil (n c : Nat) (w : World) : Calls Sagg.prog 61 #[.slice none n c] w (post61 w) := by
  refine CX_calls (tips61 n [] w) {} (by kernel_rfl) Sagg.func61 rfl _ rfl (by kernel_rfl) ?_
  refine of_eq (p := (post61 w) (Ending.returned (Value.slice none 0 0)) w) (by kernel_rfl) ?_
  exact ⟨_, _, _, rfl, Below.refl _ _⟩
set_option maxRecDepth 100000 in
set_option maxHeartbeats 8000000 in
theorem wordsSome (p : Addr) (n c : Nat) (zs : List Int) (w : World) (hp : zs ≠ [] → p.spot = none) (hn : n ≤ 4) (hl : zs.length = 32 * n) (hr : ∀ j, j < zs.length → w.cell? ⟨p.block, p.off + j, none⟩ = some (.int .u8 (zs.getD j 0))) : Calls Sagg.prog 61 #[.slice (some p) n c] w (post61 w) := by
  refine CX_calls (tips61 n zs w) {} (by kernel_rfl) Sagg.func61 rfl _ rfl (by kernel_rfl) ?_
  refine of_eq (p := Sem.run Sagg.prog (Instr.makeSlice 66 (Value.int IntKind.i64 ↑n) (Value.int IntKind.i64 ↑n)) w = Result.ok (Value.slice (some { block := w.heap.size, off := 0 }) n n) (w.alloc (Obj.cells (rowOf (zeros (32 * n))) 29)) ∧
  Sem.run Sagg.prog
        (do
          let __do_lift ← builtin Builtin.copy { toList := [66, 66] } 3 { toList := [false, false] } { toList := [(Value.slice (some { block := w.heap.size, off := 0 }) n n), (Value.slice (some p) n c)] }
          match __do_lift with
            | Next.value v => pure v
            | x => stuck "no value")
        (w.alloc (Obj.cells (rowOf (zeros (32 * n))) 29)) =
      Result.ok (Value.int IntKind.i64 ↑n) ((w.alloc (Obj.cells (rowOf (zeros (32 * n))) 29)).setRow w.heap.size (rowOf zs)) ∧
    (post61 w) (Ending.returned (Value.slice (some { block := w.heap.size, off := 0 }) n n)) ((w.alloc (Obj.cells (rowOf (zeros (32 * n))) 29)).setRow w.heap.size (rowOf zs))) (by kernel_rfl) ?_
  have hb : Below w.heap.size w (w.alloc (Obj.cells (rowOf (zeros (32 * n))) 29)) := (Below.refl _ _).alloc (Nat.le_refl _) _
  refine ⟨make_words hn, copy_words hp alloc_row (zeros_length _) hl (fun j hj => ?_), ⟨_, _, _, rfl, kept_row hb (Nat.le_refl _) _⟩⟩
  exact kept_cell hb (hr j hj)

/-- A row of words, as it is laid among the facts. -/
def WordsFact (a : Option Addr) (l : Nat) (a' : Option Addr) (cs : Array Value) : Prop := a' = a ∧ ∃ zs : List Int, cs = (bcells zs).toArray ∧ zs.length = 32 * l ∧ l ≤ 4 ∧ ∀ p, a = some p → zs ≠ [] → p.spot = none
def wordsX : Spec := fun Z args Q s H => match args.toList with
  | [.slice a l c] => match H with
    | j :: H' => match nth s.N j with
      | some p => match p.1 with
        | .tuple vs => match vs.toList with
          | [.pointer a', .agg cs] => WordsFact a l a' cs ∧ ∀ (a2 : Option Addr) (l2 c2 : Nat), Q (.slice a2 l2 c2) s H'
          | _ => False
        | _ => False
      | none => False
    | [] => False
  | _ => False
theorem words_ok : SpecOK 61 wordsX := by
  intro S w0 hS Z G args Q s H w h hi
  unfold wordsX at h
  split at h
  · rename_i a l c hargs
    rw [arr_eq hargs]
    split at h
    · rename_i j H'
      split at h
      · rename_i p hp
        split at h
        · rename_i vs hvs
          split at h
          · rename_i a' cs hl
            obtain ⟨⟨rfl, zs, rfl, hz, hn, hspot⟩, hq⟩ := h
            rw [nth_eq] at hp
            have hmem : p ∈ (s.z Z G).N := List.mem_of_getElem? hp
            have hnow := hi.now hmem
            rw [hvs] at hnow
            have fin : Calls Sagg.prog 61 #[.slice a' l c] w (post61 w) := by
              cases a' with
              | none => exact wordsNil l c w
              | some q =>
                refine wordsSome q l c zs w (hspot q rfl) hn hz (fun j hj => ?_)
                have hq0 := hspot q rfl (fun e => by rw [e] at hj; cases hj)
                have eq : q = ⟨q.block, q.off, none⟩ := by cases q; cases hq0; rfl
                refine hnow q.block q.off (bcells zs).toArray (by rw [arr_eq hl, ← eq]) j _ ?_
                rw [List.getElem?_toArray, bcells_get _ _ hj]
            refine fin.mono ?_
            rintro e w' ⟨a2, l2, c2, rfl, hb⟩
            exact ⟨_, s, H', rfl, hq a2 l2 c2, hi.later hb⟩
          · exact h.elim
        · exact h.elim
      · exact h.elim
    · exact h.elim
  · exact h.elim
def natSpecs3 : List (FuncId × Spec) := (61, wordsX) :: natSpecs2
theorem natSpecs3_ok : ∀ p ∈ natSpecs3, SpecOK p.1 p.2 := by
  intro p hp
  rcases List.mem_cons.1 hp with rfl | hp
  · exact words_ok
  · exact natSpecs2_ok p hp

/-! ### Addresses and words -/
def l20 (f : Nat → Int) : List Int := (List.range 20).map f
def a20 (a : Int) : List Int := [0, 0, 0, 0, 0, 0, 0, 0, 0, 0, 0, 0, 0, 0, 0, 0, 0, 0, 0, a]
def c32 (f : Nat → Int) : List Int := [0, 0, 0, 0, 0, 0, 0, 0, 0, 0, 0, 0] ++ l20 f
def wl (n : Int) : List Int := List.replicate 24 0 ++ (List.range 8).map fun j => IntKind.wrap .u8 (Int.fdiv n (2 ^ (8 * (7 - j))))
theorem told_eql {xs ys : List Int} {t : TypeId} {n : Nat} (hu : Sagg.prog.underlying t = some (.array n 5)) (hg : Sagg.prog.eqGuardType Sagg.prog.depth t = false) (hx : xs.length = n) (hy : ys.length = n) : Told Sagg.prog .eql t (.agg (bcells xs).toArray) (.agg (bcells ys).toArray) (.bool (decide (xs = ys))) := by
  intro x y w
  have hg : (eqGuard .eql t x y (.agg (bcells xs).toArray) (.agg (bcells ys).toArray)).run Sagg.prog w = .ok () w := by
    unfold eqGuard
    simp [hg]
  rw [Sem.run_bind, hg]
  have := run_eql_bytes (P := Sagg.prog) w t 5 n hu (by kernel_rfl) (by kernel_rfl) (by kernel_rfl) xs ys hx hy
  simp only [Result.andThen_ok]
  exact this
theorem told_neq {xs ys : List Int} {t : TypeId} {n : Nat} (hu : Sagg.prog.underlying t = some (.array n 5)) (hg : Sagg.prog.eqGuardType Sagg.prog.depth t = false) (hx : xs.length = n) (hy : ys.length = n) : Told Sagg.prog .neq t (.agg (bcells xs).toArray) (.agg (bcells ys).toArray) (.bool (!decide (xs = ys))) := by
  intro x y w
  have hg : (eqGuard .neq t x y (.agg (bcells xs).toArray) (.agg (bcells ys).toArray)).run Sagg.prog w = .ok () w := by
    unfold eqGuard
    simp [hg]
  rw [Sem.run_bind, hg]
  have := run_neq_bytes (P := Sagg.prog) w t 5 n hu (by kernel_rfl) (by kernel_rfl) (by kernel_rfl) xs ys hx hy
  simp only [Result.andThen_ok]
  exact this
theorem u24 : Sagg.prog.underlying 24 = some (.array 20 5) := by kernel_rfl
theorem g24 : Sagg.prog.eqGuardType Sagg.prog.depth 24 = false := by kernel_rfl
theorem u29 : Sagg.prog.underlying 29 = some (.array 32 5) := by kernel_rfl
theorem g29 : Sagg.prog.eqGuardType Sagg.prog.depth 29 = false := by kernel_rfl
theorem l20_len (f : Nat → Int) : (l20 f).length = 20 := by simp [l20]
theorem a20_len (a : Int) : (a20 a).length = 20 := rfl
theorem told_e1 {xs ys : List Int} (hx : xs.length = 20) (hy : ys.length = 20) (h : xs = ys) : Told Sagg.prog .eql 24 (.agg (bcells xs).toArray) (.agg (bcells ys).toArray) (toldV 1 0) := by
  have := told_eql u24 g24 hx hy
  rwa [decide_eq_true h] at this
theorem told_e0 {xs ys : List Int} (hx : xs.length = 20) (hy : ys.length = 20) (h : xs ≠ ys) : Told Sagg.prog .eql 24 (.agg (bcells xs).toArray) (.agg (bcells ys).toArray) (toldV 0 0) := by
  have := told_eql u24 g24 hx hy
  rwa [decide_eq_false h] at this
theorem told_n1 {xs ys : List Int} (hx : xs.length = 20) (hy : ys.length = 20) (h : xs ≠ ys) : Told Sagg.prog .neq 24 (.agg (bcells xs).toArray) (.agg (bcells ys).toArray) (toldV 1 0) := by
  have := told_neq u24 g24 hx hy
  rwa [decide_eq_false h] at this
theorem told_nW {xs ys : List Int} (hx : xs.length = 32) (hy : ys.length = 32) (h : xs ≠ ys) : Told Sagg.prog .neq 29 (.agg (bcells xs).toArray) (.agg (bcells ys).toArray) (toldV 1 0) := by
  have := told_neq u29 g29 hx hy
  rwa [decide_eq_false h] at this
theorem told_lt1 {t : TypeId} {k : IntKind} {a b : Int} (h : a < b) : Told Sagg.prog .lss t (.int k a) (.int k b) (toldV 1 0) := by
  refine told_fast ?_
  unfold fastB
  rw [Nat.beq_refl]
  show some (Value.bool (ltB a b)) = some (.bool true)
  rw [ltB_eq, decide_eq_true h]
theorem told_lt0 {t : TypeId} {k : IntKind} {a b : Int} (h : b ≤ a) : Told Sagg.prog .lss t (.int k a) (.int k b) (toldV 0 0) := by
  refine told_fast ?_
  unfold fastB
  rw [Nat.beq_refl]
  show some (Value.bool (ltB a b)) = some (.bool false)
  rw [ltB_eq, decide_eq_false (by omega)]
theorem told_le1 {t : TypeId} {k : IntKind} {a b : Int} (h : a ≤ b) : Told Sagg.prog .leq t (.int k a) (.int k b) (toldV 1 0) := by
  refine told_fast ?_
  unfold fastB
  rw [Nat.beq_refl]
  show some (Value.bool (not (ltB b a))) = some (.bool true)
  rw [ltB_eq, decide_eq_false (by omega)]
  rfl
theorem told_le0 {t : TypeId} {k : IntKind} {a b : Int} (h : b < a) : Told Sagg.prog .leq t (.int k a) (.int k b) (toldV 0 0) := by
  refine told_fast ?_
  unfold fastB
  rw [Nat.beq_refl]
  show some (Value.bool (not (ltB b a))) = some (.bool false)
  rw [ltB_eq, decide_eq_true h]
  rfl
theorem told_ieq0 {t : TypeId} {k : IntKind} {a b : Int} (h : a ≠ b) : Told Sagg.prog .eql t (.int k a) (.int k b) (toldV 0 0) := by
  refine told_fast ?_
  unfold fastB
  rw [Nat.beq_refl]
  show some (Value.bool (eqB a b)) = some (.bool false)
  rw [eqB_eq, decide_eq_false h]
theorem cmp_lt {x y : Int} (h : x < y) : cmpX x y = -1 := by
  rw [cmpX_eq]; unfold cmpI; rw [if_pos h]
theorem two256_eq : two256 = 256 ^ 32 := by kernel_rfl
theorem small64 {n : Int} (h : 0 ≤ n ∧ n < 18446744073709551616) : 0 ≤ n ∧ n < two256 := ⟨h.1, two256_small (by omega)⟩
theorem big64 {n : Int} (h : 0 ≤ n ∧ n < 18446744073709551616) : n < big := big_small (by omega)
theorem dig_zero {n : Int} {k : Nat} (h0 : 0 ≤ n) (h : n < 256 ^ k) : dig n k = 0 := by
  unfold dig
  rw [Int.ediv_eq_zero_of_lt h0 h]
  rfl
theorem dig_wrap {n : Int} (k : Nat) : IntKind.wrap .u8 (Int.fdiv n (2 ^ (8 * k))) = dig n k := by
  rw [wrap8]
  unfold dig
  have e : (2 : Int) ^ (8 * k) = 256 ^ k := by rw [Int.pow_mul]; rfl
  rw [e, Int.fdiv_eq_ediv_of_nonneg _ (Int.le_of_lt (Int.pow_pos (by omega)))]
theorem dl32_wl {n : Int} (h : 0 ≤ n ∧ n < 18446744073709551616) : dl32 n = wl n := by
  have hz : ∀ k, 8 ≤ k → dig n k = 0 := fun k hk => dig_zero h.1 (Int.lt_of_lt_of_le h.2 (by
    have := pow256_mono (a := 8) (b := k) hk
    have e : (256 : Int) ^ 8 = 18446744073709551616 := by decide
    rw [← e]; exact this))
  have e1 : dl32 n = (List.range 24).map (fun j => dig n (31 - j)) ++ (List.range 8).map fun j => dig n (7 - j) := rfl
  rw [e1]
  unfold wl
  congr 1
  · rw [List.eq_replicate_iff]
    refine ⟨by simp, fun b hb => ?_⟩
    obtain ⟨j, hj, rfl⟩ := List.mem_map.1 hb
    have := List.mem_range.1 hj
    exact hz _ (by omega)
  · apply List.map_congr_left
    intro j _
    exact (dig_wrap (7 - j)).symm
theorem allIn_wl {n : Int} (h : 0 ≤ n ∧ n < 18446744073709551616) : AllIn (wl n) := by
  rw [← dl32_wl h]
  exact allIn_dl n
theorem c32_eq (f : Nat → Int) : c32 f = l32 (fun j => if j < 12 then 0 else f (j - 12)) := rfl
theorem beV_c32 (f : Nat → Int) : beV (c32 f) = beV (l20 f) := rfl
theorem allIn_c32 {f : Nat → Int} (h : AllIn (l20 f)) : AllIn (c32 f) := allIn_app (by simp [AllIn]) h
theorem dl32_c32 {f : Nat → Int} (h : AllIn (l20 f)) : dl32 (beV (l20 f)) = c32 f := by
  have h1 := allIn_c32 h
  rw [← beV_c32]
  rw [c32_eq] at h1 ⊢
  exact dl32_beV h1
theorem range_c32 {f : Nat → Int} (h : AllIn (l20 f)) : 0 ≤ beV (l20 f) ∧ beV (l20 f) < two256 := by
  have h1 := allIn_c32 h
  rw [← beV_c32]
  rw [c32_eq] at h1 ⊢
  exact beV_range h1
theorem big_c32 {f : Nat → Int} (h : AllIn (l20 f)) : beV (l20 f) < big := Int.lt_of_lt_of_le (range_c32 h).2 two256_big
theorem cmp_bf {f : Nat → Int} (h : AllIn (l32 f)) (hne : l32 f ≠ l1 0) : cmpX 0 (beV (l32 f)) = -1 := by
  refine cmp_lt ?_
  have hr := beV_range h
  rcases Int.lt_or_eq_of_le hr.1 with h0 | h0
  · exact h0
  · exfalso
    apply hne
    rw [← dl32_beV h, ← h0]
    rfl
/-! ### The order of addresses -/
theorem byte_less {a b : Int} (ha : 0 ≤ a ∧ a < 256) (hb : 0 ≤ b ∧ b < 256) : (UInt8.ofNat a.toNat < UInt8.ofNat b.toNat ↔ a < b) ∧ (UInt8.ofNat a.toNat = UInt8.ofNat b.toNat ↔ a = b) := by
  have h1 : (UInt8.ofNat a.toNat).toNat = a.toNat := by simp [UInt8.toNat_ofNat']; omega
  have h2 : (UInt8.ofNat b.toNat).toNat = b.toNat := by simp [UInt8.toNat_ofNat']; omega
  constructor
  · rw [UInt8.lt_iff_toNat_lt, h1, h2]; omega
  · rw [← UInt8.toNat_inj, h1, h2]; omega
theorem less_valB : ∀ {xs ys : List Int}, AllIn xs → AllIn ys → xs.length = ys.length → Op.bytesLess (xs.map fun n => UInt8.ofNat n.toNat) (ys.map fun n => UInt8.ofNat n.toNat) = decide (valB xs < valB ys)
  | [], [], _, _, _ => rfl
  | [], _ :: _, _, _, hl => by simp at hl
  | _ :: _, [], _, _, hl => by simp at hl
  | x :: xs, y :: ys, hx, hy, hl => by
    have hl' : xs.length = ys.length := by simpa using hl
    have ih := less_valB hx.2 hy.2 hl'
    obtain ⟨h1, h2⟩ := byte_less hx.1 hy.1
    have hdx : Dig xs := allIn_ok hx.2
    have hdy : Dig ys := allIn_ok hy.2
    have a1 := valB_nonneg hdx
    have a2 := valB_nonneg hdy
    have b1 := valB_lt hdx
    have b2 := valB_lt hdy
    simp only [List.map_cons, Op.bytesLess, ih, valB_cons]
    rw [← hl'] at b2 ⊢
    generalize (256 : Int) ^ xs.length = p at *
    rcases Int.lt_trichotomy x y with h | h | h
    · have hm : p * (x + 1) ≤ p * y := Int.mul_le_mul_of_nonneg_left (by omega) (by omega)
      rw [Int.mul_add, Int.mul_one] at hm
      have c : UInt8.ofNat x.toNat < UInt8.ofNat y.toNat := h1.2 h
      rw [decide_eq_true (by omega : valB xs + p * x < valB ys + p * y)]
      simp [c]
    · subst h
      simp
    · have hm : p * (y + 1) ≤ p * x := Int.mul_le_mul_of_nonneg_left (by omega) (by omega)
      rw [Int.mul_add, Int.mul_one] at hm
      have c : ¬ UInt8.ofNat x.toNat < UInt8.ofNat y.toNat := fun c => by have := h1.1 c; omega
      have d : ¬ UInt8.ofNat x.toNat = UInt8.ofNat y.toNat := fun c => by have := h2.1 c; omega
      rw [decide_eq_false (by omega : ¬ valB xs + p * x < valB ys + p * y)]
      simp [c, d]
theorem told_str {xs ys : List Int} (hx : AllIn xs) (hy : AllIn ys) (hl : xs.length = ys.length) : Told Sagg.prog .lss 9 (.string (strOfNums xs)) (.string (strOfNums ys)) (.bool (decide (beV xs < beV ys))) := by
  intro x y w
  have h := strV_run (P := Sagg.prog) (op := .lss) (a := strOfNums xs) (b := strOfNums ys) rfl w
  rw [strOfNums_data, strOfNums_data, less_valB hx hy hl, ← beV_eq, ← beV_eq] at h
  simpa [eqGuard, binOp] using h
theorem told_s1 {xs ys : List Int} {a b : Int} (hx : AllIn xs) (hy : AllIn ys) (hl : xs.length = ys.length) (ea : beV xs = a) (eb : beV ys = b) (h : a < b) : Told Sagg.prog .lss 9 (.string (strOfNums xs)) (.string (strOfNums ys)) (toldV 1 0) := by
  have := told_str hx hy hl
  rwa [decide_eq_true (by omega)] at this
theorem told_s0 {xs ys : List Int} {a b : Int} (hx : AllIn xs) (hy : AllIn ys) (hl : xs.length = ys.length) (ea : beV xs = a) (eb : beV ys = b) (h : b ≤ a) : Told Sagg.prog .lss 9 (.string (strOfNums xs)) (.string (strOfNums ys)) (toldV 0 0) := by
  have := told_str hx hy hl
  rwa [decide_eq_false (by omega)] at this
theorem beV_a20 (a : Int) : beV (a20 a) = a := by
  show beV [0, 0, 0, 0, 0, 0, 0, 0, 0, 0, 0, 0, 0, 0, 0, 0, 0, 0, 0, a] = a
  unfold beV
  simp only [List.foldl_cons, List.foldl_nil]
  omega
theorem allIn_a20 {a : Int} (h : 0 ≤ a ∧ a < 256) : AllIn (a20 a) := by
  refine allIn_of fun n hn => ?_
  unfold a20 at hn
  simp only [List.mem_cons, List.not_mem_nil, or_false] at hn
  omega
theorem l20_of {f : Nat → Int} {k : Int} (h : AllIn (l20 f)) (hk : 0 ≤ k ∧ k < 256) (e : beV (l20 f) = k) : l20 f = a20 k := by
  have h1 := dl32_c32 h
  rw [dl32_l1 hk e] at h1
  have h2 := congrArg (List.drop 12) h1
  exact h2.symm
theorem l20_ne {f : Nat → Int} {k : Int} (e : beV (l20 f) ≠ k) : l20 f ≠ a20 k := fun h => e (by rw [h, beV_a20])
theorem len20 (f : Nat → Int) (a : Int) : (l20 f).length = (a20 a).length := by rw [l20_len, a20_len]
/-- The struct of the block. -/
def envA (ha : Option Addr) (hl hc : Nat) (cb ra ci bf : Nat → Int) (nu ti gl : Int) : Array Value := (bcells (l20 cb) ++ (Value.int .u64 nu :: Value.int .u64 ti :: Value.int .u64 gl :: (bcells (l32 ra) ++ (bcells (l32 ci) ++ (bcells (l32 bf) ++ [Value.slice ha hl hc]))))).toArray
end Go.Proofs.EX
