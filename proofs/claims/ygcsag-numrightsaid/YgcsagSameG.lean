/-
  ROWS OF ACCOUNTS; WALK: obs.SameWorld.
-/
import Derived.Test.YgcsagSameF
namespace Go.Proofs.Ygcsag
open Go.RowKit
set_option linter.unusedSimpArgs false
set_option linter.unusedVariables false

theorem cell_heap {w wx : World} (hx : wx.heap = w.heap) (p : Addr) : wx.cell? p = w.cell? p := by simp only [World.cell?, hx]
theorem row_heap {w wx : World} (hx : wx.heap = w.heap) {a : Option Addr} {zs : List Int} (h : ByteRow w a zs) : ByteRow wx a zs := by
  rcases h with ⟨hd, h0 | ⟨b, off, ha, hc⟩⟩
  · exact ⟨hd, .inl h0⟩
  · exact ⟨hd, .inr ⟨b, off, ha, fun i hi => by rw [cell_heap hx]; exact hc i hi⟩⟩
theorem range_heap {w wx : World} (hx : wx.heap = w.heap) {b o : Nat} {cs : List Value} (h : w.rangeAt b o cs) : wx.rangeAt b o cs := fun j v hv => by rw [cell_heap hx]; exact h j v hv
theorem IsAcc.heap {w wx : World} (hx : wx.heap = w.heap) {cs : List Value} {A : AccD} {ca : Option Addr} {cn cc : Nat} {sa : Option Addr} {sn sc : Nat} (h : IsAcc w cs A ca cn cc sa sn sc) : IsAcc wx cs A ca cn cc sa sn sc :=
  ⟨h.cells, h.addrL, h.addrD, h.balL, h.balD, h.codeL, row_heap hx h.codeR, h.slotsL, row_heap hx h.slotsR, h.slotsM⟩

theorem row_block {w : World} {a : Option Addr} {zs : List Int} {sn : Nat} (h : ByteRow w a zs) (hl : zs.length = 64 * sn) : ∃ b off, 0 < sn → a = some ⟨b, off, none⟩ ∧ ∀ i, i < zs.length → w.cell? ⟨b, off + i, none⟩ = some (.int .u8 (zs.getD i 0)) := by
  rcases h with ⟨hd, h0 | ⟨b, off, ha, hc⟩⟩
  · exact ⟨0, 0, fun h => by subst h0; simp at hl; omega⟩
  · exact ⟨b, off, fun _ => ⟨ha, hc⟩⟩

theorem sameAccount_calls {b1 o1 b2 o2 : Nat} {A B : AccD} {ca1 : Option Addr} {cn1 cc1 : Nat} {sa1 : Option Addr} {sn1 sc1 : Nat} {ca2 : Option Addr} {cn2 cc2 : Nat} {sa2 : Option Addr} {sn2 sc2 : Nat} {w : World} {cs1 cs2 : List Value}
    (k1 : IsAcc w cs1 A ca1 cn1 cc1 sa1 sn1 sc1) (k2 : IsAcc w cs2 B ca2 cn2 cc2 sa2 sn2 sc2) (r1 : w.rangeAt b1 o1 cs1) (r2 : w.rangeAt b2 o2 cs2) (eb : Bool) (heb : eb = true ↔ A = B) :
    Calls Sagg.prog 43 #[.pointer (some ⟨b1, o1, none⟩), .pointer (some ⟨b2, o2, none⟩)] w (post43 eb w) := by
  obtain ⟨sb1, so1, s1⟩ := row_block k1.slotsR k1.slotsL
  obtain ⟨sb2, so2, s2⟩ := row_block k2.slotsR k2.slotsL
  exact sameAccount_core b1 o1 b2 o2 A B ca1 cn1 cc1 sb1 so1 sn1 sc1 ca2 cn2 cc2 sb2 so2 sn2 sc2 sa1 sa2 w cs1 cs2 k1 k2 (fun wx hx => acc_at (k1.heap hx) (range_heap hx r1)) (fun wx hx => acc_at (k2.heap hx) (range_heap hx r2)) s1 s2 eb heb

/-- The accounts of a row. -/
def AccRow (w : World) (b off : Nat) (As : List AccD) : Prop := ∀ (i : Nat) A, As[i]? = some A → ∃ cs ca cn cc sa sn sc, IsAcc w cs A ca cn cc sa sn sc ∧ w.rangeAt b (off + i * 55) cs
def IsAccs (w : World) (a : Option Addr) (As : List AccD) : Prop := As = [] ∨ ∃ b off, a = some ⟨b, off, none⟩ ∧ AccRow w b off As

theorem AccRow.ext {w w' : World} {b off : Nat} {As : List AccD} (h : AccRow w b off As) (hb : Below w.heap.size w w') : AccRow w' b off As := fun i A hi => by
  obtain ⟨cs, ca, cn, cc, sa, sn, sc, h1, h2⟩ := h i A hi
  exact ⟨cs, ca, cn, cc, sa, sn, sc, h1.ext hb, range_ext h2 hb⟩
theorem IsAccs.ext {w w' : World} {a : Option Addr} {As : List AccD} (h : IsAccs w a As) (hb : Below w.heap.size w w') : IsAccs w' a As := by
  rcases h with h0 | ⟨b, off, ha, hr⟩
  · exact .inl h0
  · exact .inr ⟨b, off, ha, hr.ext hb⟩
theorem AccRow.heap {w wx : World} (hx : wx.heap = w.heap) {b off : Nat} {As : List AccD} (h : AccRow w b off As) : AccRow wx b off As := fun i A hi => by
  obtain ⟨cs, ca, cn, cc, sa, sn, sc, h1, h2⟩ := h i A hi
  exact ⟨cs, ca, cn, cc, sa, sn, sc, h1.heap hx, range_heap hx h2⟩
theorem IsAccs.block {w : World} {a : Option Addr} {As : List AccD} {n : Nat} (h : IsAccs w a As) (hl : As.length = n) : ∃ b off, 0 < n → a = some ⟨b, off, none⟩ ∧ AccRow w b off As := by
  rcases h with h0 | ⟨b, off, ha, hr⟩
  · exact ⟨0, 0, fun h => by subst h0; simp at hl; omega⟩
  · exact ⟨b, off, fun _ => ⟨ha, hr⟩⟩

theorem sameAccount_at {w wx : World} (hx : wx.heap = w.heap) {b1 o1 b2 o2 k : Nat} {L1 L2 : List AccD} {A B : AccD} (h1 : AccRow w b1 o1 L1) (h2 : AccRow w b2 o2 L2) (hA : L1[k]? = some A) (hB : L2[k]? = some B) (eb : Bool) (heb : eb = true ↔ A = B) :
    Calls Sagg.prog 43 #[.pointer (some ⟨b1, o1 + k * 55, none⟩), .pointer (some ⟨b2, o2 + k * 55, none⟩)] wx fun e w' => e = .returned (.bool eb) ∧ ∃ n, w' = wx.drewN n := by
  obtain ⟨cs1, ca1, cn1, cc1, sa1, sn1, sc1, k1, r1⟩ := h1.heap hx k A hA
  obtain ⟨cs2, ca2, cn2, cc2, sa2, sn2, sc2, k2, r2⟩ := h2.heap hx k B hB
  exact sameAccount_calls k1 k2 r1 r2 eb heb

theorem info91 : (Sagg.prog.info? 91).map (·.size) = some 55 := by kernel_rfl

structure G24 where
  k : Nat := 0
  ql : Bool := false
  more : Bool := false
  qs : Bool := false

def cut24 (n1 n2 : Nat) (w : World) (C : G24 → World → Prop) : Prop := (n1 ≠ n2 → C {} w) ∧ (n1 = n2 → C { ql := true } w)
theorem cut24_ok (n1 n2 : Nat) (w : World) : CutOK (cut24 n1 n2 w) w := by
  rintro C ⟨h1, h2⟩
  by_cases e : n1 = n2
  · exact ⟨_, h2 e⟩
  · exact ⟨_, h1 e⟩

def loop24 (L1 L2 : List AccD) (n : Nat) : LoopTip G24 where
  slots := [13]
  inv := fun _ w us w' => ∃ k nd : Nat, k ≤ n ∧ us = [.int .i64 k] ∧ w' = w.drewN nd ∧ L1.take k = L2.take k
  T := fun _ w C =>
      (∀ k nd A B, k < n → L1.take k = L2.take k → L1[k]? = some A → L2[k]? = some B → A = B → C { k := k, more := true, qs := true } [.int .i64 k] (w.drewN nd)) ∧
      (∀ k nd A B, k < n → L1.take k = L2.take k → L1[k]? = some A → L2[k]? = some B → A ≠ B → C { k := k, more := true } [.int .i64 k] (w.drewN nd)) ∧
      (∀ k nd : Nat, k = n → L1.take k = L2.take k → C { k := k } [.int .i64 k] (w.drewN nd))
  mu := fun _ us _ => n - (intOf (us.getD 0 undef)).toNat

theorem loop24_ok (L1 L2 : List AccD) (n : Nat) (l1 : L1.length = n) (l2 : L2.length = n) (g : G24) (w : World) : LoopOK (loop24 L1 L2 n) g w := by
  rintro C ⟨h1, h2, h3⟩ us w' - ⟨k, nd, hk, rfl, rfl, ht⟩
  by_cases hlt : k < n
  · have hA : L1[k]? = some (L1[k]'(by omega)) := List.getElem?_eq_getElem (by omega)
    have hB : L2[k]? = some (L2[k]'(by omega)) := List.getElem?_eq_getElem (by omega)
    by_cases hc : L1[k]'(by omega) = L2[k]'(by omega)
    · exact ⟨_, h1 k nd _ _ hlt ht hA hB hc⟩
    · exact ⟨_, h2 k nd _ _ hlt ht hA hB hc⟩
  · exact ⟨_, h3 k nd (by omega) ht⟩

def tips24 (b1 o1 b2 o2 : Nat) (n1 n2 : Nat) (L1 L2 : List AccD) : Tips G24 where
  ops := [(10, { val := some fun g => .bool (!g.ql) }), (14, { val := some fun g => .bool g.more }), (18, { val := some fun g => .pointer (some ⟨b1, o1 + g.k * 55, none⟩) }), (21, { val := some fun g => .pointer (some ⟨b2, o2 + g.k * 55, none⟩) }),
    (22, { val := some fun g => .bool g.qs }), (24, { val := some fun g => .int .i64 (g.k + 1 : Nat) })]
  cuts := [(0, fun _ w C => cut24 n1 n2 w C)]
  loops := [(4, loop24 L1 L2 n1)]

theorem next_acc {L1 L2 : List AccD} {k : Nat} {A B : AccD} (h : L1.take k = L2.take k) (hA : L1[k]? = some A) (hB : L2[k]? = some B) (e : A = B) : L1.take (k + 1) = L2.take (k + 1) := by
  rw [List.take_add_one, List.take_add_one, h, hA, hB, e]
theorem accs_eq {L1 L2 : List AccD} {n1 n2 k : Nat} (l1 : L1.length = n1) (l2 : L2.length = n2) (he : n1 = n2) (hk : k = n1) (ht : L1.take k = L2.take k) : L1 = L2 := by
  rwa [List.take_of_length_le (by omega), List.take_of_length_le (by omega)] at ht
theorem fin24_t {eb : Bool} {w w' : World} {A B : List AccD} (heb : eb = true ↔ A = B) (h : A = B) (hw : ∃ n, w' = w.drewN n) : post43 eb w (.returned (.bool true)) w' := ⟨by rw [heb.2 h], hw⟩
theorem fin24_f {eb : Bool} {w w' : World} {A B : List AccD} (heb : eb = true ↔ A = B) (h : ¬ A = B) (hw : ∃ n, w' = w.drewN n) : post43 eb w (.returned (.bool false)) w' := by
  have : eb = false := by cases eb with | false => rfl | true => exact absurd (heb.1 rfl) h
  exact ⟨by rw [this], hw⟩
set_option maxRecDepth 100000 in
set_option maxHeartbeats 4000000 in
theorem sameWorld_core (a1 a2 : Option Addr) (b1 o1 b2 o2 : Nat) (n1 c1 n2 c2 : Nat) (L1 L2 : List AccD) (w : World) (l1 : L1.length = n1) (l2 : L2.length = n2) (h63 : n1 ≤ 9223372036854775807)
    (s1 : 0 < n1 → a1 = some ⟨b1, o1, none⟩ ∧ AccRow w b1 o1 L1) (s2 : 0 < n2 → a2 = some ⟨b2, o2, none⟩ ∧ AccRow w b2 o2 L2)
    (eb : Bool) (heb : eb = true ↔ L1 = L2) : Calls Sagg.prog 24 #[.slice a1 n1 c1, .slice a2 n2 c2] w (post43 eb w) := by
  refine CX_calls (tips24 b1 o1 b2 o2 n1 n2 L1 L2) {} (by kernel_rfl) Sagg.func24 rfl _ rfl (by kernel_rfl) ?_
  refine of_eq (p := CutOK (fun C => cut24 n1 n2 w C) w ∧ (n1 ≠ n2 → Sem.run Sagg.prog (binOp BinOp.neq 3 (Value.int IntKind.i64 ↑n1) (Value.int IntKind.i64 ↑n2)) w = Result.ok (Value.bool true) w ∧ (post43 eb w) (Ending.returned (Value.bool false)) w) ∧ (n1 = n2 → Sem.run Sagg.prog (binOp BinOp.neq 3 (Value.int IntKind.i64 ↑n1) (Value.int IntKind.i64 ↑n2)) w = Result.ok (Value.bool false) w ∧ (∃ k nd, k ≤ n1 ∧ [Value.int IntKind.i64 0] = [Value.int IntKind.i64 ↑k] ∧ w = w.drewN nd ∧ List.take k L1 = List.take k L2) ∧ LoopOK (loop24 L1 L2 n1) { ql := true } w ∧ (∀ (k nd : Nat) (A B : AccD), k < n1 → List.take k L1 = List.take k L2 → L1[k]? = some A → L2[k]? = some B → A = B → Sem.run Sagg.prog (binOp BinOp.lss 3 (Value.int IntKind.i64 ↑k) (Value.int IntKind.i64 ↑n1)) (w.drewN nd) = Result.ok (Value.bool true) (w.drewN nd) ∧ (∀ (m : Nat), Sem.run Sagg.prog (Instr.indexAt 53 (Value.slice a1 n1 c1) (Value.int IntKind.i64 ↑k)) ((w.drewN nd).drewN m) = Result.ok (Value.pointer (some { block := b1, off := o1 + k * 55 })) ((w.drewN nd).drewN m)) ∧ (∀ (m : Nat), Sem.run Sagg.prog (Instr.indexAt 53 (Value.slice a2 n2 c2) (Value.int IntKind.i64 ↑k)) ((w.drewN nd).drewN m) = Result.ok (Value.pointer (some { block := b2, off := o2 + k * 55 })) ((w.drewN nd).drewN m)) ∧ (∀ (m : Nat), Calls Sagg.prog 43 { toList := [Value.pointer (some { block := b1, off := o1 + k * 55 }), Value.pointer (some { block := b2, off := o2 + k * 55 })] } ((w.drewN nd).drewN m) fun e w' => e = Ending.returned (Value.bool true) ∧ ∃ m, w' = (w.drewN nd).drewN m) ∧ ∀ (m : Nat), Sem.run Sagg.prog (binOp BinOp.add 3 (Value.int IntKind.i64 ↑k) (Value.int IntKind.i64 1)) ((w.drewN nd).drewN m) = Result.ok (Value.int IntKind.i64 ↑(k + 1)) ((w.drewN nd).drewN m) ∧ (∃ k_1 nd_1, k_1 ≤ n1 ∧ [Value.int IntKind.i64 ↑(k + 1)] = [Value.int IntKind.i64 ↑k_1] ∧ (w.drewN nd).drewN m = w.drewN nd_1 ∧ List.take k_1 L1 = List.take k_1 L2) ∧ n1 - (((k + 1) : Nat) : Int).toNat < n1 - ((k : Nat) : Int).toNat) ∧ (∀ (k nd : Nat) (A B : AccD), k < n1 → List.take k L1 = List.take k L2 → L1[k]? = some A → L2[k]? = some B → A ≠ B → Sem.run Sagg.prog (binOp BinOp.lss 3 (Value.int IntKind.i64 ↑k) (Value.int IntKind.i64 ↑n1)) (w.drewN nd) = Result.ok (Value.bool true) (w.drewN nd) ∧ (∀ (m : Nat), Sem.run Sagg.prog (Instr.indexAt 53 (Value.slice a1 n1 c1) (Value.int IntKind.i64 ↑k)) ((w.drewN nd).drewN m) = Result.ok (Value.pointer (some { block := b1, off := o1 + k * 55 })) ((w.drewN nd).drewN m)) ∧ (∀ (m : Nat), Sem.run Sagg.prog (Instr.indexAt 53 (Value.slice a2 n2 c2) (Value.int IntKind.i64 ↑k)) ((w.drewN nd).drewN m) = Result.ok (Value.pointer (some { block := b2, off := o2 + k * 55 })) ((w.drewN nd).drewN m)) ∧ (∀ (m : Nat), Calls Sagg.prog 43 { toList := [Value.pointer (some { block := b1, off := o1 + k * 55 }), Value.pointer (some { block := b2, off := o2 + k * 55 })] } ((w.drewN nd).drewN m) fun e w' => e = Ending.returned (Value.bool false) ∧ ∃ m, w' = (w.drewN nd).drewN m) ∧ ∀ (m : Nat), (post43 eb w) (Ending.returned (Value.bool false)) ((w.drewN nd).drewN m)) ∧ ∀ (k nd : Nat), k = n1 → List.take k L1 = List.take k L2 → Sem.run Sagg.prog (binOp BinOp.lss 3 (Value.int IntKind.i64 ↑k) (Value.int IntKind.i64 ↑n1)) (w.drewN nd) = Result.ok (Value.bool false) (w.drewN nd) ∧ (post43 eb w) (Ending.returned (Value.bool true)) (w.drewN nd))) (by kernel_rfl) ?_
  exact ⟨(cut24_ok n1 n2 w), (fun h1 => ⟨(neq_t (by omega)), (fin24_f heb (by rintro rfl; first | omega | simp_all) (by first | exact ⟨_, rfl⟩ | exact ⟨0, rfl⟩ | (simp only [World.drewN_drewN]; exact ⟨_, rfl⟩)))⟩), (fun h4 => ⟨(neq_f (by omega)), ⟨0, 0, Nat.zero_le _, rfl, rfl, by simp⟩, (loop24_ok L1 L2 n1 l1 (by omega) _ _), (fun k8 => (fun nd9 => (fun A10 => (fun B11 => (fun h12 => (fun h13 => (fun h14 => (fun h15 => (fun h16 => ⟨(lss_t (by omega)), (fun m18 => (index_slice (i := k8) Sagg.underlying53 info91 (s1 (by omega)).1 (by omega))), (fun m20 => (index_slice (i := k8) Sagg.underlying53 info91 (s2 (by omega)).1 (by omega))), (fun m22 => ((sameAccount_at (by rfl) (s1 (by omega)).2 (s2 (by omega)).2 (by assumption) (by assumption) true (by simp_all)).mono fun e w' ⟨h, n, hn⟩ => ⟨h, _, hn.trans (drew2 _ _ _)⟩)), (fun m24 => ⟨(inc_i (by assumption) h63), ⟨_, _, Nat.succ_le_of_lt (by assumption), rfl, drew2 _ _ _, next_acc (by assumption) (by assumption) (by assumption) (by assumption)⟩, (by simp [intOf]; omega)⟩)⟩))))))))), (fun k28 => (fun nd29 => (fun A30 => (fun B31 => (fun h32 => (fun h33 => (fun h34 => (fun h35 => (fun h36 => ⟨(lss_t (by omega)), (fun m38 => (index_slice (i := k28) Sagg.underlying53 info91 (s1 (by omega)).1 (by omega))), (fun m40 => (index_slice (i := k28) Sagg.underlying53 info91 (s2 (by omega)).1 (by omega))), (fun m42 => ((sameAccount_at (by rfl) (s1 (by omega)).2 (s2 (by omega)).2 (by assumption) (by assumption) false (by simp_all)).mono fun e w' ⟨h, n, hn⟩ => ⟨h, _, hn.trans (drew2 _ _ _)⟩)), (fun m44 => (fin24_f heb (by rintro rfl; first | omega | simp_all) (by first | exact ⟨_, rfl⟩ | exact ⟨0, rfl⟩ | (simp only [World.drewN_drewN]; exact ⟨_, rfl⟩))))⟩))))))))), (fun k46 => (fun nd47 => (fun h48 => (fun h49 => ⟨(lss_f (by omega)), (fin24_t heb (accs_eq l1 l2 (by omega) (by assumption) (by assumption)) (by first | exact ⟨_, rfl⟩ | (simp only [World.drewN_drewN]; exact ⟨_, rfl⟩)))⟩))))⟩)⟩
theorem sameWorld_calls (a1 a2 : Option Addr) (n1 c1 n2 c2 : Nat) (L1 L2 : List AccD) (w : World) (l1 : L1.length = n1) (l2 : L2.length = n2) (h63 : n1 ≤ 9223372036854775807) (h1 : IsAccs w a1 L1) (h2 : IsAccs w a2 L2) (eb : Bool) (heb : eb = true ↔ L1 = L2) :
    Calls Sagg.prog 24 #[.slice a1 n1 c1, .slice a2 n2 c2] w fun e w' => e = .returned (.bool eb) ∧ ∃ n, w' = w.drewN n := by
  obtain ⟨b1, o1, s1⟩ := h1.block l1
  obtain ⟨b2, o2, s2⟩ := h2.block l2
  exact sameWorld_core a1 a2 b1 o1 b2 o2 n1 c1 n2 c2 L1 L2 w l1 l2 h63 s1 s2 eb heb
end Go.Proofs.Ygcsag
