/-
  ARGUMENTS OPENED: what a reading of an argument says of the cells.
-/
import Derived.Test.YgcsagGreatNX
import Derived.OpenShut
import Derived.ChangeArms
import Derived.Deep.Slices
import Derived.Deep.MidRow
namespace Go.Proofs.YgcsagGreat
open Go.RowKit Go.Deep Go.WideShapes
set_option linter.unusedSimpArgs false

/-- The cells read as a value of that type. -/
def Read (P : Program) (w : World) (t : TypeId) (cs : List Value) : Prop :=
  ∃ (H : Type) (enc : TypeId × Value → H) (fuel : Nat) (x : DataW H × List MemPlace), DataW.trod enc P w 0 (fun _ => true) true fuel t cs = some x

section
variable {P : Program} {w : World} {t : TypeId} {cs : List Value}

theorem Read.bool (ht : P.underlying t = some .bool) (h : Read P w t cs) : ∃ b, cs = [.bool b] := by
  obtain ⟨H, enc, fuel, x, h⟩ := h
  obtain ⟨b, h1, _⟩ := DataW.trod_bool ht h
  exact ⟨b, h1⟩
theorem Read.int {k : IntKind} (ht : P.underlying t = some (.int k)) (h : Read P w t cs) : ∃ n, cs = [.int k n] ∧ (Lit.int k n).wf = true := by
  obtain ⟨H, enc, fuel, x, h⟩ := h
  obtain ⟨n, h1, _, h2⟩ := DataW.trod_int ht h
  exact ⟨n, h1, h2⟩
theorem Read.struct {fs : Array Field} (ht : P.underlying t = some (.struct fs)) (h : Read P w t cs) :
    cs.length = P.cellsOf t ∧ ∀ (i : Nat) (f : Field), fs[i]? = some f → Read P w f.type ((cs.drop f.offset).take (P.cellsOf f.type)) := by
  obtain ⟨H, enc, fuel, x, h⟩ := h
  obtain ⟨xs, n, _, _, h1, h2, h3⟩ := DataW.trod_struct ht h
  refine ⟨h1, fun i f hf => ?_⟩
  have hi : i < xs.length := by rw [h2]; exact (Array.getElem?_eq_some_iff.1 hf).1
  exact ⟨H, enc, n, xs[i], by rw [h3 i f hf, List.getElem?_eq_getElem hi]⟩
theorem Read.array {n : Nat} {e : TypeId} (ht : P.underlying t = some (.array n e)) (h : Read P w t cs) :
    cs.length = P.cellsOf t ∧ ∀ i, i < n → Read P w e ((cs.drop (i * P.cellsOf e)).take (P.cellsOf e)) := by
  obtain ⟨H, enc, fuel, x, h⟩ := h
  obtain ⟨xs, m, _, _, h1, h2, h3⟩ := DataW.trod_array ht h
  refine ⟨h1, fun i hi => ?_⟩
  exact ⟨H, enc, m, xs[i], by rw [h3 i hi, List.getElem?_eq_getElem]⟩
theorem Read.slice {e : TypeId} (ht : P.underlying t = some (.slice e)) (h : Read P w t cs) :
    cs = [.slice none 0 0] ∨ ∃ a len cap, cs = [.slice (some a) len cap] ∧ len ≤ cap ∧ cap ≤ maxLen ∧
      ∀ i, i < len → ∃ cs', w.cells? 0 (a.add (i * P.cellsOf e)) (P.cellsOf e) = some cs' ∧ Read P w e cs' := by
  obtain ⟨H, enc, fuel, x, h⟩ := h
  rcases open_slice ht h with ⟨h0, _⟩ | ⟨a, len, cap, m, n, D, Pl, h1, _, h2, h3, h4, _, h5⟩
  · exact .inl h0
  · refine .inr ⟨a, len, cap, h1, h2, h3, fun i hi => ?_⟩
    obtain ⟨cs', k1, k2⟩ := h5 i (by rw [h4]; simp; omega)
    exact ⟨cs', k1, H, enc, n, _, k2⟩

theorem bytes_of : ∀ {cs : List Value}, (∀ v ∈ cs, ∃ k : Int, v = .int .u8 k ∧ 0 ≤ k ∧ k < 256) → ∃ zs, cs = bcells zs ∧ Dig zs
  | [], _ => ⟨[], rfl, Dig.nil⟩
  | v :: cs, h => by
    obtain ⟨k, rfl, h1, h2⟩ := h v (List.mem_cons_self)
    obtain ⟨zs, rfl, hd⟩ := bytes_of (fun v hv => h v (List.mem_cons_of_mem _ hv))
    refine ⟨k :: zs, rfl, fun n hn => ?_⟩
    rcases List.mem_cons.1 hn with rfl | hn
    · exact ⟨h1, h2⟩
    · exact hd n hn

theorem byte_of {w : World} {e : TypeId} (he : P.underlying e = some (.int .u8)) {cs : List Value} (h : Read P w e cs) : ∃ k : Int, cs = [.int .u8 k] ∧ 0 ≤ k ∧ k < 256 := by
  obtain ⟨n, h1, h2⟩ := h.int he
  have := bounds_u8 h2
  exact ⟨n, h1, by omega, by omega⟩

/-- An array of bytes. -/
theorem Read.bytes {n : Nat} {e : TypeId} (ht : P.underlying t = some (.array n e)) (he : P.underlying e = some (.int .u8)) (hc : P.cellsOf e = 1) (hn : P.cellsOf t = n) (h : Read P w t cs) :
    ∃ zs, cs = bcells zs ∧ zs.length = n ∧ Dig zs := by
  obtain ⟨h1, h2⟩ := h.array ht
  rw [hn] at h1
  obtain ⟨zs, rfl, hd⟩ := bytes_of (cs := cs) (fun v hv => by
    obtain ⟨i, hi, rfl⟩ := List.getElem_of_mem hv
    have := h2 i (by omega)
    rw [hc, Nat.mul_one] at this
    obtain ⟨k, hk, k1, k2⟩ := byte_of he this
    refine ⟨k, ?_, k1, k2⟩
    have h3 : ((cs.drop i).take 1)[0]? = some (cs[i]) := by simp [List.getElem?_take, List.getElem?_drop]
    rw [hk] at h3
    simpa using h3.symm)
  exact ⟨zs, rfl, by rw [← h1, bcells_length], hd⟩

theorem list_of {α : Type} {p : Nat → α → Prop} : ∀ {n : Nat}, (∀ i, i < n → ∃ a, p i a) → ∃ l : List α, l.length = n ∧ ∀ i a, l[i]? = some a → p i a
  | 0, _ => ⟨[], rfl, fun i a h => by simp at h⟩
  | n + 1, h => by
    obtain ⟨l, h1, h2⟩ := list_of (n := n) (p := p) (fun i hi => h i (by omega))
    obtain ⟨a, ha⟩ := h n (by omega)
    refine ⟨l ++ [a], by simp [h1], fun i b hb => ?_⟩
    rcases Nat.lt_or_ge i l.length with hi | hi
    · rw [List.getElem?_append_left hi] at hb; exact h2 i b hb
    · rw [List.getElem?_append_right hi] at hb
      have h0 : i - l.length = 0 := by
        rcases Nat.eq_zero_or_pos (i - l.length) with h | h
        · exact h
        · rw [List.getElem?_eq_none (by simp; omega)] at hb; cases hb
      rw [h0] at hb
      simp at hb
      subst hb
      have : i = n := by omega
      rw [this]; exact ha

theorem spot_of {w : World} {a : Addr} {c : Nat} (hc : 0 < c) {cs : List Value} (h : w.cells? 0 (a.add (0 * c)) c = some cs) : ∃ b off, a = ⟨b, off, none⟩ := by
  obtain ⟨_, h1, h2⟩ := World.cells?_some h
  have h3 := h2 0 hc
  rw [List.getElem?_eq_getElem (by omega)] at h3
  obtain ⟨b, off, spot⟩ := a
  have hspot : spot = none := by simpa [Addr.add] using World.cell?_spot h3
  exact ⟨b, off, by rw [hspot]⟩

theorem range_of {w : World} {b off c i : Nat} {cs : List Value} (h : w.cells? 0 ((⟨b, off, none⟩ : Addr).add (i * c)) c = some cs) : cs.length = c ∧ w.rangeAt b (off + i * c) cs := by
  obtain ⟨_, h1, h2⟩ := World.cells?_some h
  refine ⟨h1, fun j v hv => ?_⟩
  have := h2 j (by rw [← h1]; exact (List.getElem?_eq_some_iff.1 hv).1)
  rw [add_plain, add_plain, hv] at this
  exact this

/-- A slice of rows of bytes. -/
theorem Read.flat {e : TypeId} {c : Nat} (ht : P.underlying t = some (.slice e)) (hc : P.cellsOf e = c) (hpos : 0 < c) (hb : ∀ cs, Read P w e cs → ∃ zs, cs = bcells zs ∧ Dig zs) (h : Read P w t cs) :
    ∃ a len cap zs, cs = [.slice a len cap] ∧ len ≤ cap ∧ cap ≤ maxLen ∧ zs.length = c * len ∧ ByteRow w a zs := by
  rcases h.slice ht with h0 | ⟨a, len, cap, h1, h2, h3, h4⟩
  · exact ⟨none, 0, 0, [], h0, Nat.le_refl _, by unfold maxLen; omega, by simp, ByteRow.nil _ _⟩
  · rw [hc] at h4
    rcases Nat.eq_zero_or_pos len with rfl | hl
    · exact ⟨some a, 0, cap, [], h1, h2, h3, by simp, ByteRow.nil _ _⟩
    obtain ⟨b, off, rfl⟩ := spot_of hpos (h4 0 hl).choose_spec.1
    have hbyte : ∀ j, j < c * len → ∃ k : Int, (0 ≤ k ∧ k < 256) ∧ w.cell? ⟨b, off + j, none⟩ = some (.int .u8 k) := by
      intro j hj
      have hi : j / c < len := Nat.div_lt_of_lt_mul hj
      obtain ⟨cs', k1, k2⟩ := h4 (j / c) hi
      obtain ⟨zs, rfl, hd⟩ := hb cs' k2
      obtain ⟨k3, k4⟩ := range_of k1
      rw [bcells_length] at k3
      have hm : j % c < zs.length := by rw [k3]; exact Nat.mod_lt _ hpos
      have := k4 (j % c) _ (bcells_get zs _ hm)
      refine ⟨_, ?_, by rw [← this]; congr 2; rw [Nat.add_assoc, Nat.div_add_mod']⟩
      have hz := hd (zs.getD (j % c) 0) (by rw [List.getD_eq_getElem?_getD, List.getElem?_eq_getElem hm]; simp)
      exact hz
    obtain ⟨zs, z1, z2⟩ := list_of hbyte
    refine ⟨some ⟨b, off, none⟩, len, cap, zs, h1, h2, h3, z1, ?_, .inr ⟨b, off, rfl, fun i hi => ?_⟩⟩
    · intro n hn
      obtain ⟨i, hi, rfl⟩ := List.getElem_of_mem hn
      exact (z2 i _ (List.getElem?_eq_getElem hi)).1
    · rw [(z2 i _ (List.getElem?_eq_getElem hi)).2, List.getD_eq_getElem?_getD, List.getElem?_eq_getElem hi]; rfl

/-- A slice of bytes. -/
theorem Read.byteSlice {e : TypeId} (ht : P.underlying t = some (.slice e)) (he : P.underlying e = some (.int .u8)) (hc : P.cellsOf e = 1) (h : Read P w t cs) :
    ∃ a len cap zs, cs = [.slice a len cap] ∧ len ≤ cap ∧ cap ≤ maxLen ∧ zs.length = len ∧ ByteRow w a zs := by
  obtain ⟨a, len, cap, zs, h1, h2, h3, h4, h5⟩ := h.flat ht hc Nat.one_pos (fun cs hcs => by
    obtain ⟨k, rfl, k1, k2⟩ := byte_of he hcs
    exact ⟨[k], rfl, fun n hn => by rw [List.mem_singleton.1 hn]; exact ⟨k1, k2⟩⟩)
  exact ⟨a, len, cap, zs, h1, h2, h3, by omega, h5⟩

/-- A slice of structs. -/
theorem Read.rows {e : TypeId} {c : Nat} {α : Type} {p : List Value → α → Prop} (ht : P.underlying t = some (.slice e)) (hc : P.cellsOf e = c) (hpos : 0 < c) (hb : ∀ cs, Read P w e cs → ∃ a, p cs a) (h : Read P w t cs) :
    ∃ a len cap, ∃ l : List α, cs = [.slice a len cap] ∧ len ≤ cap ∧ cap ≤ maxLen ∧ l.length = len ∧
      (l = [] ∨ ∃ b off, a = some ⟨b, off, none⟩ ∧ ∀ (i : Nat) x, l[i]? = some x → ∃ cs, p cs x ∧ w.rangeAt b (off + i * c) cs) := by
  rcases h.slice ht with h0 | ⟨a, len, cap, h1, h2, h3, h4⟩
  · exact ⟨none, 0, 0, [], h0, Nat.le_refl _, by unfold maxLen; omega, rfl, .inl rfl⟩
  · rw [hc] at h4
    rcases Nat.eq_zero_or_pos len with rfl | hl
    · exact ⟨some a, 0, cap, [], h1, h2, h3, rfl, .inl rfl⟩
    obtain ⟨b, off, rfl⟩ := spot_of hpos (h4 0 hl).choose_spec.1
    obtain ⟨l, l1, l2⟩ := list_of (p := fun i x => ∃ cs, p cs x ∧ w.rangeAt b (off + i * c) cs) (n := len) (fun i hi => by
      obtain ⟨cs', k1, k2⟩ := h4 i hi
      obtain ⟨x, hx⟩ := hb cs' k2
      exact ⟨x, cs', hx, (range_of k1).2⟩)
    exact ⟨some ⟨b, off, none⟩, len, cap, l, h1, h2, h3, l1, .inr ⟨b, off, rfl, l2⟩⟩
end

end Go.Proofs.YgcsagGreat
