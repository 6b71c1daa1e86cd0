/-
  ROWS OF BYTES IN MEMORY. No program.
-/
import Derived.Test.YgcsagGreatNum
import Derived.Laws.MakeOwn
namespace Go.Proofs.YgcsagGreat
open Go.RowKit
set_option linter.unusedSimpArgs false

/-- A row of bytes in memory: empty, or cells one behind another. -/
def ByteRow (w : World) (a : Option Addr) (zs : List Int) : Prop :=
  Dig zs ∧ (zs = [] ∨ ∃ b off, a = some ⟨b, off, none⟩ ∧ ∀ i, i < zs.length → w.cell? ⟨b, off + i, none⟩ = some (.int .u8 (zs.getD i 0)))

/-- A slice of bytes that can be read. -/
def IsB (w : World) (v : Value) (zs : List Int) : Prop :=
  ∃ a cap, v = .slice a zs.length cap ∧ zs.length ≤ cap ∧ cap ≤ maxLen ∧ ByteRow w a zs

theorem ByteRow.nil (w : World) (a : Option Addr) : ByteRow w a [] := ⟨Dig.nil, .inl rfl⟩

theorem ByteRow.take {w : World} {a : Option Addr} {zs : List Int} (h : ByteRow w a zs) (k : Nat) : ByteRow w a (zs.take k) := by
  refine ⟨h.1.take k, ?_⟩
  rcases h.2 with h0 | ⟨b, off, ha, hc⟩
  · left; rw [h0]; simp
  · right
    refine ⟨b, off, ha, fun i hi => ?_⟩
    rw [List.length_take] at hi
    rw [hc i (by omega)]
    simp [List.getD_eq_getElem?_getD, List.getElem?_take, show i < k by omega]

theorem cell_lt {w : World} {b off : Nat} {v : Value} (h : w.cell? ⟨b, off, none⟩ = some v) : b < w.heap.size := by
  rcases Nat.lt_or_ge b w.heap.size with h1 | h1
  · exact h1
  · simp [World.cell?, Array.getElem?_eq_none h1] at h

/-- Old memory reads as it did. -/
theorem ByteRow.ext {w w' : World} {a : Option Addr} {zs : List Int} (h : ByteRow w a zs) (hb : Below w.heap.size w w') : ByteRow w' a zs := by
  refine ⟨h.1, ?_⟩
  rcases h.2 with h0 | ⟨b, off, ha, hc⟩
  · exact .inl h0
  · refine .inr ⟨b, off, ha, fun i hi => ?_⟩
    have := hc i hi
    rw [hb.cell (p := ⟨b, off + i, none⟩) (cell_lt this)]
    exact this

theorem IsB.ext {w w' : World} {v : Value} {zs : List Int} (h : IsB w v zs) (hb : Below w.heap.size w w') : IsB w' v zs := by
  obtain ⟨a, cap, h1, h2, h3, h4⟩ := h
  exact ⟨a, cap, h1, h2, h3, h4.ext hb⟩

theorem IsB.dig {w : World} {v : Value} {zs : List Int} (h : IsB w v zs) : Dig zs := by
  obtain ⟨a, cap, h1, h2, h3, h4⟩ := h
  exact h4.1

/-- The cells of a block of bytes. -/
def rowOf (zs : List Int) : Array Value := (zs.map (Value.int .u8)).toArray

/-- Block g is a row of bytes, all of it, that may be written. -/
def RowAt (w : World) (g : Nat) (zs : List Int) : Prop := w.heap[g]? = some (.cells (rowOf zs) 5 (0, 0))

theorem rowOf_size (zs : List Int) : (rowOf zs).size = zs.length := by simp [rowOf]

theorem RowAt.cell {w : World} {g : Nat} {zs : List Int} (h : RowAt w g zs) (i : Nat) (hi : i < zs.length) : w.cell? ⟨g, i, none⟩ = some (.int .u8 (zs.getD i 0)) := by
  unfold RowAt at h
  simp [World.cell?, h, rowOf, hi, List.getD_eq_getElem?_getD]

theorem RowAt.frozen {w : World} {g : Nat} {zs : List Int} (h : RowAt w g zs) (i : Nat) : w.frozen? ⟨g, i, none⟩ = false := by
  unfold RowAt at h
  simp [World.frozen?, h]

theorem RowAt.lt {w : World} {g : Nat} {zs : List Int} (h : RowAt w g zs) : g < w.heap.size := by
  rcases Nat.lt_or_ge g w.heap.size with h1 | h1
  · exact h1
  · simp [RowAt, Array.getElem?_eq_none h1] at h

theorem RowAt.set {w : World} {g : Nat} {zs : List Int} (h : RowAt w g zs) (i : Nat) (x : Int) : RowAt (w.setCell ⟨g, i, none⟩ (.int .u8 x)) g (zs.set i x) := by
  unfold RowAt at *
  simp [World.setCell, Array.getElem?_modify, h, rowOf, List.map_set]

theorem RowAt.other {w : World} {g : Nat} {zs : List Int} (h : RowAt w g zs) {a : Addr} (hne : a.block ≠ g) (u : Value) : RowAt (w.setCell a u) g zs := by
  unfold RowAt at *
  rw [Below.heap_setCell _ _ _ _ (fun e => hne e.symm)]; exact h

theorem RowAt.ext {w w' : World} {g : Nat} {zs : List Int} (h : RowAt w g zs) {B : Nat} (hb : Below B w w') (hg : g < B) : RowAt w' g zs := by
  unfold RowAt at *
  rw [hb.block g hg]; exact h

theorem RowAt.alloc {w : World} (zs : List Int) : RowAt (w.alloc (.cells (rowOf zs) 5)) w.heap.size zs := by
  show (w.heap.push _)[w.heap.size]? = _
  simp

theorem RowAt.allocd {w : World} {g : Nat} {zs : List Int} (h : RowAt w g zs) (o : Obj) : RowAt (w.alloc o) g zs := by
  have := h.lt
  unfold RowAt at *
  rw [Below.heap_alloc _ _ _ this]; exact h

theorem RowAt.drew {w : World} {g : Nat} {zs : List Int} (h : RowAt w g zs) : RowAt w.drew g zs := h

theorem RowAt.byteRow {w : World} {g : Nat} {zs : List Int} (h : RowAt w g zs) (hd : Dig zs) : ByteRow w (some ⟨g, 0, none⟩) zs :=
  ⟨hd, .inr ⟨g, 0, rfl, fun i hi => by rw [Nat.zero_add]; exact h.cell i hi⟩⟩

theorem RowAt.isB {w : World} {g : Nat} {zs : List Int} (h : RowAt w g zs) (hd : Dig zs) (hm : zs.length ≤ maxLen) : IsB w (.slice (some ⟨g, 0, none⟩) zs.length zs.length) zs :=
  ⟨_, _, rfl, Nat.le_refl _, hm, h.byteRow hd⟩

end Go.Proofs.YgcsagGreat
