/-
  WALKS: nat.Pow2, nat.Bit, law.equalBytes.
-/
import Derived.Test.YgcsagGreatNatA
import Derived.Deep.OwnRows
import Derived.Laws.BytesArg
namespace Go.Proofs.YgcsagGreat
open Go.RowKit
set_option linter.unusedSimpArgs false

/-- n zeros. -/
def zeros (n : Nat) : List Int := List.replicate n 0
theorem zeros_length (n : Nat) : (zeros n).length = n := by simp [zeros]
theorem dig_zeros (n : Nat) : Dig (zeros n) := Dig.zeros n
theorem val_zeros' (n : Nat) : val (zeros n) = 0 := val_zeros n

theorem info5 : (Sagg.prog.info? 5).map (fun i => (i.zero, i.size, i.bytes)) = some (some (.int .u8 0), 1, 1) := by kernel_rfl

theorem rowOf_zeros (n : Nat) : madeCells #[.int .u8 0] n = rowOf (zeros n) := by
  unfold rowOf zeros
  apply Array.ext'
  rw [toList_madeCells_one]
  simp

theorem make_bytes {t : TypeId} (ht : Sagg.prog.underlying t = some (.slice 5)) (n : Int) (h0 : 0 ≤ n) (h : n ≤ 281474976710656) (w : World) :
    (Instr.makeSlice t (.int .i64 n) (.int .i64 n)).run Sagg.prog w = .ok (.slice (some ⟨w.heap.size, 0, none⟩) n.toNat n.toNat) (w.alloc (.cells (rowOf (zeros n.toNat)) 5)) := by
  obtain ⟨m, rfl⟩ := Int.eq_ofNat_of_zero_le h0
  have := run_make_row' (P := Sagg.prog) t 5 (.int .u8 0) 1 ht info5 rfl .i64 .i64 m (by omega) (by omega) w
  rw [rowOf_zeros] at this
  simpa using this

/-- The digits of 2^k. -/
def powDigits (k : Nat) : List Int := (zeros (k / 8 + 1)).set (k / 8) (2 ^ (k % 8))

theorem rowOf_get (zs : List Int) (i : Nat) (hi : i < zs.length) : (rowOf zs)[i]? = some (.int .u8 (zs.getD i 0)) := by
  simp [rowOf, hi, List.getD_eq_getElem?_getD]

theorem rowOf_set (zs : List Int) (i : Nat) (x : Int) : (rowOf zs).setIfInBounds i (.int .u8 x) = rowOf (zs.set i x) := by
  simp [rowOf, List.map_set]

theorem pow2_lt8 (k : Nat) : (2 : Int) ^ (k % 8) < 256 ∧ 0 < (2 : Int) ^ (k % 8) := by
  have h : k % 8 < 8 := Nat.mod_lt _ (by omega)
  generalize k % 8 = j at h
  match j, h with
  | 0, _ => decide
  | 1, _ => decide
  | 2, _ => decide
  | 3, _ => decide
  | 4, _ => decide
  | 5, _ => decide
  | 6, _ => decide
  | 7, _ => decide

theorem dig_powDigits (k : Nat) : Dig (powDigits k) := (dig_zeros _).set _ (by have := pow2_lt8 k; omega)
theorem powDigits_length (k : Nat) : (powDigits k).length = k / 8 + 1 := by simp [powDigits, zeros_length]
theorem powDigits_eq (k : Nat) : powDigits k = zeros (k / 8) ++ [2 ^ (k % 8)] := by
  unfold powDigits zeros
  rw [List.replicate_succ', List.set_append_right (k / 8) _ (by simp)]
  simp
theorem val_powDigits (k : Nat) : val (powDigits k) = 2 ^ k := by
  rw [powDigits_eq, val_append, zeros_length, val_zeros']
  have h : (256 : Int) = 2 ^ 8 := by decide
  rw [h, ← Int.pow_mul]
  simp only [val]
  have : k = 8 * (k / 8) + k % 8 := by omega
  rw [show (2 : Int) ^ k = 2 ^ (8 * (k / 8) + k % 8) by rw [← this], Int.pow_add]
  simp
theorem norm_powDigits (k : Nat) : Norm (powDigits k) := by
  rw [powDigits_eq]
  unfold Norm
  rw [List.getLast?_concat]
  have := pow2_lt8 k
  intro h
  simp only [Option.some.injEq] at h
  omega

/-- Bit i of a list of digits. -/
def bitOf (zs : List Int) (i : Nat) : Bool := decide (i / 8 < zs.length) && (zs.getD (i / 8) 0 / 2 ^ (i % 8) % 2 == 1)

theorem and_one_u8 (x : Int) (h0 : 0 ≤ x) (h1 : x < 256) : bits .and .u8 x 1 = x % 2 := bits_mask .u8 8 (by decide) wraps_u8 1 (by decide) x h0 h1

theorem div_pow_bd (x : Int) (k : Nat) (h0 : 0 ≤ x) (h1 : x < 256) : 0 ≤ x / 2 ^ k ∧ x / 2 ^ k < 256 := by
  have hp : (0 : Int) < 2 ^ k := Int.pow_pos (by omega)
  refine ⟨Int.ediv_nonneg h0 (by omega), ?_⟩
  have := Int.ediv_le_self (2 ^ k) h0
  omega

theorem ret_bool {a b : Bool} (h : a = b) : Ending.returned (.bool a) = .returned (.bool b) := by rw [h]

theorem bitOf_eq (zs : List Int) (i : Nat) (c : Int) (h : i / 8 < zs.length) (hd : 0 ≤ c ∧ c < 256) (hc : zs.getD (i / 8) 0 = c) : bitOf zs i = (bits .and .u8 (c / 2 ^ (i % 8)) 1 == 1) := by
  have := div_pow_bd c (i % 8) hd.1 hd.2
  unfold bitOf
  rw [and_one_u8 _ this.1 this.2, hc]
  simp [h]

theorem strOfNums_inj {xs ys : List Int} (hx : Dig xs) (hy : Dig ys) (h : strOfNums xs = strOfNums ys) : xs = ys := by
  have h1 : xs.map (fun n => UInt8.ofNat n.toNat) = ys.map (fun n => UInt8.ofNat n.toNat) := by rw [← strOfNums_data, h, strOfNums_data]
  clear h
  induction xs generalizing ys with
  | nil => cases ys with
    | nil => rfl
    | cons y r => simp at h1
  | cons x r ih => cases ys with
    | nil => simp at h1
    | cons y s =>
      simp only [List.map_cons, List.cons.injEq] at h1
      have a := hx.head; have b := hy.head
      have e := congrArg UInt8.toNat h1.1
      simp only [UInt8.toNat_ofNat'] at e
      rw [ih hx.tail hy.tail h1.2, show x = y by omega]

/-- 'string(b)': the bytes as a string. -/
theorem conv_bytes {src dst : TypeId} (hs : Sagg.prog.underlying src = some (.slice 5)) (hd : Sagg.prog.underlying dst = some .string) (a : Option Addr) (len cap : Nat) (xs : List Int) (w : World) (hl : xs.length = len) (hr : ByteRow w a xs) :
    (convert src dst (.slice a len cap)).run Sagg.prog w = .ok (.string (strOfNums xs)) w := by
  rcases hr.2 with h0 | ⟨b, off, rfl, hc⟩
  · subst h0
    simp at hl
    subst hl
    rw [run_convert_bytes_string w src dst 5 _ 0 cap hs Sagg.underlying5 hd]
    cases a with
    | none => simp [Conv.bytesToString]; rfl
    | some x =>
      rw [run_bytesToString w x 0 cap [] (by simp [loadCells, loadCellsFrom])]
      rfl
  · exact run_convert_bytes_arg w src 5 hs Sagg.underlying5 b off len cap xs hl (fun i hi => hc i (by omega)) dst hd

theorem eq_dec (xs ys : List Int) (hx : Dig xs) (hy : Dig ys) : ((strOfNums xs).toList == (strOfNums ys).toList) = decide (xs = ys) := by
  by_cases h : xs = ys
  · subst h; simp
  · have : (strOfNums xs).toList ≠ (strOfNums ys).toList := fun e => h (strOfNums_inj hx hy (by
      rw [ByteArray.toList_eq, ByteArray.toList_eq] at e
      exact WideShapes.bytes_inj e))
    simp [h, this]

theorem equalBytes_calls (a b : Option Addr) (la ca lb cb : Nat) (xs ys : List Int) (w : World) (hla : xs.length = la) (hlb : ys.length = lb) (hx : ByteRow w a xs) (hy : ByteRow w b ys) :
    Calls Sagg.prog 23 #[.slice a la ca, .slice b lb cb] w fun e w' => e = .returned (.bool (decide (xs = ys))) ∧ w' = w := by
  rw [← eq_dec xs ys hx.1 hy.1]
  have h1 := conv_bytes Sagg.underlying30 Sagg.underlying9 a la ca xs w hla hx
  have h2 := conv_bytes Sagg.underlying30 Sagg.underlying9 b lb cb ys w hlb hy
  clear hx hy hla hlb
  go_enter Sagg.func23, Sagg.ntmps23
  go_wp2
  go_ret
  exact ⟨rfl, rfl⟩

end Go.Proofs.YgcsagGreat
