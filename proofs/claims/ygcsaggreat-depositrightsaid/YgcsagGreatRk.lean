/-
  'kmodel': the same by lanes, so that the kernel reckons a hash by great numbers.
-/
import Derived.Test.YgcsagGreatRj
namespace Go.Proofs.YgcsagGreat
open Go.RowKit
set_option linter.unusedVariables false
set_option linter.unusedSimpArgs false
/-! ### Bits -/
theorem bit_ext {A B : Nat} (h : ∀ i, tKN A i = tKN B i) : A = B := Nat.eq_of_testBit_eq fun i => by rw [← tKN_eq, ← tKN_eq, h i]
theorem xKN_eq (a b : Bool) : xKN a b = (a ^^ b) := by cases a <;> cases b <;> rfl
theorem bit_xor (a b i : Nat) : tKN (Nat.xor a b) i = (tKN a i ^^ tKN b i) := by
  rw [tKN_eq, tKN_eq, tKN_eq]
  exact Nat.testBit_xor a b i
theorem bit_and (a b i : Nat) : tKN (Nat.land a b) i = (tKN a i && tKN b i) := by
  rw [tKN_eq, tKN_eq, tKN_eq]
  exact Nat.testBit_and a b i
theorem bit_shl (v o i : Nat) : tKN (Nat.shiftLeft v o) i = (decide (o ≤ i) && tKN v (i - o)) := by
  rw [tKN_eq, tKN_eq]
  exact Nat.testBit_shiftLeft v
theorem bit_shr (v o i : Nat) : tKN (Nat.shiftRight v o) i = tKN v (o + i) := shr_bit v o i
theorem bit_mod (v i : Nat) : tKN (Nat.mod v 18446744073709551616) i = (decide (i < 64) && tKN v i) := by
  rw [tKN_eq, tKN_eq]
  exact Nat.testBit_mod_two_pow v 64 i
theorem bit_hi {v i : Nat} (h : v < 18446744073709551616) (hi : 64 ≤ i) : tKN v i = false := by
  rw [tKN_eq]
  exact Nat.testBit_lt_two_pow (Nat.lt_of_lt_of_le h (Nat.pow_le_pow_right (n := 2) (by omega) hi))
/-- A lane. -/
def lnK (N o : Nat) : Nat := Nat.mod (Nat.shiftRight N o) 18446744073709551616
theorem ln_lt (N o : Nat) : lnK N o < 18446744073709551616 := Nat.mod_lt _ (by omega)
theorem ln_bit (N o i : Nat) : tKN (lnK N o) i = (decide (i < 64) && tKN N (o + i)) := by
  unfold lnK
  rw [bit_mod, bit_shr]
theorem ln_bit' {N o i : Nat} (h : i < 64) : tKN (lnK N o) i = tKN N (o + i) := by
  rw [ln_bit, decide_eq_true h, Bool.true_and]
/-- Another lane in its place. -/
def rpK (b o v : Nat) : Nat := Nat.xor b (Nat.shiftLeft (Nat.xor (lnK b o) v) o)
theorem rp_bit {b o v i : Nat} (h : v < 18446744073709551616) : tKN (rpK b o v) i = if o ≤ i ∧ i < o + 64 then tKN v (i - o) else tKN b i := by
  unfold rpK
  rw [bit_xor, bit_shl, bit_xor, ln_bit]
  by_cases h1 : o ≤ i
  · rw [decide_eq_true h1, Bool.true_and, show o + (i - o) = i by omega]
    by_cases h2 : i - o < 64
    · rw [if_pos (by omega), decide_eq_true h2, Bool.true_and]
      cases tKN b i <;> cases tKN v (i - o) <;> rfl
    · rw [if_neg (by omega), decide_eq_false h2, bit_hi h (by omega)]
      cases tKN b i <;> rfl
  · rw [if_neg (by omega), decide_eq_false h1]
    cases tKN b i <;> rfl
theorem iterP {F : Nat → Nat → Nat} {o c i : Nat} {f : Nat → Bool} : ∀ n, (∀ z c, z < n → F z c = setKN c (o + z) (f z)) → tKN (iterKN F c n) i = if o ≤ i ∧ i < o + n then f (i - o) else tKN c i
  | 0, _ => by rw [if_neg (by omega)]; rfl
  | n + 1, hF => by
    rw [iter_succ, hF n _ (by omega), setKN_bit, iterP n (fun z c hz => hF z c (by omega))]
    by_cases h : i = o + n
    · rw [if_pos h, if_pos (by omega), show i - o = n by omega]
    · rw [if_neg h]
      by_cases h2 : o ≤ i ∧ i < o + n
      · rw [if_pos h2, if_pos (by omega)]
      · rw [if_neg h2, if_neg (by omega)]
theorem iterX {F : Nat → Nat → Nat} {o c i : Nat} {f : Nat → Bool} : ∀ n, (∀ z c, z < n → F z c = setKN c (o + z) (xKN (tKN c (o + z)) (f z))) → tKN (iterKN F c n) i = if o ≤ i ∧ i < o + n then xKN (tKN c i) (f (i - o)) else tKN c i
  | 0, _ => by rw [if_neg (by omega)]; rfl
  | n + 1, hF => by
    rw [iter_succ, hF n _ (by omega), setKN_bit, iterX n (fun z c hz => hF z c (by omega)), iterX n (fun z c hz => hF z c (by omega))]
    by_cases h : i = o + n
    · rw [if_pos h, if_neg (by omega), if_pos (by omega), show i - o = n by omega, h]
    · rw [if_neg h]
      by_cases h2 : o ≤ i ∧ i < o + n
      · rw [if_pos h2, if_pos (by omega)]
      · rw [if_neg h2, if_neg (by omega)]
theorem lane_put {F : Nat → Nat → Nat} {o c V : Nat} {f : Nat → Bool} (hF : ∀ z c, z < 64 → F z c = setKN c (o + z) (f z)) (hV : V < 18446744073709551616) (hb : ∀ z, z < 64 → tKN V z = f z) : iterKN F c 64 = rpK c o V := bit_ext fun i => by
  rw [iterP 64 hF, rp_bit hV]
  by_cases h : o ≤ i ∧ i < o + 64
  · rw [if_pos h, if_pos h, hb _ (by omega)]
  · rw [if_neg h, if_neg h]
theorem lane_xor {F : Nat → Nat → Nat} {o c V : Nat} {f : Nat → Bool} (hF : ∀ z c, z < 64 → F z c = setKN c (o + z) (xKN (tKN c (o + z)) (f z))) (hV : V < 18446744073709551616) (hb : ∀ z, z < 64 → tKN V z = f z) : iterKN F c 64 = Nat.xor c (Nat.shiftLeft V o) := bit_ext fun i => by
  rw [iterX 64 hF, bit_xor, bit_shl]
  by_cases h : o ≤ i ∧ i < o + 64
  · rw [if_pos h, decide_eq_true h.1, Bool.true_and, hb _ (by omega), xKN_eq]
  · rw [if_neg h]
    by_cases h1 : o ≤ i
    · rw [decide_eq_true h1, bit_hi hV (by omega)]
      cases tKN c i <;> rfl
    · rw [decide_eq_false h1]
      cases tKN c i <;> rfl
/-- A lane turned. -/
def rtK (R k : Nat) : Nat := Nat.xor (Nat.mod (Nat.shiftLeft R k) 18446744073709551616) (Nat.shiftRight R (Nat.sub 64 k))
theorem xor_lt {a b : Nat} (ha : a < 18446744073709551616) (hb : b < 18446744073709551616) : Nat.xor a b < 18446744073709551616 := Nat.xor_lt_two_pow (n := 64) ha hb
theorem land_lt {a b : Nat} (ha : a < 18446744073709551616) : Nat.land a b < 18446744073709551616 := Nat.lt_of_le_of_lt Nat.and_le_left ha
theorem rt_lt {R k : Nat} (h : R < 18446744073709551616) : rtK R k < 18446744073709551616 := xor_lt (Nat.mod_lt _ (by omega)) (Nat.lt_of_le_of_lt (sh_le R _) h)
theorem rt_bit {R k z : Nat} (h : R < 18446744073709551616) (hk : k < 64) (hz : z < 64) : tKN (rtK R k) z = if k ≤ z then tKN R (z - k) else tKN R (64 - k + z) := by
  unfold rtK
  rw [bit_xor, bit_mod, bit_shl, bit_shr, decide_eq_true hz, Bool.true_and]
  show (decide (k ≤ z) && tKN R (z - k) ^^ tKN R (64 - k + z)) = _
  by_cases h1 : k ≤ z
  · rw [if_pos h1, decide_eq_true h1, bit_hi h (i := 64 - k + z) (by omega)]
    cases tKN R (z - k) <;> rfl
  · rw [if_neg h1, decide_eq_false h1]
    cases tKN R (64 - k + z) <;> rfl
/-! ### The steps -/
def cyE (a x y c : Nat) : Nat := Nat.xor c (Nat.shiftLeft (lnK a (0 + x * 320 + y * 64)) (0 + x * 64))
theorem cy_eq (a x : Nat) : cyKN a x = cyE a x := by
  funext y c
  exact lane_xor (f := fun z => tKN a (0 + x * 320 + y * 64 + z)) (fun z c _ => by unfold czKN; rw [Nat.mul_one]) (ln_lt _ _) (fun z hz => ln_bit' hz)
def dE (C x : Nat) : Nat := Nat.xor (lnK C (0 + ((x + 4) % 5) * 64)) (rtK (lnK C (0 + ((x + 1) % 5) * 64)) 1)
theorem dE_lt (C x : Nat) : dE C x < 18446744073709551616 := xor_lt (ln_lt _ _) (rt_lt (ln_lt _ _))
theorem d_eq (C x : Nat) : dAllKN C x = dE C x := by
  have e := lane_put (F := dzKN C x) (o := 0) (c := 0) (V := dE C x) (f := fun z => xKN (tKN C (0 + ((x + 4) % 5) * 64 + z)) (tKN C (0 + ((x + 1) % 5) * 64 + (z + 63) % 64))) (fun z c _ => by unfold dzKN; rw [Nat.mul_one, Nat.mul_one]) (xor_lt (ln_lt _ _) (rt_lt (ln_lt _ _))) (fun z hz => by
    unfold dE
    rw [bit_xor, rt_bit (ln_lt _ _) (by omega) hz, xKN_eq, ln_bit' hz]
    congr 1
    by_cases h : 1 ≤ z
    · rw [if_pos h, ln_bit' (by omega), show (z + 63) % 64 = z - 1 by omega]
    · rw [if_neg h, ln_bit' (by omega), show (z + 63) % 64 = 64 - 1 + z by omega])
  unfold dAllKN
  rw [e]
  apply bit_ext
  intro i
  rw [rp_bit (dE_lt C x)]
  by_cases h : 0 ≤ i ∧ i < 0 + 64
  · rw [if_pos h, Nat.sub_zero]
  · rw [if_neg h]
    have h0 : tKN 0 i = false := bit_hi (by omega) (by omega)
    rw [h0]
    exact (bit_hi (dE_lt C x) (by omega)).symm
def myE (d x y a : Nat) : Nat := Nat.xor a (Nat.shiftLeft d (0 + x * 320 + y * 64))
theorem my_eq {d : Nat} (hd : d < 18446744073709551616) (x : Nat) : myKN d x = myE d x := by
  funext y c
  exact lane_xor (f := fun z => tKN d z) (fun z c _ => by unfold mzKN; rw [Nat.mul_one, Nat.zero_add z]) hd (fun z hz => rfl)
def cxE (a x c : Nat) : Nat := iterKN (cyE a x) c 5
def mxE (C x a : Nat) : Nat := iterKN (myE (dE C x) x) a 5
def thetaE (a : Nat) : Nat := iterKN (mxE (iterKN (cxE a) 0 5)) a 5
theorem theta_eq (a : Nat) : thetaKN a = thetaE a := by
  have e1 : cxKN a = cxE a := by funext x c; unfold cxKN cxE; rw [cy_eq]
  have e2 : ∀ C, mxKN C = mxE C := by
    intro C
    funext x c
    unfold mxKN mxE
    rw [d_eq, my_eq (dE_lt C x)]
  unfold thetaKN thetaE cAllKN
  rw [e1, e2]
theorem copy_bit (N o A s k i : Nat) : tKN (copyKN N o A s k) i = if o ≤ i ∧ i < o + k then tKN A (s + (i - o)) else tKN N i := put_bit (fun j => tKN A (s + j)) N o i k
def ryE (a x y b : Nat) : Nat := rpK b (0 + x * 320 + y * 64) (rtK (lnK a (0 + x * 320 + y * 64)) (offKN x y % 64))
theorem ry_eq (a x : Nat) : ryKN a x = ryE a x := by
  funext y b
  unfold ryKN ryE
  have hk : offKN x y % 64 < 64 := Nat.mod_lt _ (by omega)
  generalize offKN x y % 64 = k at *
  generalize 0 + x * 320 + y * 64 = o
  apply bit_ext
  intro i
  rw [copy_bit, copy_bit, rp_bit (rt_lt (ln_lt _ _))]
  by_cases h : o ≤ i ∧ i < o + 64
  · rw [if_pos h, rt_bit (ln_lt _ _) hk (by omega)]
    by_cases h1 : k ≤ i - o
    · rw [if_neg (by omega), if_pos (by omega), if_pos h1, ln_bit' (by omega)]
      congr 1
      omega
    · rw [if_pos (by omega), if_neg h1, ln_bit' (by omega)]
      congr 1
      omega
  · rw [if_neg h, if_neg (by omega), if_neg (by omega)]
def rxE (a x b : Nat) : Nat := iterKN (ryE a x) b 5
def rhoE (a : Nat) : Nat := iterKN (rxE a) 0 5
theorem rho_eq (a : Nat) : rhoKN a = rhoE a := by
  have e1 : rxKN a = rxE a := by funext x c; unfold rxKN rxE; rw [ry_eq]
  unfold rhoKN rhoE
  rw [e1]
def pyE (a x y b : Nat) : Nat := rpK b (0 + x * 320 + y * 64) (lnK a (0 + ((x + 3 * y) % 5) * 320 + x * 64))
theorem py_eq (a x : Nat) : pyKN a x = pyE a x := by
  funext y b
  exact lane_put (f := fun z => tKN (shKN a (0 + ((x + 3 * y) % 5) * 320 + x * 64)) z) (fun z c _ => rfl) (ln_lt _ _) (fun z hz => by rw [ln_bit' hz]; exact (bit_shr _ _ _).symm)
def pxE (a x b : Nat) : Nat := iterKN (pyE a x) b 5
def piE (a : Nat) : Nat := iterKN (pxE a) 0 5
theorem pi_eq (a : Nat) : piKN a = piE a := by
  have e1 : pxKN a = pxE a := by funext x c; unfold pxKN pxE; rw [py_eq]
  unfold piKN piE
  rw [e1]
def onesK : Nat := 18446744073709551615
theorem ones_bit {z : Nat} (h : z < 64) : tKN onesK z = true := by
  have e : onesK = 2 ^ 64 - 1 := by decide
  rw [e, tKN_eq, Nat.testBit_two_pow_sub_one, decide_eq_true h]
def hyE (a x y b : Nat) : Nat := rpK b (0 + x * 320 + y * 64) (Nat.xor (lnK a (0 + x * 320 + y * 64)) (Nat.land (lnK a (0 + ((x + 2) % 5) * 320 + y * 64)) (Nat.xor (lnK a (0 + ((x + 1) % 5) * 320 + y * 64)) onesK)))
theorem chi_bit {A0 A1 A2 z : Nat} (hz : z < 64) : tKN (Nat.xor A0 (Nat.land A2 (Nat.xor A1 onesK))) z = xKN (tKN A0 z) (aKN (tKN A2 z) (tKN A1 z)) := by
  rw [bit_xor, bit_and, bit_xor, ones_bit hz]
  cases tKN A0 z <;> cases tKN A1 z <;> cases tKN A2 z <;> rfl
theorem hy_eq (a x : Nat) : hyKN a x = hyE a x := by
  funext y b
  exact lane_put (f := fun z => xKN (tKN a (0 + x * 320 + y * 64 + z)) (aKN (tKN a (0 + ((x + 2) % 5) * 320 + y * 64 + z)) (tKN a (0 + ((x + 1) % 5) * 320 + y * 64 + z)))) (fun z c _ => by unfold hzKN; rw [Nat.mul_one]) (xor_lt (ln_lt _ _) (land_lt (ln_lt _ _))) (fun z hz => by
    rw [chi_bit hz, ln_bit' hz, ln_bit' hz, ln_bit' hz])
def hxE (a x b : Nat) : Nat := iterKN (hyE a x) b 5
def chiE (a : Nat) : Nat := iterKN (hxE a) 0 5
theorem chi_eq (a : Nat) : chiKN a = chiE a := by
  have e1 : hxKN a = hxE a := by funext x c; unfold hxKN hxE; rw [hy_eq]
  unfold chiKN chiE
  rw [e1]
theorem iota_eq (i a : Nat) : iotaKN i a = Nat.xor a (constKN i) := by
  have h := lane_xor (F := izKN (constKN i)) (o := 0) (c := a) (V := constKN i) (f := fun z => tKN (constKN i) z) (fun z c _ => by unfold izKN; rw [Nat.mul_one]) (const_lt i) (fun z hz => rfl)
  have e : Nat.shiftLeft (constKN i) 0 = constKN i := rfl
  rw [e] at h
  exact h
/-! ### In and out -/
theorem iter_add (f : Nat → Nat → Nat) (c m : Nat) : ∀ n, iterKN f c (m + n) = iterKN (fun z => f (m + z)) (iterKN f c m) n
  | 0 => rfl
  | n + 1 => by
    show f (m + n) (iterKN f c (m + n)) = f (m + n) (iterKN (fun z => f (m + z)) (iterKN f c m) n)
    rw [iter_add f c m n]
theorem iter_lanes {f g : Nat → Nat → Nat} {c : Nat} : ∀ n, (∀ l c, l < n → iterKN (fun z => f (64 * l + z)) c 64 = g l c) → iterKN f c (64 * n) = iterKN g c n
  | 0, _ => rfl
  | n + 1, h => by
    rw [Nat.mul_add, Nat.mul_one, iter_add, iter_lanes n (fun l c hl => h l c (by omega)), h n _ (by omega), iter_succ]
def inE (N l c : Nat) : Nat := rpK c ((l % 5) * 320 + (l / 5) * 64) (lnK N (64 * l))
def outE (A l c : Nat) : Nat := rpK c (64 * l) (lnK A ((l % 5) * 320 + (l / 5) * 64))
theorem start_eq (N : Nat) : startKN N = iterKN (inE N) 0 25 := iter_lanes 25 fun l c hl => lane_put (f := fun z => tKN N (64 * l + z)) (fun z c hz => by
    unfold inKN
    rw [show (64 * l + z) / 64 = l by omega, show (64 * l + z) / 320 = l / 5 by omega, show (64 * l + z) % 64 = z by omega, Nat.mul_one, Nat.mul_one, Nat.zero_add, Nat.zero_add]) (ln_lt _ _) (fun z hz => ln_bit' hz)
theorem out_eq (A N : Nat) : iterKN (outKN A) N 1600 = iterKN (outE A) N 25 := iter_lanes 25 fun l c hl => lane_put (f := fun z => tKN A ((l % 5) * 320 + (l / 5) * 64 + z)) (fun z c hz => by
    unfold outKN
    rw [show (64 * l + z) / 64 = l by omega, show (64 * l + z) / 320 = l / 5 by omega, show (64 * l + z) % 64 = z by omega, Nat.mul_one, Nat.mul_one, Nat.zero_add, Nat.zero_add]) (ln_lt _ _) (fun z hz => ln_bit' hz)
def roundE (i a : Nat) : Nat := Nat.xor (chiE (piE (rhoE (thetaE a)))) (constKN i)
theorem round_eq : roundKN = roundE := by
  funext i a
  unfold roundKN roundE
  rw [iota_eq, chi_eq, pi_eq, rho_eq, theta_eq]
def fE (N : Nat) : Nat := iterKN (outE (iterKN roundE (iterKN (inE N) 0 25) 24)) N 25
theorem f_eq (N : Nat) : fKN N = fE N := by
  unfold fKN fE permKN
  rw [out_eq, round_eq, start_eq]
end Go.Proofs.YgcsagGreat
