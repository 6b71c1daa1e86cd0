/-
  'Topics': its runs, all together.
-/
import Derived.Test.YgcsagGreatTom0xz
import Derived.Test.YgcsagGreatTom0xg
import Derived.Test.YgcsagGreatTom00z
import Derived.Test.YgcsagGreatTom00g
import Derived.Test.YgcsagGreatTom01z
import Derived.Test.YgcsagGreatTom01n
import Derived.Test.YgcsagGreatTom01g
import Derived.Test.YgcsagGreatTom02z
import Derived.Test.YgcsagGreatTom02n
import Derived.Test.YgcsagGreatTom02e
import Derived.Test.YgcsagGreatTom02g
import Derived.Test.YgcsagGreatTom0lz
import Derived.Test.YgcsagGreatTom0ln
import Derived.Test.YgcsagGreatTom0le
import Derived.Test.YgcsagGreatTom0lg
import Derived.Test.YgcsagGreatTom1xz
import Derived.Test.YgcsagGreatTom1xg
import Derived.Test.YgcsagGreatTom10z
import Derived.Test.YgcsagGreatTom10g
import Derived.Test.YgcsagGreatTom11z
import Derived.Test.YgcsagGreatTom11n
import Derived.Test.YgcsagGreatTom11g
import Derived.Test.YgcsagGreatTom12z
import Derived.Test.YgcsagGreatTom12n
import Derived.Test.YgcsagGreatTom12e
import Derived.Test.YgcsagGreatTom12g
import Derived.Test.YgcsagGreatTom1lz
import Derived.Test.YgcsagGreatTom1ln
import Derived.Test.YgcsagGreatTom1le
import Derived.Test.YgcsagGreatTom1lg
import Derived.Test.YgcsagGreatTom2xz
import Derived.Test.YgcsagGreatTom2xg
import Derived.Test.YgcsagGreatTom20z
import Derived.Test.YgcsagGreatTom20g
import Derived.Test.YgcsagGreatTom21z
import Derived.Test.YgcsagGreatTom21n
import Derived.Test.YgcsagGreatTom21g
import Derived.Test.YgcsagGreatTom22z
import Derived.Test.YgcsagGreatTom22n
import Derived.Test.YgcsagGreatTom22e
import Derived.Test.YgcsagGreatTom22g
import Derived.Test.YgcsagGreatTom2lz
import Derived.Test.YgcsagGreatTom2ln
import Derived.Test.YgcsagGreatTom2le
import Derived.Test.YgcsagGreatTom2lg
import Derived.Test.YgcsagGreatTom3xz
import Derived.Test.YgcsagGreatTom3xg
import Derived.Test.YgcsagGreatTom30z
import Derived.Test.YgcsagGreatTom30g
import Derived.Test.YgcsagGreatTom31z
import Derived.Test.YgcsagGreatTom31n
import Derived.Test.YgcsagGreatTom31g
import Derived.Test.YgcsagGreatTom32z
import Derived.Test.YgcsagGreatTom32n
import Derived.Test.YgcsagGreatTom32e
import Derived.Test.YgcsagGreatTom32g
import Derived.Test.YgcsagGreatTom3lz
import Derived.Test.YgcsagGreatTom3ln
import Derived.Test.YgcsagGreatTom3le
import Derived.Test.YgcsagGreatTom3lg
import Derived.Test.YgcsagGreatTom4xz
import Derived.Test.YgcsagGreatTom4xg
import Derived.Test.YgcsagGreatTom40z
import Derived.Test.YgcsagGreatTom40g
import Derived.Test.YgcsagGreatTom41z
import Derived.Test.YgcsagGreatTom41n
import Derived.Test.YgcsagGreatTom41g
import Derived.Test.YgcsagGreatTom42z
import Derived.Test.YgcsagGreatTom42n
import Derived.Test.YgcsagGreatTom42e
import Derived.Test.YgcsagGreatTom42g
import Derived.Test.YgcsagGreatTom4lz
import Derived.Test.YgcsagGreatTom4ln
import Derived.Test.YgcsagGreatTom4le
import Derived.Test.YgcsagGreatTom4lg
namespace Go.Proofs.EX
open Go.RowKit Go.Proofs.YgcsagGreat
set_option linter.unusedVariables false
set_option linter.unusedSimpArgs false
section
variable {ts : Nat → Nat → Int} {kind og ln : Int} {w : World}
theorem to_x0 (hog : 0 ≤ og ∧ og < 256) (hts : ∀ i, AllIn (tsl ts i)) (hln : 0 ≤ ln ∧ ln < 256) (hk : kind.tmod 5 = Int.ofNat 0) : Calls Sagg.prog 6 #[.int .u8 kind, .agg (tsA ts), .int .u8 og, .int .u8 ln, .slice none 0 0] w fun e w' => e = .returned (.bool true) ∧ Below w.heap.size w w' := by
  rcases (by omega : ln = 0 ∨ 0 < ln) with rfl | hl0
  · exact to_0xz_calls ts kind og 0 hog hts hk w
  · exact to_0xg_calls ts kind og ln hog hts hk hln hl0 w
theorem to_s0 {db off hl hc : Nat} {zs : List Int} (hog : 0 ≤ og ∧ og < 256) (hts : ∀ i, AllIn (tsl ts i)) (hln : 0 ≤ ln ∧ ln < 256) (hk : kind.tmod 5 = Int.ofNat 0) (hz : zs.length = hl) (hd : Dig zs) (hh : hl ≤ 64) (hN : Stab [] w (fun w => nmH (fun _ => False) w (.tuple #[.pointer (some ⟨db, off, none⟩), .agg (bcells zs).toArray]) 0)) :
    Calls Sagg.prog 6 #[.int .u8 kind, .agg (tsA ts), .int .u8 og, .int .u8 ln, .slice (some ⟨db, off, none⟩) hl hc] w fun e w' => e = .returned (.bool true) ∧ Below w.heap.size w w' := by
  rcases (by omega : hl = 0 ∨ (1 ≤ hl ∧ hl ≤ 32) ∨ (33 ≤ hl ∧ hl ≤ 64)) with hw | hw | hw
  · rcases (by omega : ln = 0 ∨ 0 < ln) with rfl | hl0
    · exact to_00z_calls db off hl hc 0 0 zs ts kind og 0 hog hts hk hz hd hw w hN
    · exact to_00g_calls db off hl hc 0 0 zs ts kind og ln hog hts hk hz hd hw hln hl0 w hN
  · rcases (by omega : ln = 0 ∨ (0 < ln ∧ og + ln ≤ 32) ∨ (0 < ln ∧ 32 < og + ln)) with rfl | hl0 | hl0
    · exact to_01z_calls db off hl hc 0 0 zs ts kind og 0 hog hts hk hz hd hw w hN
    · exact to_01n_calls db off hl hc 0 0 zs ts kind og ln hog hts hk hz hd hw hln hl0.1 hl0.2 w hN
    · exact to_01g_calls db off hl hc 0 0 zs ts kind og ln hog hts hk hz hd hw hln hl0.1 hl0.2 w hN
  · rcases (by omega : ln = 0 ∨ (0 < ln ∧ og + ln ≤ 32) ∨ (0 < ln ∧ (32 < og + ln ∧ og + ln ≤ 64)) ∨ (0 < ln ∧ 64 < og + ln)) with rfl | hl0 | hl0 | hl0
    · exact to_02z_calls db off hl hc 0 0 zs ts kind og 0 hog hts hk hz hd hw w hN
    · exact to_02n_calls db off hl hc 0 0 zs ts kind og ln hog hts hk hz hd hw hln hl0.1 hl0.2 w hN
    · exact to_02e_calls db off hl hc 0 0 zs ts kind og ln hog hts hk hz hd hw hln hl0.1 hl0.2 w hN
    · exact to_02g_calls db off hl hc 0 0 zs ts kind og ln hog hts hk hz hd hw hln hl0.1 hl0.2 w hN
theorem to_l0 {db off k kc : Nat} {zs : List Int} (hog : 0 ≤ og ∧ og < 256) (hts : ∀ i, AllIn (tsl ts i)) (hln : 0 ≤ ln ∧ ln < 256) (hk : kind.tmod 5 = Int.ofNat 0) (hz : zs.length = 64) (hd : Dig zs) (hN : Stab [] w (fun w => nmH (fun _ => False) w (.tuple #[.pointer (some ⟨db, off, none⟩), .agg (bcells zs).toArray]) 0)) :
    Calls Sagg.prog 6 #[.int .u8 kind, .agg (tsA ts), .int .u8 og, .int .u8 ln, .slice (some ⟨db, off, none⟩) (k + 65) (kc + 65)] w fun e w' => e = .returned (.bool true) ∧ Below w.heap.size w w' := by
  rcases (by omega : ln = 0 ∨ (0 < ln ∧ og + ln ≤ 32) ∨ (0 < ln ∧ (32 < og + ln ∧ og + ln ≤ 64)) ∨ (0 < ln ∧ 64 < og + ln)) with rfl | hl0 | hl0 | hl0
  · exact to_0lz_calls db off 0 0 k kc zs ts kind og 0 hog hts hk hz hd w hN
  · exact to_0ln_calls db off 0 0 k kc zs ts kind og ln hog hts hk hz hd hln hl0.1 hl0.2 w hN
  · exact to_0le_calls db off 0 0 k kc zs ts kind og ln hog hts hk hz hd hln hl0.1 hl0.2 w hN
  · exact to_0lg_calls db off 0 0 k kc zs ts kind og ln hog hts hk hz hd hln hl0.1 hl0.2 w hN
theorem to_x1 (hog : 0 ≤ og ∧ og < 256) (hts : ∀ i, AllIn (tsl ts i)) (hln : 0 ≤ ln ∧ ln < 256) (hk : kind.tmod 5 = Int.ofNat 1) : Calls Sagg.prog 6 #[.int .u8 kind, .agg (tsA ts), .int .u8 og, .int .u8 ln, .slice none 0 0] w fun e w' => e = .returned (.bool true) ∧ Below w.heap.size w w' := by
  rcases (by omega : ln = 0 ∨ 0 < ln) with rfl | hl0
  · exact to_1xz_calls ts kind og 0 hog hts hk w
  · exact to_1xg_calls ts kind og ln hog hts hk hln hl0 w
theorem to_s1 {db off hl hc : Nat} {zs : List Int} (hog : 0 ≤ og ∧ og < 256) (hts : ∀ i, AllIn (tsl ts i)) (hln : 0 ≤ ln ∧ ln < 256) (hk : kind.tmod 5 = Int.ofNat 1) (hz : zs.length = hl) (hd : Dig zs) (hh : hl ≤ 64) (hN : Stab [] w (fun w => nmH (fun _ => False) w (.tuple #[.pointer (some ⟨db, off, none⟩), .agg (bcells zs).toArray]) 0)) :
    Calls Sagg.prog 6 #[.int .u8 kind, .agg (tsA ts), .int .u8 og, .int .u8 ln, .slice (some ⟨db, off, none⟩) hl hc] w fun e w' => e = .returned (.bool true) ∧ Below w.heap.size w w' := by
  rcases (by omega : hl = 0 ∨ (1 ≤ hl ∧ hl ≤ 32) ∨ (33 ≤ hl ∧ hl ≤ 64)) with hw | hw | hw
  · rcases (by omega : ln = 0 ∨ 0 < ln) with rfl | hl0
    · exact to_10z_calls db off hl hc 0 0 zs ts kind og 0 hog hts hk hz hd hw w hN
    · exact to_10g_calls db off hl hc 0 0 zs ts kind og ln hog hts hk hz hd hw hln hl0 w hN
  · rcases (by omega : ln = 0 ∨ (0 < ln ∧ og + ln ≤ 32) ∨ (0 < ln ∧ 32 < og + ln)) with rfl | hl0 | hl0
    · exact to_11z_calls db off hl hc 0 0 zs ts kind og 0 hog hts hk hz hd hw w hN
    · exact to_11n_calls db off hl hc 0 0 zs ts kind og ln hog hts hk hz hd hw hln hl0.1 hl0.2 w hN
    · exact to_11g_calls db off hl hc 0 0 zs ts kind og ln hog hts hk hz hd hw hln hl0.1 hl0.2 w hN
  · rcases (by omega : ln = 0 ∨ (0 < ln ∧ og + ln ≤ 32) ∨ (0 < ln ∧ (32 < og + ln ∧ og + ln ≤ 64)) ∨ (0 < ln ∧ 64 < og + ln)) with rfl | hl0 | hl0 | hl0
    · exact to_12z_calls db off hl hc 0 0 zs ts kind og 0 hog hts hk hz hd hw w hN
    · exact to_12n_calls db off hl hc 0 0 zs ts kind og ln hog hts hk hz hd hw hln hl0.1 hl0.2 w hN
    · exact to_12e_calls db off hl hc 0 0 zs ts kind og ln hog hts hk hz hd hw hln hl0.1 hl0.2 w hN
    · exact to_12g_calls db off hl hc 0 0 zs ts kind og ln hog hts hk hz hd hw hln hl0.1 hl0.2 w hN
theorem to_l1 {db off k kc : Nat} {zs : List Int} (hog : 0 ≤ og ∧ og < 256) (hts : ∀ i, AllIn (tsl ts i)) (hln : 0 ≤ ln ∧ ln < 256) (hk : kind.tmod 5 = Int.ofNat 1) (hz : zs.length = 64) (hd : Dig zs) (hN : Stab [] w (fun w => nmH (fun _ => False) w (.tuple #[.pointer (some ⟨db, off, none⟩), .agg (bcells zs).toArray]) 0)) :
    Calls Sagg.prog 6 #[.int .u8 kind, .agg (tsA ts), .int .u8 og, .int .u8 ln, .slice (some ⟨db, off, none⟩) (k + 65) (kc + 65)] w fun e w' => e = .returned (.bool true) ∧ Below w.heap.size w w' := by
  rcases (by omega : ln = 0 ∨ (0 < ln ∧ og + ln ≤ 32) ∨ (0 < ln ∧ (32 < og + ln ∧ og + ln ≤ 64)) ∨ (0 < ln ∧ 64 < og + ln)) with rfl | hl0 | hl0 | hl0
  · exact to_1lz_calls db off 0 0 k kc zs ts kind og 0 hog hts hk hz hd w hN
  · exact to_1ln_calls db off 0 0 k kc zs ts kind og ln hog hts hk hz hd hln hl0.1 hl0.2 w hN
  · exact to_1le_calls db off 0 0 k kc zs ts kind og ln hog hts hk hz hd hln hl0.1 hl0.2 w hN
  · exact to_1lg_calls db off 0 0 k kc zs ts kind og ln hog hts hk hz hd hln hl0.1 hl0.2 w hN
theorem to_x2 (hog : 0 ≤ og ∧ og < 256) (hts : ∀ i, AllIn (tsl ts i)) (hln : 0 ≤ ln ∧ ln < 256) (hk : kind.tmod 5 = Int.ofNat 2) : Calls Sagg.prog 6 #[.int .u8 kind, .agg (tsA ts), .int .u8 og, .int .u8 ln, .slice none 0 0] w fun e w' => e = .returned (.bool true) ∧ Below w.heap.size w w' := by
  rcases (by omega : ln = 0 ∨ 0 < ln) with rfl | hl0
  · exact to_2xz_calls ts kind og 0 hog hts hk w
  · exact to_2xg_calls ts kind og ln hog hts hk hln hl0 w
theorem to_s2 {db off hl hc : Nat} {zs : List Int} (hog : 0 ≤ og ∧ og < 256) (hts : ∀ i, AllIn (tsl ts i)) (hln : 0 ≤ ln ∧ ln < 256) (hk : kind.tmod 5 = Int.ofNat 2) (hz : zs.length = hl) (hd : Dig zs) (hh : hl ≤ 64) (hN : Stab [] w (fun w => nmH (fun _ => False) w (.tuple #[.pointer (some ⟨db, off, none⟩), .agg (bcells zs).toArray]) 0)) :
    Calls Sagg.prog 6 #[.int .u8 kind, .agg (tsA ts), .int .u8 og, .int .u8 ln, .slice (some ⟨db, off, none⟩) hl hc] w fun e w' => e = .returned (.bool true) ∧ Below w.heap.size w w' := by
  rcases (by omega : hl = 0 ∨ (1 ≤ hl ∧ hl ≤ 32) ∨ (33 ≤ hl ∧ hl ≤ 64)) with hw | hw | hw
  · rcases (by omega : ln = 0 ∨ 0 < ln) with rfl | hl0
    · exact to_20z_calls db off hl hc 0 0 zs ts kind og 0 hog hts hk hz hd hw w hN
    · exact to_20g_calls db off hl hc 0 0 zs ts kind og ln hog hts hk hz hd hw hln hl0 w hN
  · rcases (by omega : ln = 0 ∨ (0 < ln ∧ og + ln ≤ 32) ∨ (0 < ln ∧ 32 < og + ln)) with rfl | hl0 | hl0
    · exact to_21z_calls db off hl hc 0 0 zs ts kind og 0 hog hts hk hz hd hw w hN
    · exact to_21n_calls db off hl hc 0 0 zs ts kind og ln hog hts hk hz hd hw hln hl0.1 hl0.2 w hN
    · exact to_21g_calls db off hl hc 0 0 zs ts kind og ln hog hts hk hz hd hw hln hl0.1 hl0.2 w hN
  · rcases (by omega : ln = 0 ∨ (0 < ln ∧ og + ln ≤ 32) ∨ (0 < ln ∧ (32 < og + ln ∧ og + ln ≤ 64)) ∨ (0 < ln ∧ 64 < og + ln)) with rfl | hl0 | hl0 | hl0
    · exact to_22z_calls db off hl hc 0 0 zs ts kind og 0 hog hts hk hz hd hw w hN
    · exact to_22n_calls db off hl hc 0 0 zs ts kind og ln hog hts hk hz hd hw hln hl0.1 hl0.2 w hN
    · exact to_22e_calls db off hl hc 0 0 zs ts kind og ln hog hts hk hz hd hw hln hl0.1 hl0.2 w hN
    · exact to_22g_calls db off hl hc 0 0 zs ts kind og ln hog hts hk hz hd hw hln hl0.1 hl0.2 w hN
theorem to_l2 {db off k kc : Nat} {zs : List Int} (hog : 0 ≤ og ∧ og < 256) (hts : ∀ i, AllIn (tsl ts i)) (hln : 0 ≤ ln ∧ ln < 256) (hk : kind.tmod 5 = Int.ofNat 2) (hz : zs.length = 64) (hd : Dig zs) (hN : Stab [] w (fun w => nmH (fun _ => False) w (.tuple #[.pointer (some ⟨db, off, none⟩), .agg (bcells zs).toArray]) 0)) :
    Calls Sagg.prog 6 #[.int .u8 kind, .agg (tsA ts), .int .u8 og, .int .u8 ln, .slice (some ⟨db, off, none⟩) (k + 65) (kc + 65)] w fun e w' => e = .returned (.bool true) ∧ Below w.heap.size w w' := by
  rcases (by omega : ln = 0 ∨ (0 < ln ∧ og + ln ≤ 32) ∨ (0 < ln ∧ (32 < og + ln ∧ og + ln ≤ 64)) ∨ (0 < ln ∧ 64 < og + ln)) with rfl | hl0 | hl0 | hl0
  · exact to_2lz_calls db off 0 0 k kc zs ts kind og 0 hog hts hk hz hd w hN
  · exact to_2ln_calls db off 0 0 k kc zs ts kind og ln hog hts hk hz hd hln hl0.1 hl0.2 w hN
  · exact to_2le_calls db off 0 0 k kc zs ts kind og ln hog hts hk hz hd hln hl0.1 hl0.2 w hN
  · exact to_2lg_calls db off 0 0 k kc zs ts kind og ln hog hts hk hz hd hln hl0.1 hl0.2 w hN
theorem to_x3 (hog : 0 ≤ og ∧ og < 256) (hts : ∀ i, AllIn (tsl ts i)) (hln : 0 ≤ ln ∧ ln < 256) (hk : kind.tmod 5 = Int.ofNat 3) : Calls Sagg.prog 6 #[.int .u8 kind, .agg (tsA ts), .int .u8 og, .int .u8 ln, .slice none 0 0] w fun e w' => e = .returned (.bool true) ∧ Below w.heap.size w w' := by
  rcases (by omega : ln = 0 ∨ 0 < ln) with rfl | hl0
  · exact to_3xz_calls ts kind og 0 hog hts hk w
  · exact to_3xg_calls ts kind og ln hog hts hk hln hl0 w
theorem to_s3 {db off hl hc : Nat} {zs : List Int} (hog : 0 ≤ og ∧ og < 256) (hts : ∀ i, AllIn (tsl ts i)) (hln : 0 ≤ ln ∧ ln < 256) (hk : kind.tmod 5 = Int.ofNat 3) (hz : zs.length = hl) (hd : Dig zs) (hh : hl ≤ 64) (hN : Stab [] w (fun w => nmH (fun _ => False) w (.tuple #[.pointer (some ⟨db, off, none⟩), .agg (bcells zs).toArray]) 0)) :
    Calls Sagg.prog 6 #[.int .u8 kind, .agg (tsA ts), .int .u8 og, .int .u8 ln, .slice (some ⟨db, off, none⟩) hl hc] w fun e w' => e = .returned (.bool true) ∧ Below w.heap.size w w' := by
  rcases (by omega : hl = 0 ∨ (1 ≤ hl ∧ hl ≤ 32) ∨ (33 ≤ hl ∧ hl ≤ 64)) with hw | hw | hw
  · rcases (by omega : ln = 0 ∨ 0 < ln) with rfl | hl0
    · exact to_30z_calls db off hl hc 0 0 zs ts kind og 0 hog hts hk hz hd hw w hN
    · exact to_30g_calls db off hl hc 0 0 zs ts kind og ln hog hts hk hz hd hw hln hl0 w hN
  · rcases (by omega : ln = 0 ∨ (0 < ln ∧ og + ln ≤ 32) ∨ (0 < ln ∧ 32 < og + ln)) with rfl | hl0 | hl0
    · exact to_31z_calls db off hl hc 0 0 zs ts kind og 0 hog hts hk hz hd hw w hN
    · exact to_31n_calls db off hl hc 0 0 zs ts kind og ln hog hts hk hz hd hw hln hl0.1 hl0.2 w hN
    · exact to_31g_calls db off hl hc 0 0 zs ts kind og ln hog hts hk hz hd hw hln hl0.1 hl0.2 w hN
  · rcases (by omega : ln = 0 ∨ (0 < ln ∧ og + ln ≤ 32) ∨ (0 < ln ∧ (32 < og + ln ∧ og + ln ≤ 64)) ∨ (0 < ln ∧ 64 < og + ln)) with rfl | hl0 | hl0 | hl0
    · exact to_32z_calls db off hl hc 0 0 zs ts kind og 0 hog hts hk hz hd hw w hN
    · exact to_32n_calls db off hl hc 0 0 zs ts kind og ln hog hts hk hz hd hw hln hl0.1 hl0.2 w hN
    · exact to_32e_calls db off hl hc 0 0 zs ts kind og ln hog hts hk hz hd hw hln hl0.1 hl0.2 w hN
    · exact to_32g_calls db off hl hc 0 0 zs ts kind og ln hog hts hk hz hd hw hln hl0.1 hl0.2 w hN
theorem to_l3 {db off k kc : Nat} {zs : List Int} (hog : 0 ≤ og ∧ og < 256) (hts : ∀ i, AllIn (tsl ts i)) (hln : 0 ≤ ln ∧ ln < 256) (hk : kind.tmod 5 = Int.ofNat 3) (hz : zs.length = 64) (hd : Dig zs) (hN : Stab [] w (fun w => nmH (fun _ => False) w (.tuple #[.pointer (some ⟨db, off, none⟩), .agg (bcells zs).toArray]) 0)) :
    Calls Sagg.prog 6 #[.int .u8 kind, .agg (tsA ts), .int .u8 og, .int .u8 ln, .slice (some ⟨db, off, none⟩) (k + 65) (kc + 65)] w fun e w' => e = .returned (.bool true) ∧ Below w.heap.size w w' := by
  rcases (by omega : ln = 0 ∨ (0 < ln ∧ og + ln ≤ 32) ∨ (0 < ln ∧ (32 < og + ln ∧ og + ln ≤ 64)) ∨ (0 < ln ∧ 64 < og + ln)) with rfl | hl0 | hl0 | hl0
  · exact to_3lz_calls db off 0 0 k kc zs ts kind og 0 hog hts hk hz hd w hN
  · exact to_3ln_calls db off 0 0 k kc zs ts kind og ln hog hts hk hz hd hln hl0.1 hl0.2 w hN
  · exact to_3le_calls db off 0 0 k kc zs ts kind og ln hog hts hk hz hd hln hl0.1 hl0.2 w hN
  · exact to_3lg_calls db off 0 0 k kc zs ts kind og ln hog hts hk hz hd hln hl0.1 hl0.2 w hN
theorem to_x4 (hog : 0 ≤ og ∧ og < 256) (hts : ∀ i, AllIn (tsl ts i)) (hln : 0 ≤ ln ∧ ln < 256) (hk : kind.tmod 5 = Int.ofNat 4) : Calls Sagg.prog 6 #[.int .u8 kind, .agg (tsA ts), .int .u8 og, .int .u8 ln, .slice none 0 0] w fun e w' => e = .returned (.bool true) ∧ Below w.heap.size w w' := by
  rcases (by omega : ln = 0 ∨ 0 < ln) with rfl | hl0
  · exact to_4xz_calls ts kind og 0 hog hts hk w
  · exact to_4xg_calls ts kind og ln hog hts hk hln hl0 w
theorem to_s4 {db off hl hc : Nat} {zs : List Int} (hog : 0 ≤ og ∧ og < 256) (hts : ∀ i, AllIn (tsl ts i)) (hln : 0 ≤ ln ∧ ln < 256) (hk : kind.tmod 5 = Int.ofNat 4) (hz : zs.length = hl) (hd : Dig zs) (hh : hl ≤ 64) (hN : Stab [] w (fun w => nmH (fun _ => False) w (.tuple #[.pointer (some ⟨db, off, none⟩), .agg (bcells zs).toArray]) 0)) :
    Calls Sagg.prog 6 #[.int .u8 kind, .agg (tsA ts), .int .u8 og, .int .u8 ln, .slice (some ⟨db, off, none⟩) hl hc] w fun e w' => e = .returned (.bool true) ∧ Below w.heap.size w w' := by
  rcases (by omega : hl = 0 ∨ (1 ≤ hl ∧ hl ≤ 32) ∨ (33 ≤ hl ∧ hl ≤ 64)) with hw | hw | hw
  · rcases (by omega : ln = 0 ∨ 0 < ln) with rfl | hl0
    · exact to_40z_calls db off hl hc 0 0 zs ts kind og 0 hog hts hk hz hd hw w hN
    · exact to_40g_calls db off hl hc 0 0 zs ts kind og ln hog hts hk hz hd hw hln hl0 w hN
  · rcases (by omega : ln = 0 ∨ (0 < ln ∧ og + ln ≤ 32) ∨ (0 < ln ∧ 32 < og + ln)) with rfl | hl0 | hl0
    · exact to_41z_calls db off hl hc 0 0 zs ts kind og 0 hog hts hk hz hd hw w hN
    · exact to_41n_calls db off hl hc 0 0 zs ts kind og ln hog hts hk hz hd hw hln hl0.1 hl0.2 w hN
    · exact to_41g_calls db off hl hc 0 0 zs ts kind og ln hog hts hk hz hd hw hln hl0.1 hl0.2 w hN
  · rcases (by omega : ln = 0 ∨ (0 < ln ∧ og + ln ≤ 32) ∨ (0 < ln ∧ (32 < og + ln ∧ og + ln ≤ 64)) ∨ (0 < ln ∧ 64 < og + ln)) with rfl | hl0 | hl0 | hl0
    · exact to_42z_calls db off hl hc 0 0 zs ts kind og 0 hog hts hk hz hd hw w hN
    · exact to_42n_calls db off hl hc 0 0 zs ts kind og ln hog hts hk hz hd hw hln hl0.1 hl0.2 w hN
    · exact to_42e_calls db off hl hc 0 0 zs ts kind og ln hog hts hk hz hd hw hln hl0.1 hl0.2 w hN
    · exact to_42g_calls db off hl hc 0 0 zs ts kind og ln hog hts hk hz hd hw hln hl0.1 hl0.2 w hN
theorem to_l4 {db off k kc : Nat} {zs : List Int} (hog : 0 ≤ og ∧ og < 256) (hts : ∀ i, AllIn (tsl ts i)) (hln : 0 ≤ ln ∧ ln < 256) (hk : kind.tmod 5 = Int.ofNat 4) (hz : zs.length = 64) (hd : Dig zs) (hN : Stab [] w (fun w => nmH (fun _ => False) w (.tuple #[.pointer (some ⟨db, off, none⟩), .agg (bcells zs).toArray]) 0)) :
    Calls Sagg.prog 6 #[.int .u8 kind, .agg (tsA ts), .int .u8 og, .int .u8 ln, .slice (some ⟨db, off, none⟩) (k + 65) (kc + 65)] w fun e w' => e = .returned (.bool true) ∧ Below w.heap.size w w' := by
  rcases (by omega : ln = 0 ∨ (0 < ln ∧ og + ln ≤ 32) ∨ (0 < ln ∧ (32 < og + ln ∧ og + ln ≤ 64)) ∨ (0 < ln ∧ 64 < og + ln)) with rfl | hl0 | hl0 | hl0
  · exact to_4lz_calls db off 0 0 k kc zs ts kind og 0 hog hts hk hz hd w hN
  · exact to_4ln_calls db off 0 0 k kc zs ts kind og ln hog hts hk hz hd hln hl0.1 hl0.2 w hN
  · exact to_4le_calls db off 0 0 k kc zs ts kind og ln hog hts hk hz hd hln hl0.1 hl0.2 w hN
  · exact to_4lg_calls db off 0 0 k kc zs ts kind og ln hog hts hk hz hd hln hl0.1 hl0.2 w hN
theorem tmod5 {k : Int} (h : 0 ≤ k ∧ k < 256) : k.tmod 5 = Int.ofNat 0 ∨ k.tmod 5 = Int.ofNat 1 ∨ k.tmod 5 = Int.ofNat 2 ∨ k.tmod 5 = Int.ofNat 3 ∨ k.tmod 5 = Int.ofNat 4 := by
  have e : k.tmod 5 = k % 5 := Int.tmod_eq_emod_of_nonneg h.1
  rw [e]
  simp only [Int.ofNat_eq_natCast]
  omega
theorem win_row {db off : Nat} {zs : List Int} (hc : ∀ j, j < zs.length → w.cell? ⟨db, off + j, none⟩ = some (.int .u8 (zs.getD j 0))) : Stab [] w (fun w => nmH (fun _ => False) w (.tuple #[.pointer (some ⟨db, off, none⟩), .agg (bcells zs).toArray]) 0) := by
  refine win_nm (p := (.tuple #[.pointer (some ⟨db, off, none⟩), .agg (bcells zs).toArray], 0)) rfl (fun j u hu => ?_)
  rw [List.getElem?_toArray] at hu
  have hj : j < zs.length := by have := (List.getElem?_eq_some_iff.1 hu).1; rwa [bcells_length] at this
  rw [bcells_get _ _ hj] at hu
  cases hu
  exact hc j hj
theorem to_nil_calls (hog : 0 ≤ og ∧ og < 256) (hts : ∀ i, AllIn (tsl ts i)) (hln : 0 ≤ ln ∧ ln < 256) (hkd : 0 ≤ kind ∧ kind < 256) : Calls Sagg.prog 6 #[.int .u8 kind, .agg (tsA ts), .int .u8 og, .int .u8 ln, .slice none 0 0] w fun e w' => e = .returned (.bool true) ∧ Below w.heap.size w w' := by
  rcases tmod5 hkd with hk | hk | hk | hk | hk
  · exact to_x0 hog hts hln hk
  · exact to_x1 hog hts hln hk
  · exact to_x2 hog hts hln hk
  · exact to_x3 hog hts hln hk
  · exact to_x4 hog hts hln hk
theorem to_row_calls {db off hl hc : Nat} {zs : List Int} (hog : 0 ≤ og ∧ og < 256) (hts : ∀ i, AllIn (tsl ts i)) (hln : 0 ≤ ln ∧ ln < 256) (hkd : 0 ≤ kind ∧ kind < 256) (hlc : hl ≤ hc) (hz : zs.length = hl) (hd : Dig zs) (hcell : ∀ j, j < zs.length → w.cell? ⟨db, off + j, none⟩ = some (.int .u8 (zs.getD j 0))) :
    Calls Sagg.prog 6 #[.int .u8 kind, .agg (tsA ts), .int .u8 og, .int .u8 ln, .slice (some ⟨db, off, none⟩) hl hc] w fun e w' => e = .returned (.bool true) ∧ Below w.heap.size w w' := by
  rcases (by omega : hl ≤ 64 ∨ 65 ≤ hl) with hh | hh
  · have hN := win_row (w := w) hcell
    rcases tmod5 hkd with hk | hk | hk | hk | hk
    · exact to_s0 hog hts hln hk hz hd hh hN
    · exact to_s1 hog hts hln hk hz hd hh hN
    · exact to_s2 hog hts hln hk hz hd hh hN
    · exact to_s3 hog hts hln hk hz hd hh hN
    · exact to_s4 hog hts hln hk hz hd hh hN
  · obtain ⟨k, rfl⟩ : ∃ k, hl = k + 65 := ⟨hl - 65, by omega⟩
    obtain ⟨kc, rfl⟩ : ∃ k, hc = k + 65 := ⟨hc - 65, by omega⟩
    have hz' : (zs.take 64).length = 64 := by rw [List.length_take]; omega
    have hd' : Dig (zs.take 64) := fun x hx => hd x (List.mem_of_mem_take hx)
    have hN := win_row (w := w) (db := db) (off := off) (zs := zs.take 64) (fun j hj => by
      rw [hz'] at hj
      have := hcell j (by omega)
      rw [this]
      simp [List.getD_eq_getElem?_getD, hj])
    rcases tmod5 hkd with hk | hk | hk | hk | hk
    · exact to_l0 hog hts hln hk hz' hd' hN
    · exact to_l1 hog hts hln hk hz' hd' hN
    · exact to_l2 hog hts hln hk hz' hd' hN
    · exact to_l3 hog hts hln hk hz' hd' hN
    · exact to_l4 hog hts hln hk hz' hd' hN
end
end Go.Proofs.EX
