/-
  'DepositRight': its runs, all together.
-/
import Derived.Test.YgcsagGreatDpmz00i
import Derived.Test.YgcsagGreatDpmz0Li
import Derived.Test.YgcsagGreatDpmzH0i
import Derived.Test.YgcsagGreatDpmzHLi
import Derived.Test.YgcsagGreatDpmz00o
import Derived.Test.YgcsagGreatDpmz0So
import Derived.Test.YgcsagGreatDpmz0Lo
import Derived.Test.YgcsagGreatDpmzH0o
import Derived.Test.YgcsagGreatDpmzHLo
import Derived.Test.YgcsagGreatDpmz0L6
import Derived.Test.YgcsagGreatDpmzH06
import Derived.Test.YgcsagGreatDpmzHL6
import Derived.Test.YgcsagGreatDpmz00s
import Derived.Test.YgcsagGreatDpma00i
import Derived.Test.YgcsagGreatDpma0Li
import Derived.Test.YgcsagGreatDpmaH0i
import Derived.Test.YgcsagGreatDpmaHLi
import Derived.Test.YgcsagGreatDpma00o
import Derived.Test.YgcsagGreatDpma0So
import Derived.Test.YgcsagGreatDpma0Lo
import Derived.Test.YgcsagGreatDpmaH0o
import Derived.Test.YgcsagGreatDpmaHLo
import Derived.Test.YgcsagGreatDpma0L6
import Derived.Test.YgcsagGreatDpmaH06
import Derived.Test.YgcsagGreatDpmaHL6
import Derived.Test.YgcsagGreatDpma00s
import Derived.Test.YgcsagGreatDpmz0Sd
import Derived.Test.YgcsagGreatDpmz0Ss
import Derived.Test.YgcsagGreatDpma0Sd
import Derived.Test.YgcsagGreatDpma0Ss
import Derived.Test.YgcsagGreatDpme0Se
import Derived.Test.YgcsagGreatDpmz0Ld
import Derived.Test.YgcsagGreatDpmz0Ls
import Derived.Test.YgcsagGreatDpma0Ld
import Derived.Test.YgcsagGreatDpma0Ls
import Derived.Test.YgcsagGreatDpme0Le
import Derived.Test.YgcsagGreatDpmz56d
import Derived.Test.YgcsagGreatDpmz56s
import Derived.Test.YgcsagGreatDpma56d
import Derived.Test.YgcsagGreatDpma56s
import Derived.Test.YgcsagGreatDpme56e
import Derived.Test.YgcsagGreatDpmzH0x
import Derived.Test.YgcsagGreatDpmaH0x
import Derived.Test.YgcsagGreatDpmzHLx
import Derived.Test.YgcsagGreatDpmaHLx
namespace Go.Proofs.EX
open Go.RowKit Go.Proofs.YgcsagGreat
set_option linter.unusedVariables false
theorem dpu_z00 (k : Nat) (first gas : Int) (hf : 0 ≤ first ∧ first < 256) (hgas : 0 ≤ gas ∧ gas < 4294967296) (hz : first = 0) (w : World) :
    Calls Sagg.prog 9 #[.int .u16 0, .int .u8 first, .int .u32 gas] w fun e w' => e = .returned (.bool true) ∧ Below w.heap.size w w' := by
  have hgg := ggD_range hgas
  have hE : Int.ofNat (k + 1) = (k : Int) + 1 := rfl
  rcases (by omega : ggD gas < 53110 ∨ (53110 ≤ ggD gas ∧ ggD gas < 53113) ∨ (53113 ≤ ggD gas ∧ ggD gas < 53115) ∨ (53115 ≤ ggD gas ∧ ggD gas < 53121) ∨ (53121 ≤ ggD gas ∧ ggD gas < 53124) ∨ (53124 ≤ ggD gas ∧ ggD gas < 53126) ∨ 53126 ≤ ggD gas) with hg | hg | hg | hg | hg | hg | hg
  · exact dp_z00i_calls 0 0 first gas hf hgas (by omega) (by omega) w
  · exact dp_z001_calls 0 0 first gas hf hgas (by omega) (by omega) (by omega) w
  · exact dp_z002_calls 0 0 first gas hf hgas (by omega) (by omega) (by omega) w
  · exact dp_z003_calls 0 0 first gas hf hgas (by omega) (by omega) (by omega) w
  · exact dp_z004_calls 0 0 first gas hf hgas (by omega) (by omega) (by omega) w
  · exact dp_z005_calls 0 0 first gas hf hgas (by omega) (by omega) (by omega) w
  · exact dp_z00s_calls 0 0 first gas hf hgas (by omega) (by omega) w
theorem dpu_z0S (k : Nat) (first gas : Int) (hf : 0 ≤ first ∧ first < 256) (hgas : 0 ≤ gas ∧ gas < 4294967296) (hz : first = 0) (hK : k ≤ 31) (w : World) :
    Calls Sagg.prog 9 #[.int .u16 (Int.ofNat (k + 1)), .int .u8 first, .int .u32 gas] w fun e w' => e = .returned (.bool true) ∧ Below w.heap.size w w' := by
  have hgg := ggD_range hgas
  have hE : Int.ofNat (k + 1) = (k : Int) + 1 := rfl
  rcases (by omega : ggD gas < 53122 ∨ (53122 ≤ ggD gas ∧ ggD gas < 53125) ∨ (53125 ≤ ggD gas ∧ ggD gas < 53127) ∨ (53127 ≤ ggD gas ∧ ggD gas < 53133) ∨ (53133 ≤ ggD gas ∧ ggD gas < 53136) ∨ (53136 ≤ ggD gas ∧ ggD gas < 53138) ∨ 53138 ≤ ggD gas) with hg | hg | hg | hg | hg | hg | hg
  · exact dp_z0Li_calls 0 (Int.ofNat (k + 1)) first gas hf hgas (by omega) (by omega) (by omega) w
  · exact dp_z0S1_calls 0 (Int.ofNat (k + 1)) first gas hf hgas (by omega) (by omega) (by omega) (by omega) w
  · exact dp_z0S2_calls 0 (Int.ofNat (k + 1)) first gas hf hgas (by omega) (by omega) (by omega) (by omega) w
  · exact dp_z0S3_calls 0 (Int.ofNat (k + 1)) first gas hf hgas (by omega) (by omega) (by omega) (by omega) w
  · exact dp_z0S4_calls 0 (Int.ofNat (k + 1)) first gas hf hgas (by omega) (by omega) (by omega) (by omega) w
  · exact dp_z0S5_calls 0 (Int.ofNat (k + 1)) first gas hf hgas (by omega) (by omega) (by omega) (by omega) w
  · rcases (by omega : 200 * ((k : Int) + 1) ≤ ggD gas - 53138 ∨ ggD gas - 53138 < 200 * ((k : Int) + 1)) with hds | hdf
    · exact dp_z0Ss_calls k 0 first gas hf hgas (by omega) (by omega) (by omega) (by omega) (by omega) w
    · exact dp_z0Sd_calls k 0 first gas hf hgas (by omega) (by omega) (by omega) (by omega) (by omega) w
theorem dpu_z0L (k : Nat) (first gas : Int) (hf : 0 ≤ first ∧ first < 256) (hgas : 0 ≤ gas ∧ gas < 4294967296) (hz : first = 0) (hK : 32 ≤ k ∧ k ≤ 254) (w : World) :
    Calls Sagg.prog 9 #[.int .u16 (Int.ofNat (k + 1)), .int .u8 first, .int .u32 gas] w fun e w' => e = .returned (.bool true) ∧ Below w.heap.size w w' := by
  have hgg := ggD_range hgas
  have hE : Int.ofNat (k + 1) = (k : Int) + 1 := rfl
  rcases (by omega : ggD gas < 53122 ∨ (53122 ≤ ggD gas ∧ ggD gas < 53125) ∨ (53125 ≤ ggD gas ∧ ggD gas < 53127) ∨ (53127 ≤ ggD gas ∧ ggD gas < 53133) ∨ (53133 ≤ ggD gas ∧ ggD gas < 53136) ∨ (53136 ≤ ggD gas ∧ ggD gas < 53138) ∨ (53138 ≤ ggD gas ∧ ggD gas < 53135 + mc (hiD (Int.ofNat (k + 1))) (loD (Int.ofNat (k + 1)))) ∨ (53138 ≤ ggD gas ∧ 53135 + mc (hiD (Int.ofNat (k + 1))) (loD (Int.ofNat (k + 1))) ≤ ggD gas)) with hg | hg | hg | hg | hg | hg | hg | hg
  · exact dp_z0Li_calls 0 (Int.ofNat (k + 1)) first gas hf hgas (by omega) (by omega) (by omega) w
  · exact dp_z0L1_calls 0 (Int.ofNat (k + 1)) first gas hf hgas (by omega) (by omega) (by omega) (by omega) w
  · exact dp_z0L2_calls 0 (Int.ofNat (k + 1)) first gas hf hgas (by omega) (by omega) (by omega) (by omega) w
  · exact dp_z0L3_calls 0 (Int.ofNat (k + 1)) first gas hf hgas (by omega) (by omega) (by omega) (by omega) w
  · exact dp_z0L4_calls 0 (Int.ofNat (k + 1)) first gas hf hgas (by omega) (by omega) (by omega) (by omega) w
  · exact dp_z0L5_calls 0 (Int.ofNat (k + 1)) first gas hf hgas (by omega) (by omega) (by omega) (by omega) w
  · exact dp_z0L6_calls 0 (Int.ofNat (k + 1)) first gas hf hgas (by omega) (by omega) (by omega) (by omega) w
  · rcases (by omega : 200 * ((k : Int) + 1) ≤ ggD gas - (53135 + mc (hiD (Int.ofNat (k + 1))) (loD (Int.ofNat (k + 1)))) ∨ ggD gas - (53135 + mc (hiD (Int.ofNat (k + 1))) (loD (Int.ofNat (k + 1)))) < 200 * ((k : Int) + 1)) with hds | hdf
    · exact dp_z0Ls_calls k 0 first gas hf hgas (by omega) (by omega) (by omega) (by omega) (by omega) (by omega) w
    · exact dp_z0Ld_calls k 0 first gas hf hgas (by omega) (by omega) (by omega) (by omega) (by omega) (by omega) w
theorem dpu_z56 (k : Nat) (first gas : Int) (hf : 0 ≤ first ∧ first < 256) (hgas : 0 ≤ gas ∧ gas < 4294967296) (hz : first = 0) (hK : k = 255) (w : World) :
    Calls Sagg.prog 9 #[.int .u16 (Int.ofNat (k + 1)), .int .u8 first, .int .u32 gas] w fun e w' => e = .returned (.bool true) ∧ Below w.heap.size w w' := by
  have hgg := ggD_range hgas
  have hE : Int.ofNat (k + 1) = (k : Int) + 1 := rfl
  rcases (by omega : ggD gas < 53122 ∨ (53122 ≤ ggD gas ∧ ggD gas < 53125) ∨ (53125 ≤ ggD gas ∧ ggD gas < 53127) ∨ (53127 ≤ ggD gas ∧ ggD gas < 53133) ∨ (53133 ≤ ggD gas ∧ ggD gas < 53136) ∨ (53136 ≤ ggD gas ∧ ggD gas < 53138) ∨ (53138 ≤ ggD gas ∧ ggD gas < 53135 + mc (hiD (Int.ofNat (k + 1))) (loD (Int.ofNat (k + 1)))) ∨ (53138 ≤ ggD gas ∧ 53135 + mc (hiD (Int.ofNat (k + 1))) (loD (Int.ofNat (k + 1))) ≤ ggD gas)) with hg | hg | hg | hg | hg | hg | hg | hg
  · exact dp_zH0i_calls 0 (Int.ofNat (k + 1)) first gas hf hgas (by omega) (by omega) (by omega) w
  · exact dp_zH01_calls 0 (Int.ofNat (k + 1)) first gas hf hgas (by omega) (by omega) (by omega) (by omega) w
  · exact dp_zH02_calls 0 (Int.ofNat (k + 1)) first gas hf hgas (by omega) (by omega) (by omega) (by omega) w
  · exact dp_zH03_calls 0 (Int.ofNat (k + 1)) first gas hf hgas (by omega) (by omega) (by omega) (by omega) w
  · exact dp_zH04_calls 0 (Int.ofNat (k + 1)) first gas hf hgas (by omega) (by omega) (by omega) (by omega) w
  · exact dp_zH05_calls 0 (Int.ofNat (k + 1)) first gas hf hgas (by omega) (by omega) (by omega) (by omega) w
  · exact dp_zH06_calls 0 (Int.ofNat (k + 1)) first gas hf hgas (by omega) (by omega) (by omega) (by omega) w
  · rcases (by omega : 200 * ((k : Int) + 1) ≤ ggD gas - (53135 + mc (hiD (Int.ofNat (k + 1))) (loD (Int.ofNat (k + 1)))) ∨ ggD gas - (53135 + mc (hiD (Int.ofNat (k + 1))) (loD (Int.ofNat (k + 1)))) < 200 * ((k : Int) + 1)) with hds | hdf
    · exact dp_z56s_calls k 0 first gas hf hgas (by omega) (by omega) (by omega) (by omega) (by omega) (by omega) w
    · exact dp_z56d_calls k 0 first gas hf hgas (by omega) (by omega) (by omega) (by omega) (by omega) (by omega) w
theorem dpu_zH0 (k : Nat) (first gas : Int) (hf : 0 ≤ first ∧ first < 256) (hgas : 0 ≤ gas ∧ gas < 4294967296) (hz : first = 0) (hK : 256 ≤ k ∧ k ≤ 65534 ∧ (k + 1) % 256 = 0) (w : World) :
    Calls Sagg.prog 9 #[.int .u16 (Int.ofNat (k + 1)), .int .u8 first, .int .u32 gas] w fun e w' => e = .returned (.bool true) ∧ Below w.heap.size w w' := by
  have hgg := ggD_range hgas
  have hE : Int.ofNat (k + 1) = (k : Int) + 1 := rfl
  rcases (by omega : ggD gas < 53122 ∨ (53122 ≤ ggD gas ∧ ggD gas < 53125) ∨ (53125 ≤ ggD gas ∧ ggD gas < 53127) ∨ (53127 ≤ ggD gas ∧ ggD gas < 53133) ∨ (53133 ≤ ggD gas ∧ ggD gas < 53136) ∨ (53136 ≤ ggD gas ∧ ggD gas < 53138) ∨ (53138 ≤ ggD gas ∧ ggD gas < 53135 + mc (hiD (Int.ofNat (k + 1))) (loD (Int.ofNat (k + 1)))) ∨ (53138 ≤ ggD gas ∧ 53135 + mc (hiD (Int.ofNat (k + 1))) (loD (Int.ofNat (k + 1))) ≤ ggD gas)) with hg | hg | hg | hg | hg | hg | hg | hg
  · exact dp_zH0i_calls 0 (Int.ofNat (k + 1)) first gas hf hgas (by omega) (by omega) (by omega) w
  · exact dp_zH01_calls 0 (Int.ofNat (k + 1)) first gas hf hgas (by omega) (by omega) (by omega) (by omega) w
  · exact dp_zH02_calls 0 (Int.ofNat (k + 1)) first gas hf hgas (by omega) (by omega) (by omega) (by omega) w
  · exact dp_zH03_calls 0 (Int.ofNat (k + 1)) first gas hf hgas (by omega) (by omega) (by omega) (by omega) w
  · exact dp_zH04_calls 0 (Int.ofNat (k + 1)) first gas hf hgas (by omega) (by omega) (by omega) (by omega) w
  · exact dp_zH05_calls 0 (Int.ofNat (k + 1)) first gas hf hgas (by omega) (by omega) (by omega) (by omega) w
  · exact dp_zH06_calls 0 (Int.ofNat (k + 1)) first gas hf hgas (by omega) (by omega) (by omega) (by omega) w
  · exact dp_zH0x_calls k 0 first gas hf hgas (by omega) (by omega) (by omega) (by omega) w
theorem dpu_zHL (k : Nat) (first gas : Int) (hf : 0 ≤ first ∧ first < 256) (hgas : 0 ≤ gas ∧ gas < 4294967296) (hz : first = 0) (hK : 256 ≤ k ∧ k ≤ 65534 ∧ (k + 1) % 256 ≠ 0) (w : World) :
    Calls Sagg.prog 9 #[.int .u16 (Int.ofNat (k + 1)), .int .u8 first, .int .u32 gas] w fun e w' => e = .returned (.bool true) ∧ Below w.heap.size w w' := by
  have hgg := ggD_range hgas
  have hE : Int.ofNat (k + 1) = (k : Int) + 1 := rfl
  rcases (by omega : ggD gas < 53134 ∨ (53134 ≤ ggD gas ∧ ggD gas < 53137) ∨ (53137 ≤ ggD gas ∧ ggD gas < 53139) ∨ (53139 ≤ ggD gas ∧ ggD gas < 53145) ∨ (53145 ≤ ggD gas ∧ ggD gas < 53148) ∨ (53148 ≤ ggD gas ∧ ggD gas < 53150) ∨ (53150 ≤ ggD gas ∧ ggD gas < 53147 + mc (hiD (Int.ofNat (k + 1))) (loD (Int.ofNat (k + 1)))) ∨ (53150 ≤ ggD gas ∧ 53147 + mc (hiD (Int.ofNat (k + 1))) (loD (Int.ofNat (k + 1))) ≤ ggD gas)) with hg | hg | hg | hg | hg | hg | hg | hg
  · exact dp_zHLi_calls 0 (Int.ofNat (k + 1)) first gas hf hgas (by omega) (by omega) (by omega) w
  · exact dp_zHL1_calls 0 (Int.ofNat (k + 1)) first gas hf hgas (by omega) (by omega) (by omega) (by omega) w
  · exact dp_zHL2_calls 0 (Int.ofNat (k + 1)) first gas hf hgas (by omega) (by omega) (by omega) (by omega) w
  · exact dp_zHL3_calls 0 (Int.ofNat (k + 1)) first gas hf hgas (by omega) (by omega) (by omega) (by omega) w
  · exact dp_zHL4_calls 0 (Int.ofNat (k + 1)) first gas hf hgas (by omega) (by omega) (by omega) (by omega) w
  · exact dp_zHL5_calls 0 (Int.ofNat (k + 1)) first gas hf hgas (by omega) (by omega) (by omega) (by omega) w
  · exact dp_zHL6_calls 0 (Int.ofNat (k + 1)) first gas hf hgas (by omega) (by omega) (by omega) (by omega) w
  · exact dp_zHLx_calls k 0 first gas hf hgas (by omega) (by omega) (by omega) (by omega) w
theorem dpu_a00 (k : Nat) (first gas : Int) (hf : 0 ≤ first ∧ first < 256) (hgas : 0 ≤ gas ∧ gas < 4294967296) (hz : 0 < first) (w : World) :
    Calls Sagg.prog 9 #[.int .u16 0, .int .u8 first, .int .u32 gas] w fun e w' => e = .returned (.bool true) ∧ Below w.heap.size w w' := by
  have hgg := ggD_range hgas
  have hE : Int.ofNat (k + 1) = (k : Int) + 1 := rfl
  rcases (by omega : ggD gas < 53122 ∨ (53122 ≤ ggD gas ∧ ggD gas < 53125) ∨ (53125 ≤ ggD gas ∧ ggD gas < 53127) ∨ (53127 ≤ ggD gas ∧ ggD gas < 53133) ∨ (53133 ≤ ggD gas ∧ ggD gas < 53136) ∨ (53136 ≤ ggD gas ∧ ggD gas < 53138) ∨ 53138 ≤ ggD gas) with hg | hg | hg | hg | hg | hg | hg
  · exact dp_a00i_calls 0 0 first gas hf hgas (by omega) (by omega) w
  · exact dp_a001_calls 0 0 first gas hf hgas (by omega) (by omega) (by omega) w
  · exact dp_a002_calls 0 0 first gas hf hgas (by omega) (by omega) (by omega) w
  · exact dp_a003_calls 0 0 first gas hf hgas (by omega) (by omega) (by omega) w
  · exact dp_a004_calls 0 0 first gas hf hgas (by omega) (by omega) (by omega) w
  · exact dp_a005_calls 0 0 first gas hf hgas (by omega) (by omega) (by omega) w
  · exact dp_a00s_calls 0 0 first gas hf hgas (by omega) (by omega) w
theorem dpu_a0S (k : Nat) (first gas : Int) (hf : 0 ≤ first ∧ first < 256) (hgas : 0 ≤ gas ∧ gas < 4294967296) (hz : 0 < first) (hK : k ≤ 31) (w : World) :
    Calls Sagg.prog 9 #[.int .u16 (Int.ofNat (k + 1)), .int .u8 first, .int .u32 gas] w fun e w' => e = .returned (.bool true) ∧ Below w.heap.size w w' := by
  have hgg := ggD_range hgas
  have hE : Int.ofNat (k + 1) = (k : Int) + 1 := rfl
  rcases (by omega : ggD gas < 53134 ∨ (53134 ≤ ggD gas ∧ ggD gas < 53137) ∨ (53137 ≤ ggD gas ∧ ggD gas < 53139) ∨ (53139 ≤ ggD gas ∧ ggD gas < 53145) ∨ (53145 ≤ ggD gas ∧ ggD gas < 53148) ∨ (53148 ≤ ggD gas ∧ ggD gas < 53150) ∨ 53150 ≤ ggD gas) with hg | hg | hg | hg | hg | hg | hg
  · exact dp_a0Li_calls 0 (Int.ofNat (k + 1)) first gas hf hgas (by omega) (by omega) (by omega) w
  · exact dp_a0S1_calls 0 (Int.ofNat (k + 1)) first gas hf hgas (by omega) (by omega) (by omega) (by omega) w
  · exact dp_a0S2_calls 0 (Int.ofNat (k + 1)) first gas hf hgas (by omega) (by omega) (by omega) (by omega) w
  · exact dp_a0S3_calls 0 (Int.ofNat (k + 1)) first gas hf hgas (by omega) (by omega) (by omega) (by omega) w
  · exact dp_a0S4_calls 0 (Int.ofNat (k + 1)) first gas hf hgas (by omega) (by omega) (by omega) (by omega) w
  · exact dp_a0S5_calls 0 (Int.ofNat (k + 1)) first gas hf hgas (by omega) (by omega) (by omega) (by omega) w
  · rcases (by omega : first = 239 ∨ first ≠ 239) with hef | hne
    · exact dp_e0Se_calls k 0 first gas hf hgas (by omega) (by omega) (by omega) (by omega) w
    · rcases (by omega : 200 * ((k : Int) + 1) ≤ ggD gas - 53150 ∨ ggD gas - 53150 < 200 * ((k : Int) + 1)) with hds | hdf
      · exact dp_a0Ss_calls k 0 first gas hf hgas (by omega) (by omega) (by omega) (by omega) (by omega) w
      · exact dp_a0Sd_calls k 0 first gas hf hgas (by omega) (by omega) (by omega) (by omega) (by omega) w
theorem dpu_a0L (k : Nat) (first gas : Int) (hf : 0 ≤ first ∧ first < 256) (hgas : 0 ≤ gas ∧ gas < 4294967296) (hz : 0 < first) (hK : 32 ≤ k ∧ k ≤ 254) (w : World) :
    Calls Sagg.prog 9 #[.int .u16 (Int.ofNat (k + 1)), .int .u8 first, .int .u32 gas] w fun e w' => e = .returned (.bool true) ∧ Below w.heap.size w w' := by
  have hgg := ggD_range hgas
  have hE : Int.ofNat (k + 1) = (k : Int) + 1 := rfl
  rcases (by omega : ggD gas < 53134 ∨ (53134 ≤ ggD gas ∧ ggD gas < 53137) ∨ (53137 ≤ ggD gas ∧ ggD gas < 53139) ∨ (53139 ≤ ggD gas ∧ ggD gas < 53145) ∨ (53145 ≤ ggD gas ∧ ggD gas < 53148) ∨ (53148 ≤ ggD gas ∧ ggD gas < 53150) ∨ (53150 ≤ ggD gas ∧ ggD gas < 53147 + mc (hiD (Int.ofNat (k + 1))) (loD (Int.ofNat (k + 1)))) ∨ (53150 ≤ ggD gas ∧ 53147 + mc (hiD (Int.ofNat (k + 1))) (loD (Int.ofNat (k + 1))) ≤ ggD gas)) with hg | hg | hg | hg | hg | hg | hg | hg
  · exact dp_a0Li_calls 0 (Int.ofNat (k + 1)) first gas hf hgas (by omega) (by omega) (by omega) w
  · exact dp_a0L1_calls 0 (Int.ofNat (k + 1)) first gas hf hgas (by omega) (by omega) (by omega) (by omega) w
  · exact dp_a0L2_calls 0 (Int.ofNat (k + 1)) first gas hf hgas (by omega) (by omega) (by omega) (by omega) w
  · exact dp_a0L3_calls 0 (Int.ofNat (k + 1)) first gas hf hgas (by omega) (by omega) (by omega) (by omega) w
  · exact dp_a0L4_calls 0 (Int.ofNat (k + 1)) first gas hf hgas (by omega) (by omega) (by omega) (by omega) w
  · exact dp_a0L5_calls 0 (Int.ofNat (k + 1)) first gas hf hgas (by omega) (by omega) (by omega) (by omega) w
  · exact dp_a0L6_calls 0 (Int.ofNat (k + 1)) first gas hf hgas (by omega) (by omega) (by omega) (by omega) w
  · rcases (by omega : first = 239 ∨ first ≠ 239) with hef | hne
    · exact dp_e0Le_calls k 0 first gas hf hgas (by omega) (by omega) (by omega) (by omega) (by omega) w
    · rcases (by omega : 200 * ((k : Int) + 1) ≤ ggD gas - (53147 + mc (hiD (Int.ofNat (k + 1))) (loD (Int.ofNat (k + 1)))) ∨ ggD gas - (53147 + mc (hiD (Int.ofNat (k + 1))) (loD (Int.ofNat (k + 1)))) < 200 * ((k : Int) + 1)) with hds | hdf
      · exact dp_a0Ls_calls k 0 first gas hf hgas (by omega) (by omega) (by omega) (by omega) (by omega) (by omega) w
      · exact dp_a0Ld_calls k 0 first gas hf hgas (by omega) (by omega) (by omega) (by omega) (by omega) (by omega) w
theorem dpu_a56 (k : Nat) (first gas : Int) (hf : 0 ≤ first ∧ first < 256) (hgas : 0 ≤ gas ∧ gas < 4294967296) (hz : 0 < first) (hK : k = 255) (w : World) :
    Calls Sagg.prog 9 #[.int .u16 (Int.ofNat (k + 1)), .int .u8 first, .int .u32 gas] w fun e w' => e = .returned (.bool true) ∧ Below w.heap.size w w' := by
  have hgg := ggD_range hgas
  have hE : Int.ofNat (k + 1) = (k : Int) + 1 := rfl
  rcases (by omega : ggD gas < 53134 ∨ (53134 ≤ ggD gas ∧ ggD gas < 53137) ∨ (53137 ≤ ggD gas ∧ ggD gas < 53139) ∨ (53139 ≤ ggD gas ∧ ggD gas < 53145) ∨ (53145 ≤ ggD gas ∧ ggD gas < 53148) ∨ (53148 ≤ ggD gas ∧ ggD gas < 53150) ∨ (53150 ≤ ggD gas ∧ ggD gas < 53147 + mc (hiD (Int.ofNat (k + 1))) (loD (Int.ofNat (k + 1)))) ∨ (53150 ≤ ggD gas ∧ 53147 + mc (hiD (Int.ofNat (k + 1))) (loD (Int.ofNat (k + 1))) ≤ ggD gas)) with hg | hg | hg | hg | hg | hg | hg | hg
  · exact dp_aH0i_calls 0 (Int.ofNat (k + 1)) first gas hf hgas (by omega) (by omega) (by omega) w
  · exact dp_aH01_calls 0 (Int.ofNat (k + 1)) first gas hf hgas (by omega) (by omega) (by omega) (by omega) w
  · exact dp_aH02_calls 0 (Int.ofNat (k + 1)) first gas hf hgas (by omega) (by omega) (by omega) (by omega) w
  · exact dp_aH03_calls 0 (Int.ofNat (k + 1)) first gas hf hgas (by omega) (by omega) (by omega) (by omega) w
  · exact dp_aH04_calls 0 (Int.ofNat (k + 1)) first gas hf hgas (by omega) (by omega) (by omega) (by omega) w
  · exact dp_aH05_calls 0 (Int.ofNat (k + 1)) first gas hf hgas (by omega) (by omega) (by omega) (by omega) w
  · exact dp_aH06_calls 0 (Int.ofNat (k + 1)) first gas hf hgas (by omega) (by omega) (by omega) (by omega) w
  · rcases (by omega : first = 239 ∨ first ≠ 239) with hef | hne
    · exact dp_e56e_calls k 0 first gas hf hgas (by omega) (by omega) (by omega) (by omega) (by omega) w
    · rcases (by omega : 200 * ((k : Int) + 1) ≤ ggD gas - (53147 + mc (hiD (Int.ofNat (k + 1))) (loD (Int.ofNat (k + 1)))) ∨ ggD gas - (53147 + mc (hiD (Int.ofNat (k + 1))) (loD (Int.ofNat (k + 1)))) < 200 * ((k : Int) + 1)) with hds | hdf
      · exact dp_a56s_calls k 0 first gas hf hgas (by omega) (by omega) (by omega) (by omega) (by omega) (by omega) w
      · exact dp_a56d_calls k 0 first gas hf hgas (by omega) (by omega) (by omega) (by omega) (by omega) (by omega) w
theorem dpu_aH0 (k : Nat) (first gas : Int) (hf : 0 ≤ first ∧ first < 256) (hgas : 0 ≤ gas ∧ gas < 4294967296) (hz : 0 < first) (hK : 256 ≤ k ∧ k ≤ 65534 ∧ (k + 1) % 256 = 0) (w : World) :
    Calls Sagg.prog 9 #[.int .u16 (Int.ofNat (k + 1)), .int .u8 first, .int .u32 gas] w fun e w' => e = .returned (.bool true) ∧ Below w.heap.size w w' := by
  have hgg := ggD_range hgas
  have hE : Int.ofNat (k + 1) = (k : Int) + 1 := rfl
  rcases (by omega : ggD gas < 53134 ∨ (53134 ≤ ggD gas ∧ ggD gas < 53137) ∨ (53137 ≤ ggD gas ∧ ggD gas < 53139) ∨ (53139 ≤ ggD gas ∧ ggD gas < 53145) ∨ (53145 ≤ ggD gas ∧ ggD gas < 53148) ∨ (53148 ≤ ggD gas ∧ ggD gas < 53150) ∨ (53150 ≤ ggD gas ∧ ggD gas < 53147 + mc (hiD (Int.ofNat (k + 1))) (loD (Int.ofNat (k + 1)))) ∨ (53150 ≤ ggD gas ∧ 53147 + mc (hiD (Int.ofNat (k + 1))) (loD (Int.ofNat (k + 1))) ≤ ggD gas)) with hg | hg | hg | hg | hg | hg | hg | hg
  · exact dp_aH0i_calls 0 (Int.ofNat (k + 1)) first gas hf hgas (by omega) (by omega) (by omega) w
  · exact dp_aH01_calls 0 (Int.ofNat (k + 1)) first gas hf hgas (by omega) (by omega) (by omega) (by omega) w
  · exact dp_aH02_calls 0 (Int.ofNat (k + 1)) first gas hf hgas (by omega) (by omega) (by omega) (by omega) w
  · exact dp_aH03_calls 0 (Int.ofNat (k + 1)) first gas hf hgas (by omega) (by omega) (by omega) (by omega) w
  · exact dp_aH04_calls 0 (Int.ofNat (k + 1)) first gas hf hgas (by omega) (by omega) (by omega) (by omega) w
  · exact dp_aH05_calls 0 (Int.ofNat (k + 1)) first gas hf hgas (by omega) (by omega) (by omega) (by omega) w
  · exact dp_aH06_calls 0 (Int.ofNat (k + 1)) first gas hf hgas (by omega) (by omega) (by omega) (by omega) w
  · exact dp_aH0x_calls k 0 first gas hf hgas (by omega) (by omega) (by omega) (by omega) w
theorem dpu_aHL (k : Nat) (first gas : Int) (hf : 0 ≤ first ∧ first < 256) (hgas : 0 ≤ gas ∧ gas < 4294967296) (hz : 0 < first) (hK : 256 ≤ k ∧ k ≤ 65534 ∧ (k + 1) % 256 ≠ 0) (w : World) :
    Calls Sagg.prog 9 #[.int .u16 (Int.ofNat (k + 1)), .int .u8 first, .int .u32 gas] w fun e w' => e = .returned (.bool true) ∧ Below w.heap.size w w' := by
  have hgg := ggD_range hgas
  have hE : Int.ofNat (k + 1) = (k : Int) + 1 := rfl
  rcases (by omega : ggD gas < 53146 ∨ (53146 ≤ ggD gas ∧ ggD gas < 53149) ∨ (53149 ≤ ggD gas ∧ ggD gas < 53151) ∨ (53151 ≤ ggD gas ∧ ggD gas < 53157) ∨ (53157 ≤ ggD gas ∧ ggD gas < 53160) ∨ (53160 ≤ ggD gas ∧ ggD gas < 53162) ∨ (53162 ≤ ggD gas ∧ ggD gas < 53159 + mc (hiD (Int.ofNat (k + 1))) (loD (Int.ofNat (k + 1)))) ∨ (53162 ≤ ggD gas ∧ 53159 + mc (hiD (Int.ofNat (k + 1))) (loD (Int.ofNat (k + 1))) ≤ ggD gas)) with hg | hg | hg | hg | hg | hg | hg | hg
  · exact dp_aHLi_calls 0 (Int.ofNat (k + 1)) first gas hf hgas (by omega) (by omega) (by omega) w
  · exact dp_aHL1_calls 0 (Int.ofNat (k + 1)) first gas hf hgas (by omega) (by omega) (by omega) (by omega) w
  · exact dp_aHL2_calls 0 (Int.ofNat (k + 1)) first gas hf hgas (by omega) (by omega) (by omega) (by omega) w
  · exact dp_aHL3_calls 0 (Int.ofNat (k + 1)) first gas hf hgas (by omega) (by omega) (by omega) (by omega) w
  · exact dp_aHL4_calls 0 (Int.ofNat (k + 1)) first gas hf hgas (by omega) (by omega) (by omega) (by omega) w
  · exact dp_aHL5_calls 0 (Int.ofNat (k + 1)) first gas hf hgas (by omega) (by omega) (by omega) (by omega) w
  · exact dp_aHL6_calls 0 (Int.ofNat (k + 1)) first gas hf hgas (by omega) (by omega) (by omega) (by omega) w
  · exact dp_aHLx_calls k 0 first gas hf hgas (by omega) (by omega) (by omega) (by omega) w
theorem dp_calls {n first gas : Int} {w : World} (hn : 0 ≤ n ∧ n < 65536) (hf : 0 ≤ first ∧ first < 256) (hgas : 0 ≤ gas ∧ gas < 4294967296) :
    Calls Sagg.prog 9 #[.int .u16 n, .int .u8 first, .int .u32 gas] w fun e w' => e = .returned (.bool true) ∧ Below w.heap.size w w' := by
  rcases (by omega : n = 0 ∨ 0 < n) with rfl | h0
  · rcases (by omega : first = 0 ∨ 0 < first) with hz | hz
    · exact dpu_z00 0 first gas hf hgas hz w
    · exact dpu_a00 0 first gas hf hgas hz w
  · obtain ⟨k, rfl⟩ : ∃ k : Nat, n = Int.ofNat (k + 1) := ⟨(n - 1).toNat, by simp only [Int.ofNat_eq_natCast]; omega⟩
    have hE : Int.ofNat (k + 1) = (k : Int) + 1 := rfl
    rcases (by omega : k ≤ 31 ∨ (32 ≤ k ∧ k ≤ 254) ∨ k = 255 ∨ (256 ≤ k ∧ k ≤ 65534 ∧ (k + 1) % 256 = 0) ∨ (256 ≤ k ∧ k ≤ 65534 ∧ (k + 1) % 256 ≠ 0)) with hK | hK | hK | hK | hK
    · rcases (by omega : first = 0 ∨ 0 < first) with hz | hz
      · exact dpu_z0S k first gas hf hgas hz hK w
      · exact dpu_a0S k first gas hf hgas hz hK w
    · rcases (by omega : first = 0 ∨ 0 < first) with hz | hz
      · exact dpu_z0L k first gas hf hgas hz hK w
      · exact dpu_a0L k first gas hf hgas hz hK w
    · rcases (by omega : first = 0 ∨ 0 < first) with hz | hz
      · exact dpu_z56 k first gas hf hgas hz hK w
      · exact dpu_a56 k first gas hf hgas hz hK w
    · rcases (by omega : first = 0 ∨ 0 < first) with hz | hz
      · exact dpu_zH0 k first gas hf hgas hz hK w
      · exact dpu_aH0 k first gas hf hgas hz hK w
    · rcases (by omega : first = 0 ∨ 0 < first) with hz | hz
      · exact dpu_zHL k first gas hf hgas hz hK w
      · exact dpu_aHL k first gas hf hgas hz hK w
end Go.Proofs.EX
