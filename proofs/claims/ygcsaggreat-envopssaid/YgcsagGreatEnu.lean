/-
  'EnvOps': all cases together.
-/
import Derived.Test.YgcsagGreatEnmz
import Derived.Test.YgcsagGreatEnma
import Derived.Test.YgcsagGreatEnmq
import Derived.Test.YgcsagGreatEnmd
import Derived.Test.YgcsagGreatEnme
import Derived.Test.YgcsagGreatEnmm
import Derived.Test.YgcsagGreatEnmf
import Derived.Test.YgcsagGreatEnmx
import Derived.Test.YgcsagGreatEnmh
import Derived.Test.YgcsagGreatEnmg
import Derived.Test.YgcsagGreatEnmb
import Derived.Test.YgcsagGreatEnmu
namespace Go.Proofs.EX
open Go.RowKit Go.Proofs.YgcsagGreat
set_option linter.unusedVariables false
theorem zero_bf {f : Nat → Int} (h : l32 f = l1 0) (ha : Option Addr) (hl hc : Nat) (cb ra ci : Nat → Int) (nu ti gl : Int) : envA ha hl hc cb ra ci f nu ti gl = envA ha hl hc cb ra ci (fun _ => 0) nu ti gl := by
  unfold envA
  rw [h]
  rfl
section
variable {ha : Option Addr} {hl hc : Nat} {cb ra ci bf : Nat → Int} {nu ti gl o : Int} {zs : List Int} {w : World}
theorem en_case_z (hcb : AllIn (l20 cb)) (hra : AllIn (l32 ra)) (hci : AllIn (l32 ci)) (hbf : AllIn (l32 bf)) (hnu : 0 ≤ nu ∧ nu < 18446744073709551616) (hti : 0 ≤ ti ∧ ti < 18446744073709551616) (hgl : 0 ≤ gl ∧ gl < 18446744073709551616) (ho : o = 65 ∨ o = 66 ∨ o = 67 ∨ o = 68 ∨ o = 69 ∨ o = 70 ∨ o = 88 ∨ o = 89 ∨ o = 90) (hh : hl ≤ 4) (hw : WordsFact ha hl ha (bcells zs).toArray) (hge : 200000 ≤ gl) (hB : beV (l20 cb) = 0) (hN : Stab [] w (fun w => nmH (fun _ => False) w (.tuple #[.pointer ha, .agg (bcells zs).toArray]) 0)) :
    Calls Sagg.prog 8 #[.agg (envA ha hl hc cb ra ci (fun _ => 0) nu ti gl), .int .u8 o] w fun e w' => e = .returned (.bool true) ∧ Below w.heap.size w w' := by
  rcases ho with rfl | rfl | rfl | rfl | rfl | rfl | rfl | rfl | rfl
  · exact en_z65_calls ha hl hc zs cb ra ci bf nu ti gl 0 0 hh hw hgl hge hcb (by omega) (by omega) (by omega) (by omega) (by omega) (by omega) (by omega) (by omega) w hN
  · exact en_z66_calls ha hl hc zs cb ra ci bf nu ti gl 0 0 hh hw hgl hti hge hcb (by omega) (by omega) (by omega) (by omega) (by omega) (by omega) (by omega) (by omega) w hN
  · exact en_z67_calls ha hl hc zs cb ra ci bf nu ti gl 0 0 hh hw hgl hnu hge hcb (by omega) (by omega) (by omega) (by omega) (by omega) (by omega) (by omega) (by omega) w hN
  · exact en_z68_calls ha hl hc zs cb ra ci bf nu ti gl 0 0 hh hw hgl hge hcb hra (by omega) (by omega) (by omega) (by omega) (by omega) (by omega) (by omega) (by omega) w hN
  · exact en_z69_calls ha hl hc zs cb ra ci bf nu ti gl 0 0 hh hw hgl hge hcb (by omega) (by omega) (by omega) (by omega) (by omega) (by omega) (by omega) (by omega) w hN
  · exact en_z70_calls ha hl hc zs cb ra ci bf nu ti gl 0 0 hh hw hgl hge hcb hci (by omega) (by omega) (by omega) (by omega) (by omega) (by omega) (by omega) (by omega) w hN
  · exact en_z88_calls ha hl hc zs cb ra ci bf nu ti gl 0 0 hh hw hgl hge hcb (by omega) (by omega) (by omega) (by omega) (by omega) (by omega) (by omega) (by omega) w hN
  · exact en_z89_calls ha hl hc zs cb ra ci bf nu ti gl 0 0 hh hw hgl hge hcb (by omega) (by omega) (by omega) (by omega) (by omega) (by omega) (by omega) (by omega) w hN
  · exact en_z90_calls ha hl hc zs cb ra ci bf nu ti gl 0 0 hh hw hgl hge hcb (by omega) (by omega) (by omega) (by omega) (by omega) (by omega) (by omega) (by omega) w hN
theorem en_case_a (hcb : AllIn (l20 cb)) (hra : AllIn (l32 ra)) (hci : AllIn (l32 ci)) (hbf : AllIn (l32 bf)) (hnu : 0 ≤ nu ∧ nu < 18446744073709551616) (hti : 0 ≤ ti ∧ ti < 18446744073709551616) (hgl : 0 ≤ gl ∧ gl < 18446744073709551616) (ho : o = 65 ∨ o = 66 ∨ o = 67 ∨ o = 68 ∨ o = 69 ∨ o = 70 ∨ o = 88 ∨ o = 89 ∨ o = 90) (hh : hl ≤ 4) (hw : WordsFact ha hl ha (bcells zs).toArray) (hge : 200000 ≤ gl) (hB : beV (l20 cb) = 1) (hN : Stab [] w (fun w => nmH (fun _ => False) w (.tuple #[.pointer ha, .agg (bcells zs).toArray]) 0)) :
    Calls Sagg.prog 8 #[.agg (envA ha hl hc cb ra ci (fun _ => 0) nu ti gl), .int .u8 o] w fun e w' => e = .returned (.bool true) ∧ Below w.heap.size w w' := by
  rcases ho with rfl | rfl | rfl | rfl | rfl | rfl | rfl | rfl | rfl
  · exact en_a65_calls ha hl hc zs cb ra ci bf nu ti gl 0 0 hh hw hgl hge hcb (by omega) (by omega) (by omega) (by omega) (by omega) (by omega) (by omega) w hN
  · exact en_a66_calls ha hl hc zs cb ra ci bf nu ti gl 0 0 hh hw hgl hti hge hcb (by omega) (by omega) (by omega) (by omega) (by omega) (by omega) (by omega) w hN
  · exact en_a67_calls ha hl hc zs cb ra ci bf nu ti gl 0 0 hh hw hgl hnu hge hcb (by omega) (by omega) (by omega) (by omega) (by omega) (by omega) (by omega) w hN
  · exact en_a68_calls ha hl hc zs cb ra ci bf nu ti gl 0 0 hh hw hgl hge hcb hra (by omega) (by omega) (by omega) (by omega) (by omega) (by omega) (by omega) w hN
  · exact en_a69_calls ha hl hc zs cb ra ci bf nu ti gl 0 0 hh hw hgl hge hcb (by omega) (by omega) (by omega) (by omega) (by omega) (by omega) (by omega) w hN
  · exact en_a70_calls ha hl hc zs cb ra ci bf nu ti gl 0 0 hh hw hgl hge hcb hci (by omega) (by omega) (by omega) (by omega) (by omega) (by omega) (by omega) w hN
  · exact en_a88_calls ha hl hc zs cb ra ci bf nu ti gl 0 0 hh hw hgl hge hcb (by omega) (by omega) (by omega) (by omega) (by omega) (by omega) (by omega) w hN
  · exact en_a89_calls ha hl hc zs cb ra ci bf nu ti gl 0 0 hh hw hgl hge hcb (by omega) (by omega) (by omega) (by omega) (by omega) (by omega) (by omega) w hN
  · exact en_a90_calls ha hl hc zs cb ra ci bf nu ti gl 0 0 hh hw hgl hge hcb (by omega) (by omega) (by omega) (by omega) (by omega) (by omega) (by omega) w hN
theorem en_case_q (hcb : AllIn (l20 cb)) (hra : AllIn (l32 ra)) (hci : AllIn (l32 ci)) (hbf : AllIn (l32 bf)) (hnu : 0 ≤ nu ∧ nu < 18446744073709551616) (hti : 0 ≤ ti ∧ ti < 18446744073709551616) (hgl : 0 ≤ gl ∧ gl < 18446744073709551616) (ho : o = 65 ∨ o = 66 ∨ o = 67 ∨ o = 68 ∨ o = 69 ∨ o = 70 ∨ o = 88 ∨ o = 89 ∨ o = 90) (hh : hl ≤ 4) (hw : WordsFact ha hl ha (bcells zs).toArray) (hge : 200000 ≤ gl) (hB : 1 < beV (l20 cb) ∧ beV (l20 cb) < 4) (hN : Stab [] w (fun w => nmH (fun _ => False) w (.tuple #[.pointer ha, .agg (bcells zs).toArray]) 0)) :
    Calls Sagg.prog 8 #[.agg (envA ha hl hc cb ra ci (fun _ => 0) nu ti gl), .int .u8 o] w fun e w' => e = .returned (.bool true) ∧ Below w.heap.size w w' := by
  rcases ho with rfl | rfl | rfl | rfl | rfl | rfl | rfl | rfl | rfl
  · exact en_q65_calls ha hl hc zs cb ra ci bf nu ti gl 0 0 hh hw hgl hge hcb (by omega) (by omega) (by omega) (by omega) (by omega) (by omega) (by omega) (by omega) w hN
  · exact en_q66_calls ha hl hc zs cb ra ci bf nu ti gl 0 0 hh hw hgl hti hge hcb (by omega) (by omega) (by omega) (by omega) (by omega) (by omega) (by omega) (by omega) w hN
  · exact en_q67_calls ha hl hc zs cb ra ci bf nu ti gl 0 0 hh hw hgl hnu hge hcb (by omega) (by omega) (by omega) (by omega) (by omega) (by omega) (by omega) (by omega) w hN
  · exact en_q68_calls ha hl hc zs cb ra ci bf nu ti gl 0 0 hh hw hgl hge hcb hra (by omega) (by omega) (by omega) (by omega) (by omega) (by omega) (by omega) (by omega) w hN
  · exact en_q69_calls ha hl hc zs cb ra ci bf nu ti gl 0 0 hh hw hgl hge hcb (by omega) (by omega) (by omega) (by omega) (by omega) (by omega) (by omega) (by omega) w hN
  · exact en_q70_calls ha hl hc zs cb ra ci bf nu ti gl 0 0 hh hw hgl hge hcb hci (by omega) (by omega) (by omega) (by omega) (by omega) (by omega) (by omega) (by omega) w hN
  · exact en_q88_calls ha hl hc zs cb ra ci bf nu ti gl 0 0 hh hw hgl hge hcb (by omega) (by omega) (by omega) (by omega) (by omega) (by omega) (by omega) (by omega) w hN
  · exact en_q89_calls ha hl hc zs cb ra ci bf nu ti gl 0 0 hh hw hgl hge hcb (by omega) (by omega) (by omega) (by omega) (by omega) (by omega) (by omega) (by omega) w hN
  · exact en_q90_calls ha hl hc zs cb ra ci bf nu ti gl 0 0 hh hw hgl hge hcb (by omega) (by omega) (by omega) (by omega) (by omega) (by omega) (by omega) (by omega) w hN
theorem en_case_d (hcb : AllIn (l20 cb)) (hra : AllIn (l32 ra)) (hci : AllIn (l32 ci)) (hbf : AllIn (l32 bf)) (hnu : 0 ≤ nu ∧ nu < 18446744073709551616) (hti : 0 ≤ ti ∧ ti < 18446744073709551616) (hgl : 0 ≤ gl ∧ gl < 18446744073709551616) (ho : o = 65 ∨ o = 66 ∨ o = 67 ∨ o = 68 ∨ o = 69 ∨ o = 70 ∨ o = 88 ∨ o = 89 ∨ o = 90) (hh : hl ≤ 4) (hw : WordsFact ha hl ha (bcells zs).toArray) (hge : 200000 ≤ gl) (hB : beV (l20 cb) = 4) (hN : Stab [] w (fun w => nmH (fun _ => False) w (.tuple #[.pointer ha, .agg (bcells zs).toArray]) 0)) :
    Calls Sagg.prog 8 #[.agg (envA ha hl hc cb ra ci (fun _ => 0) nu ti gl), .int .u8 o] w fun e w' => e = .returned (.bool true) ∧ Below w.heap.size w w' := by
  rcases ho with rfl | rfl | rfl | rfl | rfl | rfl | rfl | rfl | rfl
  · exact en_d65_calls ha hl hc zs cb ra ci bf nu ti gl 0 0 hh hw hgl hge hcb (by omega) (by omega) (by omega) (by omega) (by omega) (by omega) (by omega) w hN
  · exact en_d66_calls ha hl hc zs cb ra ci bf nu ti gl 0 0 hh hw hgl hti hge hcb (by omega) (by omega) (by omega) (by omega) (by omega) (by omega) (by omega) w hN
  · exact en_d67_calls ha hl hc zs cb ra ci bf nu ti gl 0 0 hh hw hgl hnu hge hcb (by omega) (by omega) (by omega) (by omega) (by omega) (by omega) (by omega) w hN
  · exact en_d68_calls ha hl hc zs cb ra ci bf nu ti gl 0 0 hh hw hgl hge hcb hra (by omega) (by omega) (by omega) (by omega) (by omega) (by omega) (by omega) w hN
  · exact en_d69_calls ha hl hc zs cb ra ci bf nu ti gl 0 0 hh hw hgl hge hcb (by omega) (by omega) (by omega) (by omega) (by omega) (by omega) (by omega) w hN
  · exact en_d70_calls ha hl hc zs cb ra ci bf nu ti gl 0 0 hh hw hgl hge hcb hci (by omega) (by omega) (by omega) (by omega) (by omega) (by omega) (by omega) w hN
  · exact en_d88_calls ha hl hc zs cb ra ci bf nu ti gl 0 0 hh hw hgl hge hcb (by omega) (by omega) (by omega) (by omega) (by omega) (by omega) (by omega) w hN
  · exact en_d89_calls ha hl hc zs cb ra ci bf nu ti gl 0 0 hh hw hgl hge hcb (by omega) (by omega) (by omega) (by omega) (by omega) (by omega) (by omega) w hN
  · exact en_d90_calls ha hl hc zs cb ra ci bf nu ti gl 0 0 hh hw hgl hge hcb (by omega) (by omega) (by omega) (by omega) (by omega) (by omega) (by omega) w hN
theorem en_case_e (hcb : AllIn (l20 cb)) (hra : AllIn (l32 ra)) (hci : AllIn (l32 ci)) (hbf : AllIn (l32 bf)) (hnu : 0 ≤ nu ∧ nu < 18446744073709551616) (hti : 0 ≤ ti ∧ ti < 18446744073709551616) (hgl : 0 ≤ gl ∧ gl < 18446744073709551616) (ho : o = 65 ∨ o = 66 ∨ o = 67 ∨ o = 68 ∨ o = 69 ∨ o = 70 ∨ o = 88 ∨ o = 89 ∨ o = 90) (hh : hl ≤ 4) (hw : WordsFact ha hl ha (bcells zs).toArray) (hge : 200000 ≤ gl) (hB : beV (l20 cb) = 5) (hN : Stab [] w (fun w => nmH (fun _ => False) w (.tuple #[.pointer ha, .agg (bcells zs).toArray]) 0)) :
    Calls Sagg.prog 8 #[.agg (envA ha hl hc cb ra ci (fun _ => 0) nu ti gl), .int .u8 o] w fun e w' => e = .returned (.bool true) ∧ Below w.heap.size w w' := by
  rcases ho with rfl | rfl | rfl | rfl | rfl | rfl | rfl | rfl | rfl
  · exact en_e65_calls ha hl hc zs cb ra ci bf nu ti gl 0 0 hh hw hgl hge hcb (by omega) (by omega) (by omega) (by omega) (by omega) (by omega) (by omega) w hN
  · exact en_e66_calls ha hl hc zs cb ra ci bf nu ti gl 0 0 hh hw hgl hti hge hcb (by omega) (by omega) (by omega) (by omega) (by omega) (by omega) (by omega) w hN
  · exact en_e67_calls ha hl hc zs cb ra ci bf nu ti gl 0 0 hh hw hgl hnu hge hcb (by omega) (by omega) (by omega) (by omega) (by omega) (by omega) (by omega) w hN
  · exact en_e68_calls ha hl hc zs cb ra ci bf nu ti gl 0 0 hh hw hgl hge hcb hra (by omega) (by omega) (by omega) (by omega) (by omega) (by omega) (by omega) w hN
  · exact en_e69_calls ha hl hc zs cb ra ci bf nu ti gl 0 0 hh hw hgl hge hcb (by omega) (by omega) (by omega) (by omega) (by omega) (by omega) (by omega) w hN
  · exact en_e70_calls ha hl hc zs cb ra ci bf nu ti gl 0 0 hh hw hgl hge hcb hci (by omega) (by omega) (by omega) (by omega) (by omega) (by omega) (by omega) w hN
  · exact en_e88_calls ha hl hc zs cb ra ci bf nu ti gl 0 0 hh hw hgl hge hcb (by omega) (by omega) (by omega) (by omega) (by omega) (by omega) (by omega) w hN
  · exact en_e89_calls ha hl hc zs cb ra ci bf nu ti gl 0 0 hh hw hgl hge hcb (by omega) (by omega) (by omega) (by omega) (by omega) (by omega) (by omega) w hN
  · exact en_e90_calls ha hl hc zs cb ra ci bf nu ti gl 0 0 hh hw hgl hge hcb (by omega) (by omega) (by omega) (by omega) (by omega) (by omega) (by omega) w hN
theorem en_case_m (hcb : AllIn (l20 cb)) (hra : AllIn (l32 ra)) (hci : AllIn (l32 ci)) (hbf : AllIn (l32 bf)) (hnu : 0 ≤ nu ∧ nu < 18446744073709551616) (hti : 0 ≤ ti ∧ ti < 18446744073709551616) (hgl : 0 ≤ gl ∧ gl < 18446744073709551616) (ho : o = 65 ∨ o = 66 ∨ o = 67 ∨ o = 68 ∨ o = 69 ∨ o = 70 ∨ o = 88 ∨ o = 89 ∨ o = 90) (hh : hl ≤ 4) (hw : WordsFact ha hl ha (bcells zs).toArray) (hge : 200000 ≤ gl) (hB : 5 < beV (l20 cb) ∧ beV (l20 cb) < 240) (hN : Stab [] w (fun w => nmH (fun _ => False) w (.tuple #[.pointer ha, .agg (bcells zs).toArray]) 0)) :
    Calls Sagg.prog 8 #[.agg (envA ha hl hc cb ra ci (fun _ => 0) nu ti gl), .int .u8 o] w fun e w' => e = .returned (.bool true) ∧ Below w.heap.size w w' := by
  rcases ho with rfl | rfl | rfl | rfl | rfl | rfl | rfl | rfl | rfl
  · exact en_m65_calls ha hl hc zs cb ra ci bf nu ti gl 0 0 hh hw hgl hge hcb (by omega) (by omega) (by omega) (by omega) (by omega) (by omega) (by omega) (by omega) w hN
  · exact en_m66_calls ha hl hc zs cb ra ci bf nu ti gl 0 0 hh hw hgl hti hge hcb (by omega) (by omega) (by omega) (by omega) (by omega) (by omega) (by omega) (by omega) w hN
  · exact en_m67_calls ha hl hc zs cb ra ci bf nu ti gl 0 0 hh hw hgl hnu hge hcb (by omega) (by omega) (by omega) (by omega) (by omega) (by omega) (by omega) (by omega) w hN
  · exact en_m68_calls ha hl hc zs cb ra ci bf nu ti gl 0 0 hh hw hgl hge hcb hra (by omega) (by omega) (by omega) (by omega) (by omega) (by omega) (by omega) (by omega) w hN
  · exact en_m69_calls ha hl hc zs cb ra ci bf nu ti gl 0 0 hh hw hgl hge hcb (by omega) (by omega) (by omega) (by omega) (by omega) (by omega) (by omega) (by omega) w hN
  · exact en_m70_calls ha hl hc zs cb ra ci bf nu ti gl 0 0 hh hw hgl hge hcb hci (by omega) (by omega) (by omega) (by omega) (by omega) (by omega) (by omega) (by omega) w hN
  · exact en_m88_calls ha hl hc zs cb ra ci bf nu ti gl 0 0 hh hw hgl hge hcb (by omega) (by omega) (by omega) (by omega) (by omega) (by omega) (by omega) (by omega) w hN
  · exact en_m89_calls ha hl hc zs cb ra ci bf nu ti gl 0 0 hh hw hgl hge hcb (by omega) (by omega) (by omega) (by omega) (by omega) (by omega) (by omega) (by omega) w hN
  · exact en_m90_calls ha hl hc zs cb ra ci bf nu ti gl 0 0 hh hw hgl hge hcb (by omega) (by omega) (by omega) (by omega) (by omega) (by omega) (by omega) (by omega) w hN
theorem en_case_f (hcb : AllIn (l20 cb)) (hra : AllIn (l32 ra)) (hci : AllIn (l32 ci)) (hbf : AllIn (l32 bf)) (hnu : 0 ≤ nu ∧ nu < 18446744073709551616) (hti : 0 ≤ ti ∧ ti < 18446744073709551616) (hgl : 0 ≤ gl ∧ gl < 18446744073709551616) (ho : o = 65 ∨ o = 66 ∨ o = 67 ∨ o = 68 ∨ o = 69 ∨ o = 70 ∨ o = 88 ∨ o = 89 ∨ o = 90) (hh : hl ≤ 4) (hw : WordsFact ha hl ha (bcells zs).toArray) (hge : 200000 ≤ gl) (hB : beV (l20 cb) = 240) (hN : Stab [] w (fun w => nmH (fun _ => False) w (.tuple #[.pointer ha, .agg (bcells zs).toArray]) 0)) :
    Calls Sagg.prog 8 #[.agg (envA ha hl hc cb ra ci (fun _ => 0) nu ti gl), .int .u8 o] w fun e w' => e = .returned (.bool true) ∧ Below w.heap.size w w' := by
  rcases ho with rfl | rfl | rfl | rfl | rfl | rfl | rfl | rfl | rfl
  · exact en_f65_calls ha hl hc zs cb ra ci bf nu ti gl 0 0 hh hw hgl hge hcb (by omega) (by omega) w hN
  · exact en_f66_calls ha hl hc zs cb ra ci bf nu ti gl 0 0 hh hw hgl hti hge hcb (by omega) (by omega) w hN
  · exact en_f67_calls ha hl hc zs cb ra ci bf nu ti gl 0 0 hh hw hgl hnu hge hcb (by omega) (by omega) w hN
  · exact en_f68_calls ha hl hc zs cb ra ci bf nu ti gl 0 0 hh hw hgl hge hcb hra (by omega) (by omega) w hN
  · exact en_f69_calls ha hl hc zs cb ra ci bf nu ti gl 0 0 hh hw hgl hge hcb (by omega) (by omega) w hN
  · exact en_f70_calls ha hl hc zs cb ra ci bf nu ti gl 0 0 hh hw hgl hge hcb hci (by omega) (by omega) w hN
  · exact en_f88_calls ha hl hc zs cb ra ci bf nu ti gl 0 0 hh hw hgl hge hcb (by omega) (by omega) w hN
  · exact en_f89_calls ha hl hc zs cb ra ci bf nu ti gl 0 0 hh hw hgl hge hcb (by omega) (by omega) w hN
  · exact en_f90_calls ha hl hc zs cb ra ci bf nu ti gl 0 0 hh hw hgl hge hcb (by omega) (by omega) w hN
theorem en_case_x (hcb : AllIn (l20 cb)) (hra : AllIn (l32 ra)) (hci : AllIn (l32 ci)) (hbf : AllIn (l32 bf)) (hnu : 0 ≤ nu ∧ nu < 18446744073709551616) (hti : 0 ≤ ti ∧ ti < 18446744073709551616) (hgl : 0 ≤ gl ∧ gl < 18446744073709551616) (ho : o = 65 ∨ o = 66 ∨ o = 67 ∨ o = 68 ∨ o = 69 ∨ o = 70 ∨ o = 88 ∨ o = 89 ∨ o = 90) (hh : hl ≤ 4) (hw : WordsFact ha hl ha (bcells zs).toArray) (hge : 200000 ≤ gl) (hB : 240 < beV (l20 cb)) (hN : Stab [] w (fun w => nmH (fun _ => False) w (.tuple #[.pointer ha, .agg (bcells zs).toArray]) 0)) :
    Calls Sagg.prog 8 #[.agg (envA ha hl hc cb ra ci (fun _ => 0) nu ti gl), .int .u8 o] w fun e w' => e = .returned (.bool true) ∧ Below w.heap.size w w' := by
  rcases ho with rfl | rfl | rfl | rfl | rfl | rfl | rfl | rfl | rfl
  · exact en_x65_calls ha hl hc zs cb ra ci bf nu ti gl 0 0 hh hw hgl hge hcb (by omega) (by omega) (by omega) (by omega) (by omega) w hN
  · exact en_x66_calls ha hl hc zs cb ra ci bf nu ti gl 0 0 hh hw hgl hti hge hcb (by omega) (by omega) (by omega) (by omega) (by omega) w hN
  · exact en_x67_calls ha hl hc zs cb ra ci bf nu ti gl 0 0 hh hw hgl hnu hge hcb (by omega) (by omega) (by omega) (by omega) (by omega) w hN
  · exact en_x68_calls ha hl hc zs cb ra ci bf nu ti gl 0 0 hh hw hgl hge hcb hra (by omega) (by omega) (by omega) (by omega) (by omega) w hN
  · exact en_x69_calls ha hl hc zs cb ra ci bf nu ti gl 0 0 hh hw hgl hge hcb (by omega) (by omega) (by omega) (by omega) (by omega) w hN
  · exact en_x70_calls ha hl hc zs cb ra ci bf nu ti gl 0 0 hh hw hgl hge hcb hci (by omega) (by omega) (by omega) (by omega) (by omega) w hN
  · exact en_x88_calls ha hl hc zs cb ra ci bf nu ti gl 0 0 hh hw hgl hge hcb (by omega) (by omega) (by omega) (by omega) (by omega) w hN
  · exact en_x89_calls ha hl hc zs cb ra ci bf nu ti gl 0 0 hh hw hgl hge hcb (by omega) (by omega) (by omega) (by omega) (by omega) w hN
  · exact en_x90_calls ha hl hc zs cb ra ci bf nu ti gl 0 0 hh hw hgl hge hcb (by omega) (by omega) (by omega) (by omega) (by omega) w hN
theorem en_case_h (hcb : AllIn (l20 cb)) (hra : AllIn (l32 ra)) (hci : AllIn (l32 ci)) (hbf : AllIn (l32 bf)) (hnu : 0 ≤ nu ∧ nu < 18446744073709551616) (hti : 0 ≤ ti ∧ ti < 18446744073709551616) (hgl : 0 ≤ gl ∧ gl < 18446744073709551616) (ho : o = 65 ∨ o = 66 ∨ o = 67 ∨ o = 68 ∨ o = 69 ∨ o = 70 ∨ o = 88 ∨ o = 89 ∨ o = 90) (hh5 : 4 < hl) (hN : Stab [] w (fun w => nmH (fun _ => False) w (.tuple #[.pointer ha, .agg (bcells zs).toArray]) 0)) :
    Calls Sagg.prog 8 #[.agg (envA ha hl hc cb ra ci bf nu ti gl), .int .u8 o] w fun e w' => e = .returned (.bool true) ∧ Below w.heap.size w w' := by
  rcases ho with rfl | rfl | rfl | rfl | rfl | rfl | rfl | rfl | rfl
  · exact en_h65_calls ha hl hc zs cb ra ci bf nu ti gl 0 0 hh5 w hN
  · exact en_h66_calls ha hl hc zs cb ra ci bf nu ti gl 0 0 hh5 w hN
  · exact en_h67_calls ha hl hc zs cb ra ci bf nu ti gl 0 0 hh5 w hN
  · exact en_h68_calls ha hl hc zs cb ra ci bf nu ti gl 0 0 hh5 w hN
  · exact en_h69_calls ha hl hc zs cb ra ci bf nu ti gl 0 0 hh5 w hN
  · exact en_h70_calls ha hl hc zs cb ra ci bf nu ti gl 0 0 hh5 w hN
  · exact en_h88_calls ha hl hc zs cb ra ci bf nu ti gl 0 0 hh5 w hN
  · exact en_h89_calls ha hl hc zs cb ra ci bf nu ti gl 0 0 hh5 w hN
  · exact en_h90_calls ha hl hc zs cb ra ci bf nu ti gl 0 0 hh5 w hN
theorem en_case_g (hcb : AllIn (l20 cb)) (hra : AllIn (l32 ra)) (hci : AllIn (l32 ci)) (hbf : AllIn (l32 bf)) (hnu : 0 ≤ nu ∧ nu < 18446744073709551616) (hti : 0 ≤ ti ∧ ti < 18446744073709551616) (hgl : 0 ≤ gl ∧ gl < 18446744073709551616) (ho : o = 65 ∨ o = 66 ∨ o = 67 ∨ o = 68 ∨ o = 69 ∨ o = 70 ∨ o = 88 ∨ o = 89 ∨ o = 90) (hh : hl ≤ 4) (hw : WordsFact ha hl ha (bcells zs).toArray) (hlow : gl < 200000) (hN : Stab [] w (fun w => nmH (fun _ => False) w (.tuple #[.pointer ha, .agg (bcells zs).toArray]) 0)) :
    Calls Sagg.prog 8 #[.agg (envA ha hl hc cb ra ci bf nu ti gl), .int .u8 o] w fun e w' => e = .returned (.bool true) ∧ Below w.heap.size w w' := by
  rcases ho with rfl | rfl | rfl | rfl | rfl | rfl | rfl | rfl | rfl
  · exact en_g65_calls ha hl hc zs cb ra ci bf nu ti gl 0 0 hh hw hgl hlow w hN
  · exact en_g66_calls ha hl hc zs cb ra ci bf nu ti gl 0 0 hh hw hgl hlow w hN
  · exact en_g67_calls ha hl hc zs cb ra ci bf nu ti gl 0 0 hh hw hgl hlow w hN
  · exact en_g68_calls ha hl hc zs cb ra ci bf nu ti gl 0 0 hh hw hgl hlow w hN
  · exact en_g69_calls ha hl hc zs cb ra ci bf nu ti gl 0 0 hh hw hgl hlow w hN
  · exact en_g70_calls ha hl hc zs cb ra ci bf nu ti gl 0 0 hh hw hgl hlow w hN
  · exact en_g88_calls ha hl hc zs cb ra ci bf nu ti gl 0 0 hh hw hgl hlow w hN
  · exact en_g89_calls ha hl hc zs cb ra ci bf nu ti gl 0 0 hh hw hgl hlow w hN
  · exact en_g90_calls ha hl hc zs cb ra ci bf nu ti gl 0 0 hh hw hgl hlow w hN
theorem en_case_b (hcb : AllIn (l20 cb)) (hra : AllIn (l32 ra)) (hci : AllIn (l32 ci)) (hbf : AllIn (l32 bf)) (hnu : 0 ≤ nu ∧ nu < 18446744073709551616) (hti : 0 ≤ ti ∧ ti < 18446744073709551616) (hgl : 0 ≤ gl ∧ gl < 18446744073709551616) (ho : o = 65 ∨ o = 66 ∨ o = 67 ∨ o = 68 ∨ o = 69 ∨ o = 70 ∨ o = 88 ∨ o = 89 ∨ o = 90) (hh : hl ≤ 4) (hw : WordsFact ha hl ha (bcells zs).toArray) (hge : 200000 ≤ gl) (hbn : l32 bf ≠ l1 0) (hN : Stab [] w (fun w => nmH (fun _ => False) w (.tuple #[.pointer ha, .agg (bcells zs).toArray]) 0)) :
    Calls Sagg.prog 8 #[.agg (envA ha hl hc cb ra ci bf nu ti gl), .int .u8 o] w fun e w' => e = .returned (.bool true) ∧ Below w.heap.size w w' := by
  rcases ho with rfl | rfl | rfl | rfl | rfl | rfl | rfl | rfl | rfl
  · exact en_b65_calls ha hl hc zs cb ra ci bf nu ti gl 0 0 hh hw hgl hge hbf hbn w hN
  · exact en_b66_calls ha hl hc zs cb ra ci bf nu ti gl 0 0 hh hw hgl hge hbf hbn w hN
  · exact en_b67_calls ha hl hc zs cb ra ci bf nu ti gl 0 0 hh hw hgl hge hbf hbn w hN
  · exact en_b68_calls ha hl hc zs cb ra ci bf nu ti gl 0 0 hh hw hgl hge hbf hbn w hN
  · exact en_b69_calls ha hl hc zs cb ra ci bf nu ti gl 0 0 hh hw hgl hge hbf hbn w hN
  · exact en_b70_calls ha hl hc zs cb ra ci bf nu ti gl 0 0 hh hw hgl hge hbf hbn w hN
  · exact en_b88_calls ha hl hc zs cb ra ci bf nu ti gl 0 0 hh hw hgl hge hbf hbn w hN
  · exact en_b89_calls ha hl hc zs cb ra ci bf nu ti gl 0 0 hh hw hgl hge hbf hbn w hN
  · exact en_b90_calls ha hl hc zs cb ra ci bf nu ti gl 0 0 hh hw hgl hge hbf hbn w hN
theorem en_calls (hcb : AllIn (l20 cb)) (hra : AllIn (l32 ra)) (hci : AllIn (l32 ci)) (hbf : AllIn (l32 bf)) (hnu : 0 ≤ nu ∧ nu < 18446744073709551616) (hti : 0 ≤ ti ∧ ti < 18446744073709551616) (hgl : 0 ≤ gl ∧ gl < 18446744073709551616) (hz : zs.length = 32 * hl) (hr : ByteRow w ha zs) :
    Calls Sagg.prog 8 #[.agg (envA ha hl hc cb ra ci bf nu ti gl), .int .u8 o] w fun e w' => e = .returned (.bool true) ∧ Below w.heap.size w w' := by
  have hN : Stab [] w (fun w => nmH (fun _ => False) w (.tuple #[.pointer ha, .agg (bcells zs).toArray]) 0) := by
    rcases hr.2 with h0 | ⟨b, off, rfl, hcell⟩
    · intro w' _ _ b' o' cs' e j u hu
      have e2 := congrArg Array.toList e
      simp only [List.cons.injEq, and_true, Value.agg.injEq] at e2
      rw [← e2.2, h0] at hu
      simp [bcells] at hu
    · refine win_nm (p := (.tuple #[.pointer (some ⟨b, off, none⟩), .agg (bcells zs).toArray], 0)) rfl (fun j u hu => ?_)
      rw [List.getElem?_toArray] at hu
      have hj : j < zs.length := by have := (List.getElem?_eq_some_iff.1 hu).1; rwa [bcells_length] at this
      rw [bcells_get _ _ hj] at hu
      cases hu
      exact hcell j hj
  have hw : hl ≤ 4 → WordsFact ha hl ha (bcells zs).toArray := fun hh => ⟨rfl, zs, rfl, hz, hh, fun p hp hne => by
    rcases hr.2 with h0 | ⟨b, off, h, _⟩
    · exact absurd h0 hne
    · rw [h] at hp
      cases hp
      rfl⟩
  by_cases ho : o = 65 ∨ o = 66 ∨ o = 67 ∨ o = 68 ∨ o = 69 ∨ o = 70 ∨ o = 88 ∨ o = 89 ∨ o = 90
  · rcases (by omega : hl ≤ 4 ∨ 4 < hl) with hh | hh5
    · have hw := hw hh
      rcases (by omega : gl < 200000 ∨ 200000 ≤ gl) with hlow | hge
      · exact en_case_g hcb hra hci hbf hnu hti hgl ho hh hw hlow hN
      · by_cases hb : l32 bf = l1 0
        · rw [zero_bf hb]
          have h0 := (range_c32 hcb).1
          rcases (by omega : beV (l20 cb) = 0 ∨ beV (l20 cb) = 1 ∨ 1 < beV (l20 cb) ∧ beV (l20 cb) < 4 ∨ beV (l20 cb) = 4 ∨ beV (l20 cb) = 5 ∨ 5 < beV (l20 cb) ∧ beV (l20 cb) < 240 ∨ beV (l20 cb) = 240 ∨ 240 < beV (l20 cb)) with hB | hB | hB | hB | hB | hB | hB | hB
          · exact en_case_z hcb hra hci hbf hnu hti hgl ho hh hw hge hB hN
          · exact en_case_a hcb hra hci hbf hnu hti hgl ho hh hw hge hB hN
          · exact en_case_q hcb hra hci hbf hnu hti hgl ho hh hw hge hB hN
          · exact en_case_d hcb hra hci hbf hnu hti hgl ho hh hw hge hB hN
          · exact en_case_e hcb hra hci hbf hnu hti hgl ho hh hw hge hB hN
          · exact en_case_m hcb hra hci hbf hnu hti hgl ho hh hw hge hB hN
          · exact en_case_f hcb hra hci hbf hnu hti hgl ho hh hw hge hB hN
          · exact en_case_x hcb hra hci hbf hnu hti hgl ho hh hw hge hB hN
        · exact en_case_b hcb hra hci hbf hnu hti hgl ho hh hw hge hb hN
    · exact en_case_h hcb hra hci hbf hnu hti hgl ho hh5 hN
  · exact en_u_calls ha hl hc zs cb ra ci bf nu ti gl o 0 (by omega) (by omega) (by omega) (by omega) (by omega) (by omega) (by omega) (by omega) (by omega) w hN
end
end Go.Proofs.EX
