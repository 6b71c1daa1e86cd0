/-
  'EnvOps': runs, their parts being chunks.
-/
import Derived.Test.YgcsagGreatEns18
namespace Go.Proofs.EX
open Go.RowKit Go.Proofs.YgcsagGreat
set_option linter.unusedVariables false
set_option linter.unusedSimpArgs false
set_option maxRecDepth 100000
noncomputable def en_h65_cs (ha : Option Addr) (hl hc : Nat) (zs : List Int) (cb ra ci bf : Nat → Int) (nu ti gl o x : Int) : List Ch := [en_u146 ha hl hc zs cb ra ci bf nu ti gl 65 (beV (l20 cb)), en_u147 ha hl hc zs cb ra ci bf nu ti gl 65 (beV (l20 cb))]
noncomputable def en_h65_specs (ha : Option Addr) (hl hc : Nat) (zs : List Int) (cb ra ci bf : Nat → Int) (nu ti gl o x : Int) : List (FuncId × Spec) := (44, chX 44 (en_h65_cs ha hl hc zs cb ra ci bf nu ti gl o x)) :: (31, chX 31 (en_h65_cs ha hl hc zs cb ra ci bf nu ti gl o x)) :: (43, chX 43 (en_h65_cs ha hl hc zs cb ra ci bf nu ti gl o x)) :: (45, chX 45 (en_h65_cs ha hl hc zs cb ra ci bf nu ti gl o x)) :: (59, chX 59 (en_h65_cs ha hl hc zs cb ra ci bf nu ti gl o x)) :: natSpecs3
def en_h65_H_0 : List Nat := nat_lit 100000 :: nat_lit 0 :: nat_lit 0 :: nat_lit 1 :: nat_lit 0 :: nat_lit 3 :: nat_lit 1 :: nat_lit 0 :: nat_lit 2 :: nat_lit 1 :: nat_lit 0 :: nat_lit 1 :: nat_lit 1 :: nat_lit 0 :: nat_lit 4 :: nat_lit 100000 :: nat_lit 0 :: nat_lit 0 :: nat_lit 0 :: nat_lit 0 :: nat_lit 0 :: nat_lit 1 :: nat_lit 0 :: nat_lit 2 :: nat_lit 1 :: nat_lit 3 :: nat_lit 0 :: nat_lit 1 :: nat_lit 0 :: nat_lit 0 :: nat_lit 0 :: nat_lit 0 :: nat_lit 1 :: nat_lit 7 :: nat_lit 10 :: nat_lit 0 :: nat_lit 0 :: nat_lit 0 :: nat_lit 3 :: nat_lit 0 :: nat_lit 1 :: nat_lit 1 :: nat_lit 1 :: nat_lit 2 :: nat_lit 0 :: nat_lit 1 :: nat_lit 0 :: nat_lit 0 :: nat_lit 1 :: nat_lit 0 :: nat_lit 0 :: nat_lit 0 :: nat_lit 8 :: nat_lit 1 :: nat_lit 2 :: nat_lit 0 :: nat_lit 1 :: nat_lit 12 :: nat_lit 1 :: nat_lit 0 :: nat_lit 0 :: nat_lit 0 :: nat_lit 0 :: nat_lit 0 :: nat_lit 0 :: nat_lit 0 :: nat_lit 0 :: nat_lit 0 :: nat_lit 0 :: nat_lit 0 :: nat_lit 0 :: nat_lit 0 :: nat_lit 0 :: nat_lit 1 :: nat_lit 1 :: nat_lit 2 :: nat_lit 2 :: nat_lit 3 :: nat_lit 1 :: nat_lit 1 :: nat_lit 4 :: nat_lit 0 :: nat_lit 1 :: nat_lit 0 :: nat_lit 3 :: nat_lit 2 :: nat_lit 0 :: nat_lit 0 :: nat_lit 0 :: nat_lit 1 :: nat_lit 3 :: nat_lit 0 :: nat_lit 0 :: nat_lit 1 :: nat_lit 0 :: nat_lit 3 :: nat_lit 100000 :: nat_lit 1 :: nat_lit 1 :: nat_lit 0 :: nat_lit 0 :: nat_lit 5 :: nat_lit 0 :: nat_lit 6 :: nat_lit 0 :: nat_lit 7 :: nat_lit 0 :: nat_lit 8 :: nat_lit 0 :: nat_lit 9 :: nat_lit 0 :: []
def en_h65_T_0 : List (Tk ⊕ (Nat × List (Nat × Nat × Nat))) := .inl .b :: .inl .b :: .inl .b :: .inl .b :: .inl .b :: .inl (.lb (nat_lit 3)) :: .inl (.lb (nat_lit 0)) :: .inl (.lb (nat_lit 2)) :: .inl (.lb (nat_lit 0)) :: .inl (.lb (nat_lit 1)) :: .inl (.lb (nat_lit 0)) :: .inl (.lb (nat_lit 0)) :: .inl (.lb (nat_lit 4)) :: .inl .b :: .inl .b :: .inl (.lb (nat_lit 0)) :: .inl (.lb (nat_lit 1)) :: .inl (.lb (nat_lit 0)) :: .inl (.lb (nat_lit 0)) :: .inl (.lb (nat_lit 0)) :: .inl .b :: .inl (.lb (nat_lit 0)) :: .inl (.lb (nat_lit 7)) :: .inl .b :: .inl (.lb (nat_lit 0)) :: .inl .b :: .inl (.lb (nat_lit 0)) :: .inl (.lb (nat_lit 0)) :: .inl .b :: .inl (.lb (nat_lit 0)) :: .inl .b :: .inl (.lb (nat_lit 0)) :: .inl (.lb (nat_lit 7)) :: .inl (.lb (nat_lit 1)) :: .inl (.lb (nat_lit 1)) :: .inl .b :: .inl (.lb (nat_lit 0)) :: .inl .b :: .inl .b :: .inl .b :: .inl .b :: .inl (.lb (nat_lit 0)) :: .inl (.lb (nat_lit 0)) :: .inl (.lb (nat_lit 1)) :: .inl (.lb (nat_lit 1)) :: .inl .b :: .inl (.lb (nat_lit 0)) :: .inl (.lb (nat_lit 4)) :: .inl (.lc 3 1 55) :: .inl .b :: .inl .b :: .inl .b :: .inl (.lb (nat_lit 0)) :: .inr (0, [(0, 0, 0), (2, 0, 0), (9, 0, 0), (1, 0, 0)]) :: .inr (1, [(5, 0, 0), (3, 0, 0), (12, 0, 0), (4, 0, 0)]) :: .inl (.lb (nat_lit 4)) :: .inl .b :: .inl (.lb (nat_lit 0)) :: .inl (.lo (nat_lit 0)) :: []
theorem en_h65_main (ha : Option Addr) (hl hc : Nat) (zs : List Int) (cb ra ci bf : Nat → Int) (nu ti gl o x : Int) : EF Sagg.prog (en_h65_specs ha hl hc zs cb ra ci bf nu ti gl o x) 300 60 [] 8 #[.agg (envA ha hl hc cb ra ci bf nu ti gl), .int .u8 65] (fun v _ _ => v = .bool true) ⟨[], [(.tuple #[.pointer ha, .agg (bcells zs).toArray], 0)]⟩ en_h65_H_0
  = buildC (en_h65_cs ha hl hc zs cb ra ci bf nu ti gl o x) [Told Sagg.prog .leq 3 (.int .i64 (Int.ofNat hl)) (.int .i64 4) (toldV 0 0)] (fun _ => Value.bool true = .bool true) en_h65_T_0 [] := by kernel_rfl
theorem en_h65_calls (ha : Option Addr) (hl hc : Nat) (zs : List Int) (cb ra ci bf : Nat → Int) (nu ti gl o x : Int) (hh5 : 4 < hl) (w : World) (hN : Stab [] w (fun w => nmH (fun _ => False) w (.tuple #[.pointer ha, .agg (bcells zs).toArray]) 0)) :
    Calls Sagg.prog 8 #[.agg (envA ha hl hc cb ra ci bf nu ti gl), .int .u8 65] w fun e w' => e = .returned (.bool true) ∧ Below w.heap.size w w' := by
  have hcs : ∀ c ∈ en_h65_cs ha hl hc zs cb ra ci bf nu ti gl o x, c.Ran natSpecs3 300 60 := by
    unfold en_h65_cs
    simp only [List.forall_mem_cons]
    exact ⟨en_u146_ran hh5, en_u147_ran, fun c hc => by cases hc⟩
  have hsp : ∀ p ∈ en_h65_specs ha hl hc zs cb ra ci bf nu ti gl o x, SpecOK p.1 p.2 := by
    intro p hp
    unfold en_h65_specs at hp
    rcases List.mem_cons.1 hp with rfl | hp
    · exact chX_ok (R := 300) (d := 60) natSpecs3_ok hcs
    rcases List.mem_cons.1 hp with rfl | hp
    · exact chX_ok (R := 300) (d := 60) natSpecs3_ok hcs
    rcases List.mem_cons.1 hp with rfl | hp
    · exact chX_ok (R := 300) (d := 60) natSpecs3_ok hcs
    rcases List.mem_cons.1 hp with rfl | hp
    · exact chX_ok (R := 300) (d := 60) natSpecs3_ok hcs
    rcases List.mem_cons.1 hp with rfl | hp
    · exact chX_ok (R := 300) (d := 60) natSpecs3_ok hcs
    exact natSpecs3_ok p hp
  have hrun : EF Sagg.prog (en_h65_specs ha hl hc zs cb ra ci bf nu ti gl o x) 300 60 [] 8 #[.agg (envA ha hl hc cb ra ci bf nu ti gl), .int .u8 65] (fun v _ _ => v = .bool true) ⟨[], [(.tuple #[.pointer ha, .agg (bcells zs).toArray], 0)]⟩ en_h65_H_0 := by
    refine of_eq (en_h65_main ha hl hc zs cb ra ci bf nu ti gl o x) ?_
    refine buildC_ok ?_ (fun _ => rfl) _ _ (by kernel_rfl)
    exact (ho_cons (told_le0 (by have : (4 : Int) < ((hl : Nat) : Int) := (by omega); exact this)) ho_nil)
  refine (closed (S := fun _ => False) hsp (fun b hb => hb.elim) hrun (fun p hp => by
    rcases List.mem_cons.1 hp with rfl | hp
    · exact hN
    · cases hp)).mono ?_
  rintro e w' ⟨v, s', H', rfl, rfl, hi⟩
  exact ⟨rfl, hi.below⟩
noncomputable def en_h66_cs (ha : Option Addr) (hl hc : Nat) (zs : List Int) (cb ra ci bf : Nat → Int) (nu ti gl o x : Int) : List Ch := [en_u146 ha hl hc zs cb ra ci bf nu ti gl 66 ti, en_u147 ha hl hc zs cb ra ci bf nu ti gl 66 ti]
noncomputable def en_h66_specs (ha : Option Addr) (hl hc : Nat) (zs : List Int) (cb ra ci bf : Nat → Int) (nu ti gl o x : Int) : List (FuncId × Spec) := (44, chX 44 (en_h66_cs ha hl hc zs cb ra ci bf nu ti gl o x)) :: (31, chX 31 (en_h66_cs ha hl hc zs cb ra ci bf nu ti gl o x)) :: (43, chX 43 (en_h66_cs ha hl hc zs cb ra ci bf nu ti gl o x)) :: (45, chX 45 (en_h66_cs ha hl hc zs cb ra ci bf nu ti gl o x)) :: (59, chX 59 (en_h66_cs ha hl hc zs cb ra ci bf nu ti gl o x)) :: natSpecs3
def en_h66_H_0 : List Nat := nat_lit 100000 :: nat_lit 0 :: nat_lit 0 :: nat_lit 1 :: nat_lit 0 :: nat_lit 3 :: nat_lit 1 :: nat_lit 0 :: nat_lit 2 :: nat_lit 1 :: nat_lit 0 :: nat_lit 1 :: nat_lit 1 :: nat_lit 0 :: nat_lit 4 :: nat_lit 100000 :: nat_lit 0 :: nat_lit 0 :: nat_lit 1 :: nat_lit 0 :: nat_lit 0 :: nat_lit 0 :: nat_lit 0 :: nat_lit 0 :: nat_lit 0 :: nat_lit 0 :: nat_lit 0 :: nat_lit 0 :: nat_lit 0 :: nat_lit 1 :: nat_lit 1 :: nat_lit 2 :: nat_lit 2 :: nat_lit 2 :: nat_lit 2 :: nat_lit 0 :: nat_lit 1 :: nat_lit 9 :: nat_lit 10 :: nat_lit 0 :: nat_lit 0 :: nat_lit 0 :: nat_lit 3 :: nat_lit 0 :: nat_lit 1 :: nat_lit 1 :: nat_lit 1 :: nat_lit 2 :: nat_lit 0 :: nat_lit 1 :: nat_lit 0 :: nat_lit 0 :: nat_lit 1 :: nat_lit 0 :: nat_lit 0 :: nat_lit 0 :: nat_lit 10 :: nat_lit 1 :: nat_lit 2 :: nat_lit 0 :: nat_lit 1 :: nat_lit 14 :: nat_lit 1 :: nat_lit 0 :: nat_lit 0 :: nat_lit 0 :: nat_lit 0 :: nat_lit 0 :: nat_lit 0 :: nat_lit 0 :: nat_lit 0 :: nat_lit 0 :: nat_lit 0 :: nat_lit 0 :: nat_lit 0 :: nat_lit 0 :: nat_lit 0 :: nat_lit 0 :: nat_lit 0 :: nat_lit 1 :: nat_lit 1 :: nat_lit 2 :: nat_lit 2 :: nat_lit 3 :: nat_lit 1 :: nat_lit 1 :: nat_lit 4 :: nat_lit 0 :: nat_lit 1 :: nat_lit 0 :: nat_lit 3 :: nat_lit 2 :: nat_lit 0 :: nat_lit 0 :: nat_lit 0 :: nat_lit 1 :: nat_lit 3 :: nat_lit 0 :: nat_lit 0 :: nat_lit 1 :: nat_lit 0 :: nat_lit 3 :: nat_lit 100000 :: nat_lit 1 :: nat_lit 1 :: nat_lit 0 :: nat_lit 0 :: nat_lit 5 :: nat_lit 0 :: nat_lit 6 :: nat_lit 0 :: nat_lit 7 :: nat_lit 0 :: nat_lit 8 :: nat_lit 0 :: nat_lit 9 :: nat_lit 0 :: []
def en_h66_T_0 : List (Tk ⊕ (Nat × List (Nat × Nat × Nat))) := .inl .b :: .inl .b :: .inl .b :: .inl .b :: .inl .b :: .inl (.lb (nat_lit 3)) :: .inl (.lb (nat_lit 0)) :: .inl (.lb (nat_lit 2)) :: .inl (.lb (nat_lit 0)) :: .inl (.lb (nat_lit 1)) :: .inl (.lb (nat_lit 0)) :: .inl (.lb (nat_lit 0)) :: .inl (.lb (nat_lit 4)) :: .inl .b :: .inl .b :: .inl (.lb (nat_lit 1)) :: .inl .b :: .inl .b :: .inl (.lb (nat_lit 0)) :: .inl (.lb (nat_lit 0)) :: .inl (.lb (nat_lit 0)) :: .inl (.lb (nat_lit 0)) :: .inl (.lb (nat_lit 0)) :: .inl (.lb (nat_lit 0)) :: .inl (.lb (nat_lit 0)) :: .inl (.lb (nat_lit 0)) :: .inl (.lb (nat_lit 0)) :: .inl (.lb (nat_lit 1)) :: .inl (.lb (nat_lit 1)) :: .inl (.lb (nat_lit 2)) :: .inl (.lb (nat_lit 2)) :: .inl (.lb (nat_lit 2)) :: .inl (.lb (nat_lit 2)) :: .inl .b :: .inl (.lb (nat_lit 0)) :: .inl (.lb (nat_lit 9)) :: .inl .b :: .inl (.lb (nat_lit 0)) :: .inl .b :: .inl (.lb (nat_lit 0)) :: .inl (.lb (nat_lit 0)) :: .inl .b :: .inl (.lb (nat_lit 0)) :: .inl .b :: .inl (.lb (nat_lit 0)) :: .inl (.lb (nat_lit 9)) :: .inl (.lb (nat_lit 1)) :: .inl (.lb (nat_lit 1)) :: .inl .b :: .inl (.lb (nat_lit 0)) :: .inl .b :: .inl .b :: .inl .b :: .inl .b :: .inl (.lb (nat_lit 0)) :: .inl (.lb (nat_lit 0)) :: .inl (.lb (nat_lit 1)) :: .inl (.lb (nat_lit 1)) :: .inl .b :: .inl (.lb (nat_lit 0)) :: .inl (.lb (nat_lit 4)) :: .inl (.lc 3 1 55) :: .inl .b :: .inl .b :: .inl .b :: .inl (.lb (nat_lit 0)) :: .inr (0, [(0, 0, 0), (2, 0, 0), (9, 0, 0), (1, 0, 0)]) :: .inr (1, [(5, 0, 0), (3, 0, 0), (12, 0, 0), (4, 0, 0)]) :: .inl (.lb (nat_lit 4)) :: .inl .b :: .inl (.lb (nat_lit 0)) :: .inl (.lo (nat_lit 0)) :: []
theorem en_h66_main (ha : Option Addr) (hl hc : Nat) (zs : List Int) (cb ra ci bf : Nat → Int) (nu ti gl o x : Int) : EF Sagg.prog (en_h66_specs ha hl hc zs cb ra ci bf nu ti gl o x) 300 60 [] 8 #[.agg (envA ha hl hc cb ra ci bf nu ti gl), .int .u8 66] (fun v _ _ => v = .bool true) ⟨[], [(.tuple #[.pointer ha, .agg (bcells zs).toArray], 0)]⟩ en_h66_H_0
  = buildC (en_h66_cs ha hl hc zs cb ra ci bf nu ti gl o x) [Told Sagg.prog .leq 3 (.int .i64 (Int.ofNat hl)) (.int .i64 4) (toldV 0 0)] (fun _ => Value.bool true = .bool true) en_h66_T_0 [] := by kernel_rfl
theorem en_h66_calls (ha : Option Addr) (hl hc : Nat) (zs : List Int) (cb ra ci bf : Nat → Int) (nu ti gl o x : Int) (hh5 : 4 < hl) (w : World) (hN : Stab [] w (fun w => nmH (fun _ => False) w (.tuple #[.pointer ha, .agg (bcells zs).toArray]) 0)) :
    Calls Sagg.prog 8 #[.agg (envA ha hl hc cb ra ci bf nu ti gl), .int .u8 66] w fun e w' => e = .returned (.bool true) ∧ Below w.heap.size w w' := by
  have hcs : ∀ c ∈ en_h66_cs ha hl hc zs cb ra ci bf nu ti gl o x, c.Ran natSpecs3 300 60 := by
    unfold en_h66_cs
    simp only [List.forall_mem_cons]
    exact ⟨en_u146_ran hh5, en_u147_ran, fun c hc => by cases hc⟩
  have hsp : ∀ p ∈ en_h66_specs ha hl hc zs cb ra ci bf nu ti gl o x, SpecOK p.1 p.2 := by
    intro p hp
    unfold en_h66_specs at hp
    rcases List.mem_cons.1 hp with rfl | hp
    · exact chX_ok (R := 300) (d := 60) natSpecs3_ok hcs
    rcases List.mem_cons.1 hp with rfl | hp
    · exact chX_ok (R := 300) (d := 60) natSpecs3_ok hcs
    rcases List.mem_cons.1 hp with rfl | hp
    · exact chX_ok (R := 300) (d := 60) natSpecs3_ok hcs
    rcases List.mem_cons.1 hp with rfl | hp
    · exact chX_ok (R := 300) (d := 60) natSpecs3_ok hcs
    rcases List.mem_cons.1 hp with rfl | hp
    · exact chX_ok (R := 300) (d := 60) natSpecs3_ok hcs
    exact natSpecs3_ok p hp
  have hrun : EF Sagg.prog (en_h66_specs ha hl hc zs cb ra ci bf nu ti gl o x) 300 60 [] 8 #[.agg (envA ha hl hc cb ra ci bf nu ti gl), .int .u8 66] (fun v _ _ => v = .bool true) ⟨[], [(.tuple #[.pointer ha, .agg (bcells zs).toArray], 0)]⟩ en_h66_H_0 := by
    refine of_eq (en_h66_main ha hl hc zs cb ra ci bf nu ti gl o x) ?_
    refine buildC_ok ?_ (fun _ => rfl) _ _ (by kernel_rfl)
    exact (ho_cons (told_le0 (by have : (4 : Int) < ((hl : Nat) : Int) := (by omega); exact this)) ho_nil)
  refine (closed (S := fun _ => False) hsp (fun b hb => hb.elim) hrun (fun p hp => by
    rcases List.mem_cons.1 hp with rfl | hp
    · exact hN
    · cases hp)).mono ?_
  rintro e w' ⟨v, s', H', rfl, rfl, hi⟩
  exact ⟨rfl, hi.below⟩
noncomputable def en_h67_cs (ha : Option Addr) (hl hc : Nat) (zs : List Int) (cb ra ci bf : Nat → Int) (nu ti gl o x : Int) : List Ch := [en_u146 ha hl hc zs cb ra ci bf nu ti gl 67 nu, en_u147 ha hl hc zs cb ra ci bf nu ti gl 67 nu]
noncomputable def en_h67_specs (ha : Option Addr) (hl hc : Nat) (zs : List Int) (cb ra ci bf : Nat → Int) (nu ti gl o x : Int) : List (FuncId × Spec) := (44, chX 44 (en_h67_cs ha hl hc zs cb ra ci bf nu ti gl o x)) :: (31, chX 31 (en_h67_cs ha hl hc zs cb ra ci bf nu ti gl o x)) :: (43, chX 43 (en_h67_cs ha hl hc zs cb ra ci bf nu ti gl o x)) :: (45, chX 45 (en_h67_cs ha hl hc zs cb ra ci bf nu ti gl o x)) :: (59, chX 59 (en_h67_cs ha hl hc zs cb ra ci bf nu ti gl o x)) :: natSpecs3
def en_h67_H_0 : List Nat := nat_lit 100000 :: nat_lit 0 :: nat_lit 0 :: nat_lit 1 :: nat_lit 0 :: nat_lit 3 :: nat_lit 1 :: nat_lit 0 :: nat_lit 2 :: nat_lit 1 :: nat_lit 0 :: nat_lit 1 :: nat_lit 1 :: nat_lit 0 :: nat_lit 4 :: nat_lit 100000 :: nat_lit 0 :: nat_lit 0 :: nat_lit 0 :: nat_lit 1 :: nat_lit 0 :: nat_lit 0 :: nat_lit 0 :: nat_lit 0 :: nat_lit 0 :: nat_lit 0 :: nat_lit 0 :: nat_lit 0 :: nat_lit 0 :: nat_lit 0 :: nat_lit 1 :: nat_lit 1 :: nat_lit 2 :: nat_lit 2 :: nat_lit 2 :: nat_lit 2 :: nat_lit 0 :: nat_lit 1 :: nat_lit 9 :: nat_lit 10 :: nat_lit 0 :: nat_lit 0 :: nat_lit 0 :: nat_lit 3 :: nat_lit 0 :: nat_lit 1 :: nat_lit 1 :: nat_lit 1 :: nat_lit 2 :: nat_lit 0 :: nat_lit 1 :: nat_lit 0 :: nat_lit 0 :: nat_lit 1 :: nat_lit 0 :: nat_lit 0 :: nat_lit 0 :: nat_lit 10 :: nat_lit 1 :: nat_lit 2 :: nat_lit 0 :: nat_lit 1 :: nat_lit 14 :: nat_lit 1 :: nat_lit 0 :: nat_lit 0 :: nat_lit 0 :: nat_lit 0 :: nat_lit 0 :: nat_lit 0 :: nat_lit 0 :: nat_lit 0 :: nat_lit 0 :: nat_lit 0 :: nat_lit 0 :: nat_lit 0 :: nat_lit 0 :: nat_lit 0 :: nat_lit 0 :: nat_lit 0 :: nat_lit 1 :: nat_lit 1 :: nat_lit 2 :: nat_lit 2 :: nat_lit 3 :: nat_lit 1 :: nat_lit 1 :: nat_lit 4 :: nat_lit 0 :: nat_lit 1 :: nat_lit 0 :: nat_lit 3 :: nat_lit 2 :: nat_lit 0 :: nat_lit 0 :: nat_lit 0 :: nat_lit 1 :: nat_lit 3 :: nat_lit 0 :: nat_lit 0 :: nat_lit 1 :: nat_lit 0 :: nat_lit 3 :: nat_lit 100000 :: nat_lit 1 :: nat_lit 1 :: nat_lit 0 :: nat_lit 0 :: nat_lit 5 :: nat_lit 0 :: nat_lit 6 :: nat_lit 0 :: nat_lit 7 :: nat_lit 0 :: nat_lit 8 :: nat_lit 0 :: nat_lit 9 :: nat_lit 0 :: []
def en_h67_T_0 : List (Tk ⊕ (Nat × List (Nat × Nat × Nat))) := .inl .b :: .inl .b :: .inl .b :: .inl .b :: .inl .b :: .inl (.lb (nat_lit 3)) :: .inl (.lb (nat_lit 0)) :: .inl (.lb (nat_lit 2)) :: .inl (.lb (nat_lit 0)) :: .inl (.lb (nat_lit 1)) :: .inl (.lb (nat_lit 0)) :: .inl (.lb (nat_lit 0)) :: .inl (.lb (nat_lit 4)) :: .inl .b :: .inl .b :: .inl (.lb (nat_lit 1)) :: .inl .b :: .inl .b :: .inl (.lb (nat_lit 0)) :: .inl (.lb (nat_lit 0)) :: .inl (.lb (nat_lit 0)) :: .inl (.lb (nat_lit 0)) :: .inl (.lb (nat_lit 0)) :: .inl (.lb (nat_lit 0)) :: .inl (.lb (nat_lit 0)) :: .inl (.lb (nat_lit 0)) :: .inl (.lb (nat_lit 0)) :: .inl (.lb (nat_lit 1)) :: .inl (.lb (nat_lit 1)) :: .inl (.lb (nat_lit 2)) :: .inl (.lb (nat_lit 2)) :: .inl (.lb (nat_lit 2)) :: .inl (.lb (nat_lit 2)) :: .inl .b :: .inl (.lb (nat_lit 0)) :: .inl (.lb (nat_lit 9)) :: .inl .b :: .inl (.lb (nat_lit 0)) :: .inl .b :: .inl (.lb (nat_lit 0)) :: .inl (.lb (nat_lit 0)) :: .inl .b :: .inl (.lb (nat_lit 0)) :: .inl .b :: .inl (.lb (nat_lit 0)) :: .inl (.lb (nat_lit 9)) :: .inl (.lb (nat_lit 1)) :: .inl (.lb (nat_lit 1)) :: .inl .b :: .inl (.lb (nat_lit 0)) :: .inl .b :: .inl .b :: .inl .b :: .inl .b :: .inl (.lb (nat_lit 0)) :: .inl (.lb (nat_lit 0)) :: .inl (.lb (nat_lit 1)) :: .inl (.lb (nat_lit 1)) :: .inl .b :: .inl (.lb (nat_lit 0)) :: .inl (.lb (nat_lit 4)) :: .inl (.lc 3 1 55) :: .inl .b :: .inl .b :: .inl .b :: .inl (.lb (nat_lit 0)) :: .inr (0, [(0, 0, 0), (2, 0, 0), (9, 0, 0), (1, 0, 0)]) :: .inr (1, [(5, 0, 0), (3, 0, 0), (12, 0, 0), (4, 0, 0)]) :: .inl (.lb (nat_lit 4)) :: .inl .b :: .inl (.lb (nat_lit 0)) :: .inl (.lo (nat_lit 0)) :: []
theorem en_h67_main (ha : Option Addr) (hl hc : Nat) (zs : List Int) (cb ra ci bf : Nat → Int) (nu ti gl o x : Int) : EF Sagg.prog (en_h67_specs ha hl hc zs cb ra ci bf nu ti gl o x) 300 60 [] 8 #[.agg (envA ha hl hc cb ra ci bf nu ti gl), .int .u8 67] (fun v _ _ => v = .bool true) ⟨[], [(.tuple #[.pointer ha, .agg (bcells zs).toArray], 0)]⟩ en_h67_H_0
  = buildC (en_h67_cs ha hl hc zs cb ra ci bf nu ti gl o x) [Told Sagg.prog .leq 3 (.int .i64 (Int.ofNat hl)) (.int .i64 4) (toldV 0 0)] (fun _ => Value.bool true = .bool true) en_h67_T_0 [] := by kernel_rfl
theorem en_h67_calls (ha : Option Addr) (hl hc : Nat) (zs : List Int) (cb ra ci bf : Nat → Int) (nu ti gl o x : Int) (hh5 : 4 < hl) (w : World) (hN : Stab [] w (fun w => nmH (fun _ => False) w (.tuple #[.pointer ha, .agg (bcells zs).toArray]) 0)) :
    Calls Sagg.prog 8 #[.agg (envA ha hl hc cb ra ci bf nu ti gl), .int .u8 67] w fun e w' => e = .returned (.bool true) ∧ Below w.heap.size w w' := by
  have hcs : ∀ c ∈ en_h67_cs ha hl hc zs cb ra ci bf nu ti gl o x, c.Ran natSpecs3 300 60 := by
    unfold en_h67_cs
    simp only [List.forall_mem_cons]
    exact ⟨en_u146_ran hh5, en_u147_ran, fun c hc => by cases hc⟩
  have hsp : ∀ p ∈ en_h67_specs ha hl hc zs cb ra ci bf nu ti gl o x, SpecOK p.1 p.2 := by
    intro p hp
    unfold en_h67_specs at hp
    rcases List.mem_cons.1 hp with rfl | hp
    · exact chX_ok (R := 300) (d := 60) natSpecs3_ok hcs
    rcases List.mem_cons.1 hp with rfl | hp
    · exact chX_ok (R := 300) (d := 60) natSpecs3_ok hcs
    rcases List.mem_cons.1 hp with rfl | hp
    · exact chX_ok (R := 300) (d := 60) natSpecs3_ok hcs
    rcases List.mem_cons.1 hp with rfl | hp
    · exact chX_ok (R := 300) (d := 60) natSpecs3_ok hcs
    rcases List.mem_cons.1 hp with rfl | hp
    · exact chX_ok (R := 300) (d := 60) natSpecs3_ok hcs
    exact natSpecs3_ok p hp
  have hrun : EF Sagg.prog (en_h67_specs ha hl hc zs cb ra ci bf nu ti gl o x) 300 60 [] 8 #[.agg (envA ha hl hc cb ra ci bf nu ti gl), .int .u8 67] (fun v _ _ => v = .bool true) ⟨[], [(.tuple #[.pointer ha, .agg (bcells zs).toArray], 0)]⟩ en_h67_H_0 := by
    refine of_eq (en_h67_main ha hl hc zs cb ra ci bf nu ti gl o x) ?_
    refine buildC_ok ?_ (fun _ => rfl) _ _ (by kernel_rfl)
    exact (ho_cons (told_le0 (by have : (4 : Int) < ((hl : Nat) : Int) := (by omega); exact this)) ho_nil)
  refine (closed (S := fun _ => False) hsp (fun b hb => hb.elim) hrun (fun p hp => by
    rcases List.mem_cons.1 hp with rfl | hp
    · exact hN
    · cases hp)).mono ?_
  rintro e w' ⟨v, s', H', rfl, rfl, hi⟩
  exact ⟨rfl, hi.below⟩
noncomputable def en_h68_cs (ha : Option Addr) (hl hc : Nat) (zs : List Int) (cb ra ci bf : Nat → Int) (nu ti gl o x : Int) : List Ch := [en_u146 ha hl hc zs cb ra ci bf nu ti gl 68 (beV (l32 ra)), en_u147 ha hl hc zs cb ra ci bf nu ti gl 68 (beV (l32 ra))]
noncomputable def en_h68_specs (ha : Option Addr) (hl hc : Nat) (zs : List Int) (cb ra ci bf : Nat → Int) (nu ti gl o x : Int) : List (FuncId × Spec) := (44, chX 44 (en_h68_cs ha hl hc zs cb ra ci bf nu ti gl o x)) :: (31, chX 31 (en_h68_cs ha hl hc zs cb ra ci bf nu ti gl o x)) :: (43, chX 43 (en_h68_cs ha hl hc zs cb ra ci bf nu ti gl o x)) :: (45, chX 45 (en_h68_cs ha hl hc zs cb ra ci bf nu ti gl o x)) :: (59, chX 59 (en_h68_cs ha hl hc zs cb ra ci bf nu ti gl o x)) :: natSpecs3
def en_h68_H_0 : List Nat := nat_lit 100000 :: nat_lit 0 :: nat_lit 0 :: nat_lit 1 :: nat_lit 0 :: nat_lit 3 :: nat_lit 1 :: nat_lit 0 :: nat_lit 2 :: nat_lit 1 :: nat_lit 0 :: nat_lit 1 :: nat_lit 1 :: nat_lit 0 :: nat_lit 4 :: nat_lit 100000 :: nat_lit 0 :: nat_lit 0 :: nat_lit 0 :: nat_lit 0 :: nat_lit 1 :: nat_lit 0 :: nat_lit 0 :: nat_lit 0 :: nat_lit 0 :: nat_lit 0 :: nat_lit 1 :: nat_lit 7 :: nat_lit 10 :: nat_lit 0 :: nat_lit 0 :: nat_lit 0 :: nat_lit 3 :: nat_lit 0 :: nat_lit 1 :: nat_lit 1 :: nat_lit 1 :: nat_lit 2 :: nat_lit 0 :: nat_lit 1 :: nat_lit 0 :: nat_lit 0 :: nat_lit 1 :: nat_lit 0 :: nat_lit 0 :: nat_lit 0 :: nat_lit 8 :: nat_lit 1 :: nat_lit 2 :: nat_lit 0 :: nat_lit 1 :: nat_lit 12 :: nat_lit 1 :: nat_lit 0 :: nat_lit 0 :: nat_lit 0 :: nat_lit 0 :: nat_lit 0 :: nat_lit 0 :: nat_lit 0 :: nat_lit 0 :: nat_lit 0 :: nat_lit 0 :: nat_lit 0 :: nat_lit 0 :: nat_lit 0 :: nat_lit 0 :: nat_lit 1 :: nat_lit 1 :: nat_lit 2 :: nat_lit 2 :: nat_lit 3 :: nat_lit 1 :: nat_lit 1 :: nat_lit 4 :: nat_lit 0 :: nat_lit 1 :: nat_lit 0 :: nat_lit 3 :: nat_lit 2 :: nat_lit 0 :: nat_lit 0 :: nat_lit 0 :: nat_lit 1 :: nat_lit 3 :: nat_lit 0 :: nat_lit 0 :: nat_lit 1 :: nat_lit 0 :: nat_lit 3 :: nat_lit 100000 :: nat_lit 1 :: nat_lit 1 :: nat_lit 0 :: nat_lit 0 :: nat_lit 5 :: nat_lit 0 :: nat_lit 6 :: nat_lit 0 :: nat_lit 7 :: nat_lit 0 :: nat_lit 8 :: nat_lit 0 :: nat_lit 9 :: nat_lit 0 :: []
def en_h68_T_0 : List (Tk ⊕ (Nat × List (Nat × Nat × Nat))) := .inl .b :: .inl .b :: .inl .b :: .inl .b :: .inl .b :: .inl (.lb (nat_lit 3)) :: .inl (.lb (nat_lit 0)) :: .inl (.lb (nat_lit 2)) :: .inl (.lb (nat_lit 0)) :: .inl (.lb (nat_lit 1)) :: .inl (.lb (nat_lit 0)) :: .inl (.lb (nat_lit 0)) :: .inl (.lb (nat_lit 4)) :: .inl .b :: .inl .b :: .inl (.lb (nat_lit 1)) :: .inl (.lb (nat_lit 0)) :: .inl (.lb (nat_lit 0)) :: .inl (.lb (nat_lit 0)) :: .inl (.lb (nat_lit 0)) :: .inl .b :: .inl (.lb (nat_lit 0)) :: .inl (.lb (nat_lit 7)) :: .inl .b :: .inl (.lb (nat_lit 0)) :: .inl .b :: .inl (.lb (nat_lit 0)) :: .inl (.lb (nat_lit 0)) :: .inl .b :: .inl (.lb (nat_lit 0)) :: .inl .b :: .inl (.lb (nat_lit 0)) :: .inl (.lb (nat_lit 7)) :: .inl (.lb (nat_lit 1)) :: .inl (.lb (nat_lit 1)) :: .inl .b :: .inl (.lb (nat_lit 0)) :: .inl .b :: .inl .b :: .inl .b :: .inl .b :: .inl (.lb (nat_lit 0)) :: .inl (.lb (nat_lit 0)) :: .inl (.lb (nat_lit 1)) :: .inl (.lb (nat_lit 1)) :: .inl .b :: .inl (.lb (nat_lit 0)) :: .inl (.lb (nat_lit 4)) :: .inl (.lc 3 1 55) :: .inl .b :: .inl .b :: .inl .b :: .inl (.lb (nat_lit 0)) :: .inr (0, [(0, 0, 0), (2, 0, 0), (9, 0, 0), (1, 0, 0)]) :: .inr (1, [(5, 0, 0), (3, 0, 0), (12, 0, 0), (4, 0, 0)]) :: .inl (.lb (nat_lit 4)) :: .inl .b :: .inl (.lb (nat_lit 0)) :: .inl (.lo (nat_lit 0)) :: []
theorem en_h68_main (ha : Option Addr) (hl hc : Nat) (zs : List Int) (cb ra ci bf : Nat → Int) (nu ti gl o x : Int) : EF Sagg.prog (en_h68_specs ha hl hc zs cb ra ci bf nu ti gl o x) 300 60 [] 8 #[.agg (envA ha hl hc cb ra ci bf nu ti gl), .int .u8 68] (fun v _ _ => v = .bool true) ⟨[], [(.tuple #[.pointer ha, .agg (bcells zs).toArray], 0)]⟩ en_h68_H_0
  = buildC (en_h68_cs ha hl hc zs cb ra ci bf nu ti gl o x) [Told Sagg.prog .leq 3 (.int .i64 (Int.ofNat hl)) (.int .i64 4) (toldV 0 0)] (fun _ => Value.bool true = .bool true) en_h68_T_0 [] := by kernel_rfl
theorem en_h68_calls (ha : Option Addr) (hl hc : Nat) (zs : List Int) (cb ra ci bf : Nat → Int) (nu ti gl o x : Int) (hh5 : 4 < hl) (w : World) (hN : Stab [] w (fun w => nmH (fun _ => False) w (.tuple #[.pointer ha, .agg (bcells zs).toArray]) 0)) :
    Calls Sagg.prog 8 #[.agg (envA ha hl hc cb ra ci bf nu ti gl), .int .u8 68] w fun e w' => e = .returned (.bool true) ∧ Below w.heap.size w w' := by
  have hcs : ∀ c ∈ en_h68_cs ha hl hc zs cb ra ci bf nu ti gl o x, c.Ran natSpecs3 300 60 := by
    unfold en_h68_cs
    simp only [List.forall_mem_cons]
    exact ⟨en_u146_ran hh5, en_u147_ran, fun c hc => by cases hc⟩
  have hsp : ∀ p ∈ en_h68_specs ha hl hc zs cb ra ci bf nu ti gl o x, SpecOK p.1 p.2 := by
    intro p hp
    unfold en_h68_specs at hp
    rcases List.mem_cons.1 hp with rfl | hp
    · exact chX_ok (R := 300) (d := 60) natSpecs3_ok hcs
    rcases List.mem_cons.1 hp with rfl | hp
    · exact chX_ok (R := 300) (d := 60) natSpecs3_ok hcs
    rcases List.mem_cons.1 hp with rfl | hp
    · exact chX_ok (R := 300) (d := 60) natSpecs3_ok hcs
    rcases List.mem_cons.1 hp with rfl | hp
    · exact chX_ok (R := 300) (d := 60) natSpecs3_ok hcs
    rcases List.mem_cons.1 hp with rfl | hp
    · exact chX_ok (R := 300) (d := 60) natSpecs3_ok hcs
    exact natSpecs3_ok p hp
  have hrun : EF Sagg.prog (en_h68_specs ha hl hc zs cb ra ci bf nu ti gl o x) 300 60 [] 8 #[.agg (envA ha hl hc cb ra ci bf nu ti gl), .int .u8 68] (fun v _ _ => v = .bool true) ⟨[], [(.tuple #[.pointer ha, .agg (bcells zs).toArray], 0)]⟩ en_h68_H_0 := by
    refine of_eq (en_h68_main ha hl hc zs cb ra ci bf nu ti gl o x) ?_
    refine buildC_ok ?_ (fun _ => rfl) _ _ (by kernel_rfl)
    exact (ho_cons (told_le0 (by have : (4 : Int) < ((hl : Nat) : Int) := (by omega); exact this)) ho_nil)
  refine (closed (S := fun _ => False) hsp (fun b hb => hb.elim) hrun (fun p hp => by
    rcases List.mem_cons.1 hp with rfl | hp
    · exact hN
    · cases hp)).mono ?_
  rintro e w' ⟨v, s', H', rfl, rfl, hi⟩
  exact ⟨rfl, hi.below⟩
noncomputable def en_h69_cs (ha : Option Addr) (hl hc : Nat) (zs : List Int) (cb ra ci bf : Nat → Int) (nu ti gl o x : Int) : List Ch := [en_u146 ha hl hc zs cb ra ci bf nu ti gl 69 gl, en_u147 ha hl hc zs cb ra ci bf nu ti gl 69 gl]
noncomputable def en_h69_specs (ha : Option Addr) (hl hc : Nat) (zs : List Int) (cb ra ci bf : Nat → Int) (nu ti gl o x : Int) : List (FuncId × Spec) := (44, chX 44 (en_h69_cs ha hl hc zs cb ra ci bf nu ti gl o x)) :: (31, chX 31 (en_h69_cs ha hl hc zs cb ra ci bf nu ti gl o x)) :: (43, chX 43 (en_h69_cs ha hl hc zs cb ra ci bf nu ti gl o x)) :: (45, chX 45 (en_h69_cs ha hl hc zs cb ra ci bf nu ti gl o x)) :: (59, chX 59 (en_h69_cs ha hl hc zs cb ra ci bf nu ti gl o x)) :: natSpecs3
def en_h69_H_0 : List Nat := nat_lit 100000 :: nat_lit 0 :: nat_lit 0 :: nat_lit 1 :: nat_lit 0 :: nat_lit 3 :: nat_lit 1 :: nat_lit 0 :: nat_lit 2 :: nat_lit 1 :: nat_lit 0 :: nat_lit 1 :: nat_lit 1 :: nat_lit 0 :: nat_lit 4 :: nat_lit 100000 :: nat_lit 0 :: nat_lit 0 :: nat_lit 0 :: nat_lit 0 :: nat_lit 0 :: nat_lit 1 :: nat_lit 0 :: nat_lit 0 :: nat_lit 0 :: nat_lit 0 :: nat_lit 0 :: nat_lit 0 :: nat_lit 0 :: nat_lit 0 :: nat_lit 0 :: nat_lit 0 :: nat_lit 1 :: nat_lit 1 :: nat_lit 2 :: nat_lit 2 :: nat_lit 2 :: nat_lit 2 :: nat_lit 0 :: nat_lit 1 :: nat_lit 9 :: nat_lit 10 :: nat_lit 0 :: nat_lit 0 :: nat_lit 0 :: nat_lit 3 :: nat_lit 0 :: nat_lit 1 :: nat_lit 1 :: nat_lit 1 :: nat_lit 2 :: nat_lit 0 :: nat_lit 1 :: nat_lit 0 :: nat_lit 0 :: nat_lit 1 :: nat_lit 0 :: nat_lit 0 :: nat_lit 0 :: nat_lit 10 :: nat_lit 1 :: nat_lit 2 :: nat_lit 0 :: nat_lit 1 :: nat_lit 14 :: nat_lit 1 :: nat_lit 0 :: nat_lit 0 :: nat_lit 0 :: nat_lit 0 :: nat_lit 0 :: nat_lit 0 :: nat_lit 0 :: nat_lit 0 :: nat_lit 0 :: nat_lit 0 :: nat_lit 0 :: nat_lit 0 :: nat_lit 0 :: nat_lit 0 :: nat_lit 0 :: nat_lit 0 :: nat_lit 1 :: nat_lit 1 :: nat_lit 2 :: nat_lit 2 :: nat_lit 3 :: nat_lit 1 :: nat_lit 1 :: nat_lit 4 :: nat_lit 0 :: nat_lit 1 :: nat_lit 0 :: nat_lit 3 :: nat_lit 2 :: nat_lit 0 :: nat_lit 0 :: nat_lit 0 :: nat_lit 1 :: nat_lit 3 :: nat_lit 0 :: nat_lit 0 :: nat_lit 1 :: nat_lit 0 :: nat_lit 3 :: nat_lit 100000 :: nat_lit 1 :: nat_lit 1 :: nat_lit 0 :: nat_lit 0 :: nat_lit 5 :: nat_lit 0 :: nat_lit 6 :: nat_lit 0 :: nat_lit 7 :: nat_lit 0 :: nat_lit 8 :: nat_lit 0 :: nat_lit 9 :: nat_lit 0 :: []
def en_h69_T_0 : List (Tk ⊕ (Nat × List (Nat × Nat × Nat))) := .inl .b :: .inl .b :: .inl .b :: .inl .b :: .inl .b :: .inl (.lb (nat_lit 3)) :: .inl (.lb (nat_lit 0)) :: .inl (.lb (nat_lit 2)) :: .inl (.lb (nat_lit 0)) :: .inl (.lb (nat_lit 1)) :: .inl (.lb (nat_lit 0)) :: .inl (.lb (nat_lit 0)) :: .inl (.lb (nat_lit 4)) :: .inl .b :: .inl .b :: .inl (.lb (nat_lit 1)) :: .inl .b :: .inl .b :: .inl (.lb (nat_lit 0)) :: .inl (.lb (nat_lit 0)) :: .inl (.lb (nat_lit 0)) :: .inl (.lb (nat_lit 0)) :: .inl (.lb (nat_lit 0)) :: .inl (.lb (nat_lit 0)) :: .inl (.lb (nat_lit 0)) :: .inl (.lb (nat_lit 0)) :: .inl (.lb (nat_lit 0)) :: .inl (.lb (nat_lit 1)) :: .inl (.lb (nat_lit 1)) :: .inl (.lb (nat_lit 2)) :: .inl (.lb (nat_lit 2)) :: .inl (.lb (nat_lit 2)) :: .inl (.lb (nat_lit 2)) :: .inl .b :: .inl (.lb (nat_lit 0)) :: .inl (.lb (nat_lit 9)) :: .inl .b :: .inl (.lb (nat_lit 0)) :: .inl .b :: .inl (.lb (nat_lit 0)) :: .inl (.lb (nat_lit 0)) :: .inl .b :: .inl (.lb (nat_lit 0)) :: .inl .b :: .inl (.lb (nat_lit 0)) :: .inl (.lb (nat_lit 9)) :: .inl (.lb (nat_lit 1)) :: .inl (.lb (nat_lit 1)) :: .inl .b :: .inl (.lb (nat_lit 0)) :: .inl .b :: .inl .b :: .inl .b :: .inl .b :: .inl (.lb (nat_lit 0)) :: .inl (.lb (nat_lit 0)) :: .inl (.lb (nat_lit 1)) :: .inl (.lb (nat_lit 1)) :: .inl .b :: .inl (.lb (nat_lit 0)) :: .inl (.lb (nat_lit 4)) :: .inl (.lc 3 1 55) :: .inl .b :: .inl .b :: .inl .b :: .inl (.lb (nat_lit 0)) :: .inr (0, [(0, 0, 0), (2, 0, 0), (9, 0, 0), (1, 0, 0)]) :: .inr (1, [(5, 0, 0), (3, 0, 0), (12, 0, 0), (4, 0, 0)]) :: .inl (.lb (nat_lit 4)) :: .inl .b :: .inl (.lb (nat_lit 0)) :: .inl (.lo (nat_lit 0)) :: []
theorem en_h69_main (ha : Option Addr) (hl hc : Nat) (zs : List Int) (cb ra ci bf : Nat → Int) (nu ti gl o x : Int) : EF Sagg.prog (en_h69_specs ha hl hc zs cb ra ci bf nu ti gl o x) 300 60 [] 8 #[.agg (envA ha hl hc cb ra ci bf nu ti gl), .int .u8 69] (fun v _ _ => v = .bool true) ⟨[], [(.tuple #[.pointer ha, .agg (bcells zs).toArray], 0)]⟩ en_h69_H_0
  = buildC (en_h69_cs ha hl hc zs cb ra ci bf nu ti gl o x) [Told Sagg.prog .leq 3 (.int .i64 (Int.ofNat hl)) (.int .i64 4) (toldV 0 0)] (fun _ => Value.bool true = .bool true) en_h69_T_0 [] := by kernel_rfl
theorem en_h69_calls (ha : Option Addr) (hl hc : Nat) (zs : List Int) (cb ra ci bf : Nat → Int) (nu ti gl o x : Int) (hh5 : 4 < hl) (w : World) (hN : Stab [] w (fun w => nmH (fun _ => False) w (.tuple #[.pointer ha, .agg (bcells zs).toArray]) 0)) :
    Calls Sagg.prog 8 #[.agg (envA ha hl hc cb ra ci bf nu ti gl), .int .u8 69] w fun e w' => e = .returned (.bool true) ∧ Below w.heap.size w w' := by
  have hcs : ∀ c ∈ en_h69_cs ha hl hc zs cb ra ci bf nu ti gl o x, c.Ran natSpecs3 300 60 := by
    unfold en_h69_cs
    simp only [List.forall_mem_cons]
    exact ⟨en_u146_ran hh5, en_u147_ran, fun c hc => by cases hc⟩
  have hsp : ∀ p ∈ en_h69_specs ha hl hc zs cb ra ci bf nu ti gl o x, SpecOK p.1 p.2 := by
    intro p hp
    unfold en_h69_specs at hp
    rcases List.mem_cons.1 hp with rfl | hp
    · exact chX_ok (R := 300) (d := 60) natSpecs3_ok hcs
    rcases List.mem_cons.1 hp with rfl | hp
    · exact chX_ok (R := 300) (d := 60) natSpecs3_ok hcs
    rcases List.mem_cons.1 hp with rfl | hp
    · exact chX_ok (R := 300) (d := 60) natSpecs3_ok hcs
    rcases List.mem_cons.1 hp with rfl | hp
    · exact chX_ok (R := 300) (d := 60) natSpecs3_ok hcs
    rcases List.mem_cons.1 hp with rfl | hp
    · exact chX_ok (R := 300) (d := 60) natSpecs3_ok hcs
    exact natSpecs3_ok p hp
  have hrun : EF Sagg.prog (en_h69_specs ha hl hc zs cb ra ci bf nu ti gl o x) 300 60 [] 8 #[.agg (envA ha hl hc cb ra ci bf nu ti gl), .int .u8 69] (fun v _ _ => v = .bool true) ⟨[], [(.tuple #[.pointer ha, .agg (bcells zs).toArray], 0)]⟩ en_h69_H_0 := by
    refine of_eq (en_h69_main ha hl hc zs cb ra ci bf nu ti gl o x) ?_
    refine buildC_ok ?_ (fun _ => rfl) _ _ (by kernel_rfl)
    exact (ho_cons (told_le0 (by have : (4 : Int) < ((hl : Nat) : Int) := (by omega); exact this)) ho_nil)
  refine (closed (S := fun _ => False) hsp (fun b hb => hb.elim) hrun (fun p hp => by
    rcases List.mem_cons.1 hp with rfl | hp
    · exact hN
    · cases hp)).mono ?_
  rintro e w' ⟨v, s', H', rfl, rfl, hi⟩
  exact ⟨rfl, hi.below⟩
noncomputable def en_h70_cs (ha : Option Addr) (hl hc : Nat) (zs : List Int) (cb ra ci bf : Nat → Int) (nu ti gl o x : Int) : List Ch := [en_u146 ha hl hc zs cb ra ci bf nu ti gl 70 (beV (l32 ci)), en_u147 ha hl hc zs cb ra ci bf nu ti gl 70 (beV (l32 ci))]
noncomputable def en_h70_specs (ha : Option Addr) (hl hc : Nat) (zs : List Int) (cb ra ci bf : Nat → Int) (nu ti gl o x : Int) : List (FuncId × Spec) := (44, chX 44 (en_h70_cs ha hl hc zs cb ra ci bf nu ti gl o x)) :: (31, chX 31 (en_h70_cs ha hl hc zs cb ra ci bf nu ti gl o x)) :: (43, chX 43 (en_h70_cs ha hl hc zs cb ra ci bf nu ti gl o x)) :: (45, chX 45 (en_h70_cs ha hl hc zs cb ra ci bf nu ti gl o x)) :: (59, chX 59 (en_h70_cs ha hl hc zs cb ra ci bf nu ti gl o x)) :: natSpecs3
def en_h70_H_0 : List Nat := nat_lit 100000 :: nat_lit 0 :: nat_lit 0 :: nat_lit 1 :: nat_lit 0 :: nat_lit 3 :: nat_lit 1 :: nat_lit 0 :: nat_lit 2 :: nat_lit 1 :: nat_lit 0 :: nat_lit 1 :: nat_lit 1 :: nat_lit 0 :: nat_lit 4 :: nat_lit 100000 :: nat_lit 0 :: nat_lit 0 :: nat_lit 0 :: nat_lit 0 :: nat_lit 0 :: nat_lit 0 :: nat_lit 1 :: nat_lit 0 :: nat_lit 0 :: nat_lit 0 :: nat_lit 0 :: nat_lit 0 :: nat_lit 1 :: nat_lit 7 :: nat_lit 10 :: nat_lit 0 :: nat_lit 0 :: nat_lit 0 :: nat_lit 3 :: nat_lit 0 :: nat_lit 1 :: nat_lit 1 :: nat_lit 1 :: nat_lit 2 :: nat_lit 0 :: nat_lit 1 :: nat_lit 0 :: nat_lit 0 :: nat_lit 1 :: nat_lit 0 :: nat_lit 0 :: nat_lit 0 :: nat_lit 8 :: nat_lit 1 :: nat_lit 2 :: nat_lit 0 :: nat_lit 1 :: nat_lit 12 :: nat_lit 1 :: nat_lit 0 :: nat_lit 0 :: nat_lit 0 :: nat_lit 0 :: nat_lit 0 :: nat_lit 0 :: nat_lit 0 :: nat_lit 0 :: nat_lit 0 :: nat_lit 0 :: nat_lit 0 :: nat_lit 0 :: nat_lit 0 :: nat_lit 0 :: nat_lit 1 :: nat_lit 1 :: nat_lit 2 :: nat_lit 2 :: nat_lit 3 :: nat_lit 1 :: nat_lit 1 :: nat_lit 4 :: nat_lit 0 :: nat_lit 1 :: nat_lit 0 :: nat_lit 3 :: nat_lit 2 :: nat_lit 0 :: nat_lit 0 :: nat_lit 0 :: nat_lit 1 :: nat_lit 3 :: nat_lit 0 :: nat_lit 0 :: nat_lit 1 :: nat_lit 0 :: nat_lit 3 :: nat_lit 100000 :: nat_lit 1 :: nat_lit 1 :: nat_lit 0 :: nat_lit 0 :: nat_lit 5 :: nat_lit 0 :: nat_lit 6 :: nat_lit 0 :: nat_lit 7 :: nat_lit 0 :: nat_lit 8 :: nat_lit 0 :: nat_lit 9 :: nat_lit 0 :: []
def en_h70_T_0 : List (Tk ⊕ (Nat × List (Nat × Nat × Nat))) := .inl .b :: .inl .b :: .inl .b :: .inl .b :: .inl .b :: .inl (.lb (nat_lit 3)) :: .inl (.lb (nat_lit 0)) :: .inl (.lb (nat_lit 2)) :: .inl (.lb (nat_lit 0)) :: .inl (.lb (nat_lit 1)) :: .inl (.lb (nat_lit 0)) :: .inl (.lb (nat_lit 0)) :: .inl (.lb (nat_lit 4)) :: .inl .b :: .inl .b :: .inl (.lb (nat_lit 1)) :: .inl (.lb (nat_lit 0)) :: .inl (.lb (nat_lit 0)) :: .inl (.lb (nat_lit 0)) :: .inl (.lb (nat_lit 0)) :: .inl .b :: .inl (.lb (nat_lit 0)) :: .inl (.lb (nat_lit 7)) :: .inl .b :: .inl (.lb (nat_lit 0)) :: .inl .b :: .inl (.lb (nat_lit 0)) :: .inl (.lb (nat_lit 0)) :: .inl .b :: .inl (.lb (nat_lit 0)) :: .inl .b :: .inl (.lb (nat_lit 0)) :: .inl (.lb (nat_lit 7)) :: .inl (.lb (nat_lit 1)) :: .inl (.lb (nat_lit 1)) :: .inl .b :: .inl (.lb (nat_lit 0)) :: .inl .b :: .inl .b :: .inl .b :: .inl .b :: .inl (.lb (nat_lit 0)) :: .inl (.lb (nat_lit 0)) :: .inl (.lb (nat_lit 1)) :: .inl (.lb (nat_lit 1)) :: .inl .b :: .inl (.lb (nat_lit 0)) :: .inl (.lb (nat_lit 4)) :: .inl (.lc 3 1 55) :: .inl .b :: .inl .b :: .inl .b :: .inl (.lb (nat_lit 0)) :: .inr (0, [(0, 0, 0), (2, 0, 0), (9, 0, 0), (1, 0, 0)]) :: .inr (1, [(5, 0, 0), (3, 0, 0), (12, 0, 0), (4, 0, 0)]) :: .inl (.lb (nat_lit 4)) :: .inl .b :: .inl (.lb (nat_lit 0)) :: .inl (.lo (nat_lit 0)) :: []
theorem en_h70_main (ha : Option Addr) (hl hc : Nat) (zs : List Int) (cb ra ci bf : Nat → Int) (nu ti gl o x : Int) : EF Sagg.prog (en_h70_specs ha hl hc zs cb ra ci bf nu ti gl o x) 300 60 [] 8 #[.agg (envA ha hl hc cb ra ci bf nu ti gl), .int .u8 70] (fun v _ _ => v = .bool true) ⟨[], [(.tuple #[.pointer ha, .agg (bcells zs).toArray], 0)]⟩ en_h70_H_0
  = buildC (en_h70_cs ha hl hc zs cb ra ci bf nu ti gl o x) [Told Sagg.prog .leq 3 (.int .i64 (Int.ofNat hl)) (.int .i64 4) (toldV 0 0)] (fun _ => Value.bool true = .bool true) en_h70_T_0 [] := by kernel_rfl
theorem en_h70_calls (ha : Option Addr) (hl hc : Nat) (zs : List Int) (cb ra ci bf : Nat → Int) (nu ti gl o x : Int) (hh5 : 4 < hl) (w : World) (hN : Stab [] w (fun w => nmH (fun _ => False) w (.tuple #[.pointer ha, .agg (bcells zs).toArray]) 0)) :
    Calls Sagg.prog 8 #[.agg (envA ha hl hc cb ra ci bf nu ti gl), .int .u8 70] w fun e w' => e = .returned (.bool true) ∧ Below w.heap.size w w' := by
  have hcs : ∀ c ∈ en_h70_cs ha hl hc zs cb ra ci bf nu ti gl o x, c.Ran natSpecs3 300 60 := by
    unfold en_h70_cs
    simp only [List.forall_mem_cons]
    exact ⟨en_u146_ran hh5, en_u147_ran, fun c hc => by cases hc⟩
  have hsp : ∀ p ∈ en_h70_specs ha hl hc zs cb ra ci bf nu ti gl o x, SpecOK p.1 p.2 := by
    intro p hp
    unfold en_h70_specs at hp
    rcases List.mem_cons.1 hp with rfl | hp
    · exact chX_ok (R := 300) (d := 60) natSpecs3_ok hcs
    rcases List.mem_cons.1 hp with rfl | hp
    · exact chX_ok (R := 300) (d := 60) natSpecs3_ok hcs
    rcases List.mem_cons.1 hp with rfl | hp
    · exact chX_ok (R := 300) (d := 60) natSpecs3_ok hcs
    rcases List.mem_cons.1 hp with rfl | hp
    · exact chX_ok (R := 300) (d := 60) natSpecs3_ok hcs
    rcases List.mem_cons.1 hp with rfl | hp
    · exact chX_ok (R := 300) (d := 60) natSpecs3_ok hcs
    exact natSpecs3_ok p hp
  have hrun : EF Sagg.prog (en_h70_specs ha hl hc zs cb ra ci bf nu ti gl o x) 300 60 [] 8 #[.agg (envA ha hl hc cb ra ci bf nu ti gl), .int .u8 70] (fun v _ _ => v = .bool true) ⟨[], [(.tuple #[.pointer ha, .agg (bcells zs).toArray], 0)]⟩ en_h70_H_0 := by
    refine of_eq (en_h70_main ha hl hc zs cb ra ci bf nu ti gl o x) ?_
    refine buildC_ok ?_ (fun _ => rfl) _ _ (by kernel_rfl)
    exact (ho_cons (told_le0 (by have : (4 : Int) < ((hl : Nat) : Int) := (by omega); exact this)) ho_nil)
  refine (closed (S := fun _ => False) hsp (fun b hb => hb.elim) hrun (fun p hp => by
    rcases List.mem_cons.1 hp with rfl | hp
    · exact hN
    · cases hp)).mono ?_
  rintro e w' ⟨v, s', H', rfl, rfl, hi⟩
  exact ⟨rfl, hi.below⟩
noncomputable def en_h88_cs (ha : Option Addr) (hl hc : Nat) (zs : List Int) (cb ra ci bf : Nat → Int) (nu ti gl o x : Int) : List Ch := [en_u146 ha hl hc zs cb ra ci bf nu ti gl 88 0, en_u147 ha hl hc zs cb ra ci bf nu ti gl 88 0]
noncomputable def en_h88_specs (ha : Option Addr) (hl hc : Nat) (zs : List Int) (cb ra ci bf : Nat → Int) (nu ti gl o x : Int) : List (FuncId × Spec) := (44, chX 44 (en_h88_cs ha hl hc zs cb ra ci bf nu ti gl o x)) :: (31, chX 31 (en_h88_cs ha hl hc zs cb ra ci bf nu ti gl o x)) :: (43, chX 43 (en_h88_cs ha hl hc zs cb ra ci bf nu ti gl o x)) :: (45, chX 45 (en_h88_cs ha hl hc zs cb ra ci bf nu ti gl o x)) :: (59, chX 59 (en_h88_cs ha hl hc zs cb ra ci bf nu ti gl o x)) :: natSpecs3
def en_h88_H_0 : List Nat := nat_lit 100000 :: nat_lit 0 :: nat_lit 0 :: nat_lit 1 :: nat_lit 0 :: nat_lit 3 :: nat_lit 1 :: nat_lit 0 :: nat_lit 2 :: nat_lit 1 :: nat_lit 0 :: nat_lit 1 :: nat_lit 1 :: nat_lit 0 :: nat_lit 4 :: nat_lit 100000 :: nat_lit 0 :: nat_lit 0 :: nat_lit 0 :: nat_lit 0 :: nat_lit 0 :: nat_lit 0 :: nat_lit 0 :: nat_lit 0 :: nat_lit 0 :: nat_lit 0 :: nat_lit 0 :: nat_lit 0 :: nat_lit 0 :: nat_lit 0 :: nat_lit 0 :: nat_lit 0 :: nat_lit 0 :: nat_lit 1 :: nat_lit 1 :: nat_lit 2 :: nat_lit 2 :: nat_lit 2 :: nat_lit 2 :: nat_lit 0 :: nat_lit 1 :: nat_lit 9 :: nat_lit 10 :: nat_lit 0 :: nat_lit 0 :: nat_lit 0 :: nat_lit 3 :: nat_lit 0 :: nat_lit 1 :: nat_lit 1 :: nat_lit 1 :: nat_lit 2 :: nat_lit 0 :: nat_lit 1 :: nat_lit 0 :: nat_lit 0 :: nat_lit 1 :: nat_lit 0 :: nat_lit 0 :: nat_lit 0 :: nat_lit 10 :: nat_lit 1 :: nat_lit 2 :: nat_lit 0 :: nat_lit 1 :: nat_lit 14 :: nat_lit 1 :: nat_lit 0 :: nat_lit 0 :: nat_lit 0 :: nat_lit 0 :: nat_lit 0 :: nat_lit 0 :: nat_lit 0 :: nat_lit 0 :: nat_lit 0 :: nat_lit 0 :: nat_lit 0 :: nat_lit 0 :: nat_lit 0 :: nat_lit 0 :: nat_lit 0 :: nat_lit 0 :: nat_lit 1 :: nat_lit 1 :: nat_lit 2 :: nat_lit 2 :: nat_lit 3 :: nat_lit 1 :: nat_lit 1 :: nat_lit 4 :: nat_lit 0 :: nat_lit 1 :: nat_lit 0 :: nat_lit 3 :: nat_lit 2 :: nat_lit 0 :: nat_lit 0 :: nat_lit 0 :: nat_lit 1 :: nat_lit 3 :: nat_lit 0 :: nat_lit 0 :: nat_lit 1 :: nat_lit 0 :: nat_lit 3 :: nat_lit 100000 :: nat_lit 1 :: nat_lit 1 :: nat_lit 0 :: nat_lit 0 :: nat_lit 5 :: nat_lit 0 :: nat_lit 6 :: nat_lit 0 :: nat_lit 7 :: nat_lit 0 :: nat_lit 8 :: nat_lit 0 :: nat_lit 9 :: nat_lit 0 :: []
def en_h88_T_0 : List (Tk ⊕ (Nat × List (Nat × Nat × Nat))) := .inl .b :: .inl .b :: .inl .b :: .inl .b :: .inl .b :: .inl (.lb (nat_lit 3)) :: .inl (.lb (nat_lit 0)) :: .inl (.lb (nat_lit 2)) :: .inl (.lb (nat_lit 0)) :: .inl (.lb (nat_lit 1)) :: .inl (.lb (nat_lit 0)) :: .inl (.lb (nat_lit 0)) :: .inl (.lb (nat_lit 4)) :: .inl .b :: .inl .b :: .inl .b :: .inl .b :: .inl (.lb (nat_lit 0)) :: .inl (.lb (nat_lit 0)) :: .inl (.lb (nat_lit 0)) :: .inl (.lb (nat_lit 0)) :: .inl (.lb (nat_lit 0)) :: .inl (.lb (nat_lit 0)) :: .inl (.lb (nat_lit 0)) :: .inl (.lb (nat_lit 0)) :: .inl (.lb (nat_lit 0)) :: .inl (.lb (nat_lit 1)) :: .inl (.lb (nat_lit 1)) :: .inl (.lb (nat_lit 2)) :: .inl (.lb (nat_lit 2)) :: .inl (.lb (nat_lit 2)) :: .inl (.lb (nat_lit 2)) :: .inl .b :: .inl (.lb (nat_lit 0)) :: .inl (.lb (nat_lit 9)) :: .inl .b :: .inl (.lb (nat_lit 0)) :: .inl .b :: .inl (.lb (nat_lit 0)) :: .inl (.lb (nat_lit 0)) :: .inl .b :: .inl (.lb (nat_lit 0)) :: .inl .b :: .inl (.lb (nat_lit 0)) :: .inl (.lb (nat_lit 9)) :: .inl (.lb (nat_lit 1)) :: .inl (.lb (nat_lit 1)) :: .inl .b :: .inl (.lb (nat_lit 0)) :: .inl .b :: .inl .b :: .inl .b :: .inl .b :: .inl (.lb (nat_lit 0)) :: .inl (.lb (nat_lit 0)) :: .inl (.lb (nat_lit 1)) :: .inl (.lb (nat_lit 1)) :: .inl .b :: .inl (.lb (nat_lit 0)) :: .inl (.lb (nat_lit 4)) :: .inl (.lc 3 1 55) :: .inl .b :: .inl .b :: .inl .b :: .inl (.lb (nat_lit 0)) :: .inr (0, [(0, 0, 0), (2, 0, 0), (9, 0, 0), (1, 0, 0)]) :: .inr (1, [(5, 0, 0), (3, 0, 0), (12, 0, 0), (4, 0, 0)]) :: .inl (.lb (nat_lit 4)) :: .inl .b :: .inl (.lb (nat_lit 0)) :: .inl (.lo (nat_lit 0)) :: []
theorem en_h88_main (ha : Option Addr) (hl hc : Nat) (zs : List Int) (cb ra ci bf : Nat → Int) (nu ti gl o x : Int) : EF Sagg.prog (en_h88_specs ha hl hc zs cb ra ci bf nu ti gl o x) 300 60 [] 8 #[.agg (envA ha hl hc cb ra ci bf nu ti gl), .int .u8 88] (fun v _ _ => v = .bool true) ⟨[], [(.tuple #[.pointer ha, .agg (bcells zs).toArray], 0)]⟩ en_h88_H_0
  = buildC (en_h88_cs ha hl hc zs cb ra ci bf nu ti gl o x) [Told Sagg.prog .leq 3 (.int .i64 (Int.ofNat hl)) (.int .i64 4) (toldV 0 0)] (fun _ => Value.bool true = .bool true) en_h88_T_0 [] := by kernel_rfl
theorem en_h88_calls (ha : Option Addr) (hl hc : Nat) (zs : List Int) (cb ra ci bf : Nat → Int) (nu ti gl o x : Int) (hh5 : 4 < hl) (w : World) (hN : Stab [] w (fun w => nmH (fun _ => False) w (.tuple #[.pointer ha, .agg (bcells zs).toArray]) 0)) :
    Calls Sagg.prog 8 #[.agg (envA ha hl hc cb ra ci bf nu ti gl), .int .u8 88] w fun e w' => e = .returned (.bool true) ∧ Below w.heap.size w w' := by
  have hcs : ∀ c ∈ en_h88_cs ha hl hc zs cb ra ci bf nu ti gl o x, c.Ran natSpecs3 300 60 := by
    unfold en_h88_cs
    simp only [List.forall_mem_cons]
    exact ⟨en_u146_ran hh5, en_u147_ran, fun c hc => by cases hc⟩
  have hsp : ∀ p ∈ en_h88_specs ha hl hc zs cb ra ci bf nu ti gl o x, SpecOK p.1 p.2 := by
    intro p hp
    unfold en_h88_specs at hp
    rcases List.mem_cons.1 hp with rfl | hp
    · exact chX_ok (R := 300) (d := 60) natSpecs3_ok hcs
    rcases List.mem_cons.1 hp with rfl | hp
    · exact chX_ok (R := 300) (d := 60) natSpecs3_ok hcs
    rcases List.mem_cons.1 hp with rfl | hp
    · exact chX_ok (R := 300) (d := 60) natSpecs3_ok hcs
    rcases List.mem_cons.1 hp with rfl | hp
    · exact chX_ok (R := 300) (d := 60) natSpecs3_ok hcs
    rcases List.mem_cons.1 hp with rfl | hp
    · exact chX_ok (R := 300) (d := 60) natSpecs3_ok hcs
    exact natSpecs3_ok p hp
  have hrun : EF Sagg.prog (en_h88_specs ha hl hc zs cb ra ci bf nu ti gl o x) 300 60 [] 8 #[.agg (envA ha hl hc cb ra ci bf nu ti gl), .int .u8 88] (fun v _ _ => v = .bool true) ⟨[], [(.tuple #[.pointer ha, .agg (bcells zs).toArray], 0)]⟩ en_h88_H_0 := by
    refine of_eq (en_h88_main ha hl hc zs cb ra ci bf nu ti gl o x) ?_
    refine buildC_ok ?_ (fun _ => rfl) _ _ (by kernel_rfl)
    exact (ho_cons (told_le0 (by have : (4 : Int) < ((hl : Nat) : Int) := (by omega); exact this)) ho_nil)
  refine (closed (S := fun _ => False) hsp (fun b hb => hb.elim) hrun (fun p hp => by
    rcases List.mem_cons.1 hp with rfl | hp
    · exact hN
    · cases hp)).mono ?_
  rintro e w' ⟨v, s', H', rfl, rfl, hi⟩
  exact ⟨rfl, hi.below⟩
noncomputable def en_h89_cs (ha : Option Addr) (hl hc : Nat) (zs : List Int) (cb ra ci bf : Nat → Int) (nu ti gl o x : Int) : List Ch := [en_u146 ha hl hc zs cb ra ci bf nu ti gl 89 0, en_u147 ha hl hc zs cb ra ci bf nu ti gl 89 0]
noncomputable def en_h89_specs (ha : Option Addr) (hl hc : Nat) (zs : List Int) (cb ra ci bf : Nat → Int) (nu ti gl o x : Int) : List (FuncId × Spec) := (44, chX 44 (en_h89_cs ha hl hc zs cb ra ci bf nu ti gl o x)) :: (31, chX 31 (en_h89_cs ha hl hc zs cb ra ci bf nu ti gl o x)) :: (43, chX 43 (en_h89_cs ha hl hc zs cb ra ci bf nu ti gl o x)) :: (45, chX 45 (en_h89_cs ha hl hc zs cb ra ci bf nu ti gl o x)) :: (59, chX 59 (en_h89_cs ha hl hc zs cb ra ci bf nu ti gl o x)) :: natSpecs3
def en_h89_H_0 : List Nat := nat_lit 100000 :: nat_lit 0 :: nat_lit 0 :: nat_lit 1 :: nat_lit 0 :: nat_lit 3 :: nat_lit 1 :: nat_lit 0 :: nat_lit 2 :: nat_lit 1 :: nat_lit 0 :: nat_lit 1 :: nat_lit 1 :: nat_lit 0 :: nat_lit 4 :: nat_lit 100000 :: nat_lit 0 :: nat_lit 0 :: nat_lit 0 :: nat_lit 0 :: nat_lit 0 :: nat_lit 0 :: nat_lit 0 :: nat_lit 0 :: nat_lit 0 :: nat_lit 0 :: nat_lit 0 :: nat_lit 0 :: nat_lit 0 :: nat_lit 0 :: nat_lit 0 :: nat_lit 0 :: nat_lit 0 :: nat_lit 0 :: nat_lit 1 :: nat_lit 1 :: nat_lit 2 :: nat_lit 2 :: nat_lit 2 :: nat_lit 2 :: nat_lit 0 :: nat_lit 1 :: nat_lit 9 :: nat_lit 10 :: nat_lit 0 :: nat_lit 0 :: nat_lit 0 :: nat_lit 3 :: nat_lit 0 :: nat_lit 1 :: nat_lit 1 :: nat_lit 1 :: nat_lit 2 :: nat_lit 0 :: nat_lit 1 :: nat_lit 0 :: nat_lit 0 :: nat_lit 1 :: nat_lit 0 :: nat_lit 0 :: nat_lit 0 :: nat_lit 10 :: nat_lit 1 :: nat_lit 2 :: nat_lit 0 :: nat_lit 1 :: nat_lit 14 :: nat_lit 1 :: nat_lit 0 :: nat_lit 0 :: nat_lit 0 :: nat_lit 0 :: nat_lit 0 :: nat_lit 0 :: nat_lit 0 :: nat_lit 0 :: nat_lit 0 :: nat_lit 0 :: nat_lit 0 :: nat_lit 0 :: nat_lit 0 :: nat_lit 0 :: nat_lit 0 :: nat_lit 0 :: nat_lit 1 :: nat_lit 1 :: nat_lit 2 :: nat_lit 2 :: nat_lit 3 :: nat_lit 1 :: nat_lit 1 :: nat_lit 4 :: nat_lit 0 :: nat_lit 1 :: nat_lit 0 :: nat_lit 3 :: nat_lit 2 :: nat_lit 0 :: nat_lit 0 :: nat_lit 0 :: nat_lit 1 :: nat_lit 3 :: nat_lit 0 :: nat_lit 0 :: nat_lit 1 :: nat_lit 0 :: nat_lit 3 :: nat_lit 100000 :: nat_lit 1 :: nat_lit 1 :: nat_lit 0 :: nat_lit 0 :: nat_lit 5 :: nat_lit 0 :: nat_lit 6 :: nat_lit 0 :: nat_lit 7 :: nat_lit 0 :: nat_lit 8 :: nat_lit 0 :: nat_lit 9 :: nat_lit 0 :: []
def en_h89_T_0 : List (Tk ⊕ (Nat × List (Nat × Nat × Nat))) := .inl .b :: .inl .b :: .inl .b :: .inl .b :: .inl .b :: .inl (.lb (nat_lit 3)) :: .inl (.lb (nat_lit 0)) :: .inl (.lb (nat_lit 2)) :: .inl (.lb (nat_lit 0)) :: .inl (.lb (nat_lit 1)) :: .inl (.lb (nat_lit 0)) :: .inl (.lb (nat_lit 0)) :: .inl (.lb (nat_lit 4)) :: .inl .b :: .inl .b :: .inl .b :: .inl .b :: .inl (.lb (nat_lit 0)) :: .inl (.lb (nat_lit 0)) :: .inl (.lb (nat_lit 0)) :: .inl (.lb (nat_lit 0)) :: .inl (.lb (nat_lit 0)) :: .inl (.lb (nat_lit 0)) :: .inl (.lb (nat_lit 0)) :: .inl (.lb (nat_lit 0)) :: .inl (.lb (nat_lit 0)) :: .inl (.lb (nat_lit 1)) :: .inl (.lb (nat_lit 1)) :: .inl (.lb (nat_lit 2)) :: .inl (.lb (nat_lit 2)) :: .inl (.lb (nat_lit 2)) :: .inl (.lb (nat_lit 2)) :: .inl .b :: .inl (.lb (nat_lit 0)) :: .inl (.lb (nat_lit 9)) :: .inl .b :: .inl (.lb (nat_lit 0)) :: .inl .b :: .inl (.lb (nat_lit 0)) :: .inl (.lb (nat_lit 0)) :: .inl .b :: .inl (.lb (nat_lit 0)) :: .inl .b :: .inl (.lb (nat_lit 0)) :: .inl (.lb (nat_lit 9)) :: .inl (.lb (nat_lit 1)) :: .inl (.lb (nat_lit 1)) :: .inl .b :: .inl (.lb (nat_lit 0)) :: .inl .b :: .inl .b :: .inl .b :: .inl .b :: .inl (.lb (nat_lit 0)) :: .inl (.lb (nat_lit 0)) :: .inl (.lb (nat_lit 1)) :: .inl (.lb (nat_lit 1)) :: .inl .b :: .inl (.lb (nat_lit 0)) :: .inl (.lb (nat_lit 4)) :: .inl (.lc 3 1 55) :: .inl .b :: .inl .b :: .inl .b :: .inl (.lb (nat_lit 0)) :: .inr (0, [(0, 0, 0), (2, 0, 0), (9, 0, 0), (1, 0, 0)]) :: .inr (1, [(5, 0, 0), (3, 0, 0), (12, 0, 0), (4, 0, 0)]) :: .inl (.lb (nat_lit 4)) :: .inl .b :: .inl (.lb (nat_lit 0)) :: .inl (.lo (nat_lit 0)) :: []
theorem en_h89_main (ha : Option Addr) (hl hc : Nat) (zs : List Int) (cb ra ci bf : Nat → Int) (nu ti gl o x : Int) : EF Sagg.prog (en_h89_specs ha hl hc zs cb ra ci bf nu ti gl o x) 300 60 [] 8 #[.agg (envA ha hl hc cb ra ci bf nu ti gl), .int .u8 89] (fun v _ _ => v = .bool true) ⟨[], [(.tuple #[.pointer ha, .agg (bcells zs).toArray], 0)]⟩ en_h89_H_0
  = buildC (en_h89_cs ha hl hc zs cb ra ci bf nu ti gl o x) [Told Sagg.prog .leq 3 (.int .i64 (Int.ofNat hl)) (.int .i64 4) (toldV 0 0)] (fun _ => Value.bool true = .bool true) en_h89_T_0 [] := by kernel_rfl
theorem en_h89_calls (ha : Option Addr) (hl hc : Nat) (zs : List Int) (cb ra ci bf : Nat → Int) (nu ti gl o x : Int) (hh5 : 4 < hl) (w : World) (hN : Stab [] w (fun w => nmH (fun _ => False) w (.tuple #[.pointer ha, .agg (bcells zs).toArray]) 0)) :
    Calls Sagg.prog 8 #[.agg (envA ha hl hc cb ra ci bf nu ti gl), .int .u8 89] w fun e w' => e = .returned (.bool true) ∧ Below w.heap.size w w' := by
  have hcs : ∀ c ∈ en_h89_cs ha hl hc zs cb ra ci bf nu ti gl o x, c.Ran natSpecs3 300 60 := by
    unfold en_h89_cs
    simp only [List.forall_mem_cons]
    exact ⟨en_u146_ran hh5, en_u147_ran, fun c hc => by cases hc⟩
  have hsp : ∀ p ∈ en_h89_specs ha hl hc zs cb ra ci bf nu ti gl o x, SpecOK p.1 p.2 := by
    intro p hp
    unfold en_h89_specs at hp
    rcases List.mem_cons.1 hp with rfl | hp
    · exact chX_ok (R := 300) (d := 60) natSpecs3_ok hcs
    rcases List.mem_cons.1 hp with rfl | hp
    · exact chX_ok (R := 300) (d := 60) natSpecs3_ok hcs
    rcases List.mem_cons.1 hp with rfl | hp
    · exact chX_ok (R := 300) (d := 60) natSpecs3_ok hcs
    rcases List.mem_cons.1 hp with rfl | hp
    · exact chX_ok (R := 300) (d := 60) natSpecs3_ok hcs
    rcases List.mem_cons.1 hp with rfl | hp
    · exact chX_ok (R := 300) (d := 60) natSpecs3_ok hcs
    exact natSpecs3_ok p hp
  have hrun : EF Sagg.prog (en_h89_specs ha hl hc zs cb ra ci bf nu ti gl o x) 300 60 [] 8 #[.agg (envA ha hl hc cb ra ci bf nu ti gl), .int .u8 89] (fun v _ _ => v = .bool true) ⟨[], [(.tuple #[.pointer ha, .agg (bcells zs).toArray], 0)]⟩ en_h89_H_0 := by
    refine of_eq (en_h89_main ha hl hc zs cb ra ci bf nu ti gl o x) ?_
    refine buildC_ok ?_ (fun _ => rfl) _ _ (by kernel_rfl)
    exact (ho_cons (told_le0 (by have : (4 : Int) < ((hl : Nat) : Int) := (by omega); exact this)) ho_nil)
  refine (closed (S := fun _ => False) hsp (fun b hb => hb.elim) hrun (fun p hp => by
    rcases List.mem_cons.1 hp with rfl | hp
    · exact hN
    · cases hp)).mono ?_
  rintro e w' ⟨v, s', H', rfl, rfl, hi⟩
  exact ⟨rfl, hi.below⟩
noncomputable def en_h90_cs (ha : Option Addr) (hl hc : Nat) (zs : List Int) (cb ra ci bf : Nat → Int) (nu ti gl o x : Int) : List Ch := [en_u146 ha hl hc zs cb ra ci bf nu ti gl 90 0, en_u147 ha hl hc zs cb ra ci bf nu ti gl 90 0]
noncomputable def en_h90_specs (ha : Option Addr) (hl hc : Nat) (zs : List Int) (cb ra ci bf : Nat → Int) (nu ti gl o x : Int) : List (FuncId × Spec) := (44, chX 44 (en_h90_cs ha hl hc zs cb ra ci bf nu ti gl o x)) :: (31, chX 31 (en_h90_cs ha hl hc zs cb ra ci bf nu ti gl o x)) :: (43, chX 43 (en_h90_cs ha hl hc zs cb ra ci bf nu ti gl o x)) :: (45, chX 45 (en_h90_cs ha hl hc zs cb ra ci bf nu ti gl o x)) :: (59, chX 59 (en_h90_cs ha hl hc zs cb ra ci bf nu ti gl o x)) :: natSpecs3
def en_h90_H_0 : List Nat := nat_lit 100000 :: nat_lit 0 :: nat_lit 0 :: nat_lit 1 :: nat_lit 0 :: nat_lit 3 :: nat_lit 1 :: nat_lit 0 :: nat_lit 2 :: nat_lit 1 :: nat_lit 0 :: nat_lit 1 :: nat_lit 1 :: nat_lit 0 :: nat_lit 4 :: nat_lit 100000 :: nat_lit 0 :: nat_lit 0 :: nat_lit 0 :: nat_lit 0 :: nat_lit 0 :: nat_lit 0 :: nat_lit 0 :: nat_lit 0 :: nat_lit 0 :: nat_lit 0 :: nat_lit 0 :: nat_lit 0 :: nat_lit 0 :: nat_lit 0 :: nat_lit 0 :: nat_lit 0 :: nat_lit 0 :: nat_lit 0 :: nat_lit 0 :: nat_lit 1 :: nat_lit 1 :: nat_lit 2 :: nat_lit 2 :: nat_lit 2 :: nat_lit 2 :: nat_lit 0 :: nat_lit 1 :: nat_lit 9 :: nat_lit 10 :: nat_lit 0 :: nat_lit 0 :: nat_lit 0 :: nat_lit 3 :: nat_lit 0 :: nat_lit 1 :: nat_lit 1 :: nat_lit 1 :: nat_lit 2 :: nat_lit 0 :: nat_lit 1 :: nat_lit 0 :: nat_lit 0 :: nat_lit 1 :: nat_lit 0 :: nat_lit 0 :: nat_lit 0 :: nat_lit 10 :: nat_lit 1 :: nat_lit 2 :: nat_lit 0 :: nat_lit 1 :: nat_lit 14 :: nat_lit 1 :: nat_lit 0 :: nat_lit 0 :: nat_lit 0 :: nat_lit 0 :: nat_lit 0 :: nat_lit 0 :: nat_lit 0 :: nat_lit 0 :: nat_lit 0 :: nat_lit 0 :: nat_lit 0 :: nat_lit 0 :: nat_lit 0 :: nat_lit 0 :: nat_lit 0 :: nat_lit 0 :: nat_lit 1 :: nat_lit 1 :: nat_lit 2 :: nat_lit 2 :: nat_lit 3 :: nat_lit 1 :: nat_lit 1 :: nat_lit 4 :: nat_lit 0 :: nat_lit 1 :: nat_lit 0 :: nat_lit 3 :: nat_lit 2 :: nat_lit 0 :: nat_lit 0 :: nat_lit 0 :: nat_lit 1 :: nat_lit 3 :: nat_lit 0 :: nat_lit 0 :: nat_lit 1 :: nat_lit 0 :: nat_lit 3 :: nat_lit 100000 :: nat_lit 1 :: nat_lit 1 :: nat_lit 0 :: nat_lit 0 :: nat_lit 5 :: nat_lit 0 :: nat_lit 6 :: nat_lit 0 :: nat_lit 7 :: nat_lit 0 :: nat_lit 8 :: nat_lit 0 :: nat_lit 9 :: nat_lit 0 :: []
def en_h90_T_0 : List (Tk ⊕ (Nat × List (Nat × Nat × Nat))) := .inl .b :: .inl .b :: .inl .b :: .inl .b :: .inl .b :: .inl (.lb (nat_lit 3)) :: .inl (.lb (nat_lit 0)) :: .inl (.lb (nat_lit 2)) :: .inl (.lb (nat_lit 0)) :: .inl (.lb (nat_lit 1)) :: .inl (.lb (nat_lit 0)) :: .inl (.lb (nat_lit 0)) :: .inl (.lb (nat_lit 4)) :: .inl .b :: .inl .b :: .inl .b :: .inl .b :: .inl (.lb (nat_lit 0)) :: .inl (.lb (nat_lit 0)) :: .inl (.lb (nat_lit 0)) :: .inl (.lb (nat_lit 0)) :: .inl (.lb (nat_lit 0)) :: .inl (.lb (nat_lit 0)) :: .inl (.lb (nat_lit 0)) :: .inl (.lb (nat_lit 0)) :: .inl (.lb (nat_lit 0)) :: .inl (.lb (nat_lit 1)) :: .inl (.lb (nat_lit 1)) :: .inl (.lb (nat_lit 2)) :: .inl (.lb (nat_lit 2)) :: .inl (.lb (nat_lit 2)) :: .inl (.lb (nat_lit 2)) :: .inl .b :: .inl (.lb (nat_lit 0)) :: .inl (.lb (nat_lit 9)) :: .inl .b :: .inl (.lb (nat_lit 0)) :: .inl .b :: .inl (.lb (nat_lit 0)) :: .inl (.lb (nat_lit 0)) :: .inl .b :: .inl (.lb (nat_lit 0)) :: .inl .b :: .inl (.lb (nat_lit 0)) :: .inl (.lb (nat_lit 9)) :: .inl (.lb (nat_lit 1)) :: .inl (.lb (nat_lit 1)) :: .inl .b :: .inl (.lb (nat_lit 0)) :: .inl .b :: .inl .b :: .inl .b :: .inl .b :: .inl (.lb (nat_lit 0)) :: .inl (.lb (nat_lit 0)) :: .inl (.lb (nat_lit 1)) :: .inl (.lb (nat_lit 1)) :: .inl .b :: .inl (.lb (nat_lit 0)) :: .inl (.lb (nat_lit 4)) :: .inl (.lc 3 1 55) :: .inl .b :: .inl .b :: .inl .b :: .inl (.lb (nat_lit 0)) :: .inr (0, [(0, 0, 0), (2, 0, 0), (9, 0, 0), (1, 0, 0)]) :: .inr (1, [(5, 0, 0), (3, 0, 0), (12, 0, 0), (4, 0, 0)]) :: .inl (.lb (nat_lit 4)) :: .inl .b :: .inl (.lb (nat_lit 0)) :: .inl (.lo (nat_lit 0)) :: []
theorem en_h90_main (ha : Option Addr) (hl hc : Nat) (zs : List Int) (cb ra ci bf : Nat → Int) (nu ti gl o x : Int) : EF Sagg.prog (en_h90_specs ha hl hc zs cb ra ci bf nu ti gl o x) 300 60 [] 8 #[.agg (envA ha hl hc cb ra ci bf nu ti gl), .int .u8 90] (fun v _ _ => v = .bool true) ⟨[], [(.tuple #[.pointer ha, .agg (bcells zs).toArray], 0)]⟩ en_h90_H_0
  = buildC (en_h90_cs ha hl hc zs cb ra ci bf nu ti gl o x) [Told Sagg.prog .leq 3 (.int .i64 (Int.ofNat hl)) (.int .i64 4) (toldV 0 0)] (fun _ => Value.bool true = .bool true) en_h90_T_0 [] := by kernel_rfl
theorem en_h90_calls (ha : Option Addr) (hl hc : Nat) (zs : List Int) (cb ra ci bf : Nat → Int) (nu ti gl o x : Int) (hh5 : 4 < hl) (w : World) (hN : Stab [] w (fun w => nmH (fun _ => False) w (.tuple #[.pointer ha, .agg (bcells zs).toArray]) 0)) :
    Calls Sagg.prog 8 #[.agg (envA ha hl hc cb ra ci bf nu ti gl), .int .u8 90] w fun e w' => e = .returned (.bool true) ∧ Below w.heap.size w w' := by
  have hcs : ∀ c ∈ en_h90_cs ha hl hc zs cb ra ci bf nu ti gl o x, c.Ran natSpecs3 300 60 := by
    unfold en_h90_cs
    simp only [List.forall_mem_cons]
    exact ⟨en_u146_ran hh5, en_u147_ran, fun c hc => by cases hc⟩
  have hsp : ∀ p ∈ en_h90_specs ha hl hc zs cb ra ci bf nu ti gl o x, SpecOK p.1 p.2 := by
    intro p hp
    unfold en_h90_specs at hp
    rcases List.mem_cons.1 hp with rfl | hp
    · exact chX_ok (R := 300) (d := 60) natSpecs3_ok hcs
    rcases List.mem_cons.1 hp with rfl | hp
    · exact chX_ok (R := 300) (d := 60) natSpecs3_ok hcs
    rcases List.mem_cons.1 hp with rfl | hp
    · exact chX_ok (R := 300) (d := 60) natSpecs3_ok hcs
    rcases List.mem_cons.1 hp with rfl | hp
    · exact chX_ok (R := 300) (d := 60) natSpecs3_ok hcs
    rcases List.mem_cons.1 hp with rfl | hp
    · exact chX_ok (R := 300) (d := 60) natSpecs3_ok hcs
    exact natSpecs3_ok p hp
  have hrun : EF Sagg.prog (en_h90_specs ha hl hc zs cb ra ci bf nu ti gl o x) 300 60 [] 8 #[.agg (envA ha hl hc cb ra ci bf nu ti gl), .int .u8 90] (fun v _ _ => v = .bool true) ⟨[], [(.tuple #[.pointer ha, .agg (bcells zs).toArray], 0)]⟩ en_h90_H_0 := by
    refine of_eq (en_h90_main ha hl hc zs cb ra ci bf nu ti gl o x) ?_
    refine buildC_ok ?_ (fun _ => rfl) _ _ (by kernel_rfl)
    exact (ho_cons (told_le0 (by have : (4 : Int) < ((hl : Nat) : Int) := (by omega); exact this)) ho_nil)
  refine (closed (S := fun _ => False) hsp (fun b hb => hb.elim) hrun (fun p hp => by
    rcases List.mem_cons.1 hp with rfl | hp
    · exact hN
    · cases hp)).mono ?_
  rintro e w' ⟨v, s', H', rfl, rfl, hi⟩
  exact ⟨rfl, hi.below⟩
end Go.Proofs.EX
