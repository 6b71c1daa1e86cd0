/-
  'EnvOps': runs, their parts being chunks.
-/
import Derived.Test.YgcsagGreatEnh
namespace Go.Proofs.EX
open Go.RowKit Go.Proofs.YgcsagGreat
set_option linter.unusedVariables false
set_option linter.unusedSimpArgs false
set_option maxRecDepth 100000
noncomputable def en_u_cs (ha : Option Addr) (hl hc : Nat) (zs : List Int) (cb ra ci bf : Nat → Int) (nu ti gl o x : Int) : List Ch := []
noncomputable def en_u_specs (ha : Option Addr) (hl hc : Nat) (zs : List Int) (cb ra ci bf : Nat → Int) (nu ti gl o x : Int) : List (FuncId × Spec) := (44, chX 44 (en_u_cs ha hl hc zs cb ra ci bf nu ti gl o x)) :: (31, chX 31 (en_u_cs ha hl hc zs cb ra ci bf nu ti gl o x)) :: (43, chX 43 (en_u_cs ha hl hc zs cb ra ci bf nu ti gl o x)) :: (45, chX 45 (en_u_cs ha hl hc zs cb ra ci bf nu ti gl o x)) :: (59, chX 59 (en_u_cs ha hl hc zs cb ra ci bf nu ti gl o x)) :: natSpecs3
def en_u_H_0 : List Nat := nat_lit 100000 :: nat_lit 0 :: nat_lit 0 :: nat_lit 1 :: nat_lit 0 :: nat_lit 3 :: nat_lit 1 :: nat_lit 0 :: nat_lit 2 :: nat_lit 1 :: nat_lit 0 :: nat_lit 1 :: nat_lit 1 :: nat_lit 0 :: nat_lit 4 :: nat_lit 100000 :: nat_lit 1 :: nat_lit 0 :: nat_lit 1 :: nat_lit 0 :: nat_lit 1 :: nat_lit 0 :: nat_lit 1 :: nat_lit 0 :: nat_lit 1 :: nat_lit 0 :: nat_lit 1 :: nat_lit 0 :: nat_lit 1 :: nat_lit 0 :: nat_lit 1 :: nat_lit 0 :: nat_lit 1 :: nat_lit 0 :: nat_lit 0 :: nat_lit 0 :: nat_lit 0 :: nat_lit 0 :: []
def en_u_T_0 : List (Tk ⊕ (Nat × List (Nat × Nat × Nat))) := .inl .b :: .inl .b :: .inl .b :: .inl .b :: .inl .b :: .inl (.lb (nat_lit 3)) :: .inl (.lb (nat_lit 0)) :: .inl (.lb (nat_lit 2)) :: .inl (.lb (nat_lit 0)) :: .inl (.lb (nat_lit 1)) :: .inl (.lb (nat_lit 0)) :: .inl (.lb (nat_lit 0)) :: .inl (.lb (nat_lit 4)) :: .inl .b :: .inl .b :: .inl (.lo (nat_lit 0)) :: .inl (.lo (nat_lit 1)) :: .inl (.lo (nat_lit 2)) :: .inl (.lo (nat_lit 3)) :: .inl (.lo (nat_lit 4)) :: .inl (.lo (nat_lit 5)) :: .inl (.lo (nat_lit 6)) :: .inl (.lo (nat_lit 7)) :: .inl (.lo (nat_lit 8)) :: .inl (.lb (nat_lit 0)) :: .inl (.lb (nat_lit 0)) :: .inl (.lb (nat_lit 0)) :: .inl .b :: .inl (.lb (nat_lit 0)) :: []
theorem en_u_main (ha : Option Addr) (hl hc : Nat) (zs : List Int) (cb ra ci bf : Nat → Int) (nu ti gl o x : Int) : EF Sagg.prog (en_u_specs ha hl hc zs cb ra ci bf nu ti gl o x) 300 60 [] 8 #[.agg (envA ha hl hc cb ra ci bf nu ti gl), .int .u8 o] (fun v _ _ => v = .bool true) ⟨[], [(.tuple #[.pointer ha, .agg (bcells zs).toArray], 0)]⟩ en_u_H_0
  = buildC (en_u_cs ha hl hc zs cb ra ci bf nu ti gl o x) [Told Sagg.prog .eql 5 (.int .u8 o) (.int .u8 65) (toldV 0 0),
  Told Sagg.prog .eql 5 (.int .u8 o) (.int .u8 66) (toldV 0 0),
  Told Sagg.prog .eql 5 (.int .u8 o) (.int .u8 67) (toldV 0 0),
  Told Sagg.prog .eql 5 (.int .u8 o) (.int .u8 68) (toldV 0 0),
  Told Sagg.prog .eql 5 (.int .u8 o) (.int .u8 69) (toldV 0 0),
  Told Sagg.prog .eql 5 (.int .u8 o) (.int .u8 70) (toldV 0 0),
  Told Sagg.prog .eql 5 (.int .u8 o) (.int .u8 88) (toldV 0 0),
  Told Sagg.prog .eql 5 (.int .u8 o) (.int .u8 89) (toldV 0 0),
  Told Sagg.prog .eql 5 (.int .u8 o) (.int .u8 90) (toldV 0 0)] (fun _ => Value.bool true = .bool true) en_u_T_0 [] := by kernel_rfl
theorem en_u_calls (ha : Option Addr) (hl hc : Nat) (zs : List Int) (cb ra ci bf : Nat → Int) (nu ti gl o x : Int) (o65 : o ≠ 65) (o66 : o ≠ 66) (o67 : o ≠ 67) (o68 : o ≠ 68) (o69 : o ≠ 69) (o70 : o ≠ 70) (o88 : o ≠ 88) (o89 : o ≠ 89) (o90 : o ≠ 90) (w : World) (hN : Stab [] w (fun w => nmH (fun _ => False) w (.tuple #[.pointer ha, .agg (bcells zs).toArray]) 0)) :
    Calls Sagg.prog 8 #[.agg (envA ha hl hc cb ra ci bf nu ti gl), .int .u8 o] w fun e w' => e = .returned (.bool true) ∧ Below w.heap.size w w' := by
  have hcs : ∀ c ∈ en_u_cs ha hl hc zs cb ra ci bf nu ti gl o x, c.Ran natSpecs3 300 60 := by
    unfold en_u_cs
    exact (fun c hc => by cases hc)
  have hsp : ∀ p ∈ en_u_specs ha hl hc zs cb ra ci bf nu ti gl o x, SpecOK p.1 p.2 := by
    intro p hp
    unfold en_u_specs at hp
    rcases List.mem_cons.1 hp with rfl | hp
    · exact chX_ok (R := 300) (d := 60) natSpecs3_ok hcs
    rcases List.mem_cons.1 hp with rfl | hp
    · exact chX_ok (R := 300) (d := 60) natSpecs3_ok hcs
    rcases List.mem_cons.1 hp with rfl | hp
    · exact chX_ok (R := 300) (d := 60) natSpecs3_ok hcs
    rcases List.mem_cons.1 hp with rfl | hp
    · exact chX_ok (R := 300) (d := 60) natSpecs3_ok hcs
    rcases List.mem_cons.1 hp with rfl | hp
    · exact chX_ok (R := 300) (d := 60) natSpecs3_ok hcs
    exact natSpecs3_ok p hp
  have hrun : EF Sagg.prog (en_u_specs ha hl hc zs cb ra ci bf nu ti gl o x) 300 60 [] 8 #[.agg (envA ha hl hc cb ra ci bf nu ti gl), .int .u8 o] (fun v _ _ => v = .bool true) ⟨[], [(.tuple #[.pointer ha, .agg (bcells zs).toArray], 0)]⟩ en_u_H_0 := by
    refine of_eq (en_u_main ha hl hc zs cb ra ci bf nu ti gl o x) ?_
    refine buildC_ok ?_ (fun _ => rfl) _ _ (by kernel_rfl)
    exact (ho_cons (told_ieq0 o65) (ho_cons (told_ieq0 o66) (ho_cons (told_ieq0 o67) (ho_cons (told_ieq0 o68) (ho_cons (told_ieq0 o69) (ho_cons (told_ieq0 o70) (ho_cons (told_ieq0 o88) (ho_cons (told_ieq0 o89) (ho_cons (told_ieq0 o90) ho_nil)))))))))
  refine (closed (S := fun _ => False) hsp (fun b hb => hb.elim) hrun (fun p hp => by
    rcases List.mem_cons.1 hp with rfl | hp
    · exact hN
    · cases hp)).mono ?_
  rintro e w' ⟨v, s', H', rfl, rfl, hi⟩
  exact ⟨rfl, hi.below⟩
end Go.Proofs.EX
