/-
  'EnvOps': runs, their parts being chunks.
-/
import Derived.Test.YgcsagGreatEns18
import Derived.Test.YgcsagGreatEns19
namespace Go.Proofs.EX
open Go.RowKit Go.Proofs.YgcsagGreat
set_option linter.unusedVariables false
set_option linter.unusedSimpArgs false
set_option maxRecDepth 100000
noncomputable def en_b65_cs (ha : Option Addr) (hl hc : Nat) (zs : List Int) (cb ra ci bf : Nat → Int) (nu ti gl o x : Int) : List Ch := [en_u148 ha hl hc zs cb ra ci bf nu ti gl 65 (beV (l20 cb)), en_u151 ha hl hc zs cb ra ci bf nu ti gl 65 (beV (l20 cb)), en_u152 ha hl hc zs cb ra ci bf nu ti gl 65 (beV (l20 cb))]
noncomputable def en_b65_specs (ha : Option Addr) (hl hc : Nat) (zs : List Int) (cb ra ci bf : Nat → Int) (nu ti gl o x : Int) : List (FuncId × Spec) := (44, chX 44 (en_b65_cs ha hl hc zs cb ra ci bf nu ti gl o x)) :: (31, chX 31 (en_b65_cs ha hl hc zs cb ra ci bf nu ti gl o x)) :: (43, chX 43 (en_b65_cs ha hl hc zs cb ra ci bf nu ti gl o x)) :: (45, chX 45 (en_b65_cs ha hl hc zs cb ra ci bf nu ti gl o x)) :: (59, chX 59 (en_b65_cs ha hl hc zs cb ra ci bf nu ti gl o x)) :: natSpecs3
def en_b65_H_0 : List Nat := nat_lit 100000 :: nat_lit 0 :: nat_lit 0 :: nat_lit 1 :: nat_lit 0 :: nat_lit 3 :: nat_lit 1 :: nat_lit 0 :: nat_lit 2 :: nat_lit 1 :: nat_lit 0 :: nat_lit 1 :: nat_lit 1 :: nat_lit 0 :: nat_lit 4 :: nat_lit 100000 :: nat_lit 0 :: nat_lit 0 :: nat_lit 0 :: nat_lit 0 :: nat_lit 0 :: nat_lit 1 :: nat_lit 0 :: nat_lit 2 :: nat_lit 1 :: nat_lit 3 :: nat_lit 0 :: nat_lit 1 :: nat_lit 0 :: nat_lit 0 :: nat_lit 0 :: nat_lit 0 :: nat_lit 1 :: nat_lit 7 :: nat_lit 10 :: nat_lit 0 :: nat_lit 0 :: nat_lit 0 :: nat_lit 3 :: nat_lit 0 :: nat_lit 1 :: nat_lit 1 :: nat_lit 1 :: nat_lit 2 :: nat_lit 0 :: nat_lit 1 :: nat_lit 0 :: nat_lit 0 :: nat_lit 1 :: nat_lit 0 :: nat_lit 0 :: nat_lit 0 :: nat_lit 8 :: nat_lit 1 :: nat_lit 2 :: nat_lit 0 :: nat_lit 1 :: nat_lit 0 :: nat_lit 0 :: nat_lit 0 :: nat_lit 1 :: nat_lit 1 :: nat_lit 2 :: nat_lit 2 :: nat_lit 3 :: nat_lit 1 :: nat_lit 1 :: nat_lit 4 :: nat_lit 14 :: nat_lit 1 :: nat_lit 0 :: nat_lit 0 :: nat_lit 0 :: nat_lit 1 :: nat_lit 0 :: nat_lit 0 :: nat_lit 0 :: nat_lit 0 :: nat_lit 0 :: nat_lit 0 :: nat_lit 0 :: nat_lit 0 :: nat_lit 0 :: nat_lit 0 :: nat_lit 1 :: nat_lit 0 :: nat_lit 0 :: nat_lit 1 :: nat_lit 11 :: nat_lit 2 :: nat_lit 0 :: nat_lit 0 :: nat_lit 0 :: nat_lit 0 :: nat_lit 0 :: nat_lit 0 :: nat_lit 0 :: nat_lit 0 :: nat_lit 1 :: nat_lit 1 :: nat_lit 4 :: nat_lit 0 :: nat_lit 2 :: nat_lit 0 :: nat_lit 0 :: nat_lit 5 :: nat_lit 100000 :: nat_lit 1 :: nat_lit 2 :: nat_lit 0 :: nat_lit 0 :: nat_lit 5 :: nat_lit 0 :: nat_lit 6 :: nat_lit 0 :: nat_lit 7 :: nat_lit 0 :: nat_lit 8 :: nat_lit 0 :: nat_lit 9 :: nat_lit 0 :: nat_lit 1 :: nat_lit 0 :: nat_lit 7 :: nat_lit 0 :: nat_lit 0 :: nat_lit 0 :: nat_lit 0 :: nat_lit 1 :: nat_lit 0 :: nat_lit 2 :: nat_lit 1 :: nat_lit 3 :: nat_lit 0 :: nat_lit 0 :: nat_lit 0 :: nat_lit 0 :: nat_lit 1 :: nat_lit 1 :: nat_lit 2 :: nat_lit 0 :: nat_lit 0 :: nat_lit 1 :: nat_lit 3 :: nat_lit 4 :: nat_lit 1 :: nat_lit 4 :: nat_lit 0 :: nat_lit 2 :: nat_lit 2 :: nat_lit 9 :: nat_lit 1 :: nat_lit 0 :: nat_lit 0 :: nat_lit 0 :: nat_lit 0 :: nat_lit 0 :: nat_lit 0 :: nat_lit 0 :: nat_lit 2 :: nat_lit 0 :: nat_lit 2 :: nat_lit 3 :: nat_lit 1 :: nat_lit 5 :: nat_lit 100000 :: nat_lit 2 :: nat_lit 1 :: nat_lit 0 :: nat_lit 2 :: nat_lit 2 :: nat_lit 0 :: nat_lit 1 :: nat_lit 0 :: nat_lit 0 :: nat_lit 6 :: []
def en_b65_T_0 : List (Tk ⊕ (Nat × List (Nat × Nat × Nat))) := .inl .b :: .inl .b :: .inl .b :: .inl .b :: .inl .b :: .inl (.lb (nat_lit 3)) :: .inl (.lb (nat_lit 0)) :: .inl (.lb (nat_lit 2)) :: .inl (.lb (nat_lit 0)) :: .inl (.lb (nat_lit 1)) :: .inl (.lb (nat_lit 0)) :: .inl (.lb (nat_lit 0)) :: .inl (.lb (nat_lit 4)) :: .inl .b :: .inl .b :: .inl (.lb (nat_lit 0)) :: .inl (.lb (nat_lit 1)) :: .inl (.lb (nat_lit 0)) :: .inl (.lb (nat_lit 0)) :: .inl (.lb (nat_lit 0)) :: .inl .b :: .inl (.lb (nat_lit 0)) :: .inl (.lb (nat_lit 7)) :: .inl .b :: .inl (.lb (nat_lit 0)) :: .inl .b :: .inl (.lb (nat_lit 0)) :: .inl (.lb (nat_lit 0)) :: .inl .b :: .inl (.lb (nat_lit 0)) :: .inl .b :: .inl (.lb (nat_lit 0)) :: .inl (.lb (nat_lit 7)) :: .inl (.lb (nat_lit 1)) :: .inl (.lb (nat_lit 1)) :: .inl .b :: .inl (.lb (nat_lit 0)) :: .inl .b :: .inl .b :: .inl .b :: .inl .b :: .inl (.lb (nat_lit 0)) :: .inl (.lb (nat_lit 0)) :: .inl (.lb (nat_lit 1)) :: .inl (.lb (nat_lit 1)) :: .inl .b :: .inl (.lb (nat_lit 0)) :: .inl (.lb (nat_lit 4)) :: .inl (.lc 3 1 55) :: .inl .b :: .inl .b :: .inl .b :: .inl (.lb (nat_lit 0)) :: .inr (0, [(0, 0, 0), (2, 0, 0), (9, 0, 0), (1, 0, 0)]) :: .inr (1, [(18, 0, 0), (2, 0, 0), (24, 0, 0), (22, 0, 0), (5, 0, 0), (6, 0, 0), (1, 0, 0), (0, 0, 0), (17, 0, 0), (15, 0, 0), (14, 0, 0), (13, 0, 0), (31, 0, 0), (23, 0, 0)]) :: .inl (.lb (nat_lit 23)) :: .inl .b :: .inl (.lb (nat_lit 0)) :: .inl (.lo (nat_lit 0)) :: .inl (.lb (nat_lit 44)) :: .inl .b :: .inl .b :: .inl .b :: .inl (.lb (nat_lit 0)) :: .inl (.lb (nat_lit 0)) :: .inl (.lb (nat_lit 1)) :: .inl (.lb (nat_lit 1)) :: .inl .b :: .inl (.lb (nat_lit 0)) :: .inl (.lb (nat_lit 0)) :: .inl (.lb (nat_lit 3)) :: .inl (.lb (nat_lit 3)) :: .inl .b :: .inl .b :: .inl (.lb (nat_lit 1)) :: .inr (2, [(0, 0, 0), (26, 0, 0), (10, 0, 0), (13, 0, 0), (14, 0, 0), (9, 0, 0), (8, 0, 0), (25, 0, 0), (23, 0, 0), (22, 0, 0), (21, 0, 0)]) :: .inl (.lb (nat_lit 32)) :: .inl (.lb (nat_lit 32)) :: .inl .b :: .inl .b :: .inl (.lb (nat_lit 1)) :: .inl (.lo (nat_lit 8)) :: .inl (.lb (nat_lit 1)) :: .inl (.lo (nat_lit 9)) :: .inl (.lb (nat_lit 0)) :: []
theorem en_b65_main (ha : Option Addr) (hl hc : Nat) (zs : List Int) (cb ra ci bf : Nat → Int) (nu ti gl o x : Int) : EF Sagg.prog (en_b65_specs ha hl hc zs cb ra ci bf nu ti gl o x) 300 60 [] 8 #[.agg (envA ha hl hc cb ra ci bf nu ti gl), .int .u8 65] (fun v _ _ => v = .bool true) ⟨[], [(.tuple #[.pointer ha, .agg (bcells zs).toArray], 0)]⟩ en_b65_H_0
  = buildC (en_b65_cs ha hl hc zs cb ra ci bf nu ti gl o x) [Told Sagg.prog .leq 3 (.int .i64 (Int.ofNat hl)) (.int .i64 4) (toldV 1 0),
  True,
  True,
  True,
  True,
  True,
  True,
  True,
  Told Sagg.prog .lss 27 (.int .u64 gl) (.int .u64 200000) (toldV 0 0),
  Told Sagg.prog .neq 29 (.agg (bcells (l32 bf)).toArray) (.agg (bcells (l1 0)).toArray) (toldV 1 0)] (fun _ => Value.bool true = .bool true) en_b65_T_0 [] := by kernel_rfl
theorem en_b65_calls (ha : Option Addr) (hl hc : Nat) (zs : List Int) (cb ra ci bf : Nat → Int) (nu ti gl o x : Int) (hh : hl ≤ 4) (hw : WordsFact ha hl ha (bcells zs).toArray) (hgl : 0 ≤ gl ∧ gl < 18446744073709551616) (hge : 200000 ≤ gl) (hbf : AllIn (l32 bf)) (hbn : l32 bf ≠ l1 0) (w : World) (hN : Stab [] w (fun w => nmH (fun _ => False) w (.tuple #[.pointer ha, .agg (bcells zs).toArray]) 0)) :
    Calls Sagg.prog 8 #[.agg (envA ha hl hc cb ra ci bf nu ti gl), .int .u8 65] w fun e w' => e = .returned (.bool true) ∧ Below w.heap.size w w' := by
  have hcs : ∀ c ∈ en_b65_cs ha hl hc zs cb ra ci bf nu ti gl o x, c.Ran natSpecs3 300 60 := by
    unfold en_b65_cs
    simp only [List.forall_mem_cons]
    exact ⟨en_u148_ran hh hw, en_u151_ran, en_u152_ran hgl hge hbf hbn, fun c hc => by cases hc⟩
  have hsp : ∀ p ∈ en_b65_specs ha hl hc zs cb ra ci bf nu ti gl o x, SpecOK p.1 p.2 := by
    intro p hp
    unfold en_b65_specs at hp
    rcases List.mem_cons.1 hp with rfl | hp
    · exact chX_ok (R := 300) (d := 60) natSpecs3_ok hcs
    rcases List.mem_cons.1 hp with rfl | hp
    · exact chX_ok (R := 300) (d := 60) natSpecs3_ok hcs
    rcases List.mem_cons.1 hp with rfl | hp
    · exact chX_ok (R := 300) (d := 60) natSpecs3_ok hcs
    rcases List.mem_cons.1 hp with rfl | hp
    · exact chX_ok (R := 300) (d := 60) natSpecs3_ok hcs
    rcases List.mem_cons.1 hp with rfl | hp
    · exact chX_ok (R := 300) (d := 60) natSpecs3_ok hcs
    exact natSpecs3_ok p hp
  have hrun : EF Sagg.prog (en_b65_specs ha hl hc zs cb ra ci bf nu ti gl o x) 300 60 [] 8 #[.agg (envA ha hl hc cb ra ci bf nu ti gl), .int .u8 65] (fun v _ _ => v = .bool true) ⟨[], [(.tuple #[.pointer ha, .agg (bcells zs).toArray], 0)]⟩ en_b65_H_0 := by
    refine of_eq (en_b65_main ha hl hc zs cb ra ci bf nu ti gl o x) ?_
    refine buildC_ok ?_ (fun _ => rfl) _ _ (by kernel_rfl)
    exact (ho_cons (told_le1 (by have : ((hl : Nat) : Int) ≤ 4 := (by omega); exact this)) (ho_cons (trivial) (ho_cons (trivial) (ho_cons (trivial) (ho_cons (trivial) (ho_cons (trivial) (ho_cons (trivial) (ho_cons (trivial) (ho_cons (told_lt0 hge) (ho_cons (told_nW (by simp [l32]) rfl hbn) ho_nil))))))))))
  refine (closed (S := fun _ => False) hsp (fun b hb => hb.elim) hrun (fun p hp => by
    rcases List.mem_cons.1 hp with rfl | hp
    · exact hN
    · cases hp)).mono ?_
  rintro e w' ⟨v, s', H', rfl, rfl, hi⟩
  exact ⟨rfl, hi.below⟩
noncomputable def en_b66_cs (ha : Option Addr) (hl hc : Nat) (zs : List Int) (cb ra ci bf : Nat → Int) (nu ti gl o x : Int) : List Ch := [en_u148 ha hl hc zs cb ra ci bf nu ti gl 66 ti, en_u151 ha hl hc zs cb ra ci bf nu ti gl 66 ti, en_u152 ha hl hc zs cb ra ci bf nu ti gl 66 ti]
noncomputable def en_b66_specs (ha : Option Addr) (hl hc : Nat) (zs : List Int) (cb ra ci bf : Nat → Int) (nu ti gl o x : Int) : List (FuncId × Spec) := (44, chX 44 (en_b66_cs ha hl hc zs cb ra ci bf nu ti gl o x)) :: (31, chX 31 (en_b66_cs ha hl hc zs cb ra ci bf nu ti gl o x)) :: (43, chX 43 (en_b66_cs ha hl hc zs cb ra ci bf nu ti gl o x)) :: (45, chX 45 (en_b66_cs ha hl hc zs cb ra ci bf nu ti gl o x)) :: (59, chX 59 (en_b66_cs ha hl hc zs cb ra ci bf nu ti gl o x)) :: natSpecs3
def en_b66_H_0 : List Nat := nat_lit 100000 :: nat_lit 0 :: nat_lit 0 :: nat_lit 1 :: nat_lit 0 :: nat_lit 3 :: nat_lit 1 :: nat_lit 0 :: nat_lit 2 :: nat_lit 1 :: nat_lit 0 :: nat_lit 1 :: nat_lit 1 :: nat_lit 0 :: nat_lit 4 :: nat_lit 100000 :: nat_lit 0 :: nat_lit 0 :: nat_lit 1 :: nat_lit 0 :: nat_lit 0 :: nat_lit 0 :: nat_lit 0 :: nat_lit 0 :: nat_lit 0 :: nat_lit 0 :: nat_lit 0 :: nat_lit 0 :: nat_lit 0 :: nat_lit 1 :: nat_lit 1 :: nat_lit 2 :: nat_lit 2 :: nat_lit 2 :: nat_lit 2 :: nat_lit 0 :: nat_lit 1 :: nat_lit 9 :: nat_lit 10 :: nat_lit 0 :: nat_lit 0 :: nat_lit 0 :: nat_lit 3 :: nat_lit 0 :: nat_lit 1 :: nat_lit 1 :: nat_lit 1 :: nat_lit 2 :: nat_lit 0 :: nat_lit 1 :: nat_lit 0 :: nat_lit 0 :: nat_lit 1 :: nat_lit 0 :: nat_lit 0 :: nat_lit 0 :: nat_lit 10 :: nat_lit 1 :: nat_lit 2 :: nat_lit 0 :: nat_lit 1 :: nat_lit 13 :: nat_lit 1 :: nat_lit 1 :: nat_lit 0 :: nat_lit 0 :: nat_lit 0 :: nat_lit 0 :: nat_lit 0 :: nat_lit 0 :: nat_lit 0 :: nat_lit 0 :: nat_lit 0 :: nat_lit 0 :: nat_lit 0 :: nat_lit 0 :: nat_lit 0 :: nat_lit 0 :: nat_lit 1 :: nat_lit 1 :: nat_lit 2 :: nat_lit 2 :: nat_lit 3 :: nat_lit 1 :: nat_lit 1 :: nat_lit 4 :: nat_lit 0 :: nat_lit 1 :: nat_lit 0 :: nat_lit 3 :: nat_lit 2 :: nat_lit 0 :: nat_lit 0 :: nat_lit 0 :: nat_lit 1 :: nat_lit 11 :: nat_lit 2 :: nat_lit 0 :: nat_lit 0 :: nat_lit 0 :: nat_lit 0 :: nat_lit 0 :: nat_lit 0 :: nat_lit 0 :: nat_lit 0 :: nat_lit 1 :: nat_lit 1 :: nat_lit 4 :: nat_lit 0 :: nat_lit 2 :: nat_lit 0 :: nat_lit 0 :: nat_lit 5 :: nat_lit 100000 :: nat_lit 1 :: nat_lit 2 :: nat_lit 0 :: nat_lit 0 :: nat_lit 5 :: nat_lit 0 :: nat_lit 6 :: nat_lit 0 :: nat_lit 7 :: nat_lit 0 :: nat_lit 8 :: nat_lit 0 :: nat_lit 9 :: nat_lit 0 :: nat_lit 1 :: nat_lit 0 :: nat_lit 7 :: nat_lit 0 :: nat_lit 0 :: nat_lit 0 :: nat_lit 0 :: nat_lit 1 :: nat_lit 0 :: nat_lit 2 :: nat_lit 1 :: nat_lit 3 :: nat_lit 0 :: nat_lit 0 :: nat_lit 0 :: nat_lit 0 :: nat_lit 1 :: nat_lit 1 :: nat_lit 2 :: nat_lit 0 :: nat_lit 0 :: nat_lit 1 :: nat_lit 3 :: nat_lit 4 :: nat_lit 1 :: nat_lit 4 :: nat_lit 0 :: nat_lit 2 :: nat_lit 2 :: nat_lit 9 :: nat_lit 1 :: nat_lit 0 :: nat_lit 0 :: nat_lit 0 :: nat_lit 0 :: nat_lit 0 :: nat_lit 0 :: nat_lit 0 :: nat_lit 2 :: nat_lit 0 :: nat_lit 2 :: nat_lit 3 :: nat_lit 1 :: nat_lit 5 :: nat_lit 100000 :: nat_lit 2 :: nat_lit 1 :: nat_lit 0 :: nat_lit 2 :: nat_lit 2 :: nat_lit 0 :: nat_lit 1 :: nat_lit 0 :: nat_lit 0 :: nat_lit 6 :: []
def en_b66_T_0 : List (Tk ⊕ (Nat × List (Nat × Nat × Nat))) := .inl .b :: .inl .b :: .inl .b :: .inl .b :: .inl .b :: .inl (.lb (nat_lit 3)) :: .inl (.lb (nat_lit 0)) :: .inl (.lb (nat_lit 2)) :: .inl (.lb (nat_lit 0)) :: .inl (.lb (nat_lit 1)) :: .inl (.lb (nat_lit 0)) :: .inl (.lb (nat_lit 0)) :: .inl (.lb (nat_lit 4)) :: .inl .b :: .inl .b :: .inl (.lb (nat_lit 1)) :: .inl .b :: .inl .b :: .inl (.lb (nat_lit 0)) :: .inl (.lb (nat_lit 0)) :: .inl (.lb (nat_lit 0)) :: .inl (.lb (nat_lit 0)) :: .inl (.lb (nat_lit 0)) :: .inl (.lb (nat_lit 0)) :: .inl (.lb (nat_lit 0)) :: .inl (.lb (nat_lit 0)) :: .inl (.lb (nat_lit 0)) :: .inl (.lb (nat_lit 1)) :: .inl (.lb (nat_lit 1)) :: .inl (.lb (nat_lit 2)) :: .inl (.lb (nat_lit 2)) :: .inl (.lb (nat_lit 2)) :: .inl (.lb (nat_lit 2)) :: .inl .b :: .inl (.lb (nat_lit 0)) :: .inl (.lb (nat_lit 9)) :: .inl .b :: .inl (.lb (nat_lit 0)) :: .inl .b :: .inl (.lb (nat_lit 0)) :: .inl (.lb (nat_lit 0)) :: .inl .b :: .inl (.lb (nat_lit 0)) :: .inl .b :: .inl (.lb (nat_lit 0)) :: .inl (.lb (nat_lit 9)) :: .inl (.lb (nat_lit 1)) :: .inl (.lb (nat_lit 1)) :: .inl .b :: .inl (.lb (nat_lit 0)) :: .inl .b :: .inl .b :: .inl .b :: .inl .b :: .inl (.lb (nat_lit 0)) :: .inl (.lb (nat_lit 0)) :: .inl (.lb (nat_lit 1)) :: .inl (.lb (nat_lit 1)) :: .inl .b :: .inl (.lb (nat_lit 0)) :: .inl (.lb (nat_lit 4)) :: .inl (.lc 3 1 55) :: .inl .b :: .inl .b :: .inl .b :: .inl (.lb (nat_lit 0)) :: .inr (0, [(0, 0, 0), (2, 0, 0), (9, 0, 0), (1, 0, 0)]) :: .inr (1, [(18, 0, 0), (2, 0, 0), (24, 0, 0), (22, 0, 0), (5, 0, 0), (6, 0, 0), (1, 0, 0), (0, 0, 0), (17, 0, 0), (15, 0, 0), (14, 0, 0), (13, 0, 0), (31, 0, 0), (23, 0, 0)]) :: .inl (.lb (nat_lit 23)) :: .inl .b :: .inl (.lb (nat_lit 0)) :: .inl (.lo (nat_lit 0)) :: .inl (.lb (nat_lit 46)) :: .inl .b :: .inl .b :: .inl .b :: .inl (.lb (nat_lit 0)) :: .inl (.lb (nat_lit 0)) :: .inl (.lb (nat_lit 1)) :: .inl (.lb (nat_lit 1)) :: .inl .b :: .inl (.lb (nat_lit 0)) :: .inl (.lb (nat_lit 0)) :: .inl (.lb (nat_lit 3)) :: .inl (.lb (nat_lit 3)) :: .inl .b :: .inl .b :: .inl (.lb (nat_lit 1)) :: .inr (2, [(0, 0, 0), (26, 0, 0), (10, 0, 0), (13, 0, 0), (14, 0, 0), (9, 0, 0), (8, 0, 0), (25, 0, 0), (23, 0, 0), (22, 0, 0), (21, 0, 0)]) :: .inl (.lb (nat_lit 32)) :: .inl (.lb (nat_lit 32)) :: .inl .b :: .inl .b :: .inl (.lb (nat_lit 1)) :: .inl (.lo (nat_lit 8)) :: .inl (.lb (nat_lit 1)) :: .inl (.lo (nat_lit 9)) :: .inl (.lb (nat_lit 0)) :: []
theorem en_b66_main (ha : Option Addr) (hl hc : Nat) (zs : List Int) (cb ra ci bf : Nat → Int) (nu ti gl o x : Int) : EF Sagg.prog (en_b66_specs ha hl hc zs cb ra ci bf nu ti gl o x) 300 60 [] 8 #[.agg (envA ha hl hc cb ra ci bf nu ti gl), .int .u8 66] (fun v _ _ => v = .bool true) ⟨[], [(.tuple #[.pointer ha, .agg (bcells zs).toArray], 0)]⟩ en_b66_H_0
  = buildC (en_b66_cs ha hl hc zs cb ra ci bf nu ti gl o x) [Told Sagg.prog .leq 3 (.int .i64 (Int.ofNat hl)) (.int .i64 4) (toldV 1 0),
  True,
  True,
  True,
  True,
  True,
  True,
  True,
  Told Sagg.prog .lss 27 (.int .u64 gl) (.int .u64 200000) (toldV 0 0),
  Told Sagg.prog .neq 29 (.agg (bcells (l32 bf)).toArray) (.agg (bcells (l1 0)).toArray) (toldV 1 0)] (fun _ => Value.bool true = .bool true) en_b66_T_0 [] := by kernel_rfl
theorem en_b66_calls (ha : Option Addr) (hl hc : Nat) (zs : List Int) (cb ra ci bf : Nat → Int) (nu ti gl o x : Int) (hh : hl ≤ 4) (hw : WordsFact ha hl ha (bcells zs).toArray) (hgl : 0 ≤ gl ∧ gl < 18446744073709551616) (hge : 200000 ≤ gl) (hbf : AllIn (l32 bf)) (hbn : l32 bf ≠ l1 0) (w : World) (hN : Stab [] w (fun w => nmH (fun _ => False) w (.tuple #[.pointer ha, .agg (bcells zs).toArray]) 0)) :
    Calls Sagg.prog 8 #[.agg (envA ha hl hc cb ra ci bf nu ti gl), .int .u8 66] w fun e w' => e = .returned (.bool true) ∧ Below w.heap.size w w' := by
  have hcs : ∀ c ∈ en_b66_cs ha hl hc zs cb ra ci bf nu ti gl o x, c.Ran natSpecs3 300 60 := by
    unfold en_b66_cs
    simp only [List.forall_mem_cons]
    exact ⟨en_u148_ran hh hw, en_u151_ran, en_u152_ran hgl hge hbf hbn, fun c hc => by cases hc⟩
  have hsp : ∀ p ∈ en_b66_specs ha hl hc zs cb ra ci bf nu ti gl o x, SpecOK p.1 p.2 := by
    intro p hp
    unfold en_b66_specs at hp
    rcases List.mem_cons.1 hp with rfl | hp
    · exact chX_ok (R := 300) (d := 60) natSpecs3_ok hcs
    rcases List.mem_cons.1 hp with rfl | hp
    · exact chX_ok (R := 300) (d := 60) natSpecs3_ok hcs
    rcases List.mem_cons.1 hp with rfl | hp
    · exact chX_ok (R := 300) (d := 60) natSpecs3_ok hcs
    rcases List.mem_cons.1 hp with rfl | hp
    · exact chX_ok (R := 300) (d := 60) natSpecs3_ok hcs
    rcases List.mem_cons.1 hp with rfl | hp
    · exact chX_ok (R := 300) (d := 60) natSpecs3_ok hcs
    exact natSpecs3_ok p hp
  have hrun : EF Sagg.prog (en_b66_specs ha hl hc zs cb ra ci bf nu ti gl o x) 300 60 [] 8 #[.agg (envA ha hl hc cb ra ci bf nu ti gl), .int .u8 66] (fun v _ _ => v = .bool true) ⟨[], [(.tuple #[.pointer ha, .agg (bcells zs).toArray], 0)]⟩ en_b66_H_0 := by
    refine of_eq (en_b66_main ha hl hc zs cb ra ci bf nu ti gl o x) ?_
    refine buildC_ok ?_ (fun _ => rfl) _ _ (by kernel_rfl)
    exact (ho_cons (told_le1 (by have : ((hl : Nat) : Int) ≤ 4 := (by omega); exact this)) (ho_cons (trivial) (ho_cons (trivial) (ho_cons (trivial) (ho_cons (trivial) (ho_cons (trivial) (ho_cons (trivial) (ho_cons (trivial) (ho_cons (told_lt0 hge) (ho_cons (told_nW (by simp [l32]) rfl hbn) ho_nil))))))))))
  refine (closed (S := fun _ => False) hsp (fun b hb => hb.elim) hrun (fun p hp => by
    rcases List.mem_cons.1 hp with rfl | hp
    · exact hN
    · cases hp)).mono ?_
  rintro e w' ⟨v, s', H', rfl, rfl, hi⟩
  exact ⟨rfl, hi.below⟩
noncomputable def en_b67_cs (ha : Option Addr) (hl hc : Nat) (zs : List Int) (cb ra ci bf : Nat → Int) (nu ti gl o x : Int) : List Ch := [en_u148 ha hl hc zs cb ra ci bf nu ti gl 67 nu, en_u151 ha hl hc zs cb ra ci bf nu ti gl 67 nu, en_u152 ha hl hc zs cb ra ci bf nu ti gl 67 nu]
noncomputable def en_b67_specs (ha : Option Addr) (hl hc : Nat) (zs : List Int) (cb ra ci bf : Nat → Int) (nu ti gl o x : Int) : List (FuncId × Spec) := (44, chX 44 (en_b67_cs ha hl hc zs cb ra ci bf nu ti gl o x)) :: (31, chX 31 (en_b67_cs ha hl hc zs cb ra ci bf nu ti gl o x)) :: (43, chX 43 (en_b67_cs ha hl hc zs cb ra ci bf nu ti gl o x)) :: (45, chX 45 (en_b67_cs ha hl hc zs cb ra ci bf nu ti gl o x)) :: (59, chX 59 (en_b67_cs ha hl hc zs cb ra ci bf nu ti gl o x)) :: natSpecs3
def en_b67_H_0 : List Nat := nat_lit 100000 :: nat_lit 0 :: nat_lit 0 :: nat_lit 1 :: nat_lit 0 :: nat_lit 3 :: nat_lit 1 :: nat_lit 0 :: nat_lit 2 :: nat_lit 1 :: nat_lit 0 :: nat_lit 1 :: nat_lit 1 :: nat_lit 0 :: nat_lit 4 :: nat_lit 100000 :: nat_lit 0 :: nat_lit 0 :: nat_lit 0 :: nat_lit 1 :: nat_lit 0 :: nat_lit 0 :: nat_lit 0 :: nat_lit 0 :: nat_lit 0 :: nat_lit 0 :: nat_lit 0 :: nat_lit 0 :: nat_lit 0 :: nat_lit 0 :: nat_lit 1 :: nat_lit 1 :: nat_lit 2 :: nat_lit 2 :: nat_lit 2 :: nat_lit 2 :: nat_lit 0 :: nat_lit 1 :: nat_lit 9 :: nat_lit 10 :: nat_lit 0 :: nat_lit 0 :: nat_lit 0 :: nat_lit 3 :: nat_lit 0 :: nat_lit 1 :: nat_lit 1 :: nat_lit 1 :: nat_lit 2 :: nat_lit 0 :: nat_lit 1 :: nat_lit 0 :: nat_lit 0 :: nat_lit 1 :: nat_lit 0 :: nat_lit 0 :: nat_lit 0 :: nat_lit 10 :: nat_lit 1 :: nat_lit 2 :: nat_lit 0 :: nat_lit 1 :: nat_lit 13 :: nat_lit 1 :: nat_lit 1 :: nat_lit 0 :: nat_lit 0 :: nat_lit 0 :: nat_lit 0 :: nat_lit 0 :: nat_lit 0 :: nat_lit 0 :: nat_lit 0 :: nat_lit 0 :: nat_lit 0 :: nat_lit 0 :: nat_lit 0 :: nat_lit 0 :: nat_lit 0 :: nat_lit 1 :: nat_lit 1 :: nat_lit 2 :: nat_lit 2 :: nat_lit 3 :: nat_lit 1 :: nat_lit 1 :: nat_lit 4 :: nat_lit 0 :: nat_lit 1 :: nat_lit 0 :: nat_lit 3 :: nat_lit 2 :: nat_lit 0 :: nat_lit 0 :: nat_lit 0 :: nat_lit 1 :: nat_lit 11 :: nat_lit 2 :: nat_lit 0 :: nat_lit 0 :: nat_lit 0 :: nat_lit 0 :: nat_lit 0 :: nat_lit 0 :: nat_lit 0 :: nat_lit 0 :: nat_lit 1 :: nat_lit 1 :: nat_lit 4 :: nat_lit 0 :: nat_lit 2 :: nat_lit 0 :: nat_lit 0 :: nat_lit 5 :: nat_lit 100000 :: nat_lit 1 :: nat_lit 2 :: nat_lit 0 :: nat_lit 0 :: nat_lit 5 :: nat_lit 0 :: nat_lit 6 :: nat_lit 0 :: nat_lit 7 :: nat_lit 0 :: nat_lit 8 :: nat_lit 0 :: nat_lit 9 :: nat_lit 0 :: nat_lit 1 :: nat_lit 0 :: nat_lit 7 :: nat_lit 0 :: nat_lit 0 :: nat_lit 0 :: nat_lit 0 :: nat_lit 1 :: nat_lit 0 :: nat_lit 2 :: nat_lit 1 :: nat_lit 3 :: nat_lit 0 :: nat_lit 0 :: nat_lit 0 :: nat_lit 0 :: nat_lit 1 :: nat_lit 1 :: nat_lit 2 :: nat_lit 0 :: nat_lit 0 :: nat_lit 1 :: nat_lit 3 :: nat_lit 4 :: nat_lit 1 :: nat_lit 4 :: nat_lit 0 :: nat_lit 2 :: nat_lit 2 :: nat_lit 9 :: nat_lit 1 :: nat_lit 0 :: nat_lit 0 :: nat_lit 0 :: nat_lit 0 :: nat_lit 0 :: nat_lit 0 :: nat_lit 0 :: nat_lit 2 :: nat_lit 0 :: nat_lit 2 :: nat_lit 3 :: nat_lit 1 :: nat_lit 5 :: nat_lit 100000 :: nat_lit 2 :: nat_lit 1 :: nat_lit 0 :: nat_lit 2 :: nat_lit 2 :: nat_lit 0 :: nat_lit 1 :: nat_lit 0 :: nat_lit 0 :: nat_lit 6 :: []
def en_b67_T_0 : List (Tk ⊕ (Nat × List (Nat × Nat × Nat))) := .inl .b :: .inl .b :: .inl .b :: .inl .b :: .inl .b :: .inl (.lb (nat_lit 3)) :: .inl (.lb (nat_lit 0)) :: .inl (.lb (nat_lit 2)) :: .inl (.lb (nat_lit 0)) :: .inl (.lb (nat_lit 1)) :: .inl (.lb (nat_lit 0)) :: .inl (.lb (nat_lit 0)) :: .inl (.lb (nat_lit 4)) :: .inl .b :: .inl .b :: .inl (.lb (nat_lit 1)) :: .inl .b :: .inl .b :: .inl (.lb (nat_lit 0)) :: .inl (.lb (nat_lit 0)) :: .inl (.lb (nat_lit 0)) :: .inl (.lb (nat_lit 0)) :: .inl (.lb (nat_lit 0)) :: .inl (.lb (nat_lit 0)) :: .inl (.lb (nat_lit 0)) :: .inl (.lb (nat_lit 0)) :: .inl (.lb (nat_lit 0)) :: .inl (.lb (nat_lit 1)) :: .inl (.lb (nat_lit 1)) :: .inl (.lb (nat_lit 2)) :: .inl (.lb (nat_lit 2)) :: .inl (.lb (nat_lit 2)) :: .inl (.lb (nat_lit 2)) :: .inl .b :: .inl (.lb (nat_lit 0)) :: .inl (.lb (nat_lit 9)) :: .inl .b :: .inl (.lb (nat_lit 0)) :: .inl .b :: .inl (.lb (nat_lit 0)) :: .inl (.lb (nat_lit 0)) :: .inl .b :: .inl (.lb (nat_lit 0)) :: .inl .b :: .inl (.lb (nat_lit 0)) :: .inl (.lb (nat_lit 9)) :: .inl (.lb (nat_lit 1)) :: .inl (.lb (nat_lit 1)) :: .inl .b :: .inl (.lb (nat_lit 0)) :: .inl .b :: .inl .b :: .inl .b :: .inl .b :: .inl (.lb (nat_lit 0)) :: .inl (.lb (nat_lit 0)) :: .inl (.lb (nat_lit 1)) :: .inl (.lb (nat_lit 1)) :: .inl .b :: .inl (.lb (nat_lit 0)) :: .inl (.lb (nat_lit 4)) :: .inl (.lc 3 1 55) :: .inl .b :: .inl .b :: .inl .b :: .inl (.lb (nat_lit 0)) :: .inr (0, [(0, 0, 0), (2, 0, 0), (9, 0, 0), (1, 0, 0)]) :: .inr (1, [(18, 0, 0), (2, 0, 0), (24, 0, 0), (22, 0, 0), (5, 0, 0), (6, 0, 0), (1, 0, 0), (0, 0, 0), (17, 0, 0), (15, 0, 0), (14, 0, 0), (13, 0, 0), (31, 0, 0), (23, 0, 0)]) :: .inl (.lb (nat_lit 23)) :: .inl .b :: .inl (.lb (nat_lit 0)) :: .inl (.lo (nat_lit 0)) :: .inl (.lb (nat_lit 46)) :: .inl .b :: .inl .b :: .inl .b :: .inl (.lb (nat_lit 0)) :: .inl (.lb (nat_lit 0)) :: .inl (.lb (nat_lit 1)) :: .inl (.lb (nat_lit 1)) :: .inl .b :: .inl (.lb (nat_lit 0)) :: .inl (.lb (nat_lit 0)) :: .inl (.lb (nat_lit 3)) :: .inl (.lb (nat_lit 3)) :: .inl .b :: .inl .b :: .inl (.lb (nat_lit 1)) :: .inr (2, [(0, 0, 0), (26, 0, 0), (10, 0, 0), (13, 0, 0), (14, 0, 0), (9, 0, 0), (8, 0, 0), (25, 0, 0), (23, 0, 0), (22, 0, 0), (21, 0, 0)]) :: .inl (.lb (nat_lit 32)) :: .inl (.lb (nat_lit 32)) :: .inl .b :: .inl .b :: .inl (.lb (nat_lit 1)) :: .inl (.lo (nat_lit 8)) :: .inl (.lb (nat_lit 1)) :: .inl (.lo (nat_lit 9)) :: .inl (.lb (nat_lit 0)) :: []
theorem en_b67_main (ha : Option Addr) (hl hc : Nat) (zs : List Int) (cb ra ci bf : Nat → Int) (nu ti gl o x : Int) : EF Sagg.prog (en_b67_specs ha hl hc zs cb ra ci bf nu ti gl o x) 300 60 [] 8 #[.agg (envA ha hl hc cb ra ci bf nu ti gl), .int .u8 67] (fun v _ _ => v = .bool true) ⟨[], [(.tuple #[.pointer ha, .agg (bcells zs).toArray], 0)]⟩ en_b67_H_0
  = buildC (en_b67_cs ha hl hc zs cb ra ci bf nu ti gl o x) [Told Sagg.prog .leq 3 (.int .i64 (Int.ofNat hl)) (.int .i64 4) (toldV 1 0),
  True,
  True,
  True,
  True,
  True,
  True,
  True,
  Told Sagg.prog .lss 27 (.int .u64 gl) (.int .u64 200000) (toldV 0 0),
  Told Sagg.prog .neq 29 (.agg (bcells (l32 bf)).toArray) (.agg (bcells (l1 0)).toArray) (toldV 1 0)] (fun _ => Value.bool true = .bool true) en_b67_T_0 [] := by kernel_rfl
theorem en_b67_calls (ha : Option Addr) (hl hc : Nat) (zs : List Int) (cb ra ci bf : Nat → Int) (nu ti gl o x : Int) (hh : hl ≤ 4) (hw : WordsFact ha hl ha (bcells zs).toArray) (hgl : 0 ≤ gl ∧ gl < 18446744073709551616) (hge : 200000 ≤ gl) (hbf : AllIn (l32 bf)) (hbn : l32 bf ≠ l1 0) (w : World) (hN : Stab [] w (fun w => nmH (fun _ => False) w (.tuple #[.pointer ha, .agg (bcells zs).toArray]) 0)) :
    Calls Sagg.prog 8 #[.agg (envA ha hl hc cb ra ci bf nu ti gl), .int .u8 67] w fun e w' => e = .returned (.bool true) ∧ Below w.heap.size w w' := by
  have hcs : ∀ c ∈ en_b67_cs ha hl hc zs cb ra ci bf nu ti gl o x, c.Ran natSpecs3 300 60 := by
    unfold en_b67_cs
    simp only [List.forall_mem_cons]
    exact ⟨en_u148_ran hh hw, en_u151_ran, en_u152_ran hgl hge hbf hbn, fun c hc => by cases hc⟩
  have hsp : ∀ p ∈ en_b67_specs ha hl hc zs cb ra ci bf nu ti gl o x, SpecOK p.1 p.2 := by
    intro p hp
    unfold en_b67_specs at hp
    rcases List.mem_cons.1 hp with rfl | hp
    · exact chX_ok (R := 300) (d := 60) natSpecs3_ok hcs
    rcases List.mem_cons.1 hp with rfl | hp
    · exact chX_ok (R := 300) (d := 60) natSpecs3_ok hcs
    rcases List.mem_cons.1 hp with rfl | hp
    · exact chX_ok (R := 300) (d := 60) natSpecs3_ok hcs
    rcases List.mem_cons.1 hp with rfl | hp
    · exact chX_ok (R := 300) (d := 60) natSpecs3_ok hcs
    rcases List.mem_cons.1 hp with rfl | hp
    · exact chX_ok (R := 300) (d := 60) natSpecs3_ok hcs
    exact natSpecs3_ok p hp
  have hrun : EF Sagg.prog (en_b67_specs ha hl hc zs cb ra ci bf nu ti gl o x) 300 60 [] 8 #[.agg (envA ha hl hc cb ra ci bf nu ti gl), .int .u8 67] (fun v _ _ => v = .bool true) ⟨[], [(.tuple #[.pointer ha, .agg (bcells zs).toArray], 0)]⟩ en_b67_H_0 := by
    refine of_eq (en_b67_main ha hl hc zs cb ra ci bf nu ti gl o x) ?_
    refine buildC_ok ?_ (fun _ => rfl) _ _ (by kernel_rfl)
    exact (ho_cons (told_le1 (by have : ((hl : Nat) : Int) ≤ 4 := (by omega); exact this)) (ho_cons (trivial) (ho_cons (trivial) (ho_cons (trivial) (ho_cons (trivial) (ho_cons (trivial) (ho_cons (trivial) (ho_cons (trivial) (ho_cons (told_lt0 hge) (ho_cons (told_nW (by simp [l32]) rfl hbn) ho_nil))))))))))
  refine (closed (S := fun _ => False) hsp (fun b hb => hb.elim) hrun (fun p hp => by
    rcases List.mem_cons.1 hp with rfl | hp
    · exact hN
    · cases hp)).mono ?_
  rintro e w' ⟨v, s', H', rfl, rfl, hi⟩
  exact ⟨rfl, hi.below⟩
noncomputable def en_b68_cs (ha : Option Addr) (hl hc : Nat) (zs : List Int) (cb ra ci bf : Nat → Int) (nu ti gl o x : Int) : List Ch := [en_u148 ha hl hc zs cb ra ci bf nu ti gl 68 (beV (l32 ra)), en_u151 ha hl hc zs cb ra ci bf nu ti gl 68 (beV (l32 ra)), en_u152 ha hl hc zs cb ra ci bf nu ti gl 68 (beV (l32 ra))]
noncomputable def en_b68_specs (ha : Option Addr) (hl hc : Nat) (zs : List Int) (cb ra ci bf : Nat → Int) (nu ti gl o x : Int) : List (FuncId × Spec) := (44, chX 44 (en_b68_cs ha hl hc zs cb ra ci bf nu ti gl o x)) :: (31, chX 31 (en_b68_cs ha hl hc zs cb ra ci bf nu ti gl o x)) :: (43, chX 43 (en_b68_cs ha hl hc zs cb ra ci bf nu ti gl o x)) :: (45, chX 45 (en_b68_cs ha hl hc zs cb ra ci bf nu ti gl o x)) :: (59, chX 59 (en_b68_cs ha hl hc zs cb ra ci bf nu ti gl o x)) :: natSpecs3
def en_b68_H_0 : List Nat := nat_lit 100000 :: nat_lit 0 :: nat_lit 0 :: nat_lit 1 :: nat_lit 0 :: nat_lit 3 :: nat_lit 1 :: nat_lit 0 :: nat_lit 2 :: nat_lit 1 :: nat_lit 0 :: nat_lit 1 :: nat_lit 1 :: nat_lit 0 :: nat_lit 4 :: nat_lit 100000 :: nat_lit 0 :: nat_lit 0 :: nat_lit 0 :: nat_lit 0 :: nat_lit 1 :: nat_lit 0 :: nat_lit 0 :: nat_lit 0 :: nat_lit 0 :: nat_lit 0 :: nat_lit 1 :: nat_lit 7 :: nat_lit 10 :: nat_lit 0 :: nat_lit 0 :: nat_lit 0 :: nat_lit 3 :: nat_lit 0 :: nat_lit 1 :: nat_lit 1 :: nat_lit 1 :: nat_lit 2 :: nat_lit 0 :: nat_lit 1 :: nat_lit 0 :: nat_lit 0 :: nat_lit 1 :: nat_lit 0 :: nat_lit 0 :: nat_lit 0 :: nat_lit 8 :: nat_lit 1 :: nat_lit 2 :: nat_lit 0 :: nat_lit 1 :: nat_lit 0 :: nat_lit 0 :: nat_lit 0 :: nat_lit 1 :: nat_lit 1 :: nat_lit 2 :: nat_lit 2 :: nat_lit 3 :: nat_lit 1 :: nat_lit 1 :: nat_lit 4 :: nat_lit 14 :: nat_lit 1 :: nat_lit 0 :: nat_lit 0 :: nat_lit 0 :: nat_lit 1 :: nat_lit 0 :: nat_lit 0 :: nat_lit 0 :: nat_lit 0 :: nat_lit 0 :: nat_lit 0 :: nat_lit 0 :: nat_lit 0 :: nat_lit 0 :: nat_lit 0 :: nat_lit 1 :: nat_lit 0 :: nat_lit 0 :: nat_lit 1 :: nat_lit 11 :: nat_lit 2 :: nat_lit 0 :: nat_lit 0 :: nat_lit 0 :: nat_lit 0 :: nat_lit 0 :: nat_lit 0 :: nat_lit 0 :: nat_lit 0 :: nat_lit 1 :: nat_lit 1 :: nat_lit 4 :: nat_lit 0 :: nat_lit 2 :: nat_lit 0 :: nat_lit 0 :: nat_lit 5 :: nat_lit 100000 :: nat_lit 1 :: nat_lit 2 :: nat_lit 0 :: nat_lit 0 :: nat_lit 5 :: nat_lit 0 :: nat_lit 6 :: nat_lit 0 :: nat_lit 7 :: nat_lit 0 :: nat_lit 8 :: nat_lit 0 :: nat_lit 9 :: nat_lit 0 :: nat_lit 1 :: nat_lit 0 :: nat_lit 7 :: nat_lit 0 :: nat_lit 0 :: nat_lit 0 :: nat_lit 0 :: nat_lit 1 :: nat_lit 0 :: nat_lit 2 :: nat_lit 1 :: nat_lit 3 :: nat_lit 0 :: nat_lit 0 :: nat_lit 0 :: nat_lit 0 :: nat_lit 1 :: nat_lit 1 :: nat_lit 2 :: nat_lit 0 :: nat_lit 0 :: nat_lit 1 :: nat_lit 3 :: nat_lit 4 :: nat_lit 1 :: nat_lit 4 :: nat_lit 0 :: nat_lit 2 :: nat_lit 2 :: nat_lit 9 :: nat_lit 1 :: nat_lit 0 :: nat_lit 0 :: nat_lit 0 :: nat_lit 0 :: nat_lit 0 :: nat_lit 0 :: nat_lit 0 :: nat_lit 2 :: nat_lit 0 :: nat_lit 2 :: nat_lit 3 :: nat_lit 1 :: nat_lit 5 :: nat_lit 100000 :: nat_lit 2 :: nat_lit 1 :: nat_lit 0 :: nat_lit 2 :: nat_lit 2 :: nat_lit 0 :: nat_lit 1 :: nat_lit 0 :: nat_lit 0 :: nat_lit 6 :: []
def en_b68_T_0 : List (Tk ⊕ (Nat × List (Nat × Nat × Nat))) := .inl .b :: .inl .b :: .inl .b :: .inl .b :: .inl .b :: .inl (.lb (nat_lit 3)) :: .inl (.lb (nat_lit 0)) :: .inl (.lb (nat_lit 2)) :: .inl (.lb (nat_lit 0)) :: .inl (.lb (nat_lit 1)) :: .inl (.lb (nat_lit 0)) :: .inl (.lb (nat_lit 0)) :: .inl (.lb (nat_lit 4)) :: .inl .b :: .inl .b :: .inl (.lb (nat_lit 1)) :: .inl (.lb (nat_lit 0)) :: .inl (.lb (nat_lit 0)) :: .inl (.lb (nat_lit 0)) :: .inl (.lb (nat_lit 0)) :: .inl .b :: .inl (.lb (nat_lit 0)) :: .inl (.lb (nat_lit 7)) :: .inl .b :: .inl (.lb (nat_lit 0)) :: .inl .b :: .inl (.lb (nat_lit 0)) :: .inl (.lb (nat_lit 0)) :: .inl .b :: .inl (.lb (nat_lit 0)) :: .inl .b :: .inl (.lb (nat_lit 0)) :: .inl (.lb (nat_lit 7)) :: .inl (.lb (nat_lit 1)) :: .inl (.lb (nat_lit 1)) :: .inl .b :: .inl (.lb (nat_lit 0)) :: .inl .b :: .inl .b :: .inl .b :: .inl .b :: .inl (.lb (nat_lit 0)) :: .inl (.lb (nat_lit 0)) :: .inl (.lb (nat_lit 1)) :: .inl (.lb (nat_lit 1)) :: .inl .b :: .inl (.lb (nat_lit 0)) :: .inl (.lb (nat_lit 4)) :: .inl (.lc 3 1 55) :: .inl .b :: .inl .b :: .inl .b :: .inl (.lb (nat_lit 0)) :: .inr (0, [(0, 0, 0), (2, 0, 0), (9, 0, 0), (1, 0, 0)]) :: .inr (1, [(18, 0, 0), (2, 0, 0), (24, 0, 0), (22, 0, 0), (5, 0, 0), (6, 0, 0), (1, 0, 0), (0, 0, 0), (17, 0, 0), (15, 0, 0), (14, 0, 0), (13, 0, 0), (31, 0, 0), (23, 0, 0)]) :: .inl (.lb (nat_lit 23)) :: .inl .b :: .inl (.lb (nat_lit 0)) :: .inl (.lo (nat_lit 0)) :: .inl (.lb (nat_lit 44)) :: .inl .b :: .inl .b :: .inl .b :: .inl (.lb (nat_lit 0)) :: .inl (.lb (nat_lit 0)) :: .inl (.lb (nat_lit 1)) :: .inl (.lb (nat_lit 1)) :: .inl .b :: .inl (.lb (nat_lit 0)) :: .inl (.lb (nat_lit 0)) :: .inl (.lb (nat_lit 3)) :: .inl (.lb (nat_lit 3)) :: .inl .b :: .inl .b :: .inl (.lb (nat_lit 1)) :: .inr (2, [(0, 0, 0), (26, 0, 0), (10, 0, 0), (13, 0, 0), (14, 0, 0), (9, 0, 0), (8, 0, 0), (25, 0, 0), (23, 0, 0), (22, 0, 0), (21, 0, 0)]) :: .inl (.lb (nat_lit 32)) :: .inl (.lb (nat_lit 32)) :: .inl .b :: .inl .b :: .inl (.lb (nat_lit 1)) :: .inl (.lo (nat_lit 8)) :: .inl (.lb (nat_lit 1)) :: .inl (.lo (nat_lit 9)) :: .inl (.lb (nat_lit 0)) :: []
theorem en_b68_main (ha : Option Addr) (hl hc : Nat) (zs : List Int) (cb ra ci bf : Nat → Int) (nu ti gl o x : Int) : EF Sagg.prog (en_b68_specs ha hl hc zs cb ra ci bf nu ti gl o x) 300 60 [] 8 #[.agg (envA ha hl hc cb ra ci bf nu ti gl), .int .u8 68] (fun v _ _ => v = .bool true) ⟨[], [(.tuple #[.pointer ha, .agg (bcells zs).toArray], 0)]⟩ en_b68_H_0
  = buildC (en_b68_cs ha hl hc zs cb ra ci bf nu ti gl o x) [Told Sagg.prog .leq 3 (.int .i64 (Int.ofNat hl)) (.int .i64 4) (toldV 1 0),
  True,
  True,
  True,
  True,
  True,
  True,
  True,
  Told Sagg.prog .lss 27 (.int .u64 gl) (.int .u64 200000) (toldV 0 0),
  Told Sagg.prog .neq 29 (.agg (bcells (l32 bf)).toArray) (.agg (bcells (l1 0)).toArray) (toldV 1 0)] (fun _ => Value.bool true = .bool true) en_b68_T_0 [] := by kernel_rfl
theorem en_b68_calls (ha : Option Addr) (hl hc : Nat) (zs : List Int) (cb ra ci bf : Nat → Int) (nu ti gl o x : Int) (hh : hl ≤ 4) (hw : WordsFact ha hl ha (bcells zs).toArray) (hgl : 0 ≤ gl ∧ gl < 18446744073709551616) (hge : 200000 ≤ gl) (hbf : AllIn (l32 bf)) (hbn : l32 bf ≠ l1 0) (w : World) (hN : Stab [] w (fun w => nmH (fun _ => False) w (.tuple #[.pointer ha, .agg (bcells zs).toArray]) 0)) :
    Calls Sagg.prog 8 #[.agg (envA ha hl hc cb ra ci bf nu ti gl), .int .u8 68] w fun e w' => e = .returned (.bool true) ∧ Below w.heap.size w w' := by
  have hcs : ∀ c ∈ en_b68_cs ha hl hc zs cb ra ci bf nu ti gl o x, c.Ran natSpecs3 300 60 := by
    unfold en_b68_cs
    simp only [List.forall_mem_cons]
    exact ⟨en_u148_ran hh hw, en_u151_ran, en_u152_ran hgl hge hbf hbn, fun c hc => by cases hc⟩
  have hsp : ∀ p ∈ en_b68_specs ha hl hc zs cb ra ci bf nu ti gl o x, SpecOK p.1 p.2 := by
    intro p hp
    unfold en_b68_specs at hp
    rcases List.mem_cons.1 hp with rfl | hp
    · exact chX_ok (R := 300) (d := 60) natSpecs3_ok hcs
    rcases List.mem_cons.1 hp with rfl | hp
    · exact chX_ok (R := 300) (d := 60) natSpecs3_ok hcs
    rcases List.mem_cons.1 hp with rfl | hp
    · exact chX_ok (R := 300) (d := 60) natSpecs3_ok hcs
    rcases List.mem_cons.1 hp with rfl | hp
    · exact chX_ok (R := 300) (d := 60) natSpecs3_ok hcs
    rcases List.mem_cons.1 hp with rfl | hp
    · exact chX_ok (R := 300) (d := 60) natSpecs3_ok hcs
    exact natSpecs3_ok p hp
  have hrun : EF Sagg.prog (en_b68_specs ha hl hc zs cb ra ci bf nu ti gl o x) 300 60 [] 8 #[.agg (envA ha hl hc cb ra ci bf nu ti gl), .int .u8 68] (fun v _ _ => v = .bool true) ⟨[], [(.tuple #[.pointer ha, .agg (bcells zs).toArray], 0)]⟩ en_b68_H_0 := by
    refine of_eq (en_b68_main ha hl hc zs cb ra ci bf nu ti gl o x) ?_
    refine buildC_ok ?_ (fun _ => rfl) _ _ (by kernel_rfl)
    exact (ho_cons (told_le1 (by have : ((hl : Nat) : Int) ≤ 4 := (by omega); exact this)) (ho_cons (trivial) (ho_cons (trivial) (ho_cons (trivial) (ho_cons (trivial) (ho_cons (trivial) (ho_cons (trivial) (ho_cons (trivial) (ho_cons (told_lt0 hge) (ho_cons (told_nW (by simp [l32]) rfl hbn) ho_nil))))))))))
  refine (closed (S := fun _ => False) hsp (fun b hb => hb.elim) hrun (fun p hp => by
    rcases List.mem_cons.1 hp with rfl | hp
    · exact hN
    · cases hp)).mono ?_
  rintro e w' ⟨v, s', H', rfl, rfl, hi⟩
  exact ⟨rfl, hi.below⟩
noncomputable def en_b69_cs (ha : Option Addr) (hl hc : Nat) (zs : List Int) (cb ra ci bf : Nat → Int) (nu ti gl o x : Int) : List Ch := [en_u148 ha hl hc zs cb ra ci bf nu ti gl 69 gl, en_u151 ha hl hc zs cb ra ci bf nu ti gl 69 gl, en_u152 ha hl hc zs cb ra ci bf nu ti gl 69 gl]
noncomputable def en_b69_specs (ha : Option Addr) (hl hc : Nat) (zs : List Int) (cb ra ci bf : Nat → Int) (nu ti gl o x : Int) : List (FuncId × Spec) := (44, chX 44 (en_b69_cs ha hl hc zs cb ra ci bf nu ti gl o x)) :: (31, chX 31 (en_b69_cs ha hl hc zs cb ra ci bf nu ti gl o x)) :: (43, chX 43 (en_b69_cs ha hl hc zs cb ra ci bf nu ti gl o x)) :: (45, chX 45 (en_b69_cs ha hl hc zs cb ra ci bf nu ti gl o x)) :: (59, chX 59 (en_b69_cs ha hl hc zs cb ra ci bf nu ti gl o x)) :: natSpecs3
def en_b69_H_0 : List Nat := nat_lit 100000 :: nat_lit 0 :: nat_lit 0 :: nat_lit 1 :: nat_lit 0 :: nat_lit 3 :: nat_lit 1 :: nat_lit 0 :: nat_lit 2 :: nat_lit 1 :: nat_lit 0 :: nat_lit 1 :: nat_lit 1 :: nat_lit 0 :: nat_lit 4 :: nat_lit 100000 :: nat_lit 0 :: nat_lit 0 :: nat_lit 0 :: nat_lit 0 :: nat_lit 0 :: nat_lit 1 :: nat_lit 0 :: nat_lit 0 :: nat_lit 0 :: nat_lit 0 :: nat_lit 0 :: nat_lit 0 :: nat_lit 0 :: nat_lit 0 :: nat_lit 0 :: nat_lit 0 :: nat_lit 1 :: nat_lit 1 :: nat_lit 2 :: nat_lit 2 :: nat_lit 2 :: nat_lit 2 :: nat_lit 0 :: nat_lit 1 :: nat_lit 9 :: nat_lit 10 :: nat_lit 0 :: nat_lit 0 :: nat_lit 0 :: nat_lit 3 :: nat_lit 0 :: nat_lit 1 :: nat_lit 1 :: nat_lit 1 :: nat_lit 2 :: nat_lit 0 :: nat_lit 1 :: nat_lit 0 :: nat_lit 0 :: nat_lit 1 :: nat_lit 0 :: nat_lit 0 :: nat_lit 0 :: nat_lit 10 :: nat_lit 1 :: nat_lit 2 :: nat_lit 0 :: nat_lit 1 :: nat_lit 13 :: nat_lit 1 :: nat_lit 1 :: nat_lit 0 :: nat_lit 0 :: nat_lit 0 :: nat_lit 0 :: nat_lit 0 :: nat_lit 0 :: nat_lit 0 :: nat_lit 0 :: nat_lit 0 :: nat_lit 0 :: nat_lit 0 :: nat_lit 0 :: nat_lit 0 :: nat_lit 0 :: nat_lit 1 :: nat_lit 1 :: nat_lit 2 :: nat_lit 2 :: nat_lit 3 :: nat_lit 1 :: nat_lit 1 :: nat_lit 4 :: nat_lit 0 :: nat_lit 1 :: nat_lit 0 :: nat_lit 3 :: nat_lit 2 :: nat_lit 0 :: nat_lit 0 :: nat_lit 0 :: nat_lit 1 :: nat_lit 11 :: nat_lit 2 :: nat_lit 0 :: nat_lit 0 :: nat_lit 0 :: nat_lit 0 :: nat_lit 0 :: nat_lit 0 :: nat_lit 0 :: nat_lit 0 :: nat_lit 1 :: nat_lit 1 :: nat_lit 4 :: nat_lit 0 :: nat_lit 2 :: nat_lit 0 :: nat_lit 0 :: nat_lit 5 :: nat_lit 100000 :: nat_lit 1 :: nat_lit 2 :: nat_lit 0 :: nat_lit 0 :: nat_lit 5 :: nat_lit 0 :: nat_lit 6 :: nat_lit 0 :: nat_lit 7 :: nat_lit 0 :: nat_lit 8 :: nat_lit 0 :: nat_lit 9 :: nat_lit 0 :: nat_lit 1 :: nat_lit 0 :: nat_lit 7 :: nat_lit 0 :: nat_lit 0 :: nat_lit 0 :: nat_lit 0 :: nat_lit 1 :: nat_lit 0 :: nat_lit 2 :: nat_lit 1 :: nat_lit 3 :: nat_lit 0 :: nat_lit 0 :: nat_lit 0 :: nat_lit 0 :: nat_lit 1 :: nat_lit 1 :: nat_lit 2 :: nat_lit 0 :: nat_lit 0 :: nat_lit 1 :: nat_lit 3 :: nat_lit 4 :: nat_lit 1 :: nat_lit 4 :: nat_lit 0 :: nat_lit 2 :: nat_lit 2 :: nat_lit 9 :: nat_lit 1 :: nat_lit 0 :: nat_lit 0 :: nat_lit 0 :: nat_lit 0 :: nat_lit 0 :: nat_lit 0 :: nat_lit 0 :: nat_lit 2 :: nat_lit 0 :: nat_lit 2 :: nat_lit 3 :: nat_lit 1 :: nat_lit 5 :: nat_lit 100000 :: nat_lit 2 :: nat_lit 1 :: nat_lit 0 :: nat_lit 2 :: nat_lit 2 :: nat_lit 0 :: nat_lit 1 :: nat_lit 0 :: nat_lit 0 :: nat_lit 6 :: []
def en_b69_T_0 : List (Tk ⊕ (Nat × List (Nat × Nat × Nat))) := .inl .b :: .inl .b :: .inl .b :: .inl .b :: .inl .b :: .inl (.lb (nat_lit 3)) :: .inl (.lb (nat_lit 0)) :: .inl (.lb (nat_lit 2)) :: .inl (.lb (nat_lit 0)) :: .inl (.lb (nat_lit 1)) :: .inl (.lb (nat_lit 0)) :: .inl (.lb (nat_lit 0)) :: .inl (.lb (nat_lit 4)) :: .inl .b :: .inl .b :: .inl (.lb (nat_lit 1)) :: .inl .b :: .inl .b :: .inl (.lb (nat_lit 0)) :: .inl (.lb (nat_lit 0)) :: .inl (.lb (nat_lit 0)) :: .inl (.lb (nat_lit 0)) :: .inl (.lb (nat_lit 0)) :: .inl (.lb (nat_lit 0)) :: .inl (.lb (nat_lit 0)) :: .inl (.lb (nat_lit 0)) :: .inl (.lb (nat_lit 0)) :: .inl (.lb (nat_lit 1)) :: .inl (.lb (nat_lit 1)) :: .inl (.lb (nat_lit 2)) :: .inl (.lb (nat_lit 2)) :: .inl (.lb (nat_lit 2)) :: .inl (.lb (nat_lit 2)) :: .inl .b :: .inl (.lb (nat_lit 0)) :: .inl (.lb (nat_lit 9)) :: .inl .b :: .inl (.lb (nat_lit 0)) :: .inl .b :: .inl (.lb (nat_lit 0)) :: .inl (.lb (nat_lit 0)) :: .inl .b :: .inl (.lb (nat_lit 0)) :: .inl .b :: .inl (.lb (nat_lit 0)) :: .inl (.lb (nat_lit 9)) :: .inl (.lb (nat_lit 1)) :: .inl (.lb (nat_lit 1)) :: .inl .b :: .inl (.lb (nat_lit 0)) :: .inl .b :: .inl .b :: .inl .b :: .inl .b :: .inl (.lb (nat_lit 0)) :: .inl (.lb (nat_lit 0)) :: .inl (.lb (nat_lit 1)) :: .inl (.lb (nat_lit 1)) :: .inl .b :: .inl (.lb (nat_lit 0)) :: .inl (.lb (nat_lit 4)) :: .inl (.lc 3 1 55) :: .inl .b :: .inl .b :: .inl .b :: .inl (.lb (nat_lit 0)) :: .inr (0, [(0, 0, 0), (2, 0, 0), (9, 0, 0), (1, 0, 0)]) :: .inr (1, [(18, 0, 0), (2, 0, 0), (24, 0, 0), (22, 0, 0), (5, 0, 0), (6, 0, 0), (1, 0, 0), (0, 0, 0), (17, 0, 0), (15, 0, 0), (14, 0, 0), (13, 0, 0), (31, 0, 0), (23, 0, 0)]) :: .inl (.lb (nat_lit 23)) :: .inl .b :: .inl (.lb (nat_lit 0)) :: .inl (.lo (nat_lit 0)) :: .inl (.lb (nat_lit 46)) :: .inl .b :: .inl .b :: .inl .b :: .inl (.lb (nat_lit 0)) :: .inl (.lb (nat_lit 0)) :: .inl (.lb (nat_lit 1)) :: .inl (.lb (nat_lit 1)) :: .inl .b :: .inl (.lb (nat_lit 0)) :: .inl (.lb (nat_lit 0)) :: .inl (.lb (nat_lit 3)) :: .inl (.lb (nat_lit 3)) :: .inl .b :: .inl .b :: .inl (.lb (nat_lit 1)) :: .inr (2, [(0, 0, 0), (26, 0, 0), (10, 0, 0), (13, 0, 0), (14, 0, 0), (9, 0, 0), (8, 0, 0), (25, 0, 0), (23, 0, 0), (22, 0, 0), (21, 0, 0)]) :: .inl (.lb (nat_lit 32)) :: .inl (.lb (nat_lit 32)) :: .inl .b :: .inl .b :: .inl (.lb (nat_lit 1)) :: .inl (.lo (nat_lit 8)) :: .inl (.lb (nat_lit 1)) :: .inl (.lo (nat_lit 9)) :: .inl (.lb (nat_lit 0)) :: []
theorem en_b69_main (ha : Option Addr) (hl hc : Nat) (zs : List Int) (cb ra ci bf : Nat → Int) (nu ti gl o x : Int) : EF Sagg.prog (en_b69_specs ha hl hc zs cb ra ci bf nu ti gl o x) 300 60 [] 8 #[.agg (envA ha hl hc cb ra ci bf nu ti gl), .int .u8 69] (fun v _ _ => v = .bool true) ⟨[], [(.tuple #[.pointer ha, .agg (bcells zs).toArray], 0)]⟩ en_b69_H_0
  = buildC (en_b69_cs ha hl hc zs cb ra ci bf nu ti gl o x) [Told Sagg.prog .leq 3 (.int .i64 (Int.ofNat hl)) (.int .i64 4) (toldV 1 0),
  True,
  True,
  True,
  True,
  True,
  True,
  True,
  Told Sagg.prog .lss 27 (.int .u64 gl) (.int .u64 200000) (toldV 0 0),
  Told Sagg.prog .neq 29 (.agg (bcells (l32 bf)).toArray) (.agg (bcells (l1 0)).toArray) (toldV 1 0)] (fun _ => Value.bool true = .bool true) en_b69_T_0 [] := by kernel_rfl
theorem en_b69_calls (ha : Option Addr) (hl hc : Nat) (zs : List Int) (cb ra ci bf : Nat → Int) (nu ti gl o x : Int) (hh : hl ≤ 4) (hw : WordsFact ha hl ha (bcells zs).toArray) (hgl : 0 ≤ gl ∧ gl < 18446744073709551616) (hge : 200000 ≤ gl) (hbf : AllIn (l32 bf)) (hbn : l32 bf ≠ l1 0) (w : World) (hN : Stab [] w (fun w => nmH (fun _ => False) w (.tuple #[.pointer ha, .agg (bcells zs).toArray]) 0)) :
    Calls Sagg.prog 8 #[.agg (envA ha hl hc cb ra ci bf nu ti gl), .int .u8 69] w fun e w' => e = .returned (.bool true) ∧ Below w.heap.size w w' := by
  have hcs : ∀ c ∈ en_b69_cs ha hl hc zs cb ra ci bf nu ti gl o x, c.Ran natSpecs3 300 60 := by
    unfold en_b69_cs
    simp only [List.forall_mem_cons]
    exact ⟨en_u148_ran hh hw, en_u151_ran, en_u152_ran hgl hge hbf hbn, fun c hc => by cases hc⟩
  have hsp : ∀ p ∈ en_b69_specs ha hl hc zs cb ra ci bf nu ti gl o x, SpecOK p.1 p.2 := by
    intro p hp
    unfold en_b69_specs at hp
    rcases List.mem_cons.1 hp with rfl | hp
    · exact chX_ok (R := 300) (d := 60) natSpecs3_ok hcs
    rcases List.mem_cons.1 hp with rfl | hp
    · exact chX_ok (R := 300) (d := 60) natSpecs3_ok hcs
    rcases List.mem_cons.1 hp with rfl | hp
    · exact chX_ok (R := 300) (d := 60) natSpecs3_ok hcs
    rcases List.mem_cons.1 hp with rfl | hp
    · exact chX_ok (R := 300) (d := 60) natSpecs3_ok hcs
    rcases List.mem_cons.1 hp with rfl | hp
    · exact chX_ok (R := 300) (d := 60) natSpecs3_ok hcs
    exact natSpecs3_ok p hp
  have hrun : EF Sagg.prog (en_b69_specs ha hl hc zs cb ra ci bf nu ti gl o x) 300 60 [] 8 #[.agg (envA ha hl hc cb ra ci bf nu ti gl), .int .u8 69] (fun v _ _ => v = .bool true) ⟨[], [(.tuple #[.pointer ha, .agg (bcells zs).toArray], 0)]⟩ en_b69_H_0 := by
    refine of_eq (en_b69_main ha hl hc zs cb ra ci bf nu ti gl o x) ?_
    refine buildC_ok ?_ (fun _ => rfl) _ _ (by kernel_rfl)
    exact (ho_cons (told_le1 (by have : ((hl : Nat) : Int) ≤ 4 := (by omega); exact this)) (ho_cons (trivial) (ho_cons (trivial) (ho_cons (trivial) (ho_cons (trivial) (ho_cons (trivial) (ho_cons (trivial) (ho_cons (trivial) (ho_cons (told_lt0 hge) (ho_cons (told_nW (by simp [l32]) rfl hbn) ho_nil))))))))))
  refine (closed (S := fun _ => False) hsp (fun b hb => hb.elim) hrun (fun p hp => by
    rcases List.mem_cons.1 hp with rfl | hp
    · exact hN
    · cases hp)).mono ?_
  rintro e w' ⟨v, s', H', rfl, rfl, hi⟩
  exact ⟨rfl, hi.below⟩
noncomputable def en_b70_cs (ha : Option Addr) (hl hc : Nat) (zs : List Int) (cb ra ci bf : Nat → Int) (nu ti gl o x : Int) : List Ch := [en_u148 ha hl hc zs cb ra ci bf nu ti gl 70 (beV (l32 ci)), en_u151 ha hl hc zs cb ra ci bf nu ti gl 70 (beV (l32 ci)), en_u152 ha hl hc zs cb ra ci bf nu ti gl 70 (beV (l32 ci))]
noncomputable def en_b70_specs (ha : Option Addr) (hl hc : Nat) (zs : List Int) (cb ra ci bf : Nat → Int) (nu ti gl o x : Int) : List (FuncId × Spec) := (44, chX 44 (en_b70_cs ha hl hc zs cb ra ci bf nu ti gl o x)) :: (31, chX 31 (en_b70_cs ha hl hc zs cb ra ci bf nu ti gl o x)) :: (43, chX 43 (en_b70_cs ha hl hc zs cb ra ci bf nu ti gl o x)) :: (45, chX 45 (en_b70_cs ha hl hc zs cb ra ci bf nu ti gl o x)) :: (59, chX 59 (en_b70_cs ha hl hc zs cb ra ci bf nu ti gl o x)) :: natSpecs3
def en_b70_H_0 : List Nat := nat_lit 100000 :: nat_lit 0 :: nat_lit 0 :: nat_lit 1 :: nat_lit 0 :: nat_lit 3 :: nat_lit 1 :: nat_lit 0 :: nat_lit 2 :: nat_lit 1 :: nat_lit 0 :: nat_lit 1 :: nat_lit 1 :: nat_lit 0 :: nat_lit 4 :: nat_lit 100000 :: nat_lit 0 :: nat_lit 0 :: nat_lit 0 :: nat_lit 0 :: nat_lit 0 :: nat_lit 0 :: nat_lit 1 :: nat_lit 0 :: nat_lit 0 :: nat_lit 0 :: nat_lit 0 :: nat_lit 0 :: nat_lit 1 :: nat_lit 7 :: nat_lit 10 :: nat_lit 0 :: nat_lit 0 :: nat_lit 0 :: nat_lit 3 :: nat_lit 0 :: nat_lit 1 :: nat_lit 1 :: nat_lit 1 :: nat_lit 2 :: nat_lit 0 :: nat_lit 1 :: nat_lit 0 :: nat_lit 0 :: nat_lit 1 :: nat_lit 0 :: nat_lit 0 :: nat_lit 0 :: nat_lit 8 :: nat_lit 1 :: nat_lit 2 :: nat_lit 0 :: nat_lit 1 :: nat_lit 0 :: nat_lit 0 :: nat_lit 0 :: nat_lit 1 :: nat_lit 1 :: nat_lit 2 :: nat_lit 2 :: nat_lit 3 :: nat_lit 1 :: nat_lit 1 :: nat_lit 4 :: nat_lit 14 :: nat_lit 1 :: nat_lit 0 :: nat_lit 0 :: nat_lit 0 :: nat_lit 1 :: nat_lit 0 :: nat_lit 0 :: nat_lit 0 :: nat_lit 0 :: nat_lit 0 :: nat_lit 0 :: nat_lit 0 :: nat_lit 0 :: nat_lit 0 :: nat_lit 0 :: nat_lit 1 :: nat_lit 0 :: nat_lit 0 :: nat_lit 1 :: nat_lit 11 :: nat_lit 2 :: nat_lit 0 :: nat_lit 0 :: nat_lit 0 :: nat_lit 0 :: nat_lit 0 :: nat_lit 0 :: nat_lit 0 :: nat_lit 0 :: nat_lit 1 :: nat_lit 1 :: nat_lit 4 :: nat_lit 0 :: nat_lit 2 :: nat_lit 0 :: nat_lit 0 :: nat_lit 5 :: nat_lit 100000 :: nat_lit 1 :: nat_lit 2 :: nat_lit 0 :: nat_lit 0 :: nat_lit 5 :: nat_lit 0 :: nat_lit 6 :: nat_lit 0 :: nat_lit 7 :: nat_lit 0 :: nat_lit 8 :: nat_lit 0 :: nat_lit 9 :: nat_lit 0 :: nat_lit 1 :: nat_lit 0 :: nat_lit 7 :: nat_lit 0 :: nat_lit 0 :: nat_lit 0 :: nat_lit 0 :: nat_lit 1 :: nat_lit 0 :: nat_lit 2 :: nat_lit 1 :: nat_lit 3 :: nat_lit 0 :: nat_lit 0 :: nat_lit 0 :: nat_lit 0 :: nat_lit 1 :: nat_lit 1 :: nat_lit 2 :: nat_lit 0 :: nat_lit 0 :: nat_lit 1 :: nat_lit 3 :: nat_lit 4 :: nat_lit 1 :: nat_lit 4 :: nat_lit 0 :: nat_lit 2 :: nat_lit 2 :: nat_lit 9 :: nat_lit 1 :: nat_lit 0 :: nat_lit 0 :: nat_lit 0 :: nat_lit 0 :: nat_lit 0 :: nat_lit 0 :: nat_lit 0 :: nat_lit 2 :: nat_lit 0 :: nat_lit 2 :: nat_lit 3 :: nat_lit 1 :: nat_lit 5 :: nat_lit 100000 :: nat_lit 2 :: nat_lit 1 :: nat_lit 0 :: nat_lit 2 :: nat_lit 2 :: nat_lit 0 :: nat_lit 1 :: nat_lit 0 :: nat_lit 0 :: nat_lit 6 :: []
def en_b70_T_0 : List (Tk ⊕ (Nat × List (Nat × Nat × Nat))) := .inl .b :: .inl .b :: .inl .b :: .inl .b :: .inl .b :: .inl (.lb (nat_lit 3)) :: .inl (.lb (nat_lit 0)) :: .inl (.lb (nat_lit 2)) :: .inl (.lb (nat_lit 0)) :: .inl (.lb (nat_lit 1)) :: .inl (.lb (nat_lit 0)) :: .inl (.lb (nat_lit 0)) :: .inl (.lb (nat_lit 4)) :: .inl .b :: .inl .b :: .inl (.lb (nat_lit 1)) :: .inl (.lb (nat_lit 0)) :: .inl (.lb (nat_lit 0)) :: .inl (.lb (nat_lit 0)) :: .inl (.lb (nat_lit 0)) :: .inl .b :: .inl (.lb (nat_lit 0)) :: .inl (.lb (nat_lit 7)) :: .inl .b :: .inl (.lb (nat_lit 0)) :: .inl .b :: .inl (.lb (nat_lit 0)) :: .inl (.lb (nat_lit 0)) :: .inl .b :: .inl (.lb (nat_lit 0)) :: .inl .b :: .inl (.lb (nat_lit 0)) :: .inl (.lb (nat_lit 7)) :: .inl (.lb (nat_lit 1)) :: .inl (.lb (nat_lit 1)) :: .inl .b :: .inl (.lb (nat_lit 0)) :: .inl .b :: .inl .b :: .inl .b :: .inl .b :: .inl (.lb (nat_lit 0)) :: .inl (.lb (nat_lit 0)) :: .inl (.lb (nat_lit 1)) :: .inl (.lb (nat_lit 1)) :: .inl .b :: .inl (.lb (nat_lit 0)) :: .inl (.lb (nat_lit 4)) :: .inl (.lc 3 1 55) :: .inl .b :: .inl .b :: .inl .b :: .inl (.lb (nat_lit 0)) :: .inr (0, [(0, 0, 0), (2, 0, 0), (9, 0, 0), (1, 0, 0)]) :: .inr (1, [(18, 0, 0), (2, 0, 0), (24, 0, 0), (22, 0, 0), (5, 0, 0), (6, 0, 0), (1, 0, 0), (0, 0, 0), (17, 0, 0), (15, 0, 0), (14, 0, 0), (13, 0, 0), (31, 0, 0), (23, 0, 0)]) :: .inl (.lb (nat_lit 23)) :: .inl .b :: .inl (.lb (nat_lit 0)) :: .inl (.lo (nat_lit 0)) :: .inl (.lb (nat_lit 44)) :: .inl .b :: .inl .b :: .inl .b :: .inl (.lb (nat_lit 0)) :: .inl (.lb (nat_lit 0)) :: .inl (.lb (nat_lit 1)) :: .inl (.lb (nat_lit 1)) :: .inl .b :: .inl (.lb (nat_lit 0)) :: .inl (.lb (nat_lit 0)) :: .inl (.lb (nat_lit 3)) :: .inl (.lb (nat_lit 3)) :: .inl .b :: .inl .b :: .inl (.lb (nat_lit 1)) :: .inr (2, [(0, 0, 0), (26, 0, 0), (10, 0, 0), (13, 0, 0), (14, 0, 0), (9, 0, 0), (8, 0, 0), (25, 0, 0), (23, 0, 0), (22, 0, 0), (21, 0, 0)]) :: .inl (.lb (nat_lit 32)) :: .inl (.lb (nat_lit 32)) :: .inl .b :: .inl .b :: .inl (.lb (nat_lit 1)) :: .inl (.lo (nat_lit 8)) :: .inl (.lb (nat_lit 1)) :: .inl (.lo (nat_lit 9)) :: .inl (.lb (nat_lit 0)) :: []
theorem en_b70_main (ha : Option Addr) (hl hc : Nat) (zs : List Int) (cb ra ci bf : Nat → Int) (nu ti gl o x : Int) : EF Sagg.prog (en_b70_specs ha hl hc zs cb ra ci bf nu ti gl o x) 300 60 [] 8 #[.agg (envA ha hl hc cb ra ci bf nu ti gl), .int .u8 70] (fun v _ _ => v = .bool true) ⟨[], [(.tuple #[.pointer ha, .agg (bcells zs).toArray], 0)]⟩ en_b70_H_0
  = buildC (en_b70_cs ha hl hc zs cb ra ci bf nu ti gl o x) [Told Sagg.prog .leq 3 (.int .i64 (Int.ofNat hl)) (.int .i64 4) (toldV 1 0),
  True,
  True,
  True,
  True,
  True,
  True,
  True,
  Told Sagg.prog .lss 27 (.int .u64 gl) (.int .u64 200000) (toldV 0 0),
  Told Sagg.prog .neq 29 (.agg (bcells (l32 bf)).toArray) (.agg (bcells (l1 0)).toArray) (toldV 1 0)] (fun _ => Value.bool true = .bool true) en_b70_T_0 [] := by kernel_rfl
theorem en_b70_calls (ha : Option Addr) (hl hc : Nat) (zs : List Int) (cb ra ci bf : Nat → Int) (nu ti gl o x : Int) (hh : hl ≤ 4) (hw : WordsFact ha hl ha (bcells zs).toArray) (hgl : 0 ≤ gl ∧ gl < 18446744073709551616) (hge : 200000 ≤ gl) (hbf : AllIn (l32 bf)) (hbn : l32 bf ≠ l1 0) (w : World) (hN : Stab [] w (fun w => nmH (fun _ => False) w (.tuple #[.pointer ha, .agg (bcells zs).toArray]) 0)) :
    Calls Sagg.prog 8 #[.agg (envA ha hl hc cb ra ci bf nu ti gl), .int .u8 70] w fun e w' => e = .returned (.bool true) ∧ Below w.heap.size w w' := by
  have hcs : ∀ c ∈ en_b70_cs ha hl hc zs cb ra ci bf nu ti gl o x, c.Ran natSpecs3 300 60 := by
    unfold en_b70_cs
    simp only [List.forall_mem_cons]
    exact ⟨en_u148_ran hh hw, en_u151_ran, en_u152_ran hgl hge hbf hbn, fun c hc => by cases hc⟩
  have hsp : ∀ p ∈ en_b70_specs ha hl hc zs cb ra ci bf nu ti gl o x, SpecOK p.1 p.2 := by
    intro p hp
    unfold en_b70_specs at hp
    rcases List.mem_cons.1 hp with rfl | hp
    · exact chX_ok (R := 300) (d := 60) natSpecs3_ok hcs
    rcases List.mem_cons.1 hp with rfl | hp
    · exact chX_ok (R := 300) (d := 60) natSpecs3_ok hcs
    rcases List.mem_cons.1 hp with rfl | hp
    · exact chX_ok (R := 300) (d := 60) natSpecs3_ok hcs
    rcases List.mem_cons.1 hp with rfl | hp
    · exact chX_ok (R := 300) (d := 60) natSpecs3_ok hcs
    rcases List.mem_cons.1 hp with rfl | hp
    · exact chX_ok (R := 300) (d := 60) natSpecs3_ok hcs
    exact natSpecs3_ok p hp
  have hrun : EF Sagg.prog (en_b70_specs ha hl hc zs cb ra ci bf nu ti gl o x) 300 60 [] 8 #[.agg (envA ha hl hc cb ra ci bf nu ti gl), .int .u8 70] (fun v _ _ => v = .bool true) ⟨[], [(.tuple #[.pointer ha, .agg (bcells zs).toArray], 0)]⟩ en_b70_H_0 := by
    refine of_eq (en_b70_main ha hl hc zs cb ra ci bf nu ti gl o x) ?_
    refine buildC_ok ?_ (fun _ => rfl) _ _ (by kernel_rfl)
    exact (ho_cons (told_le1 (by have : ((hl : Nat) : Int) ≤ 4 := (by omega); exact this)) (ho_cons (trivial) (ho_cons (trivial) (ho_cons (trivial) (ho_cons (trivial) (ho_cons (trivial) (ho_cons (trivial) (ho_cons (trivial) (ho_cons (told_lt0 hge) (ho_cons (told_nW (by simp [l32]) rfl hbn) ho_nil))))))))))
  refine (closed (S := fun _ => False) hsp (fun b hb => hb.elim) hrun (fun p hp => by
    rcases List.mem_cons.1 hp with rfl | hp
    · exact hN
    · cases hp)).mono ?_
  rintro e w' ⟨v, s', H', rfl, rfl, hi⟩
  exact ⟨rfl, hi.below⟩
noncomputable def en_b88_cs (ha : Option Addr) (hl hc : Nat) (zs : List Int) (cb ra ci bf : Nat → Int) (nu ti gl o x : Int) : List Ch := [en_u148 ha hl hc zs cb ra ci bf nu ti gl 88 0, en_u151 ha hl hc zs cb ra ci bf nu ti gl 88 0, en_u152 ha hl hc zs cb ra ci bf nu ti gl 88 0]
noncomputable def en_b88_specs (ha : Option Addr) (hl hc : Nat) (zs : List Int) (cb ra ci bf : Nat → Int) (nu ti gl o x : Int) : List (FuncId × Spec) := (44, chX 44 (en_b88_cs ha hl hc zs cb ra ci bf nu ti gl o x)) :: (31, chX 31 (en_b88_cs ha hl hc zs cb ra ci bf nu ti gl o x)) :: (43, chX 43 (en_b88_cs ha hl hc zs cb ra ci bf nu ti gl o x)) :: (45, chX 45 (en_b88_cs ha hl hc zs cb ra ci bf nu ti gl o x)) :: (59, chX 59 (en_b88_cs ha hl hc zs cb ra ci bf nu ti gl o x)) :: natSpecs3
def en_b88_H_0 : List Nat := nat_lit 100000 :: nat_lit 0 :: nat_lit 0 :: nat_lit 1 :: nat_lit 0 :: nat_lit 3 :: nat_lit 1 :: nat_lit 0 :: nat_lit 2 :: nat_lit 1 :: nat_lit 0 :: nat_lit 1 :: nat_lit 1 :: nat_lit 0 :: nat_lit 4 :: nat_lit 100000 :: nat_lit 0 :: nat_lit 0 :: nat_lit 0 :: nat_lit 0 :: nat_lit 0 :: nat_lit 0 :: nat_lit 0 :: nat_lit 0 :: nat_lit 0 :: nat_lit 0 :: nat_lit 0 :: nat_lit 0 :: nat_lit 0 :: nat_lit 0 :: nat_lit 0 :: nat_lit 0 :: nat_lit 0 :: nat_lit 1 :: nat_lit 1 :: nat_lit 2 :: nat_lit 2 :: nat_lit 2 :: nat_lit 2 :: nat_lit 0 :: nat_lit 1 :: nat_lit 9 :: nat_lit 10 :: nat_lit 0 :: nat_lit 0 :: nat_lit 0 :: nat_lit 3 :: nat_lit 0 :: nat_lit 1 :: nat_lit 1 :: nat_lit 1 :: nat_lit 2 :: nat_lit 0 :: nat_lit 1 :: nat_lit 0 :: nat_lit 0 :: nat_lit 1 :: nat_lit 0 :: nat_lit 0 :: nat_lit 0 :: nat_lit 10 :: nat_lit 1 :: nat_lit 2 :: nat_lit 0 :: nat_lit 1 :: nat_lit 13 :: nat_lit 1 :: nat_lit 1 :: nat_lit 0 :: nat_lit 0 :: nat_lit 0 :: nat_lit 0 :: nat_lit 0 :: nat_lit 0 :: nat_lit 0 :: nat_lit 0 :: nat_lit 0 :: nat_lit 0 :: nat_lit 0 :: nat_lit 0 :: nat_lit 0 :: nat_lit 0 :: nat_lit 1 :: nat_lit 1 :: nat_lit 2 :: nat_lit 2 :: nat_lit 3 :: nat_lit 1 :: nat_lit 1 :: nat_lit 4 :: nat_lit 0 :: nat_lit 1 :: nat_lit 0 :: nat_lit 3 :: nat_lit 2 :: nat_lit 0 :: nat_lit 0 :: nat_lit 0 :: nat_lit 1 :: nat_lit 11 :: nat_lit 2 :: nat_lit 0 :: nat_lit 0 :: nat_lit 0 :: nat_lit 0 :: nat_lit 0 :: nat_lit 0 :: nat_lit 0 :: nat_lit 0 :: nat_lit 1 :: nat_lit 1 :: nat_lit 4 :: nat_lit 0 :: nat_lit 2 :: nat_lit 0 :: nat_lit 0 :: nat_lit 5 :: nat_lit 100000 :: nat_lit 1 :: nat_lit 2 :: nat_lit 0 :: nat_lit 0 :: nat_lit 5 :: nat_lit 0 :: nat_lit 6 :: nat_lit 0 :: nat_lit 7 :: nat_lit 0 :: nat_lit 8 :: nat_lit 0 :: nat_lit 9 :: nat_lit 0 :: nat_lit 1 :: nat_lit 0 :: nat_lit 7 :: nat_lit 0 :: nat_lit 0 :: nat_lit 0 :: nat_lit 0 :: nat_lit 1 :: nat_lit 0 :: nat_lit 2 :: nat_lit 1 :: nat_lit 3 :: nat_lit 0 :: nat_lit 0 :: nat_lit 0 :: nat_lit 0 :: nat_lit 1 :: nat_lit 1 :: nat_lit 2 :: nat_lit 0 :: nat_lit 0 :: nat_lit 1 :: nat_lit 3 :: nat_lit 4 :: nat_lit 1 :: nat_lit 4 :: nat_lit 0 :: nat_lit 2 :: nat_lit 2 :: nat_lit 9 :: nat_lit 1 :: nat_lit 0 :: nat_lit 0 :: nat_lit 0 :: nat_lit 0 :: nat_lit 0 :: nat_lit 0 :: nat_lit 0 :: nat_lit 2 :: nat_lit 0 :: nat_lit 2 :: nat_lit 3 :: nat_lit 1 :: nat_lit 5 :: nat_lit 100000 :: nat_lit 2 :: nat_lit 1 :: nat_lit 0 :: nat_lit 2 :: nat_lit 2 :: nat_lit 0 :: nat_lit 1 :: nat_lit 0 :: nat_lit 0 :: nat_lit 6 :: []
def en_b88_T_0 : List (Tk ⊕ (Nat × List (Nat × Nat × Nat))) := .inl .b :: .inl .b :: .inl .b :: .inl .b :: .inl .b :: .inl (.lb (nat_lit 3)) :: .inl (.lb (nat_lit 0)) :: .inl (.lb (nat_lit 2)) :: .inl (.lb (nat_lit 0)) :: .inl (.lb (nat_lit 1)) :: .inl (.lb (nat_lit 0)) :: .inl (.lb (nat_lit 0)) :: .inl (.lb (nat_lit 4)) :: .inl .b :: .inl .b :: .inl .b :: .inl .b :: .inl (.lb (nat_lit 0)) :: .inl (.lb (nat_lit 0)) :: .inl (.lb (nat_lit 0)) :: .inl (.lb (nat_lit 0)) :: .inl (.lb (nat_lit 0)) :: .inl (.lb (nat_lit 0)) :: .inl (.lb (nat_lit 0)) :: .inl (.lb (nat_lit 0)) :: .inl (.lb (nat_lit 0)) :: .inl (.lb (nat_lit 1)) :: .inl (.lb (nat_lit 1)) :: .inl (.lb (nat_lit 2)) :: .inl (.lb (nat_lit 2)) :: .inl (.lb (nat_lit 2)) :: .inl (.lb (nat_lit 2)) :: .inl .b :: .inl (.lb (nat_lit 0)) :: .inl (.lb (nat_lit 9)) :: .inl .b :: .inl (.lb (nat_lit 0)) :: .inl .b :: .inl (.lb (nat_lit 0)) :: .inl (.lb (nat_lit 0)) :: .inl .b :: .inl (.lb (nat_lit 0)) :: .inl .b :: .inl (.lb (nat_lit 0)) :: .inl (.lb (nat_lit 9)) :: .inl (.lb (nat_lit 1)) :: .inl (.lb (nat_lit 1)) :: .inl .b :: .inl (.lb (nat_lit 0)) :: .inl .b :: .inl .b :: .inl .b :: .inl .b :: .inl (.lb (nat_lit 0)) :: .inl (.lb (nat_lit 0)) :: .inl (.lb (nat_lit 1)) :: .inl (.lb (nat_lit 1)) :: .inl .b :: .inl (.lb (nat_lit 0)) :: .inl (.lb (nat_lit 4)) :: .inl (.lc 3 1 55) :: .inl .b :: .inl .b :: .inl .b :: .inl (.lb (nat_lit 0)) :: .inr (0, [(0, 0, 0), (2, 0, 0), (9, 0, 0), (1, 0, 0)]) :: .inr (1, [(18, 0, 0), (2, 0, 0), (24, 0, 0), (22, 0, 0), (5, 0, 0), (6, 0, 0), (1, 0, 0), (0, 0, 0), (17, 0, 0), (15, 0, 0), (14, 0, 0), (13, 0, 0), (31, 0, 0), (23, 0, 0)]) :: .inl (.lb (nat_lit 23)) :: .inl .b :: .inl (.lb (nat_lit 0)) :: .inl (.lo (nat_lit 0)) :: .inl (.lb (nat_lit 46)) :: .inl .b :: .inl .b :: .inl .b :: .inl (.lb (nat_lit 0)) :: .inl (.lb (nat_lit 0)) :: .inl (.lb (nat_lit 1)) :: .inl (.lb (nat_lit 1)) :: .inl .b :: .inl (.lb (nat_lit 0)) :: .inl (.lb (nat_lit 0)) :: .inl (.lb (nat_lit 3)) :: .inl (.lb (nat_lit 3)) :: .inl .b :: .inl .b :: .inl (.lb (nat_lit 1)) :: .inr (2, [(0, 0, 0), (26, 0, 0), (10, 0, 0), (13, 0, 0), (14, 0, 0), (9, 0, 0), (8, 0, 0), (25, 0, 0), (23, 0, 0), (22, 0, 0), (21, 0, 0)]) :: .inl (.lb (nat_lit 32)) :: .inl (.lb (nat_lit 32)) :: .inl .b :: .inl .b :: .inl (.lb (nat_lit 1)) :: .inl (.lo (nat_lit 8)) :: .inl (.lb (nat_lit 1)) :: .inl (.lo (nat_lit 9)) :: .inl (.lb (nat_lit 0)) :: []
theorem en_b88_main (ha : Option Addr) (hl hc : Nat) (zs : List Int) (cb ra ci bf : Nat → Int) (nu ti gl o x : Int) : EF Sagg.prog (en_b88_specs ha hl hc zs cb ra ci bf nu ti gl o x) 300 60 [] 8 #[.agg (envA ha hl hc cb ra ci bf nu ti gl), .int .u8 88] (fun v _ _ => v = .bool true) ⟨[], [(.tuple #[.pointer ha, .agg (bcells zs).toArray], 0)]⟩ en_b88_H_0
  = buildC (en_b88_cs ha hl hc zs cb ra ci bf nu ti gl o x) [Told Sagg.prog .leq 3 (.int .i64 (Int.ofNat hl)) (.int .i64 4) (toldV 1 0),
  True,
  True,
  True,
  True,
  True,
  True,
  True,
  Told Sagg.prog .lss 27 (.int .u64 gl) (.int .u64 200000) (toldV 0 0),
  Told Sagg.prog .neq 29 (.agg (bcells (l32 bf)).toArray) (.agg (bcells (l1 0)).toArray) (toldV 1 0)] (fun _ => Value.bool true = .bool true) en_b88_T_0 [] := by kernel_rfl
theorem en_b88_calls (ha : Option Addr) (hl hc : Nat) (zs : List Int) (cb ra ci bf : Nat → Int) (nu ti gl o x : Int) (hh : hl ≤ 4) (hw : WordsFact ha hl ha (bcells zs).toArray) (hgl : 0 ≤ gl ∧ gl < 18446744073709551616) (hge : 200000 ≤ gl) (hbf : AllIn (l32 bf)) (hbn : l32 bf ≠ l1 0) (w : World) (hN : Stab [] w (fun w => nmH (fun _ => False) w (.tuple #[.pointer ha, .agg (bcells zs).toArray]) 0)) :
    Calls Sagg.prog 8 #[.agg (envA ha hl hc cb ra ci bf nu ti gl), .int .u8 88] w fun e w' => e = .returned (.bool true) ∧ Below w.heap.size w w' := by
  have hcs : ∀ c ∈ en_b88_cs ha hl hc zs cb ra ci bf nu ti gl o x, c.Ran natSpecs3 300 60 := by
    unfold en_b88_cs
    simp only [List.forall_mem_cons]
    exact ⟨en_u148_ran hh hw, en_u151_ran, en_u152_ran hgl hge hbf hbn, fun c hc => by cases hc⟩
  have hsp : ∀ p ∈ en_b88_specs ha hl hc zs cb ra ci bf nu ti gl o x, SpecOK p.1 p.2 := by
    intro p hp
    unfold en_b88_specs at hp
    rcases List.mem_cons.1 hp with rfl | hp
    · exact chX_ok (R := 300) (d := 60) natSpecs3_ok hcs
    rcases List.mem_cons.1 hp with rfl | hp
    · exact chX_ok (R := 300) (d := 60) natSpecs3_ok hcs
    rcases List.mem_cons.1 hp with rfl | hp
    · exact chX_ok (R := 300) (d := 60) natSpecs3_ok hcs
    rcases List.mem_cons.1 hp with rfl | hp
    · exact chX_ok (R := 300) (d := 60) natSpecs3_ok hcs
    rcases List.mem_cons.1 hp with rfl | hp
    · exact chX_ok (R := 300) (d := 60) natSpecs3_ok hcs
    exact natSpecs3_ok p hp
  have hrun : EF Sagg.prog (en_b88_specs ha hl hc zs cb ra ci bf nu ti gl o x) 300 60 [] 8 #[.agg (envA ha hl hc cb ra ci bf nu ti gl), .int .u8 88] (fun v _ _ => v = .bool true) ⟨[], [(.tuple #[.pointer ha, .agg (bcells zs).toArray], 0)]⟩ en_b88_H_0 := by
    refine of_eq (en_b88_main ha hl hc zs cb ra ci bf nu ti gl o x) ?_
    refine buildC_ok ?_ (fun _ => rfl) _ _ (by kernel_rfl)
    exact (ho_cons (told_le1 (by have : ((hl : Nat) : Int) ≤ 4 := (by omega); exact this)) (ho_cons (trivial) (ho_cons (trivial) (ho_cons (trivial) (ho_cons (trivial) (ho_cons (trivial) (ho_cons (trivial) (ho_cons (trivial) (ho_cons (told_lt0 hge) (ho_cons (told_nW (by simp [l32]) rfl hbn) ho_nil))))))))))
  refine (closed (S := fun _ => False) hsp (fun b hb => hb.elim) hrun (fun p hp => by
    rcases List.mem_cons.1 hp with rfl | hp
    · exact hN
    · cases hp)).mono ?_
  rintro e w' ⟨v, s', H', rfl, rfl, hi⟩
  exact ⟨rfl, hi.below⟩
noncomputable def en_b89_cs (ha : Option Addr) (hl hc : Nat) (zs : List Int) (cb ra ci bf : Nat → Int) (nu ti gl o x : Int) : List Ch := [en_u148 ha hl hc zs cb ra ci bf nu ti gl 89 0, en_u151 ha hl hc zs cb ra ci bf nu ti gl 89 0, en_u152 ha hl hc zs cb ra ci bf nu ti gl 89 0]
noncomputable def en_b89_specs (ha : Option Addr) (hl hc : Nat) (zs : List Int) (cb ra ci bf : Nat → Int) (nu ti gl o x : Int) : List (FuncId × Spec) := (44, chX 44 (en_b89_cs ha hl hc zs cb ra ci bf nu ti gl o x)) :: (31, chX 31 (en_b89_cs ha hl hc zs cb ra ci bf nu ti gl o x)) :: (43, chX 43 (en_b89_cs ha hl hc zs cb ra ci bf nu ti gl o x)) :: (45, chX 45 (en_b89_cs ha hl hc zs cb ra ci bf nu ti gl o x)) :: (59, chX 59 (en_b89_cs ha hl hc zs cb ra ci bf nu ti gl o x)) :: natSpecs3
def en_b89_H_0 : List Nat := nat_lit 100000 :: nat_lit 0 :: nat_lit 0 :: nat_lit 1 :: nat_lit 0 :: nat_lit 3 :: nat_lit 1 :: nat_lit 0 :: nat_lit 2 :: nat_lit 1 :: nat_lit 0 :: nat_lit 1 :: nat_lit 1 :: nat_lit 0 :: nat_lit 4 :: nat_lit 100000 :: nat_lit 0 :: nat_lit 0 :: nat_lit 0 :: nat_lit 0 :: nat_lit 0 :: nat_lit 0 :: nat_lit 0 :: nat_lit 0 :: nat_lit 0 :: nat_lit 0 :: nat_lit 0 :: nat_lit 0 :: nat_lit 0 :: nat_lit 0 :: nat_lit 0 :: nat_lit 0 :: nat_lit 0 :: nat_lit 0 :: nat_lit 1 :: nat_lit 1 :: nat_lit 2 :: nat_lit 2 :: nat_lit 2 :: nat_lit 2 :: nat_lit 0 :: nat_lit 1 :: nat_lit 9 :: nat_lit 10 :: nat_lit 0 :: nat_lit 0 :: nat_lit 0 :: nat_lit 3 :: nat_lit 0 :: nat_lit 1 :: nat_lit 1 :: nat_lit 1 :: nat_lit 2 :: nat_lit 0 :: nat_lit 1 :: nat_lit 0 :: nat_lit 0 :: nat_lit 1 :: nat_lit 0 :: nat_lit 0 :: nat_lit 0 :: nat_lit 10 :: nat_lit 1 :: nat_lit 2 :: nat_lit 0 :: nat_lit 1 :: nat_lit 13 :: nat_lit 1 :: nat_lit 1 :: nat_lit 0 :: nat_lit 0 :: nat_lit 0 :: nat_lit 0 :: nat_lit 0 :: nat_lit 0 :: nat_lit 0 :: nat_lit 0 :: nat_lit 0 :: nat_lit 0 :: nat_lit 0 :: nat_lit 0 :: nat_lit 0 :: nat_lit 0 :: nat_lit 1 :: nat_lit 1 :: nat_lit 2 :: nat_lit 2 :: nat_lit 3 :: nat_lit 1 :: nat_lit 1 :: nat_lit 4 :: nat_lit 0 :: nat_lit 1 :: nat_lit 0 :: nat_lit 3 :: nat_lit 2 :: nat_lit 0 :: nat_lit 0 :: nat_lit 0 :: nat_lit 1 :: nat_lit 11 :: nat_lit 2 :: nat_lit 0 :: nat_lit 0 :: nat_lit 0 :: nat_lit 0 :: nat_lit 0 :: nat_lit 0 :: nat_lit 0 :: nat_lit 0 :: nat_lit 1 :: nat_lit 1 :: nat_lit 4 :: nat_lit 0 :: nat_lit 2 :: nat_lit 0 :: nat_lit 0 :: nat_lit 5 :: nat_lit 100000 :: nat_lit 1 :: nat_lit 2 :: nat_lit 0 :: nat_lit 0 :: nat_lit 5 :: nat_lit 0 :: nat_lit 6 :: nat_lit 0 :: nat_lit 7 :: nat_lit 0 :: nat_lit 8 :: nat_lit 0 :: nat_lit 9 :: nat_lit 0 :: nat_lit 1 :: nat_lit 0 :: nat_lit 7 :: nat_lit 0 :: nat_lit 0 :: nat_lit 0 :: nat_lit 0 :: nat_lit 1 :: nat_lit 0 :: nat_lit 2 :: nat_lit 1 :: nat_lit 3 :: nat_lit 0 :: nat_lit 0 :: nat_lit 0 :: nat_lit 0 :: nat_lit 1 :: nat_lit 1 :: nat_lit 2 :: nat_lit 0 :: nat_lit 0 :: nat_lit 1 :: nat_lit 3 :: nat_lit 4 :: nat_lit 1 :: nat_lit 4 :: nat_lit 0 :: nat_lit 2 :: nat_lit 2 :: nat_lit 9 :: nat_lit 1 :: nat_lit 0 :: nat_lit 0 :: nat_lit 0 :: nat_lit 0 :: nat_lit 0 :: nat_lit 0 :: nat_lit 0 :: nat_lit 2 :: nat_lit 0 :: nat_lit 2 :: nat_lit 3 :: nat_lit 1 :: nat_lit 5 :: nat_lit 100000 :: nat_lit 2 :: nat_lit 1 :: nat_lit 0 :: nat_lit 2 :: nat_lit 2 :: nat_lit 0 :: nat_lit 1 :: nat_lit 0 :: nat_lit 0 :: nat_lit 6 :: []
def en_b89_T_0 : List (Tk ⊕ (Nat × List (Nat × Nat × Nat))) := .inl .b :: .inl .b :: .inl .b :: .inl .b :: .inl .b :: .inl (.lb (nat_lit 3)) :: .inl (.lb (nat_lit 0)) :: .inl (.lb (nat_lit 2)) :: .inl (.lb (nat_lit 0)) :: .inl (.lb (nat_lit 1)) :: .inl (.lb (nat_lit 0)) :: .inl (.lb (nat_lit 0)) :: .inl (.lb (nat_lit 4)) :: .inl .b :: .inl .b :: .inl .b :: .inl .b :: .inl (.lb (nat_lit 0)) :: .inl (.lb (nat_lit 0)) :: .inl (.lb (nat_lit 0)) :: .inl (.lb (nat_lit 0)) :: .inl (.lb (nat_lit 0)) :: .inl (.lb (nat_lit 0)) :: .inl (.lb (nat_lit 0)) :: .inl (.lb (nat_lit 0)) :: .inl (.lb (nat_lit 0)) :: .inl (.lb (nat_lit 1)) :: .inl (.lb (nat_lit 1)) :: .inl (.lb (nat_lit 2)) :: .inl (.lb (nat_lit 2)) :: .inl (.lb (nat_lit 2)) :: .inl (.lb (nat_lit 2)) :: .inl .b :: .inl (.lb (nat_lit 0)) :: .inl (.lb (nat_lit 9)) :: .inl .b :: .inl (.lb (nat_lit 0)) :: .inl .b :: .inl (.lb (nat_lit 0)) :: .inl (.lb (nat_lit 0)) :: .inl .b :: .inl (.lb (nat_lit 0)) :: .inl .b :: .inl (.lb (nat_lit 0)) :: .inl (.lb (nat_lit 9)) :: .inl (.lb (nat_lit 1)) :: .inl (.lb (nat_lit 1)) :: .inl .b :: .inl (.lb (nat_lit 0)) :: .inl .b :: .inl .b :: .inl .b :: .inl .b :: .inl (.lb (nat_lit 0)) :: .inl (.lb (nat_lit 0)) :: .inl (.lb (nat_lit 1)) :: .inl (.lb (nat_lit 1)) :: .inl .b :: .inl (.lb (nat_lit 0)) :: .inl (.lb (nat_lit 4)) :: .inl (.lc 3 1 55) :: .inl .b :: .inl .b :: .inl .b :: .inl (.lb (nat_lit 0)) :: .inr (0, [(0, 0, 0), (2, 0, 0), (9, 0, 0), (1, 0, 0)]) :: .inr (1, [(18, 0, 0), (2, 0, 0), (24, 0, 0), (22, 0, 0), (5, 0, 0), (6, 0, 0), (1, 0, 0), (0, 0, 0), (17, 0, 0), (15, 0, 0), (14, 0, 0), (13, 0, 0), (31, 0, 0), (23, 0, 0)]) :: .inl (.lb (nat_lit 23)) :: .inl .b :: .inl (.lb (nat_lit 0)) :: .inl (.lo (nat_lit 0)) :: .inl (.lb (nat_lit 46)) :: .inl .b :: .inl .b :: .inl .b :: .inl (.lb (nat_lit 0)) :: .inl (.lb (nat_lit 0)) :: .inl (.lb (nat_lit 1)) :: .inl (.lb (nat_lit 1)) :: .inl .b :: .inl (.lb (nat_lit 0)) :: .inl (.lb (nat_lit 0)) :: .inl (.lb (nat_lit 3)) :: .inl (.lb (nat_lit 3)) :: .inl .b :: .inl .b :: .inl (.lb (nat_lit 1)) :: .inr (2, [(0, 0, 0), (26, 0, 0), (10, 0, 0), (13, 0, 0), (14, 0, 0), (9, 0, 0), (8, 0, 0), (25, 0, 0), (23, 0, 0), (22, 0, 0), (21, 0, 0)]) :: .inl (.lb (nat_lit 32)) :: .inl (.lb (nat_lit 32)) :: .inl .b :: .inl .b :: .inl (.lb (nat_lit 1)) :: .inl (.lo (nat_lit 8)) :: .inl (.lb (nat_lit 1)) :: .inl (.lo (nat_lit 9)) :: .inl (.lb (nat_lit 0)) :: []
theorem en_b89_main (ha : Option Addr) (hl hc : Nat) (zs : List Int) (cb ra ci bf : Nat → Int) (nu ti gl o x : Int) : EF Sagg.prog (en_b89_specs ha hl hc zs cb ra ci bf nu ti gl o x) 300 60 [] 8 #[.agg (envA ha hl hc cb ra ci bf nu ti gl), .int .u8 89] (fun v _ _ => v = .bool true) ⟨[], [(.tuple #[.pointer ha, .agg (bcells zs).toArray], 0)]⟩ en_b89_H_0
  = buildC (en_b89_cs ha hl hc zs cb ra ci bf nu ti gl o x) [Told Sagg.prog .leq 3 (.int .i64 (Int.ofNat hl)) (.int .i64 4) (toldV 1 0),
  True,
  True,
  True,
  True,
  True,
  True,
  True,
  Told Sagg.prog .lss 27 (.int .u64 gl) (.int .u64 200000) (toldV 0 0),
  Told Sagg.prog .neq 29 (.agg (bcells (l32 bf)).toArray) (.agg (bcells (l1 0)).toArray) (toldV 1 0)] (fun _ => Value.bool true = .bool true) en_b89_T_0 [] := by kernel_rfl
theorem en_b89_calls (ha : Option Addr) (hl hc : Nat) (zs : List Int) (cb ra ci bf : Nat → Int) (nu ti gl o x : Int) (hh : hl ≤ 4) (hw : WordsFact ha hl ha (bcells zs).toArray) (hgl : 0 ≤ gl ∧ gl < 18446744073709551616) (hge : 200000 ≤ gl) (hbf : AllIn (l32 bf)) (hbn : l32 bf ≠ l1 0) (w : World) (hN : Stab [] w (fun w => nmH (fun _ => False) w (.tuple #[.pointer ha, .agg (bcells zs).toArray]) 0)) :
    Calls Sagg.prog 8 #[.agg (envA ha hl hc cb ra ci bf nu ti gl), .int .u8 89] w fun e w' => e = .returned (.bool true) ∧ Below w.heap.size w w' := by
  have hcs : ∀ c ∈ en_b89_cs ha hl hc zs cb ra ci bf nu ti gl o x, c.Ran natSpecs3 300 60 := by
    unfold en_b89_cs
    simp only [List.forall_mem_cons]
    exact ⟨en_u148_ran hh hw, en_u151_ran, en_u152_ran hgl hge hbf hbn, fun c hc => by cases hc⟩
  have hsp : ∀ p ∈ en_b89_specs ha hl hc zs cb ra ci bf nu ti gl o x, SpecOK p.1 p.2 := by
    intro p hp
    unfold en_b89_specs at hp
    rcases List.mem_cons.1 hp with rfl | hp
    · exact chX_ok (R := 300) (d := 60) natSpecs3_ok hcs
    rcases List.mem_cons.1 hp with rfl | hp
    · exact chX_ok (R := 300) (d := 60) natSpecs3_ok hcs
    rcases List.mem_cons.1 hp with rfl | hp
    · exact chX_ok (R := 300) (d := 60) natSpecs3_ok hcs
    rcases List.mem_cons.1 hp with rfl | hp
    · exact chX_ok (R := 300) (d := 60) natSpecs3_ok hcs
    rcases List.mem_cons.1 hp with rfl | hp
    · exact chX_ok (R := 300) (d := 60) natSpecs3_ok hcs
    exact natSpecs3_ok p hp
  have hrun : EF Sagg.prog (en_b89_specs ha hl hc zs cb ra ci bf nu ti gl o x) 300 60 [] 8 #[.agg (envA ha hl hc cb ra ci bf nu ti gl), .int .u8 89] (fun v _ _ => v = .bool true) ⟨[], [(.tuple #[.pointer ha, .agg (bcells zs).toArray], 0)]⟩ en_b89_H_0 := by
    refine of_eq (en_b89_main ha hl hc zs cb ra ci bf nu ti gl o x) ?_
    refine buildC_ok ?_ (fun _ => rfl) _ _ (by kernel_rfl)
    exact (ho_cons (told_le1 (by have : ((hl : Nat) : Int) ≤ 4 := (by omega); exact this)) (ho_cons (trivial) (ho_cons (trivial) (ho_cons (trivial) (ho_cons (trivial) (ho_cons (trivial) (ho_cons (trivial) (ho_cons (trivial) (ho_cons (told_lt0 hge) (ho_cons (told_nW (by simp [l32]) rfl hbn) ho_nil))))))))))
  refine (closed (S := fun _ => False) hsp (fun b hb => hb.elim) hrun (fun p hp => by
    rcases List.mem_cons.1 hp with rfl | hp
    · exact hN
    · cases hp)).mono ?_
  rintro e w' ⟨v, s', H', rfl, rfl, hi⟩
  exact ⟨rfl, hi.below⟩
noncomputable def en_b90_cs (ha : Option Addr) (hl hc : Nat) (zs : List Int) (cb ra ci bf : Nat → Int) (nu ti gl o x : Int) : List Ch := [en_u148 ha hl hc zs cb ra ci bf nu ti gl 90 0, en_u151 ha hl hc zs cb ra ci bf nu ti gl 90 0, en_u152 ha hl hc zs cb ra ci bf nu ti gl 90 0]
noncomputable def en_b90_specs (ha : Option Addr) (hl hc : Nat) (zs : List Int) (cb ra ci bf : Nat → Int) (nu ti gl o x : Int) : List (FuncId × Spec) := (44, chX 44 (en_b90_cs ha hl hc zs cb ra ci bf nu ti gl o x)) :: (31, chX 31 (en_b90_cs ha hl hc zs cb ra ci bf nu ti gl o x)) :: (43, chX 43 (en_b90_cs ha hl hc zs cb ra ci bf nu ti gl o x)) :: (45, chX 45 (en_b90_cs ha hl hc zs cb ra ci bf nu ti gl o x)) :: (59, chX 59 (en_b90_cs ha hl hc zs cb ra ci bf nu ti gl o x)) :: natSpecs3
def en_b90_H_0 : List Nat := nat_lit 100000 :: nat_lit 0 :: nat_lit 0 :: nat_lit 1 :: nat_lit 0 :: nat_lit 3 :: nat_lit 1 :: nat_lit 0 :: nat_lit 2 :: nat_lit 1 :: nat_lit 0 :: nat_lit 1 :: nat_lit 1 :: nat_lit 0 :: nat_lit 4 :: nat_lit 100000 :: nat_lit 0 :: nat_lit 0 :: nat_lit 0 :: nat_lit 0 :: nat_lit 0 :: nat_lit 0 :: nat_lit 0 :: nat_lit 0 :: nat_lit 0 :: nat_lit 0 :: nat_lit 0 :: nat_lit 0 :: nat_lit 0 :: nat_lit 0 :: nat_lit 0 :: nat_lit 0 :: nat_lit 0 :: nat_lit 0 :: nat_lit 0 :: nat_lit 1 :: nat_lit 1 :: nat_lit 2 :: nat_lit 2 :: nat_lit 2 :: nat_lit 2 :: nat_lit 0 :: nat_lit 1 :: nat_lit 9 :: nat_lit 10 :: nat_lit 0 :: nat_lit 0 :: nat_lit 0 :: nat_lit 3 :: nat_lit 0 :: nat_lit 1 :: nat_lit 1 :: nat_lit 1 :: nat_lit 2 :: nat_lit 0 :: nat_lit 1 :: nat_lit 0 :: nat_lit 0 :: nat_lit 1 :: nat_lit 0 :: nat_lit 0 :: nat_lit 0 :: nat_lit 10 :: nat_lit 1 :: nat_lit 2 :: nat_lit 0 :: nat_lit 1 :: nat_lit 13 :: nat_lit 1 :: nat_lit 1 :: nat_lit 0 :: nat_lit 0 :: nat_lit 0 :: nat_lit 0 :: nat_lit 0 :: nat_lit 0 :: nat_lit 0 :: nat_lit 0 :: nat_lit 0 :: nat_lit 0 :: nat_lit 0 :: nat_lit 0 :: nat_lit 0 :: nat_lit 0 :: nat_lit 1 :: nat_lit 1 :: nat_lit 2 :: nat_lit 2 :: nat_lit 3 :: nat_lit 1 :: nat_lit 1 :: nat_lit 4 :: nat_lit 0 :: nat_lit 1 :: nat_lit 0 :: nat_lit 3 :: nat_lit 2 :: nat_lit 0 :: nat_lit 0 :: nat_lit 0 :: nat_lit 1 :: nat_lit 11 :: nat_lit 2 :: nat_lit 0 :: nat_lit 0 :: nat_lit 0 :: nat_lit 0 :: nat_lit 0 :: nat_lit 0 :: nat_lit 0 :: nat_lit 0 :: nat_lit 1 :: nat_lit 1 :: nat_lit 4 :: nat_lit 0 :: nat_lit 2 :: nat_lit 0 :: nat_lit 0 :: nat_lit 5 :: nat_lit 100000 :: nat_lit 1 :: nat_lit 2 :: nat_lit 0 :: nat_lit 0 :: nat_lit 5 :: nat_lit 0 :: nat_lit 6 :: nat_lit 0 :: nat_lit 7 :: nat_lit 0 :: nat_lit 8 :: nat_lit 0 :: nat_lit 9 :: nat_lit 0 :: nat_lit 1 :: nat_lit 0 :: nat_lit 7 :: nat_lit 0 :: nat_lit 0 :: nat_lit 0 :: nat_lit 0 :: nat_lit 1 :: nat_lit 0 :: nat_lit 2 :: nat_lit 1 :: nat_lit 3 :: nat_lit 0 :: nat_lit 0 :: nat_lit 0 :: nat_lit 0 :: nat_lit 1 :: nat_lit 1 :: nat_lit 2 :: nat_lit 0 :: nat_lit 0 :: nat_lit 1 :: nat_lit 3 :: nat_lit 4 :: nat_lit 1 :: nat_lit 4 :: nat_lit 0 :: nat_lit 2 :: nat_lit 2 :: nat_lit 9 :: nat_lit 1 :: nat_lit 0 :: nat_lit 0 :: nat_lit 0 :: nat_lit 0 :: nat_lit 0 :: nat_lit 0 :: nat_lit 0 :: nat_lit 2 :: nat_lit 0 :: nat_lit 2 :: nat_lit 3 :: nat_lit 1 :: nat_lit 5 :: nat_lit 100000 :: nat_lit 2 :: nat_lit 1 :: nat_lit 0 :: nat_lit 2 :: nat_lit 2 :: nat_lit 0 :: nat_lit 1 :: nat_lit 0 :: nat_lit 0 :: nat_lit 6 :: []
def en_b90_T_0 : List (Tk ⊕ (Nat × List (Nat × Nat × Nat))) := .inl .b :: .inl .b :: .inl .b :: .inl .b :: .inl .b :: .inl (.lb (nat_lit 3)) :: .inl (.lb (nat_lit 0)) :: .inl (.lb (nat_lit 2)) :: .inl (.lb (nat_lit 0)) :: .inl (.lb (nat_lit 1)) :: .inl (.lb (nat_lit 0)) :: .inl (.lb (nat_lit 0)) :: .inl (.lb (nat_lit 4)) :: .inl .b :: .inl .b :: .inl .b :: .inl .b :: .inl (.lb (nat_lit 0)) :: .inl (.lb (nat_lit 0)) :: .inl (.lb (nat_lit 0)) :: .inl (.lb (nat_lit 0)) :: .inl (.lb (nat_lit 0)) :: .inl (.lb (nat_lit 0)) :: .inl (.lb (nat_lit 0)) :: .inl (.lb (nat_lit 0)) :: .inl (.lb (nat_lit 0)) :: .inl (.lb (nat_lit 1)) :: .inl (.lb (nat_lit 1)) :: .inl (.lb (nat_lit 2)) :: .inl (.lb (nat_lit 2)) :: .inl (.lb (nat_lit 2)) :: .inl (.lb (nat_lit 2)) :: .inl .b :: .inl (.lb (nat_lit 0)) :: .inl (.lb (nat_lit 9)) :: .inl .b :: .inl (.lb (nat_lit 0)) :: .inl .b :: .inl (.lb (nat_lit 0)) :: .inl (.lb (nat_lit 0)) :: .inl .b :: .inl (.lb (nat_lit 0)) :: .inl .b :: .inl (.lb (nat_lit 0)) :: .inl (.lb (nat_lit 9)) :: .inl (.lb (nat_lit 1)) :: .inl (.lb (nat_lit 1)) :: .inl .b :: .inl (.lb (nat_lit 0)) :: .inl .b :: .inl .b :: .inl .b :: .inl .b :: .inl (.lb (nat_lit 0)) :: .inl (.lb (nat_lit 0)) :: .inl (.lb (nat_lit 1)) :: .inl (.lb (nat_lit 1)) :: .inl .b :: .inl (.lb (nat_lit 0)) :: .inl (.lb (nat_lit 4)) :: .inl (.lc 3 1 55) :: .inl .b :: .inl .b :: .inl .b :: .inl (.lb (nat_lit 0)) :: .inr (0, [(0, 0, 0), (2, 0, 0), (9, 0, 0), (1, 0, 0)]) :: .inr (1, [(18, 0, 0), (2, 0, 0), (24, 0, 0), (22, 0, 0), (5, 0, 0), (6, 0, 0), (1, 0, 0), (0, 0, 0), (17, 0, 0), (15, 0, 0), (14, 0, 0), (13, 0, 0), (31, 0, 0), (23, 0, 0)]) :: .inl (.lb (nat_lit 23)) :: .inl .b :: .inl (.lb (nat_lit 0)) :: .inl (.lo (nat_lit 0)) :: .inl (.lb (nat_lit 46)) :: .inl .b :: .inl .b :: .inl .b :: .inl (.lb (nat_lit 0)) :: .inl (.lb (nat_lit 0)) :: .inl (.lb (nat_lit 1)) :: .inl (.lb (nat_lit 1)) :: .inl .b :: .inl (.lb (nat_lit 0)) :: .inl (.lb (nat_lit 0)) :: .inl (.lb (nat_lit 3)) :: .inl (.lb (nat_lit 3)) :: .inl .b :: .inl .b :: .inl (.lb (nat_lit 1)) :: .inr (2, [(0, 0, 0), (26, 0, 0), (10, 0, 0), (13, 0, 0), (14, 0, 0), (9, 0, 0), (8, 0, 0), (25, 0, 0), (23, 0, 0), (22, 0, 0), (21, 0, 0)]) :: .inl (.lb (nat_lit 32)) :: .inl (.lb (nat_lit 32)) :: .inl .b :: .inl .b :: .inl (.lb (nat_lit 1)) :: .inl (.lo (nat_lit 8)) :: .inl (.lb (nat_lit 1)) :: .inl (.lo (nat_lit 9)) :: .inl (.lb (nat_lit 0)) :: []
theorem en_b90_main (ha : Option Addr) (hl hc : Nat) (zs : List Int) (cb ra ci bf : Nat → Int) (nu ti gl o x : Int) : EF Sagg.prog (en_b90_specs ha hl hc zs cb ra ci bf nu ti gl o x) 300 60 [] 8 #[.agg (envA ha hl hc cb ra ci bf nu ti gl), .int .u8 90] (fun v _ _ => v = .bool true) ⟨[], [(.tuple #[.pointer ha, .agg (bcells zs).toArray], 0)]⟩ en_b90_H_0
  = buildC (en_b90_cs ha hl hc zs cb ra ci bf nu ti gl o x) [Told Sagg.prog .leq 3 (.int .i64 (Int.ofNat hl)) (.int .i64 4) (toldV 1 0),
  True,
  True,
  True,
  True,
  True,
  True,
  True,
  Told Sagg.prog .lss 27 (.int .u64 gl) (.int .u64 200000) (toldV 0 0),
  Told Sagg.prog .neq 29 (.agg (bcells (l32 bf)).toArray) (.agg (bcells (l1 0)).toArray) (toldV 1 0)] (fun _ => Value.bool true = .bool true) en_b90_T_0 [] := by kernel_rfl
theorem en_b90_calls (ha : Option Addr) (hl hc : Nat) (zs : List Int) (cb ra ci bf : Nat → Int) (nu ti gl o x : Int) (hh : hl ≤ 4) (hw : WordsFact ha hl ha (bcells zs).toArray) (hgl : 0 ≤ gl ∧ gl < 18446744073709551616) (hge : 200000 ≤ gl) (hbf : AllIn (l32 bf)) (hbn : l32 bf ≠ l1 0) (w : World) (hN : Stab [] w (fun w => nmH (fun _ => False) w (.tuple #[.pointer ha, .agg (bcells zs).toArray]) 0)) :
    Calls Sagg.prog 8 #[.agg (envA ha hl hc cb ra ci bf nu ti gl), .int .u8 90] w fun e w' => e = .returned (.bool true) ∧ Below w.heap.size w w' := by
  have hcs : ∀ c ∈ en_b90_cs ha hl hc zs cb ra ci bf nu ti gl o x, c.Ran natSpecs3 300 60 := by
    unfold en_b90_cs
    simp only [List.forall_mem_cons]
    exact ⟨en_u148_ran hh hw, en_u151_ran, en_u152_ran hgl hge hbf hbn, fun c hc => by cases hc⟩
  have hsp : ∀ p ∈ en_b90_specs ha hl hc zs cb ra ci bf nu ti gl o x, SpecOK p.1 p.2 := by
    intro p hp
    unfold en_b90_specs at hp
    rcases List.mem_cons.1 hp with rfl | hp
    · exact chX_ok (R := 300) (d := 60) natSpecs3_ok hcs
    rcases List.mem_cons.1 hp with rfl | hp
    · exact chX_ok (R := 300) (d := 60) natSpecs3_ok hcs
    rcases List.mem_cons.1 hp with rfl | hp
    · exact chX_ok (R := 300) (d := 60) natSpecs3_ok hcs
    rcases List.mem_cons.1 hp with rfl | hp
    · exact chX_ok (R := 300) (d := 60) natSpecs3_ok hcs
    rcases List.mem_cons.1 hp with rfl | hp
    · exact chX_ok (R := 300) (d := 60) natSpecs3_ok hcs
    exact natSpecs3_ok p hp
  have hrun : EF Sagg.prog (en_b90_specs ha hl hc zs cb ra ci bf nu ti gl o x) 300 60 [] 8 #[.agg (envA ha hl hc cb ra ci bf nu ti gl), .int .u8 90] (fun v _ _ => v = .bool true) ⟨[], [(.tuple #[.pointer ha, .agg (bcells zs).toArray], 0)]⟩ en_b90_H_0 := by
    refine of_eq (en_b90_main ha hl hc zs cb ra ci bf nu ti gl o x) ?_
    refine buildC_ok ?_ (fun _ => rfl) _ _ (by kernel_rfl)
    exact (ho_cons (told_le1 (by have : ((hl : Nat) : Int) ≤ 4 := (by omega); exact this)) (ho_cons (trivial) (ho_cons (trivial) (ho_cons (trivial) (ho_cons (trivial) (ho_cons (trivial) (ho_cons (trivial) (ho_cons (trivial) (ho_cons (told_lt0 hge) (ho_cons (told_nW (by simp [l32]) rfl hbn) ho_nil))))))))))
  refine (closed (S := fun _ => False) hsp (fun b hb => hb.elim) hrun (fun p hp => by
    rcases List.mem_cons.1 hp with rfl | hp
    · exact hN
    · cases hp)).mono ?_
  rintro e w' ⟨v, s', H', rfl, rfl, hi⟩
  exact ⟨rfl, hi.below⟩
end Go.Proofs.EX
