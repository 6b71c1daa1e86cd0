/-
  RUNS CUT INTO CHUNKS: a call whose run is a theorem of its own, from one known state to another.
-/
import Derived.Test.YgcsagGreatHW
namespace Go.Proofs.EX
open Go.RowKit Go.Proofs.YgcsagGreat
set_option linter.unusedVariables false
set_option linter.unusedSimpArgs false

/-! ### Reading things off a state -/
noncomputable def bAt (s : St) (i : Nat) : Nat := match nth s.M i with
  | some k => k.b
  | none => 0
noncomputable def zAt (s : St) (i : Nat) : Nat := match nth s.M i with
  | some k => k.sz
  | none => 0
noncomputable def cAt (s : St) (i j : Nat) : Value := match nth s.M i with
  | some k => match nth k.cs j with
    | some v => v
    | none => undef
  | none => undef
noncomputable def vN (s : St) (i : Nat) : Value := match nth s.N i with
  | some p => p.1
  | none => undef
noncomputable def aAt (args : Array Value) (i : Nat) : Value := match nth args.toList i with
  | some v => v
  | none => undef
noncomputable def gAt (v : Value) (j : Nat) : Value := match v with
  | .agg cs => match nth cs.toList j with
    | some v => v
    | none => undef
  | _ => undef
noncomputable def tAt (v : Value) (j : Nat) : Value := match v with
  | .tuple cs => match nth cs.toList j with
    | some v => v
    | none => undef
  | _ => undef
def blkV (v : Value) : Nat := match v with
  | .pointer (some a) => a.block
  | .slice (some a) _ _ => a.block
  | _ => 0
def slA (v : Value) : Option Addr := match v with
  | .slice a _ _ => a
  | _ => none
def slL (v : Value) : Nat := match v with
  | .slice _ l _ => l
  | _ => 0
def slC (v : Value) : Nat := match v with
  | .slice _ _ c => c
  | _ => 0
/-- Things brought in, kind by kind. -/
def allQ : List Bool → (List EV → Prop) → List EV → Prop
  | [], K, env => K env
  | false :: ks, K, env => ∀ b : Nat, allQ ks K (.n b :: env)
  | true :: ks, K, env => ∀ (a : Option Addr) (l c : Nat), allQ ks K (.v a l c :: env)
/-- A thing that stood before: a block (or a count), or the parts of a number's value. -/
structure Ent where
  x : Nat
  a : Option Addr
  l : Nat
  c : Nat
def entOf : EV → Ent
  | .n x => ⟨x, none, 0, 0⟩
  | .v a l c => ⟨0, a, l, c⟩
/-- A chunk: whom it calls, with what, from which state (functions of the things E that stood before); what it brings in; what it gives, and into which state (functions of all things). -/
structure Ch where
  f : FuncId
  A : (Nat → Ent) → Array Value
  S : (Nat → Ent) → St
  env0 : (Nat → Ent) → List EV
  kinds : List Bool
  v : List EV → Value
  S' : List EV → St
  /-- the things, read off the arguments and the state -/
  ex : Array Value → St → Nat → Ent
/-- What a chunk says. -/
def Ch.X (c : Ch) (Z : List Blk) (args : Array Value) (Q : Value → St → Hs → Prop) (s : St) (H : Hs) : Prop :=
  (args = c.A (c.ex args s) ∧ s = c.S (c.ex args s)) ∧ allQ c.kinds (fun env => Q (c.v env) (c.S' env) H) (c.env0 (c.ex args s))
def kindsOf : List Tk → List Bool
  | [] => []
  | .b :: T => false :: kindsOf T
  | .v :: T => true :: kindsOf T
  | _ :: T => kindsOf T
/-- Every fact that is owed is there. -/
def loOK (n : Nat) : List Tk → Bool
  | [] => true
  | .lo i :: T => match Nat.blt i n with
    | true => loOK n T
    | false => false
  | _ :: T => loOK n T
theorem build_all {obs : List Prop} {fin : List EV → Prop} (ho : ∀ p ∈ obs, p) : ∀ (T : List Tk) (env : List EV), loOK obs.length T = true → allQ (kindsOf T) fin env → build obs fin T env
  | [], env, _, h => h
  | .b :: T, env, hl, h => fun b => build_all ho T (.n b :: env) hl (h b)
  | .v :: T, env, hl, h => fun a l c => build_all ho T (.v a l c :: env) hl (h a l c)
  | .lb i :: T, env, hl, h => ⟨rfl, build_all ho T env hl h⟩
  | .lv i :: T, env, hl, h => ⟨rfl, build_all ho T env hl h⟩
  | .lc i m z :: T, env, hl, h => ⟨rfl, build_all ho T env hl h⟩
  | .lo i :: T, env, hl, h => by
    have hi : Nat.blt i obs.length = true ∧ loOK obs.length T = true := by
      rw [loOK] at hl
      split at hl
      · rename_i h; exact ⟨h, hl⟩
      · cases hl
    refine ⟨?_, build_all ho T env hi.2 h⟩
    have hi' : i < obs.length := by
      have := Nat.le_of_ble_eq_true hi.1
      omega
    rw [nth_eq, List.getElem?_eq_getElem hi']
    exact ho _ (List.getElem_mem hi')
/-- A chunk's run. -/
def Ch.Ran (c : Ch) (specs : List (FuncId × Spec)) (ls : LTab) (R d : Nat) : Prop := ∀ E Q Hr, ∃ obs T H, (∀ p ∈ obs, p) ∧ loOK (List.length obs) T = true ∧ kindsOf T = c.kinds ∧ EFl Sagg.prog specs ls R d [] c.f (c.A E) Q (c.S E) H = build obs (fun e => Q (c.v e) (c.S' e) Hr) T (c.env0 E)
/-- What is told of loops holds. -/
def LsOK (ls : LTab) : Prop := ∀ (S : Nat → Prop) (w0 : World), (∀ b, S b → b < w0.heap.size) → LoopsOK (nmH S) Sagg.prog w0 ls
theorem lsOK_nil : LsOK [] := fun S w0 hS k bT h => by cases h
theorem Ch.ok {c : Ch} {specs : List (FuncId × Spec)} {ls : LTab} {R d : Nat} (hsp : ∀ p ∈ specs, SpecOK p.1 p.2) (hls : LsOK ls) (hr : c.Ran specs ls R d) {S : Nat → Prop} {w0 : World} (hS : ∀ b, S b → b < w0.heap.size) {Z G : List Blk} {args : Array Value} {Q : Value → St → Hs → Prop} {s : St} {H : Hs} {w : World} (h : c.X Z args Q s H) (hi : Inv (nmH S) w0 (s.z Z G) w) :
    Calls Sagg.prog c.f args w fun e w' => ∃ v s' H', e = .returned v ∧ Q v s' H' ∧ Inv (nmH S) w0 (s'.z Z G) w' := by
  obtain ⟨⟨ha, hs⟩, hall⟩ := h
  obtain ⟨obs, T, H1, ho, hl, hk, he⟩ := hr (c.ex args s) Q H
  have hrun : EFl Sagg.prog specs ls R d [] c.f (c.A (c.ex args s)) Q (c.S (c.ex args s)) H1 := of_eq he (build_all ho T _ hl (by rw [hk]; exact hall))
  rw [← ha, ← hs] at hrun
  have hp : ∀ s : St, (Z ++ s.M ++ G).Perm ([] ++ s.M ++ (Z ++ G)) := by
    intro s
    rw [List.nil_append, List.append_assoc, ← List.append_assoc s.M Z G]
    refine List.Perm.trans ?_ (List.Perm.append_right G List.perm_append_comm)
    rw [List.append_assoc]
  refine (EFl_ok follows_mixed (specs_ok hsp hS) (hls S w0 hS) d [] (Z ++ G) c.f args Q s H1 w hrun (Inv.perm (M := Z ++ s.M ++ G) hi (hp s))).mono ?_
  rintro e w' ⟨v, s', H', h1, h2, h3⟩
  exact ⟨v, s', H', h1, h2, Inv.perm (M := [] ++ s'.M ++ (Z ++ G)) h3 (hp s').symm⟩
/-- A table of chunks, chosen by a hint; those of one function. -/
def chX (f : FuncId) (cs : List Ch) : Spec := fun Z args Q s H => match H with
  | [] => False
  | k :: H' => match nth cs k with
    | some c => match Nat.beq c.f f with
      | true => sweepX (fun s H => c.X Z args Q s H) s H'
      | false => False
    | none => False
/-- A chunk has run, under specs and loops that hold. -/
def Ch.Good (c : Ch) : Prop := ∃ specs ls R d, (∀ p ∈ specs, SpecOK p.1 p.2) ∧ LsOK ls ∧ c.Ran specs ls R d
theorem chX_ok {f : FuncId} {cs : List Ch} (hf : ∀ c ∈ cs, c.Good) : SpecOK f (chX f cs) := by
  intro S w0 hS Z G args Q s H w h hi
  unfold chX at h
  split at h
  · exact h.elim
  · split at h
    · rename_i c hc
      rw [nth_eq] at hc
      split at h
      · rename_i e
        have e := Nat.eq_of_beq_eq_true e
        obtain ⟨s', H', h, hi⟩ := sweepX_ok h hi
        obtain ⟨specs, ls, R, d, hsp, hls, hr⟩ := hf c (List.mem_of_getElem? hc)
        have := Ch.ok hsp hls hr hS h hi
        rwa [e] at this
      · exact h.elim
    · exact h.elim
/-- What is owed, with chunks: '.inr (k, sel)' says that chunk k is called, the things that it wants being at those places. -/
noncomputable def selE (env : List EV) (l : List (Nat × Nat × Nat)) (i : Nat) : Ent := match nth l i with
  | some q => match q.2.2 with
    | 0 => entOf (envAt env q.1)
    | z + 1 => ⟨((envAt env q.1).nat + q.2.1) * (z + 1), none, 0, 0⟩
  | none => ⟨0, none, 0, 0⟩
def buildC (cs : List Ch) (obs : List Prop) (fin : List EV → Prop) : List (Tk ⊕ (Nat × List (Nat × Nat × Nat))) → List EV → Prop
  | [], env => fin env
  | .inl t :: T, env => match t with
    | .b => ∀ b : Nat, buildC cs obs fin T (.n b :: env)
    | .v => ∀ (a : Option Addr) (l c : Nat), buildC cs obs fin T (.v a l c :: env)
    | .lb i => (envAt env i).nat = (envAt env i).nat ∧ buildC cs obs fin T env
    | .lv i => (envAt env i).val = (envAt env i).val ∧ buildC cs obs fin T env
    | .lc i m z => ((envAt env i).nat + m) * z = ((envAt env i).nat + m) * z ∧ buildC cs obs fin T env
    | .lo i => (match nth obs i with
      | some p => p
      | none => False) ∧ buildC cs obs fin T env
  | .inr ks :: T, env => match nth cs ks.1 with
    | some c => ((c.A (selE env ks.2) = c.A (selE env ks.2) ∧ c.S (selE env ks.2) = c.S (selE env ks.2)) ∧ allQ c.kinds (fun env' => buildC cs obs fin T env') env)
    | none => False
def okC (cs : List Ch) (n : Nat) : List (Tk ⊕ (Nat × List (Nat × Nat × Nat))) → Bool
  | [] => true
  | .inl (.lo i) :: T => match Nat.blt i n with
    | true => okC cs n T
    | false => false
  | .inl _ :: T => okC cs n T
  | .inr ks :: T => match Nat.blt ks.1 cs.length with
    | true => okC cs n T
    | false => false
theorem allQ_of : ∀ (ks : List Bool) {K : List EV → Prop} (env : List EV), (∀ e, K e) → allQ ks K env
  | [], K, env, h => h env
  | false :: ks, K, env, h => fun b => allQ_of ks _ h
  | true :: ks, K, env, h => fun a l c => allQ_of ks _ h
theorem buildC_ok {cs : List Ch} {obs : List Prop} {fin : List EV → Prop} (ho : ∀ p ∈ obs, p) (hf : ∀ e, fin e) : ∀ (T : List (Tk ⊕ (Nat × List (Nat × Nat × Nat)))) (env : List EV), okC cs obs.length T = true → buildC cs obs fin T env
  | [], env, _ => hf env
  | .inl .b :: T, env, hl => fun b => buildC_ok ho hf T _ hl
  | .inl .v :: T, env, hl => fun a l c => buildC_ok ho hf T _ hl
  | .inl (.lb i) :: T, env, hl => ⟨rfl, buildC_ok ho hf T env hl⟩
  | .inl (.lv i) :: T, env, hl => ⟨rfl, buildC_ok ho hf T env hl⟩
  | .inl (.lc i m z) :: T, env, hl => ⟨rfl, buildC_ok ho hf T env hl⟩
  | .inl (.lo i) :: T, env, hl => by
    have hi : Nat.blt i obs.length = true ∧ okC cs obs.length T = true := by
      rw [okC] at hl
      split at hl
      · rename_i h; exact ⟨h, hl⟩
      · cases hl
    refine ⟨?_, buildC_ok ho hf T env hi.2⟩
    have hi' : i < obs.length := by
      have := Nat.le_of_ble_eq_true hi.1
      omega
    rw [nth_eq, List.getElem?_eq_getElem hi']
    exact ho _ (List.getElem_mem hi')
  | .inr ks :: T, env, hl => by
    have hi : Nat.blt ks.1 cs.length = true ∧ okC cs obs.length T = true := by
      rw [okC] at hl
      split at hl
      · rename_i h; exact ⟨h, hl⟩
      · cases hl
    have hi' : ks.1 < cs.length := by
      have := Nat.le_of_ble_eq_true hi.1
      omega
    rw [buildC, nth_eq, List.getElem?_eq_getElem hi']
    exact ⟨⟨rfl, rfl⟩, allQ_of _ _ fun e => buildC_ok ho hf T e hi.2⟩
end Go.Proofs.EX
