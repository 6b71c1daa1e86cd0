/-
  CODE RUN BY THE KERNEL (YgcsagGreatCX), TOO: a region that draws its order and whose last operation changes the world (a store), all others feeding it; a result that lies in a cell.
-/
import Derived.Test.YgcsagGreatCX
import Derived.Test.YgcsagGreatHX
namespace Go.Proofs.YgcsagGreat
open Go.RowKit
set_option linter.unusedVariables false
set_option linter.unusedSimpArgs false
set_option linter.unusedSectionVars false

/-! ### Whatever order is picked, the last operation comes last -/
section
variable {P : Program} {ops : Array Oper} {C : World → Prop}
def wpAnyL (P : Program) (ops : Array Oper) (C : World → Prop) (last : Nat) (Q : Act → Prop) : Nat → Array Bool → Act → Prop
  | 0, listed, a => (Region.ready .any ops listed = [last] ∧ Region.ready .any ops (listed.setIfInBounds last true) = []) ∧ Q a
  | fuel + 1, listed, a => Region.ready .any ops listed ≠ [] ∧ ∀ i ∈ Region.ready .any ops listed, i ≠ last ∧ qOp P ops C i (wpAnyL P ops C last Q fuel (listed.setIfInBounds i true)) a
theorem wpAny_of_last {last : Nat} {Q : Act → Prop} {Q' : Exit → Act → World → Prop} (hQ : ∀ a w, C w → Q a → wpOp P ops Q' last (fun a' w' => Q' .normal a' w') a w) : ∀ (fuel : Nat) (listed : Array Bool) (a : Act) (w : World), C w →
    wpAnyL P ops C last Q fuel listed a → wpAny P .any ops Q' (fuel + 1) listed a w
  | 0, listed, a, w, hw, h => by
    refine ⟨fun h0 => (by rw [h.1.1] at h0; cases h0), fun i hi => ?_⟩
    rw [h.1.1] at hi
    obtain rfl : i = last := by simpa using hi
    exact wpOp_mono (fun a' w' h' => ⟨h.1.2, h'⟩) (hQ a w hw h.2)
  | fuel + 1, listed, a, w, hw, h => ⟨fun h0 => absurd h0 h.1, fun i hi => wpOp_of_qOp hw (fun a' w' hw' => wpAny_of_last hQ fuel _ a' w' hw') (h.2 i hi).2⟩
theorem dep_not_ready {f last i : Nat} {L : Array Bool} (hcl : EX.Closed ops L) (hd : EX.depB ops f last i = true) (hi : L.getD i true = false) : last ∉ Region.ready .any ops L := by
  intro hl
  cases f with
  | zero => cases hd
  | succ f =>
    obtain ⟨_, o, ho, hall⟩ := mem_ready.1 hl
    unfold EX.depB at hd
    rw [ho] at hd
    simp only at hd
    obtain ⟨e, he, hd⟩ := List.any_eq_true.1 hd
    rw [Bool.and_eq_true, Bool.or_eq_true] at hd
    have hon := hall e (by simpa using he) hd.1
    have hL : L.getD i false = true := by
      rcases hd.2 with h1 | h1
      · have : e.on = i := by simpa using h1
        rw [← this]; exact hon
      · exact hcl.dep h1 hon
    rw [Array.getD_eq_getD_getElem?] at hi hL
    cases hx : L[i]? with
    | none => rw [hx] at hL; cases hL
    | some b => rw [hx] at hi hL; simp at hi hL; rw [hi] at hL; cases hL
theorem wpAnyL_first {last f : Nat} {Q : Act → Prop} {i : Nat} {oi : Oper} {v : Value} (hi : ops[i]? = some oi) (hsel : ∀ (j : Nat) (o : Oper) cs b, ops[j]? = some o → o.op ≠ .select cs b) (hil : i ≠ last) (hd : EX.depB ops f last i = true) :
    ∀ (fuel : Nat) (listed : Array Bool) (a : Act), EX.Closed ops listed →
      (∀ j oj, ops[j]? = some oj → j ≠ i → listed.getD j true = false → (∀ e ∈ oj.after, Region.binds .any e = true → e.on ≠ i) → oi.apart ops oj = true) →
      i ∈ Region.ready .any ops listed → YieldsIn P ops C oi v a →
      wpAnyL P ops C last Q fuel (listed.setIfInBounds i true) (a.put oi.dst v) → wpAnyL P ops C last Q (fuel + 1) listed a := by
  intro fuel
  induction fuel with
  | zero =>
    intro listed a hcl _ hr hy H
    refine ⟨fun h => (by rw [h] at hr; cases hr), fun j hj => ?_⟩
    by_cases hji : j = i
    · subst hji; exact ⟨hil, hy.qOp hi H⟩
    · have h1 := ready_mono hj hji
      rw [H.1.1] at h1
      obtain rfl : j = last := by simpa using h1
      exact absurd hj (dep_not_ready hcl hd (mem_ready.1 hr).1)
  | succ fuel ih =>
    intro listed a hcl hfree hr hy H
    refine ⟨fun h => (by rw [h] at hr; cases hr), fun j hj => ?_⟩
    by_cases hji : j = i
    · subst hji; exact ⟨hil, hy.qOp hi H⟩
    · have h1 := (H.2 j (ready_mono hj hji)).2
      refine ⟨(H.2 j (ready_mono hj hji)).1, ?_⟩
      obtain ⟨hjun, oj, hoj, hall⟩ := mem_ready.1 hj
      have hnot : ∀ e ∈ oj.after, Region.binds .any e = true → e.on ≠ i := fun e he hb heq => by
        have h1 := hall e he hb
        have h0 := (mem_ready.1 hr).1
        rw [heq] at h1
        rcases Nat.lt_or_ge i listed.size with h' | h'
        · simp [h'] at h0 h1; rw [h0] at h1; cases h1
        · simp [Array.getElem?_eq_none h'] at h1
      have h2 := qOp_put hoj (hfree j oj hoj hji hjun hnot) (fun cs b => hsel i oi cs b hi) (fun cs b => hsel j oj cs b hoj) hy h1
      have hfree' : ∀ k ok, ops[k]? = some ok → k ≠ i → (listed.setIfInBounds j true).getD k true = false →
          (∀ e ∈ ok.after, Region.binds .any e = true → e.on ≠ i) → oi.apart ops ok = true := fun k ok hk hki hun hno => by
        refine hfree k ok hk hki ?_ hno
        by_cases hjk : j = k
        · subst hjk; exact hjun
        · rw [getD_set_ne true hjk] at hun; exact hun
      refine qOp_mono (fun a' h3 => ih (listed.setIfInBounds j true) a' (hcl.set hj) hfree' (ready_mono hr (Ne.symm hji)) h3.1 ?_) h2
      rw [Array.setIfInBounds_comm _ _ hji]
      exact h3.2
def lexL (ops : Array Oper) (last : Nat) : Nat → Nat → Array Bool → Bool
  | 0, _, listed => (Region.ready .any ops listed).length == 1 && (Region.ready .any ops listed).contains last && (Region.ready .any ops (listed.setIfInBounds last true)).isEmpty
  | fuel + 1, k, listed => (Region.ready .any ops listed).contains k && Region.free .any ops listed k && EX.depB ops 12 last k && Nat.blt k last && lexL ops last fuel (k + 1) (listed.setIfInBounds k true)
def lexLB (ops : Array Oper) : Bool := Region.noSelect ops && Nat.blt 0 ops.size && lexL ops (ops.size - 1) (ops.size - 1) 0 (Array.replicate ops.size false)
theorem wpAnyL_lex {last : Nat} {Q : Act → Prop} (hs : Region.noSelect ops = true) : ∀ (l : List Oper) (k : Nat) (listed : Array Bool) (a : Act), (∀ j, j < l.length → l[j]? = ops[k + j]?) → EX.Closed ops listed →
    lexL ops last l.length k listed = true → wpQuiet P ops C Q l a → wpAnyL P ops C last Q l.length listed a
  | [], k, listed, a, _, _, hB, h => by
    simp only [List.length_nil, lexL, Bool.and_eq_true] at hB
    obtain ⟨⟨h1, h2⟩, h3⟩ := hB
    refine ⟨⟨?_, by simpa using h3⟩, h⟩
    generalize Region.ready .any ops listed = l at h1 h2
    match l, h1, h2 with
    | [x], _, h2 => simp at h2; rw [h2]
  | o :: l, k, listed, a, hl, hcl, hB, h => by
    have h0 : ops[k]? = some o := by simpa using (hl 0 (by simp)).symm
    simp only [List.length_cons, lexL, Bool.and_eq_true] at hB
    obtain ⟨⟨⟨⟨hr, hf⟩, hd⟩, hk⟩, hB'⟩ := hB
    have hk' : k < last := by simpa [Nat.blt_eq] using hk
    have hr' : k ∈ Region.ready .any ops listed := by simpa using hr
    have hst : qOp P ops C k (wpQuiet P ops C Q l) a := by unfold qOp; simp only [h0]; exact h
    obtain ⟨v, hy, hK⟩ := yieldsIn_of_qOp h0 hst
    exact wpAnyL_first h0 (Region.noSelect_spec hs) (by omega) hd l.length listed a hcl (Region.free_spec h0 hf) hr' hy
      (wpAnyL_lex hs l (k + 1) _ _ (fun j hj => by have := hl (j + 1) (by simp; omega); simpa [Nat.add_assoc, Nat.add_comm 1 j] using this) (hcl.set hr') hB' hK)
theorem closed_none (ops : Array Oper) : EX.Closed ops (Array.replicate ops.size false) := by
  refine ⟨by simp, fun j o ho hj => ?_⟩
  rw [Array.getD_eq_getD_getElem?] at hj
  cases hx : (Array.replicate ops.size false)[j]? with
  | none => rw [hx] at hj; cases hj
  | some b =>
    rw [hx] at hj
    rw [Array.getElem?_replicate] at hx
    split at hx
    · cases hx; cases hj
    · cases hx
theorem wp_region_last {id : Nat} {Q : Exit → Act → World → Prop} {a : Act} {w : World} (hm : P.follows .mixedOrders = true) (hB : lexLB ops = true) (hC : C { w with drawn := w.drawn + 1 })
    (h : wpQuiet P ops C (fun a' => ∀ w', C w' → wpOp P ops Q (ops.size - 1) (fun a' w' => Q .normal a' w') a' w') ops.toList.dropLast a) : (Code.region id ops true).wp P Q a w := by
  simp only [lexLB, Bool.and_eq_true] at hB
  obtain ⟨⟨h1, h2⟩, h3⟩ := hB
  have h2' : 0 < ops.size := by simpa [Nat.blt_eq] using h2
  refine wp_region_any hm ?_
  have e : ops.size = (ops.size - 1) + 1 := by omega
  have hl : ops.toList.dropLast.length = ops.size - 1 := by simp
  have := wpAnyL_lex (P := P) (C := C) (last := ops.size - 1) h1 ops.toList.dropLast 0 (Array.replicate ops.size false) a (fun j hj => by
    rw [hl] at hj
    rw [Nat.zero_add, List.getElem?_dropLast, if_pos (by simpa using hj)]
    simp) (closed_none ops) (by rw [hl]; exact h3) h
  rw [hl] at this
  have := wpAny_of_last (Q' := Q) (fun a w hw hq => hq w hw) _ _ _ _ hC this
  rwa [← e] at this
end

section
variable {Γ : Type} (P : Program) (tips : Tips Γ) (n : Nat)
/-- The last operation, if it is told to change the world. -/
def lastW (tips : Tips Γ) (id : Nat) (ops : Array Oper) : Option (Oper × (Γ → Value) × (Γ → World → World)) := match ops.toList.getLast? with
  | some o => match find tips.ops (keyOf id (ops.size - 1) o) with
    | some t => match t.wld with
      | some f => match t.val with
        | some v => some (o, v, f)
        | none => none
      | none => none
    | none => none
  | none => none
/-- The last operation. -/
def SX (P : Program) (n : Nat) (ops : List Oper) (o : Oper) (v : Γ → Value) (f : Γ → World → World) (Q : Exit → Γ → List (Nat × Value) → World → Prop) (γ : Γ) (w : World) (F : List (Nat × Value)) : Prop :=
  match wantedF ops F o with
  | some true => match noSel o.op with
    | false => False
    | true => match known F (ins o.op) with
      | false => False
      | true => match semOf P (rho F) o with
        | some s => (∀ m, s.run P (w.drewN m) = .ok (v γ) (f γ (w.drewN m))) ∧ putK n F o.dst (v γ) fun F' => ∀ m, Q .normal γ F' (f γ (w.drewN m))
        | none => False
  | _ => False

/-- A region. -/
def RS (id : Nat) (ops : Array Oper) (draw : Bool) (Q : Exit → Γ → List (Nat × Value) → World → Prop) (γ : Γ) (F : List (Nat × Value)) (w : World) : Prop :=
  match draw with
  | false => LX P tips n id ops.toList (Q .normal) 0 ops.toList γ F w
  | true => match lastW tips id ops with
   | some q => match lexLB ops with
    | false => False
    | true => DX P tips n id ops.toList (fun φ => ∀ m, φ (w.drewN m)) (fun w' => ∃ m, w' = w.drewN m) (fun F' => SX P n ops.toList q.1 q.2.1 q.2.2 Q γ w F') γ 0 ops.toList.dropLast F
   | none => match Region.lexB .any ops with
    | false => False
    | true => match find tips.cls id with
      | none => DX P tips n id ops.toList (fun φ => ∀ m, φ (w.drewN m)) (fun w' => ∃ m, w' = w.drewN m) (fun F' => ∀ m, Q .normal γ F' (w.drewN m)) γ 0 ops.toList F
      | some C => C γ w (w.drewN 1) ∧ DX P tips n id ops.toList (fun φ => ∀ w', C γ w w' → φ w') (C γ w) (fun F' => ∀ w', C γ w w' → Q .normal γ F' w') γ 0 ops.toList F

def CS : Code → (Exit → Γ → List (Nat × Value) → World → Prop) → Γ → List (Nat × Value) → World → Prop
  | .skip, Q, γ, F, w => Q .normal γ F w
  | .region id ops draw, Q, γ, F, w => match find tips.cuts id with
    | none => RS P tips n id ops draw Q γ F w
    | some T => CutOK (T γ w) w ∧ T γ w fun γ' w' => RS P tips n id ops draw Q γ' F w'
  | .seq x y, Q, γ, F, w => match joinAt tips y with
    | none => CS x (fun e γ F w => match e with
      | .normal => CS y Q γ F w
      | .exit id => Q (.exit id) γ F w
      | .ret => Q .ret γ F w
      | _ => False) γ F w
    | some J => match ltAll n J.slots with
      | false => False
      | true => JoinOK J γ w ∧ CS x (fun e γ2 F2 w2 => match e with
        | .normal => match lookAll F2 J.slots with
          | some us2 => J.inv γ w us2 w2
          | none => False
        | .exit id => Q (.exit id) γ2 F2 w2
        | .ret => Q .ret γ2 F2 w2
        | _ => False) γ F w ∧ J.T γ w fun γ' us w' => CS y Q γ' (J.slots.zip us ++ forget (Code.dsts x) F) w'
  | .cond c x y, Q, γ, F, w => match evalF F c with
    | some (.bool true) => CS x Q γ F w
    | some (.bool false) => CS y Q γ F w
    | _ => False
  | .block id c, Q, γ, F, w => CS c (fun e γ F w => match e with
      | .normal => Q .normal γ F w
      | .exit id' => match Nat.beq id' id with
        | true => Q .normal γ F w
        | false => Q (.exit id') γ F w
      | .ret => Q .ret γ F w
      | _ => False) γ F w
  | .loop c, Q, γ, F, w => match Code.first c with
    | none => False
    | some id => match find tips.loops id with
      | none => False
      | some L => match ltAll n L.slots with
        | false => False
        | true => match lookAll F L.slots with
          | none => False
          | some us0 => L.inv γ w us0 w ∧ LoopOK L γ w ∧
            L.T γ w fun γ' us w' => CS c (fun e γ2 F2 w2 => match e with
              | .normal => match lookAll F2 L.slots with
                | some us2 => L.inv γ w us2 w2 ∧ L.mu γ us2 w2 < L.mu γ us w'
                | none => False
              | .exit id => Q (.exit id) γ2 F2 w2
              | .ret => Q .ret γ2 F2 w2
              | _ => False) γ' (L.slots.zip us ++ forget (Code.dsts c) F) w'
  | .exit id, Q, γ, F, w => Q (.exit id) γ F w
  | .scope c, Q, γ, F, w => CS c (fun e γ F w => match e with
      | .normal => Q .normal γ F w
      | .exit id => Q (.exit id) γ F w
      | .ret => Q .ret γ F w
      | _ => False) γ F w
  | .ret, Q, γ, F, w => Q .ret γ F w
  | _, _, _, _, _ => False
end

section
variable {Γ : Type} {P : Program} {tips : Tips Γ} {n : Nat}
theorem dsts_last {l : List Oper} {o : Oper} (h : l.getLast? = some o) : (∀ d ∈ dstsOf l.dropLast, d ∈ dstsOf l) ∧ ∀ d, o.dst = some d → d ∈ dstsOf l := by
  obtain ⟨l', rfl⟩ : ∃ l', l = l' ++ [o] := by
    have hne : l ≠ [] := fun e => by rw [e] at h; cases h
    rw [List.getLast?_eq_some_getLast hne] at h
    cases h
    exact ⟨l.dropLast, (List.dropLast_concat_getLast hne).symm⟩
  rw [List.dropLast_concat]
  clear h
  induction l' with
  | nil =>
    refine ⟨fun d hd => (by cases hd), fun d hd => ?_⟩
    simp [dstsOf, hd]
  | cons x l ih =>
    simp only [List.cons_append]
    unfold dstsOf
    split
    · refine ⟨fun d hd => ?_, fun d hd => List.mem_cons_of_mem _ (ih.2 d hd)⟩
      rcases List.mem_cons.1 hd with rfl | hd
      · exact List.mem_cons_self
      · exact List.mem_cons_of_mem _ (ih.1 d hd)
    · exact ih
theorem SX_region {id : Nat} {ops : Array Oper} {q : Oper × (Γ → Value) × (Γ → World → World)} {Q : Exit → Γ → List (Nat × Value) → World → Prop} {γ : Γ} {F : List (Nat × Value)} {w : World} {a : Act} (hm : P.follows .mixedOrders = true) (hq : lastW tips id ops = some q) (hlex : lexLB ops = true)
    (h : DX P tips n id ops.toList (fun φ => ∀ m, φ (w.drewN m)) (fun w' => ∃ m, w' = w.drewN m) (fun F' => SX P n ops.toList q.1 q.2.1 q.2.2 Q γ w F') γ 0 ops.toList.dropLast F) (hr : Rep n F a) :
    (Code.region id ops true).wp P (Ends n a (dstsOf ops.toList) Q) a w := by
  obtain ⟨o, v, f⟩ := q
  have hlast : ops.toList.getLast? = some o := by
    unfold lastW at hq
    split at hq
    · rename_i o' ho
      split at hq
      · split at hq
        · split at hq
          · cases hq; exact ho
          · cases hq
        · cases hq
      · cases hq
    · cases hq
  have hlo : ops[ops.size - 1]? = some o := by
    rw [List.getLast?_eq_getElem?] at hlast
    simpa using hlast
  have hD := dsts_last hlast
  have := DX_wp id ops _ _ (fun φ hφ w' ⟨m, hm⟩ => hm ▸ hφ m) _ γ a (dstsOf ops.toList) ops.toList.dropLast 0 F a hD.1 h hr (Same.refl _ _)
  refine wp_region_last (C := fun w' => ∃ m, w' = w.drewN m) hm hlex ⟨1, rfl⟩ ?_
  refine wpQuiet_post ?_ this
  rintro a' ⟨F', hsx, hr', hs'⟩ w' ⟨m, rfl⟩
  unfold SX at hsx
  split at hsx
  · rename_i hw
    split at hsx
    · exact hsx.elim
    · rename_i hsel
      split at hsx
      · exact hsx.elim
      · rename_i hk
        split at hsx
        · rename_i s hsem
          obtain ⟨h1, h2⟩ := hsx
          simp only at h1 h2
          obtain ⟨F2, h3, h4, h5⟩ := putK_rep h2 hr'
          have hend : Ends n a (dstsOf ops.toList) Q .normal (a'.put o.dst (v γ)) (f γ (w.drewN m)) := ⟨γ, F2, h3 m, h4, same_put hs' h5 hD.2⟩
          unfold wpOp
          rw [hlo]
          simp only
          rw [if_pos (wantedF_ok hr' hw)]
          left
          unfold Oper.wp
          rw [exec_rho hr' hsel hk]
          rcases semOf_run hsem (h1 m) with h6 | ⟨h6, h7⟩
          · rw [h6]; exact hend
          · rw [h6]; rw [h7] at hend; exact hend
        · exact hsx.elim
  · exact hsx.elim
theorem RS_wp (id : Nat) (ops : Array Oper) (draw : Bool) (Q : Exit → Γ → List (Nat × Value) → World → Prop) (γ : Γ) (F : List (Nat × Value)) (w : World) (a : Act) (hm : P.follows .mixedOrders = true)
    (h : RS P tips n id ops draw Q γ F w) (hr : Rep n F a) : (Code.region id ops draw).wp P (Ends n a (Code.dsts (.region id ops draw)) Q) a w := by
  cases draw with
  | false => exact wp_region_list (LX_wp id ops Q a _ ops.toList 0 γ F w a (fun d hd => hd) h hr (Same.refl _ _))
  | true =>
    unfold RS at h
    simp only at h
    split at h
    · rename_i q hq
      split at h
      · exact h.elim
      · rename_i hlex
        exact SX_region hm hq hlex h hr
    split at h
    · exact h.elim
    · rename_i hlex
      split at h
      · have := DX_wp id ops _ _ (fun φ hφ w' ⟨m, hm⟩ => hm ▸ hφ m) _ γ a (dstsOf ops.toList) ops.toList 0 F a (fun d hd => hd) h hr (Same.refl _ _)
        refine wp_region_quiet (C := fun w' => ∃ m, w' = w.drewN m) hm hlex ⟨1, rfl⟩ ?_
        refine wpQuiet_post ?_ this
        rintro a' ⟨F', hq, hr', hs'⟩ w' ⟨m, rfl⟩
        exact ⟨γ, F', hq m, hr', hs'⟩
      · rename_i C hC
        have := DX_wp id ops _ _ (fun φ hφ w' hw' => hφ w' hw') _ γ a (dstsOf ops.toList) ops.toList 0 F a (fun d hd => hd) h.2 hr (Same.refl _ _)
        refine wp_region_quiet (C := C γ w) hm hlex h.1 ?_
        refine wpQuiet_post ?_ this
        rintro a' ⟨F', hq, hr', hs'⟩ w' hw'
        exact ⟨γ, F', hq w' hw', hr', hs'⟩

theorem CS_wp : ∀ (c : Code) (Q : Exit → Γ → List (Nat × Value) → World → Prop) (γ : Γ) (F : List (Nat × Value)) (w : World) (a : Act), (hm : P.follows .mixedOrders = true) →
    CS P tips n c Q γ F w → Rep n F a → c.wp P (Ends n a (Code.dsts c) Q) a w := by
  intro c
  induction c with
  | skip => intro Q γ F w a hm h hr; exact wp_skip ⟨γ, F, h, hr, Same.refl _ _⟩
  | region id ops draw =>
    intro Q γ F w a hm h hr
    unfold CS at h
    split at h
    · exact RS_wp id ops draw Q γ F w a hm h hr
    · obtain ⟨h1, h2⟩ := h
      obtain ⟨γ', h3⟩ := h1 _ h2
      exact RS_wp id ops draw Q γ' F w a hm h3 hr
  | seq x y ihx ihy =>
    intro Q γ F w a hm h hr
    unfold CS at h
    split at h
    · refine wp_seq (wp_mono (ihx _ γ F w a hm h hr) ?_)
      rintro e a1 w1 ⟨γ1, F1, h1, hr1, hs1⟩
      cases e with
      | normal =>
        refine wp_mono (ihy _ γ1 F1 w1 a1 hm h1 hr1) ?_
        rintro e a2 w2 ⟨γ2, F2, h2, hr2, hs2⟩
        exact ⟨γ2, F2, h2, hr2, hs1.trans hs2⟩
      | exit id => exact ⟨γ1, F1, h1, hr1, hs1.more fun t ht => List.mem_append_left _ ht⟩
      | ret => exact ⟨γ1, F1, h1, hr1, hs1.more fun t ht => List.mem_append_left _ ht⟩
      | goto l => exact h1.elim
      | panic ch => exact h1.elim
      | outgrown => exact h1.elim
    · rename_i J hJ
      split at h
      · exact h.elim
      · rename_i hlt
        obtain ⟨hj, hx, hy⟩ := h
        refine wp_seq (wp_mono (ihx _ γ F w a hm hx hr) ?_)
        rintro e a1 w1 ⟨γ1, F1, h1, hr1, hs1⟩
        cases e with
        | normal =>
          simp only at h1
          split at h1
          · rename_i us hus
            have e2 := lookAll_rep hr1 hus
            obtain ⟨γ', h3⟩ := hj _ hy us w1 (by rw [← e2]; simp) h1
            have hr2 : Rep n (J.slots.zip us ++ forget (Code.dsts x) F) a1 := by
              refine ⟨hr1.1, hr1.2.1, fun t v hv => ?_⟩
              rcases look_append hv with hv | hv
              · rw [← e2] at hv
                exact look_zip hr1.2.1 hlt hv
              · obtain ⟨h4, h5⟩ := look_forget (fun s hs => memN_mem hs) hv
                rw [hs1 t h4]
                exact hr.2.2 t v h5
            refine wp_mono (ihy _ γ' _ w1 a1 hm h3 hr2) ?_
            rintro e a2 w2 ⟨γ2, F2, h2, hr3, hs2⟩
            exact ⟨γ2, F2, h2, hr3, hs1.trans hs2⟩
          · exact h1.elim
        | exit id => exact ⟨γ1, F1, h1, hr1, hs1.more fun t ht => List.mem_append_left _ ht⟩
        | ret => exact ⟨γ1, F1, h1, hr1, hs1.more fun t ht => List.mem_append_left _ ht⟩
        | goto l => exact h1.elim
        | panic ch => exact h1.elim
        | outgrown => exact h1.elim
  | cond c x y ihx ihy =>
    intro Q γ F w a hm h hr
    unfold CS at h
    split at h
    · rename_i hc
      refine wp_cond_true (by rw [rho_eval hr (by rw [hc]; rfl)]; unfold rho; rw [hc]) ?_
      refine wp_mono (ihx Q γ F w a hm h hr) ?_
      rintro e a1 w1 ⟨γ1, F1, h1, hr1, hs1⟩
      exact ⟨γ1, F1, h1, hr1, hs1.more fun t ht => List.mem_append_left _ ht⟩
    · rename_i hc
      refine wp_cond_false (by rw [rho_eval hr (by rw [hc]; rfl)]; unfold rho; rw [hc]) ?_
      refine wp_mono (ihy Q γ F w a hm h hr) ?_
      rintro e a1 w1 ⟨γ1, F1, h1, hr1, hs1⟩
      exact ⟨γ1, F1, h1, hr1, hs1.more fun t ht => List.mem_append_right _ ht⟩
    · exact h.elim
  | block id c ih =>
    intro Q γ F w a hm h hr
    refine wp_block (wp_mono (ih _ γ F w a hm h hr) ?_)
    rintro e a1 w1 ⟨γ1, F1, h1, hr1, hs1⟩
    cases e with
    | normal => exact ⟨γ1, F1, h1, hr1, hs1⟩
    | exit id' =>
      simp only at h1
      simp only [Exit.inBlock]
      split at h1
      · rename_i hid
        rw [if_pos (Nat.eq_of_beq_eq_true hid)]
        exact ⟨γ1, F1, h1, hr1, hs1⟩
      · rename_i hid
        rw [if_neg (Nat.ne_of_beq_eq_false hid)]
        exact ⟨γ1, F1, h1, hr1, hs1⟩
    | ret => exact ⟨γ1, F1, h1, hr1, hs1⟩
    | goto l => exact h1.elim
    | panic ch => exact h1.elim
    | outgrown => exact h1.elim
  | loop c ih =>
    intro Q γ F w a hm h hr
    unfold CS at h
    split at h
    · exact h.elim
    · split at h
      · exact h.elim
      · rename_i L hL
        split at h
        · exact h.elim
        · rename_i hlt
          split at h
          · exact h.elim
          · rename_i us0 hus
            obtain ⟨h0, h1, h2⟩ := h
            refine wp_loop (fun a1 w1 => a1.defers = [] ∧ a1.tmps.size = n ∧ Same a (Code.dsts c) a1 ∧ L.inv γ w (L.slots.map (a1.tmps.getD · undef)) w1) (fun a1 w1 => L.mu γ (L.slots.map (a1.tmps.getD · undef)) w1) ⟨hr.1, hr.2.1, Same.refl _ _, by rw [lookAll_rep hr hus]; exact h0⟩ ?_
            rintro a1 w1 ⟨hd1, hn1, hs1, hi1⟩
            obtain ⟨γ', h3⟩ := h1 _ h2 _ w1 (by simp) hi1
            have hr1 : Rep n (L.slots.zip (L.slots.map (a1.tmps.getD · undef)) ++ forget (Code.dsts c) F) a1 := by
              refine ⟨hd1, hn1, fun t v hv => ?_⟩
              rcases look_append hv with hv | hv
              · exact look_zip hn1 hlt hv
              · obtain ⟨h4, h5⟩ := look_forget (fun s hs => memN_mem hs) hv
                rw [hs1 t h4]
                exact hr.2.2 t v h5
            refine wp_mono (ih _ γ' _ w1 a1 hm h3 hr1) ?_
            rintro e a2 w2 ⟨γ2, F2, h4, hr2, hs2⟩
            have hs3 : Same a (Code.dsts c) a2 := fun t ht => by rw [hs2 t ht, hs1 t ht]
            cases e with
            | normal =>
              simp only at h4
              split at h4
              · rename_i us2 hus2
                have e2 := lookAll_rep hr2 hus2
                exact ⟨⟨hr2.1, hr2.2.1, hs3, by rw [e2]; exact h4.1⟩, by rw [e2]; exact h4.2⟩
              · exact h4.elim
            | exit id => exact ⟨γ2, F2, h4, hr2, hs3⟩
            | ret => exact ⟨γ2, F2, h4, hr2, hs3⟩
            | goto l => exact h4.elim
            | panic ch => exact h4.elim
            | outgrown => exact h4.elim
  | exit id => intro Q γ F w a hm h hr; exact wp_exit ⟨γ, F, h, hr, Same.refl _ _⟩
  | scope c ih =>
    intro Q γ F w a hm h hr
    refine wp_scope_straight (wp_mono (ih _ γ F w a hm h hr) ?_)
    rintro e a1 w1 ⟨γ1, F1, h1, hr1, hs1⟩
    cases e with
    | normal => exact ⟨γ1, F1, h1, hr1, hs1⟩
    | exit id => exact ⟨γ1, F1, h1, hr1, hs1⟩
    | ret => exact ⟨γ1, F1, h1, hr1, hs1⟩
    | goto l => exact h1.elim
    | panic ch => exact h1.elim
    | outgrown => exact h1.elim
  | ret => intro Q γ F w a hm h hr; exact wp_ret ⟨γ, F, h, hr, Same.refl _ _⟩
  | rangeFunc f ps x y => intro Q γ F w a hm h hr; exact h.elim
  | label l => intro Q γ F w a hm h hr; exact h.elim
  | goto l => intro Q γ F w a hm h hr; exact h.elim
  | refuse s => intro Q γ F w a hm h hr; exact h.elim
end


section
variable {Γ : Type} {P : Program}
theorem CS_calls {f : FuncId} {fn : Func} {c : Code} {args : Array Value} {w : World} {R : Ending → World → Prop} (tips : Tips Γ) (γ : Γ) (hm : P.follows .mixedOrders = true) (hf : P.funcs[f]? = some fn) (hb : fn.body = some c)
    (ts : List Nat) (hts : resSlots fn.results.toList = some ts) (ha : Nat.ble args.size fn.ntmps = true)
    (h : CS P tips fn.ntmps c (fun e _ F w => match e with
      | .normal => match lookAll F ts with
        | some vs => R (.returned (resVal vs)) w
        | none => False
      | .ret => match lookAll F ts with
        | some vs => R (.returned (resVal vs)) w
        | none => False
      | _ => False) γ (numbered 0 args.toList) w) : Calls P f args w R := by
  have ha' : args.size ≤ fn.ntmps := Nat.le_of_ble_eq_true ha
  refine calls_of_wp hf hb (wp_mono (CS_wp c _ γ _ w _ hm h ?_) ?_)
  · refine ⟨rfl, by simp; omega, fun t v hv => ?_⟩
    have := (look_numbered hv).2
    simp only [Nat.sub_zero, Array.getElem?_toList] at this
    simp only
    rw [Array.getElem?_append_left (Array.getElem?_eq_some_iff.1 this).1]
    exact this
  · rintro e a1 w1 ⟨γ1, F1, h1, hr1, hs1⟩
    cases e with
    | normal =>
      simp only at h1
      split at h1
      · rename_i vs hvs
        exact ⟨hr1.1, _, results_slots hts, by rw [lookAll_rep hr1 hvs]; exact h1⟩
      · exact h1.elim
    | ret =>
      simp only at h1
      split at h1
      · rename_i vs hvs
        exact ⟨hr1.1, _, results_slots hts, by rw [lookAll_rep hr1 hvs]; exact h1⟩
      · exact h1.elim
    | exit id => exact h1.elim
    | goto l => exact h1.elim
    | panic ch => exact h1.elim
    | outgrown => exact h1.elim
/-- A result that lies in a cell. -/
theorem CS_calls_cell {f : FuncId} {fn : Func} {c : Code} {args : Array Value} {w : World} {R : Ending → World → Prop} (tips : Tips Γ) (γ : Γ) (hm : P.follows .mixedOrders = true) (hf : P.funcs[f]? = some fn) (hb : fn.body = some c)
    (rc : Nat) (rt : TypeId) (hres : fn.results = #[.cell rc rt]) (ha : Nat.ble args.size fn.ntmps = true) (rv : Γ → Value)
    (h : CS P tips fn.ntmps c (fun e γ F w => match e with
      | .normal => match look F rc with
        | some (.pointer (some p)) => (loadVar rt p).run P w = .ok (rv γ) w ∧ R (.returned (rv γ)) w
        | _ => False
      | .ret => match look F rc with
        | some (.pointer (some p)) => (loadVar rt p).run P w = .ok (rv γ) w ∧ R (.returned (rv γ)) w
        | _ => False
      | _ => False) γ (numbered 0 args.toList) w) : Calls P f args w R := by
  have ha' : args.size ≤ fn.ntmps := Nat.le_of_ble_eq_true ha
  have hcell : ∀ (a : Act) (w : World) (p : Addr) (v : Value), a.tmps[rc]? = some (.pointer (some p)) → (loadVar rt p).run P w = .ok v w → (results fn a.tmps).run P w = .ok v w := by
    intro a w p v h1 h2
    unfold results
    rw [hres]
    simp [Array.getD_eq_getD_getElem?, h1, h2, asAddr]
  refine calls_of_wp hf hb (wp_mono (CS_wp c _ γ _ w _ hm h ?_) ?_)
  · refine ⟨rfl, by simp; omega, fun t v hv => ?_⟩
    have := (look_numbered hv).2
    simp only [Nat.sub_zero, Array.getElem?_toList] at this
    simp only
    rw [Array.getElem?_append_left (Array.getElem?_eq_some_iff.1 this).1]
    exact this
  · rintro e a1 w1 ⟨γ1, F1, h1, hr1, hs1⟩
    cases e with
    | normal =>
      simp only at h1
      split at h1
      · rename_i p hp
        exact ⟨hr1.1, _, hcell _ _ _ _ (hr1.2.2 _ _ hp) h1.1, h1.2⟩
      · exact h1.elim
    | ret =>
      simp only at h1
      split at h1
      · rename_i p hp
        exact ⟨hr1.1, _, hcell _ _ _ _ (hr1.2.2 _ _ hp) h1.1, h1.2⟩
      · exact h1.elim
    | exit id => exact h1.elim
    | goto l => exact h1.elim
    | panic ch => exact h1.elim
    | outgrown => exact h1.elim
end
end Go.Proofs.YgcsagGreat
