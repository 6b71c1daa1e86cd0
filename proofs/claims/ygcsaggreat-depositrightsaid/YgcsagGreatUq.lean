/-
  ROWS OF UNKNOWN LENGTH, their length and cells being said in other words; a row held against a known one.
-/
import Derived.Test.YgcsagGreatRq
import Derived.Test.YgcsagGreatJQ
namespace Go.Proofs.EX
open Go.RowKit Go.Proofs.YgcsagGreat
set_option linter.unusedVariables false
set_option linter.unusedSimpArgs false
/-- What a spec brings in as its first window, with this length and these cells. -/
def reX (L : Nat) (R : List Value) (sp : Spec) : Spec := fun Z args Q s H => sp Z args (fun v s' H' => match v with
  | .slice (some a) l c => match s'.N with
    | q :: Nt => match q.1 with
      | .tuple vs => match vs.toList with
        | [.pointer (some a'), .agg cs] => (l = L ∧ c = L ∧ cs = R.toArray) ∧ Q (.slice (some a) L L) ⟨s'.M, (.tuple #[.pointer (some a'), .agg R.toArray], q.2) :: Nt⟩ H'
        | _ => False
      | _ => False
    | [] => False
  | _ => False) s H
theorem reX_ok {f : FuncId} {L : Nat} {R : List Value} {sp : Spec} (h : SpecOK f sp) : SpecOK f (reX L R sp) := by
  intro S w0 hS Z G args Q s H w hx hi
  refine (h S w0 hS Z G args _ s H w hx hi).mono ?_
  rintro e w' ⟨v, s', H', rfl, hq, hi'⟩
  obtain ⟨M', N'⟩ := s'
  simp only at hq
  split at hq
  · rename_i a l c
    split at hq
    · rename_i q Nt
      split at hq
      · rename_i vs hvs
        split at hq
        · rename_i a' cs hl
          obtain ⟨⟨rfl, rfl, rfl⟩, hq⟩ := hq
          refine ⟨_, _, _, rfl, hq, ?_⟩
          have e : q = (.tuple #[.pointer (some a'), .agg R.toArray], q.2) := by
            obtain ⟨q1, q2⟩ := q
            simp only at hvs ⊢
            rw [hvs, arr_eq hl]
          rw [← e]
          exact hi'
        · exact hq.elim
      · exact hq.elim
    · exact hq.elim
  · exact hq.elim
/-- One of two, by a hint. -/
def selX (a b : Spec) : Spec := fun Z args Q s H => match H with
  | [] => False
  | h :: H1 => match h with
    | 0 => a Z args Q s H1
    | _ => b Z args Q s H1
theorem selX_ok {f : FuncId} {a b : Spec} (ha : SpecOK f a) (hb : SpecOK f b) : SpecOK f (selX a b) := by
  intro S w0 hS Z G args Q s H w h hi
  unfold selX at h
  split at h
  · exact h.elim
  · split at h
    · exact ha S w0 hS Z G args Q s _ w h hi
    · exact hb S w0 hS Z G args Q s _ w h hi
/-- A window held against a known block, read from its start. -/
noncomputable def eqWX : Spec := fun Z args Q s H => match args.toList with
  | [.slice (some a) n _, .slice (some b) m _] => match H with
    | i :: j :: H2 => match winA s i with
      | some p => match nth (Z ++ s.M) j with
        | some blk => SameAd p.1 a <| atB b blk.b <| (b.off = 0 ∧ m = n ∧ RowFact n p.2 ∧ blk.cs.toArray = p.2) ∧ Q (.bool true) s H2
        | none => False
      | none => False
    | _ => False
  | _ => False
theorem eqWX_ok : SpecOK 23 eqWX := by
  intro S w0 hS Z G args Q s H w h hi
  unfold eqWX at h
  split at h
  · rename_i a n c b m c' hargs
    rw [arr_eq hargs]
    split at h
    · rename_i i j H2
      split at h
      · rename_i p hp
        split at h
        · rename_i blk hblk
          obtain ⟨⟨hpa, ha⟩, h⟩ := h.get
          obtain ⟨⟨hbb, hbs⟩, ⟨ho, hm, ⟨zs, hcs, hz, hn, hd⟩, hpq⟩, hB⟩ := atB_ok h
          subst hm
          have hc1 := winA_ok hp hi (by rw [hpa]; exact ha)
          rw [hpa, hcs] at hc1
          rw [nth_eq] at hblk
          obtain ⟨_, rest, hlen, hrow⟩ := hi.mem blk (List.mem_append_left _ (List.mem_of_getElem? hblk))
          have hcells : blk.cs = bcells zs := by
            have := congrArg Array.toList (hpq.trans hcs)
            simpa using this
          have hc2 : ∀ i, i < zs.length → w.cell? ⟨b.block, b.off + i, none⟩ = some (.int .u8 (zs.getD i 0)) := by
            intro i hi'
            rw [ho, Nat.zero_add, hbb]
            unfold World.cell?
            rw [hrow]
            have : (blk.cs ++ rest)[i]? = some (.int .u8 (zs.getD i 0)) := by
              rw [List.getElem?_append_left (by rw [hcells, bcells_length]; exact hi'), hcells, bcells_get _ _ hi']
            simpa using this
          have ea : a = ⟨a.block, a.off, none⟩ := by cases a; cases ha; rfl
          have eb : b = ⟨b.block, b.off, none⟩ := by cases b; cases hbs; rfl
          refine (equalBytes_calls (some a) (some b) m c m c' zs zs w hz hz ⟨hd, .inr ⟨a.block, a.off, by rw [← ea], fun i hi' => hc1 i _ (by rw [List.getElem?_toArray, bcells_get _ _ hi'])⟩⟩ ⟨hd, .inr ⟨b.block, b.off, by rw [← eb], hc2⟩⟩).mono ?_
          rintro e w' ⟨rfl, rfl⟩
          exact ⟨_, _, _, rfl, by rw [decide_eq_true rfl]; exact hB, hi⟩
        · exact h.elim
      · exact h.elim
    · exact h.elim
  · exact h.elim
end Go.Proofs.EX
