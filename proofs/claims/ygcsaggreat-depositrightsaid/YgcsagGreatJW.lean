/-
  THE LOOP OF 'Intrinsic' AS WHAT THE ENGINE TAKES.
-/
import Derived.Test.YgcsagGreatJZ
namespace Go.Proofs.EX
open Go.RowKit Go.Proofs.YgcsagGreat
set_option linter.unusedVariables false
set_option linter.unusedSimpArgs false

/-- How many cells hold a zero byte. -/
def cntV : List Value → Nat
  | [] => 0
  | .int .u8 n :: l => (if n = 0 then 1 else 0) + cntV l
  | _ :: l => cntV l
theorem cntR_cons (x : Int) (zs : List Int) : ∀ i, cntR (x :: zs) (i + 1) = (if x = 0 then 1 else 0) + cntR zs i
  | 0 => by
    show 0 + (if (x :: zs).getD 0 0 = 0 then 1 else 0) = _
    simp [cntR]
  | i + 1 => by
    show cntR (x :: zs) (i + 1) + (if (x :: zs).getD (i + 1) 0 = 0 then 1 else 0) = (if x = 0 then 1 else 0) + (cntR zs i + (if zs.getD i 0 = 0 then 1 else 0))
    rw [cntR_cons x zs i]
    simp only [List.getD_cons_succ]
    omega
theorem cntV_eq : ∀ zs : List Int, cntV (bcells zs) = cntR zs zs.length
  | [] => rfl
  | x :: zs => by
    rw [List.length_cons, cntR_cons]
    show (if x = 0 then 1 else 0) + cntV (bcells zs) = _
    rw [cntV_eq zs]
/-- What is owed of a row that is read. -/
def RowFact (l : Nat) (cs : Array Value) : Prop := ∃ zs : List Int, cs = (bcells zs).toArray ∧ zs.length = l ∧ l ≤ 100000 ∧ Dig zs
/-- The same address: its block, its place. -/
def SameAd (q ad : Addr) (K : Prop) : Prop := match q.spot with
  | none => match ad.spot with
    | none => q.block = ad.block ∧ q.off = ad.off ∧ K
    | some _ => False
  | some _ => False
theorem SameAd.get {q ad : Addr} {K : Prop} (h : SameAd q ad K) : (q = ad ∧ ad.spot = none) ∧ K := by
  unfold SameAd at h
  split at h
  · rename_i h1
    split at h
    · rename_i h2
      obtain ⟨a, b, k⟩ := h
      refine ⟨⟨?_, h2⟩, k⟩
      obtain ⟨x, y, z⟩ := q
      obtain ⟨x', y', z'⟩ := ad
      simp only at a b h1 h2
      subst a b h1 h2
      rfl
    · exact h.elim
  · exact h.elim
def IntrFact (l : Nat) (cs : Array Value) (v12 v13 v4 : Value) : Prop := RowFact l cs ∧ v12 = .int .i64 (Int.ofNat l) ∧ v13 = .int .i64 0 ∧ v4 = .int .u64 0
noncomputable def delAll (F : Fr) : List Nat → Fr
  | [] => F
  | t :: l => delF (delAll F l) t
theorem look_delAll {F : Fr} {s : Nat} {v : Value} : ∀ {l : List Nat}, look (delAll F l) s = some v → s ∉ l ∧ look F s = some v
  | [], h => ⟨by simp, h⟩
  | t :: l, h => by
    rw [delAll, look_delF] at h
    split at h
    · cases h
    · rename_i hne
      obtain ⟨h1, h2⟩ := look_delAll h
      exact ⟨by simp [hne, h1], h2⟩
def d73 : List Nat := [6, 13, 14, 15, 16, 17, 18, 19, 20, 4, 21]
noncomputable def intrL : LSp := fun n Z F Q s H => match Nat.beq n 74 with
  | false => False
  | true => match look F 11 with
    | some (.slice (some a) l _) => match look F 12 with
      | some v12 => match look F 13 with
        | some v13 => match look F 4 with
          | some v4 => match H with
            | [] => False
            | j :: H1 => match nth s.N j with
              | some p => match p.1 with
                | .tuple vs => match vs.toList with
                  | [.pointer (some a'), .agg cs] => SameAd a' a <| IntrFact l cs v12 v13 v4 ∧ Q (.exit 0) (putF (delAll F d73) 4 (.int .u64 (Int.ofNat (cntV cs.toList)))) s H1
                  | _ => False
                | _ => False
              | none => False
          | none => False
        | none => False
      | none => False
    | _ => False
theorem d73_all : ∀ t, t ∈ Code.dsts b73 → t ∈ d73 := by
  have h : (Code.dsts b73).all (fun t => d73.contains t) = true := by kernel_rfl
  intro t ht
  have := List.all_eq_true.1 h t ht
  simpa using this
theorem intrL_ok : LsOK [(73004, (b73, intrL))] := by
  intro S w0 hS k bT hf Z G F Q s H w a n h hr hi
  have hb : bT = (b73, intrL) := by
    exact congrArg Prod.snd (List.mem_singleton.1 (find_mem hf))
  subst hb
  simp only at h ⊢
  unfold intrL at h
  split at h
  · exact h.elim
  rename_i hn
  obtain rfl := Nat.eq_of_beq_eq_true hn
  split at h
  · rename_i ad l c h11
    split at h
    · rename_i v12 h12
      split at h
      · rename_i v13 h13
        split at h
        · rename_i v4 h4
          split at h
          · exact h.elim
          · rename_i j H1
            split at h
            · rename_i p hp
              split at h
              · rename_i vs hvs
                split at h
                · rename_i a' cs hl
                  obtain ⟨⟨rfl, hspot⟩, ⟨⟨zs, rfl, hz, hzn, hd⟩, rfl, rfl, rfl⟩, hq⟩ := h.get
                  rw [nth_eq] at hp
                  have hnow := hi.now (show p ∈ (s.z Z G).N from List.mem_of_getElem? hp)
                  rw [hvs] at hnow
                  have ead : a' = ⟨a'.block, a'.off, none⟩ := by cases a'; cases hspot; rfl
                  have hcx := loop73_cx (some a') a'.block a'.off l c zs w (by omega) hz (fun _ => by rw [← ead]) (fun i hi' => by
                    refine hnow a'.block a'.off (bcells zs).toArray (by rw [arr_eq hl, ← ead]) i _ ?_
                    rw [List.getElem?_toArray, bcells_get _ _ hi'])
                  have hrep : YgcsagGreat.Rep 74 [(11, .slice (some a') l c), (12, .int .i64 (l : Int)), (13, .int .i64 0), (4, .int .u64 0)] a := by
                    refine ⟨hr.1, hr.2.1, fun t v hv => ?_⟩
                    rw [look_cons] at hv
                    split at hv
                    · rename_i e
                      obtain rfl := Nat.eq_of_beq_eq_true e
                      cases hv
                      exact hr.2.2 _ _ h11
                    rw [look_cons] at hv
                    split at hv
                    · rename_i e
                      obtain rfl := Nat.eq_of_beq_eq_true e
                      cases hv
                      exact hr.2.2 _ _ h12
                    rw [look_cons] at hv
                    split at hv
                    · rename_i e
                      obtain rfl := Nat.eq_of_beq_eq_true e
                      cases hv
                      exact hr.2.2 _ _ h13
                    rw [look_cons] at hv
                    split at hv
                    · rename_i e
                      obtain rfl := Nat.eq_of_beq_eq_true e
                      cases hv
                      exact hr.2.2 _ _ h4
                    · cases hv
                  refine wp_mono (CX_wp _ _ _ _ w a follows_mixed hcx hrep) ?_
                  rintro e a2 w2 ⟨γ, F2, hq2, hr2, hs2⟩
                  unfold q73 at hq2
                  split at hq2
                  · split at hq2
                    · rename_i v hv
                      obtain ⟨hev, rfl⟩ := hq2
                      cases hev
                      refine ⟨_, s, H1, hq, ⟨hr2.1, hr2.2.1, fun t v hv2 => ?_⟩, hs2, hi⟩
                      rw [look_putF] at hv2
                      split at hv2
                      · rename_i e4
                        subst e4
                        cases hv2
                        have := hr2.2.2 4 _ hv
                        rw [this]
                        have e5 : (bcells zs).toArray.toList = bcells zs := rfl
                        rw [e5, cntV_eq, hz]
                        rfl
                      · obtain ⟨hnd, hlk⟩ := look_delAll hv2
                        rw [hs2 t (fun ht => hnd (d73_all t ht))]
                        exact hr.2.2 t v hlk
                    · exact hq2.elim
                  · exact hq2.elim
                · exact h.elim
              · exact h.elim
            · exact h.elim
        · exact h.elim
      · exact h.elim
    · exact h.elim
  · exact h.elim
end Go.Proofs.EX
