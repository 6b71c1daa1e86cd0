/-
  'blockHashHolds' as a spec of the engine.
-/
import Derived.Test.YgcsagGreatHob
namespace Go.Proofs.EX
open Go.RowKit Go.Proofs.YgcsagGreat
set_option linter.unusedVariables false
set_option linter.unusedSimpArgs false
variable {S : Nat → Prop} {w0 : World} {Z G : List Blk} {s : St} {H : Hs} {w : World}
/-- Rows of 32 bytes read through windows, one behind the other. -/
def rowsX (s : St) (q : Addr) (K : List (List Int) → Hs → Prop) : Nat → Nat → List (List Int) → Hs → Prop
  | 0, _, L, H => K L H
  | k + 1, i, L, H => match H with
    | [] => False
    | j :: H' => match winL s j with
      | some pl => pl.1 = ⟨q.block, q.off + 32 * i, none⟩ ∧ bytesN pl.2 (fun r H => match Nat.beq r.length 32 with
        | true => rowsX s q K k (i + 1) (L ++ [r]) H
        | false => False) H'
      | none => False
def hsX (s : St) (v : Value) (K : List (List Int) → Hs → Prop) (H : Hs) : Prop := match v with
  | .slice a n c => match n with
    | 0 => K [] H
    | n + 1 => match Nat.ble (n + 1) 4 with
      | true => match a with
        | some q => match q.spot with
          | none => rowsX s q K (n + 1) 0 [] H
          | some _ => False
        | none => False
      | false => False
  | _ => False
def allZ : Nat → List Value → Bool
  | 0, [] => true
  | k + 1, .int .u8 i :: l => match eqB i 0 with
    | true => allZ k l
    | false => false
  | _, _ => false
/-- A receipt of success, with 32 bytes of output. -/
def recX (v : Value) : Option (Int × Addr × Nat) := match v with
  | .agg cs => match cs.toList with
    | .int .u8 x :: .int .u8 y :: .int .u64 used :: .slice (some q) l c :: .slice none 0 0 :: made => match eqB x 0 with
      | true => match eqB y 0 with
        | true => match Nat.beq l 32 with
          | true => match q.off with
            | 0 => match allZ 20 made with
              | true => some (used, q, c)
              | false => none
            | _ => none
          | false => none
        | false => none
      | false => none
    | _ => none
  | _ => none
def rowF (L : List (List Int)) (i j : Nat) : Int := (L.getD i []).getD j 0
def hoX : Spec := fun Z args Q s H => match args.toList with
  | [nv, hsv, av, rv] => match nv with
    | .int .u64 num => match av with
      | .agg cs => match recX rv with
        | some uqc => inN num 18446744073709551616 (fun H => bytesN cs.toList (fun a H => match Nat.beq a.length 32 with
          | true => hsX s hsv (fun L H => match H with
            | [] => False
            | i :: H' => match nth (Z ++ s.M) i with
              | some blk => match cutL blk.cs 0 32 with
                | some l => atB uqc.2.1 blk.b (bytesN l (fun o H => o = (List.range 32).map (want num (beV a) (rowF L) L.length) ∧ Q (.bool true) s H) H')
                | none => False
              | none => False) H
          | false => False) H) H
        | none => False
      | _ => False
    | _ => False
  | _ => False
theorem allZ_eq : ∀ {k : Nat} {l : List Value}, allZ k l = true → l = List.replicate k (.int .u8 0)
  | 0, [], h => rfl
  | 0, x :: l, h => by simp [allZ] at h
  | k + 1, [], h => by simp [allZ] at h
  | k + 1, x :: l, h => by
    unfold allZ at h
    split at h
    · cases ‹k + 1 = 0›
    · rename_i k' i l' e1 e2
      cases e1
      cases e2
      split at h
      · rename_i he
        rw [eqB_eq] at he
        rw [of_decide_eq_true he, allZ_eq h]
        rfl
      · cases h
    · cases h
theorem recX_eq {v : Value} {used : Int} {q : Addr} {c : Nat} (h : recX v = some (used, q, c)) : q.off = 0 ∧ (q.spot = none → v = recV used q.block c) := by
  unfold recX at h
  split at h
  · rename_i cs
    split at h
    · rename_i x y u q' l c' made e
      split at h
      · rename_i hx
        split at h
        · rename_i hy
          split at h
          · rename_i hl
            split at h
            · rename_i ho
              split at h
              · rename_i hz
                cases h
                rw [eqB_eq] at hx hy
                refine ⟨ho, fun hs => ?_⟩
                have e2 := allZ_eq hz
                have hq : q = ⟨q.block, 0, none⟩ := by
                  obtain ⟨b, o, sp⟩ := q
                  simp only at ho hs
                  rw [ho, hs]
                rw [of_decide_eq_true hx, of_decide_eq_true hy, Nat.eq_of_beq_eq_true hl, e2] at e
                have : cs = _ := arr_eq e
                rw [this]
                unfold recV
                rw [← hq]
                rfl
              · cases h
            · cases h
          · cases h
        · cases h
      · cases h
    · cases h
  · cases h
theorem rowsX_ok {q : Addr} {K : List (List Int) → Hs → Prop} (hi : Inv (nmH S) w0 (s.z Z G) w) : ∀ (k i : Nat) (L : List (List Int)) (H : Hs), rowsX s q K k i L H → L.length = i → (∀ i' j, i' < i → j < 32 → w.cell? ⟨q.block, q.off + 32 * i' + j, none⟩ = some (.int .u8 (rowF L i' j))) → (∀ i', i' < i → (L.getD i' []).length = 32 ∧ Dig (L.getD i' [])) →
    ∃ L' H', K L' H' ∧ L'.length = i + k ∧ (∀ i' j, i' < i + k → j < 32 → w.cell? ⟨q.block, q.off + 32 * i' + j, none⟩ = some (.int .u8 (rowF L' i' j))) ∧ (∀ i', i' < i + k → (L'.getD i' []).length = 32 ∧ Dig (L'.getD i' []))
  | 0, i, L, H, h, hl, hc, hd => ⟨L, H, h, hl, hc, hd⟩
  | k + 1, i, L, H, h, hl, hc, hd => by
    unfold rowsX at h
    split at h
    · exact h.elim
    · split at h
      · rename_i pl hw
        obtain ⟨p, l⟩ := pl
        obtain ⟨rfl, h⟩ := h
        obtain ⟨r, H2, hr, hrd, h⟩ := bytesN_ok h
        split at h
        · rename_i h32
          have h32 := Nat.eq_of_beq_eq_true h32
          have get : ∀ i', i' < i + 1 → (L ++ [r]).getD i' [] = if i' < i then L.getD i' [] else r := by
            intro i' hi'
            by_cases e : i' < i
            · rw [if_pos e, List.getD_eq_getElem?_getD, List.getD_eq_getElem?_getD, List.getElem?_append_left (by omega)]
            · have : i' = i := by omega
              rw [if_neg e, List.getD_eq_getElem?_getD, List.getElem?_append_right (by omega)]
              simp [this, hl]
          have := rowsX_ok hi k (i + 1) (L ++ [r]) H2 h (by simp [hl]) (fun i' j hi' hj => ?_) (fun i' hi' => ?_)
          · rw [show i + 1 + k = i + (k + 1) by omega] at this
            exact this
          · unfold rowF
            rw [get i' hi']
            split
            · rename_i e
              exact hc i' j e hj
            · have e : i' = i := by omega
              subst e
              refine win_cell hi hw (i := j) ?_
              simp only at hr
              rw [hr, List.getElem?_map, List.getElem?_eq_getElem (by omega)]
              simp [List.getD_eq_getElem?_getD, show j < r.length by omega]
          · rw [get i' hi']
            split
            · rename_i e
              exact hd i' e
            · exact ⟨h32, hrd⟩
        · exact h.elim
      · exact h.elim
theorem hsX_ok {v : Value} {K : List (List Int) → Hs → Prop} (h : hsX s v K H) (hi : Inv (nmH S) w0 (s.z Z G) w) : ∃ L H' ha hb off hc, K L H' ∧ L.length ≤ 4 ∧ v = hsV ha hb off L.length hc ∧ (∀ i j, i < L.length → j < 32 → w.cell? ⟨hb, off + 32 * i + j, none⟩ = some (.int .u8 (rowF L i j))) ∧ (∀ i, i < L.length → (L.getD i []).length = 32 ∧ Dig (L.getD i [])) := by
  unfold hsX at h
  split at h
  · rename_i a n c
    split at h
    · exact ⟨[], _, a, 0, 0, c, h, by simp, rfl, fun i j hi => by simp at hi, fun i hi => by simp at hi⟩
    · rename_i n
      split at h
      · rename_i h4
        have h4 := Nat.le_of_ble_eq_true h4
        split at h
        · rename_i q
          split at h
          · rename_i hs
            obtain ⟨L, H', hK, hl, hc, hd⟩ := rowsX_ok hi _ _ _ _ h rfl (fun i' j hi' => by omega) (fun i' hi' => by omega)
            rw [Nat.zero_add] at hl hc hd
            refine ⟨L, H', none, q.block, q.off, c, hK, by omega, ?_, by rw [hl]; exact hc, by rw [hl]; exact hd⟩
            rw [hl]
            show Value.slice (some q) (n + 1) c = .slice (some ⟨q.block, q.off, none⟩) (n + 1) c
            obtain ⟨b, o, sp⟩ := q
            simp only at hs
            rw [hs]
          · exact h.elim
        · exact h.elim
      · exact h.elim
  · exact h.elim
theorem list32 {l : List Int} (h : l.length = 32) : l = (List.range 32).map fun j => l.getD j 0 := by
  apply List.ext_getElem?
  intro i
  by_cases hi : i < 32
  · rw [List.getElem?_map, List.getElem?_range hi, List.getElem?_eq_getElem (by omega)]
    simp [List.getD_eq_getElem?_getD, show i < l.length by omega]
  · rw [List.getElem?_eq_none (by omega), List.getElem?_eq_none (by simp; omega)]
theorem ho_ok : SpecOK 32 hoX := by
  intro S w0 hS Z G args Q s H w h hi
  unfold hoX at h
  split at h
  · rename_i nv hsv av rv hargs
    rw [arr_eq hargs]
    split at h
    · rename_i num
      split at h
      · rename_i cs
        split at h
        · rename_i uqc hrec
          obtain ⟨used, q, oc⟩ := uqc
          obtain ⟨h0, h1, H1, h⟩ := inN_ok h
          obtain ⟨a, H2, ha, had, h⟩ := bytesN_ok h
          split at h
          · rename_i ha32
            have ha32 := Nat.eq_of_beq_eq_true ha32
            obtain ⟨L, H3, hha, hb, off, hc, g, hL4, rfl, hcells, hrows⟩ := hsX_ok h hi
            split at g
            · exact g.elim
            · split at g
              · rename_i blk hblk
                rw [nth_eq] at hblk
                split at g
                · rename_i l hl
                  obtain ⟨he, g⟩ := atB_ok g
                  obtain ⟨o, H4, ho, hod, g⟩ := bytesN_ok g
                  obtain ⟨hout, hq⟩ := g
                  obtain ⟨hl1, hl2⟩ := cutL_get hl
                  obtain ⟨hoff, hrv⟩ := recX_eq hrec
                  simp only at he
                  have hrv := hrv he.2
                  have ho32 : o.length = 32 := by rw [← hl1, ho, List.length_map]
                  have hcs : Value.agg cs = .agg (row32 fun j => a.getD j 0).toArray := by
                    rw [arr_eq ha, row32]
                    congr 2
                    have e := congrArg (List.map (Value.int .u8)) (list32 ha32)
                    rw [List.map_map] at e
                    exact e
                  rw [hrv, hcs, he.1]
                  refine (ho_calls (ob := blk.b) (hb := hb) (off := off) (hc := hc) (oc := oc) (n := L.length) (ha := hha) (num := num) (used := used) (a := fun j => a.getD j 0) (o := fun j => o.getD j 0) (h := rowF L) hL4 ?_ hcells ⟨h0, h1⟩ ?_ ?_ ?_ ?_).mono ?_
                  · intro j hj
                    have := hi.cell (zl hblk) (hl2 j (.int .u8 (o.getD j 0)) (by
                      rw [ho, List.getElem?_map, List.getElem?_eq_getElem (by omega)]
                      simp [List.getD_eq_getElem?_getD, show j < o.length by omega]))
                    rw [Nat.zero_add] at this
                    exact this
                  · rw [← list32 ha32]; exact allIn_of had
                  · rw [← list32 ho32]; exact allIn_of hod
                  · intro i hin
                    have := hrows i hin
                    show AllIn ((List.range 32).map fun j => (L.getD i []).getD j 0)
                    rw [← list32 this.1]
                    exact allIn_of this.2
                  · intro j hj
                    have e1 : aB (fun j => a.getD j 0) = beV a := by unfold aB; rw [← list32 ha32]
                    rw [e1, hout, List.getD_eq_getElem?_getD, List.getElem?_map, List.getElem?_range hj]
                    rfl
                  · rintro e w' ⟨rfl, hbel⟩
                    exact ⟨_, _, _, rfl, hq, hi.later hbel⟩
                · exact g.elim
              · exact g.elim
          · exact h.elim
        · exact h.elim
      · exact h.elim
    · exact h.elim
  · exact h.elim
end Go.Proofs.EX
