/-
  ROWS OF UNKNOWN LENGTH: what the engine takes for 'grow', 'laid' and 'equalBytes'.
-/
import Derived.Test.YgcsagGreatJR
namespace Go.Proofs.EX
open Go.RowKit Go.Proofs.YgcsagGreat
set_option linter.unusedVariables false
set_option linter.unusedSimpArgs false
def GrowFact (x : Int) (m K : Nat) : Prop := 0 ≤ x ∧ x + 31 < big ∧ (K : Int) = (x + 31) / 32 ∧ K ≤ 10000 ∧ m / 32 < K
/-- What is owed of the memory that grows: there is none, or it is a known row. -/
def MemFact (m m' : Nat) (t : TypeId) (mc : List Value) (sz : Nat) : Prop := m' = m ∧ ∃ zs : List Int, t = 5 ∧ mc = bcells zs ∧ sz = m ∧ zs.length = m ∧ m ≤ 100000
noncomputable def growX : Spec := fun Z args Q s H => match args.toList with
  | [.pointer (some fa), tv] => getN tv (fun x H => match H with
    | i :: k :: H1 => match nth s.M i with
      | some fb => match nth fb.cs (fa.off + 9) with
        | some (.slice none 0 0) => atB fa fb.b <| GrowFact x 0 ((x + 31) / 32).toNat ∧ ∀ b, Q (.tuple #[]) ⟨setNth s.M i { fb with cs := setNth fb.cs (fa.off + 9) (.slice (some ⟨b, 0, none⟩) (32 * ((x + 31) / 32).toNat) (32 * ((x + 31) / 32).toNat)) }, (.tuple #[.pointer (some ⟨b, 0, none⟩), .agg (cutV [] 0 (32 * ((x + 31) / 32).toNat)).toArray], 0) :: s.N⟩ H1
        | some (.slice (some gM) m m') => match nth (Z ++ s.M) k with
          | some mem => atB fa fb.b <| SameAd gM ⟨mem.b, 0, none⟩ <| (GrowFact x m ((x + 31) / 32).toNat ∧ MemFact m m' mem.t mem.cs mem.sz) ∧ ∀ b, Q (.tuple #[]) ⟨setNth s.M i { fb with cs := setNth fb.cs (fa.off + 9) (.slice (some ⟨b, 0, none⟩) (32 * ((x + 31) / 32).toNat) (32 * ((x + 31) / 32).toNat)) }, (.tuple #[.pointer (some ⟨b, 0, none⟩), .agg (cutV mem.cs 0 (32 * ((x + 31) / 32).toNat)).toArray], 0) :: s.N⟩ H1
          | none => False
        | _ => False
      | none => False
    | _ => False) s H
  | _ => False
/-- The new row, and the frame's cell turned to it. -/
theorem grow_fin {S : Nat → Prop} {w0 w W : World} {s : St} {Z G : List Blk} {i g off : Nat} {fb : Blk} {u v : Value} {cs : Array Value} (hi : Inv (nmH S) w0 (s.z Z G) w) (hfb : s.M[i]? = some fb) (hu : fb.cs[off]? = some u) (hb : Below w.heap.size w W) (hg : w.heap.size ≤ g) (hrow : W.heap[g]? = some (.cells cs 5 (0, 0))) :
    Inv (nmH S) w0 ((⟨setNth s.M i { fb with cs := setNth fb.cs off v }, (.tuple #[.pointer (some ⟨g, 0, none⟩), .agg cs], 0) :: s.N⟩ : St).z Z G) (W.setCells fb.b off [v]) := by
  have h1 := hi.addWin hb hg hrow
  rw [setNth_eq, setNth_eq]
  have h2 := h1.set (v := v) (z_get (Z := Z) (G := G) (s := { s with N := (.tuple #[.pointer (some ⟨g, 0, none⟩), .agg cs], 0) :: s.N }) hfb) hu
  rw [z_set (s := { s with N := (.tuple #[.pointer (some ⟨g, 0, none⟩), .agg cs], 0) :: s.N }) hfb] at h2
  exact h2
theorem growX_ok : SpecOK 87 growX := by
  intro S w0 hS Z G args Q s H w h0 hi
  unfold growX at h0
  split at h0
  · rename_i fa tv hargs
    rw [arr_eq hargs]
    obtain ⟨x, H1, h, hx⟩ := getN_ok h0 hi
    clear h0
    split at h
    · rename_i i k H2
      split at h
      · rename_i fb hfb
        rw [nth_eq] at hfb
        have hB : ∃ rest, w.heap[fb.b]? = some (.cells (fb.cs ++ rest).toArray fb.t (0, 0)) := by
          obtain ⟨_, rest, _, h3⟩ := hi.mem fb (List.mem_of_getElem? (z_get (Z := Z) (G := G) hfb))
          exact ⟨rest, h3⟩
        obtain ⟨rest, hB⟩ := hB
        split at h
        · rename_i hcell
          rw [nth_eq] at hcell
          obtain ⟨hfa0, ⟨f1, f2, f3, f4, f5⟩, hq⟩ := atB_ok h
          have hfa := addr_eq hfa0
          have hF := hi.cell (z_get (Z := Z) (G := G) hfb) hcell
          rw [hfa]
          refine (grow_nil fb.b fa.off _ x _ fb.t tv w hB (by simp; have := (List.getElem?_eq_some_iff.1 hcell).1; omega) hx f1 f2 f3 (by omega) f5 hF).mono ?_
          rintro e w' ⟨g, W, hg, hb, hrow, rfl, rfl⟩
          refine ⟨_, _, _, rfl, hq g, grow_fin hi hfb hcell hb hg ?_⟩
          rw [hrow, rowOf_b, ← cutV_b]
          rfl
        · rename_i gM m m' hcell
          rw [nth_eq] at hcell
          split at h
          · rename_i mem hmem
            rw [nth_eq] at hmem
            obtain ⟨hfa0, h⟩ := atB_ok h
            have hfa := addr_eq hfa0
            obtain ⟨⟨hgM, -⟩, ⟨⟨f1, f2, f3, f4, f5⟩, hm', zs, mt, mcs, msz, hz, hm⟩, hq⟩ := h.get
            have hmz : mem = ⟨gM.block, 5, bcells zs, m⟩ := by
              obtain ⟨x, y, z, u⟩ := mem
              simp only at mt mcs msz
              subst mt mcs msz
              rw [hgM]
            have hgM : gM = ⟨gM.block, 0, none⟩ := by rw [hgM]
            subst hm'
            have hF := hi.cell (z_get (Z := Z) (G := G) hfb) hcell
            rw [hgM] at hF
            have hmc : ∀ i, i < zs.length → w.cell? ⟨gM.block, 0 + i, none⟩ = some (.int .u8 (zs.getD i 0)) := fun i hi' => by
              have := hi.cell (zl (G := G) hmem) (off := i) (v := .int .u8 (zs.getD i 0)) (by rw [hmz, bcells_get _ _ hi'])
              rw [hmz] at this
              rw [Nat.zero_add]
              exact this
            rw [hfa]
            refine (grow_some fb.b fa.off gM.block m' _ x _ fb.t tv w zs hB (by simp; have := (List.getElem?_eq_some_iff.1 hcell).1; omega) hx f1 f2 f3 (by omega) f5 hF hz (by omega) (by omega) hmc).mono ?_
            rintro e w' ⟨g, W, hg, hb, hrow, rfl, rfl⟩
            refine ⟨_, _, _, rfl, hq g, grow_fin hi hfb hcell hb hg ?_⟩
            rw [hrow, rowOf_b, ← cutV_b, hmz]
          · exact h.elim
        · exact h.elim
      · exact h.elim
    · exact h.elim
  · exact h0.elim
def LaidFact (t : TypeId) (bc : List Value) (sz nb nb' : Nat) (z o n : Int) (l : Nat) : Prop := (t = 5 ∧ bc = zeroB nb ∧ sz = nb) ∧ nb' = nb ∧ n = Int.ofNat nb ∧ z = 0 ∧ 0 ≤ o ∧ o ≤ 100000 ∧ nb ≤ 100000
noncomputable def laidX : Spec := fun Z args Q s H => match args.toList with
  | [.slice (some gb) nb nb', .int .i64 z, .int .i64 o, .int .i64 n, .slice sa l c] => match H with
    | i :: j :: H1 => match nth (Z ++ s.M) i with
      | some base => match sa with
        | none => match l with
          | 0 => SameAd gb ⟨base.b, 0, none⟩ <| LaidFact base.t base.cs base.sz nb nb' z o n 0 ∧ ∀ b, Q (.slice (some ⟨b, 0, none⟩) nb nb) { s with N := (.tuple #[.pointer (some ⟨b, 0, none⟩), .agg (cutV [] o.toNat nb).toArray], 0) :: s.N } H1
          | _ => False
        | some ad => match winA s j with
          | some q => SameAd gb ⟨base.b, 0, none⟩ <| SameAd q.1 ad <| (LaidFact base.t base.cs base.sz nb nb' z o n l ∧ RowFact l q.2) ∧ ∀ b, Q (.slice (some ⟨b, 0, none⟩) nb nb) { s with N := (.tuple #[.pointer (some ⟨b, 0, none⟩), .agg (cutV q.2.toList o.toNat nb).toArray], 0) :: s.N } H1
          | none => False
      | none => False
    | _ => False
  | _ => False
theorem laidX_ok : SpecOK 58 laidX := by
  intro S w0 hS Z G args Q s H w h hi
  unfold laidX at h
  split at h
  · rename_i gb nb nb' z o n sa l c hargs
    rw [arr_eq hargs]
    split at h
    · rename_i i j H1
      split at h
      · rename_i base hbase
        rw [nth_eq] at hbase
        have fin : ∀ (zs : List Int) (bb off : Nat), zs.length = l → gb = ⟨base.b, 0, none⟩ → LaidFact base.t base.cs base.sz nb nb' z o n l → (0 < l → sa = some ⟨bb, off, none⟩) → (∀ i u, (bcells zs)[i]? = some u → w.cell? ⟨bb, off + i, none⟩ = some u) →
            (∀ b, Q (.slice (some ⟨b, 0, none⟩) nb nb) { s with N := (.tuple #[.pointer (some ⟨b, 0, none⟩), .agg (cutV (bcells zs) o.toNat nb).toArray], 0) :: s.N } H1) →
            Calls Sagg.prog 58 #[.slice (some gb) nb nb', .int .i64 z, .int .i64 o, .int .i64 n, .slice sa l c] w fun e w' => ∃ v s' H', e = .returned v ∧ Q v s' H' ∧ Inv (nmH S) w0 (s'.z Z G) w' := by
          rintro zs bb off hz hgb0 ⟨⟨mt, mcs, msz⟩, hnb, hn, hz0, ho, ho1, hnb1⟩ hs hc hq
          have hb1 : base = ⟨gb.block, 5, zeroB nb, nb⟩ := by
            obtain ⟨x, y, z, u⟩ := base
            simp only at mt mcs msz
            subst mt mcs msz
            rw [hgb0]
          have hgb : gb = ⟨gb.block, 0, none⟩ := by rw [hgb0]
          subst hnb
          subst hz0
          subst hn
          obtain ⟨O, rfl⟩ := Int.eq_ofNat_of_zero_le ho
          have hM : w.heap[gb.block]? = some (.cells (rowOf (zeros nb')) 5 (0, 0)) := by
            obtain ⟨_, rest, hr1, hr2⟩ := hi.mem base (List.mem_of_getElem? (zl (G := G) hbase))
            rw [hb1] at hr1 hr2
            simp [zeroB] at hr1
            obtain rfl : rest = [] := hr1
            rw [hr2]
            simp [zeroB, rowOf, zeros]
          rw [hgb]
          refine (laid_core gb.block sa bb off l c O nb' zs w (by omega) (by omega) hz hM hs (fun i hi' => hc i _ (by rw [bcells_get _ _ hi']))).mono ?_
          rintro e w' ⟨g, hg, rfl, hrow, hb⟩
          refine ⟨_, _, _, rfl, hq g, hi.addWin hb hg (t := 5) ?_⟩
          rw [hrow, rowOf_b, ← cutV_b]
          rfl
        split at h
        · split at h
          · obtain ⟨⟨hgb, -⟩, hf, hB⟩ := h.get
            exact fin [] 0 0 rfl hgb hf (fun h => by omega) (fun i u hu => by simp [bcells] at hu) hB
          · exact h.elim
        · rename_i ad
          split at h
          · rename_i q hq
            obtain ⟨⟨hgb, -⟩, h⟩ := h.get
            obtain ⟨⟨hqa, hsp⟩, ⟨hf, zs, hcs, hz, hn', hd⟩, hB⟩ := h.get
            have hc := winA_ok hq hi (by rw [hqa]; exact hsp)
            rw [hcs, hqa] at hc
            rw [hcs] at hB
            have ea : ad = ⟨ad.block, ad.off, none⟩ := by cases ad; cases hsp; rfl
            exact fin zs ad.block ad.off hz hgb hf (fun _ => by rw [← ea]) (fun i u hu => hc i u (by rw [List.getElem?_toArray]; exact hu)) hB
          · exact h.elim
      · exact h.elim
    · exact h.elim
  · exact h.elim
/-- Two rows that are the same. -/
noncomputable def equalX : Spec := fun Z args Q s H => match H with
  | [] => False
  | h :: H1 => match h with
    | 0 => equalN Z args Q s H1
    | _ => match args.toList with
      | [.slice (some a) n _, .slice (some b) m _] => match H1 with
        | i :: j :: H2 => match winA s i with
          | some p => match winA s j with
            | some q => SameAd p.1 a <| SameAd q.1 b <| (m = n ∧ RowFact n p.2 ∧ q.2 = p.2) ∧ Q (.bool true) s H2
            | none => False
          | none => False
        | _ => False
      | _ => False
theorem equalX_ok : SpecOK 23 equalX := by
  intro S w0 hS Z G args Q s H w h hi
  unfold equalX at h
  split at h
  · exact h.elim
  · split at h
    · exact equal_ok S w0 hS Z G args Q s _ w h hi
    · split at h
      · rename_i a n c b m c' hargs
        rw [arr_eq hargs]
        split at h
        · rename_i i j H2
          split at h
          · rename_i p hp
            split at h
            · rename_i q hq
              obtain ⟨⟨hpa, ha⟩, h⟩ := h.get
              obtain ⟨⟨hqb, hb⟩, ⟨hm, ⟨zs, hcs, hz, hn, hd⟩, hpq⟩, hB⟩ := h.get
              subst hm
              have hc1 := winA_ok hp hi (by rw [hpa]; exact ha)
              have hc2 := winA_ok hq hi (by rw [hqb]; exact hb)
              rw [hpa, hcs] at hc1
              rw [hqb, hpq, hcs] at hc2
              have ea : a = ⟨a.block, a.off, none⟩ := by cases a; cases ha; rfl
              have eb : b = ⟨b.block, b.off, none⟩ := by cases b; cases hb; rfl
              refine (equalBytes_calls (some a) (some b) m c m c' zs zs w hz hz ⟨hd, .inr ⟨a.block, a.off, by rw [← ea], fun i hi' => hc1 i _ (by rw [List.getElem?_toArray, bcells_get _ _ hi'])⟩⟩ ⟨hd, .inr ⟨b.block, b.off, by rw [← eb], fun i hi' => hc2 i _ (by rw [List.getElem?_toArray, bcells_get _ _ hi'])⟩⟩).mono ?_
              rintro e w' ⟨rfl, rfl⟩
              exact ⟨_, _, _, rfl, by rw [decide_eq_true rfl]; exact hB, hi⟩
            · exact h.elim
          · exact h.elim
        · exact h.elim
      · exact h.elim
end Go.Proofs.EX
