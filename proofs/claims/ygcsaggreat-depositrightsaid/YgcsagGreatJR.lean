/-
  ROWS OF UNKNOWN LENGTH: what the engine takes for 'cut' and 'write'.
-/
import Derived.Test.YgcsagGreatJS
namespace Go.Proofs.EX
open Go.RowKit Go.Proofs.YgcsagGreat
set_option linter.unusedVariables false
set_option linter.unusedSimpArgs false
/-- A byte of a row of cells; zero past its end. -/
def cellI (cs : List Value) (i : Nat) : Int := match cs[i]? with
  | some (.int _ n) => n
  | _ => 0
/-- n bytes from o. -/
def cutV (cs : List Value) (o n : Nat) : List Value := (List.range n).map fun i => Value.int .u8 (cellI cs (o + i))
theorem cellI_b (zs : List Int) (i : Nat) : cellI (bcells zs) i = zs.getD i 0 := by
  unfold cellI
  by_cases h : i < zs.length
  · rw [bcells_get _ _ h]
  · rw [List.getElem?_eq_none (by rw [bcells_length]; omega)]
    simp [List.getD_eq_getElem?_getD, show zs.length ≤ i by omega]
theorem cutV_b (zs : List Int) (o n : Nat) : cutV (bcells zs) o n = bcells (cutR zs o n) := by
  unfold cutV bcells cutR
  rw [List.map_map]
  apply List.map_congr_left
  intro i _
  show Value.int .u8 (cellI (bcells zs) (o + i)) = _
  rw [cellI_b]
  rfl
theorem cutR_len (zs : List Int) (o n : Nat) : (cutR zs o n).length = n := by simp [cutR]
theorem cutR_dig {zs : List Int} (h : Dig zs) (o n : Nat) : Dig (cutR zs o n) := by
  intro x hx
  obtain ⟨i, _, rfl⟩ := List.mem_map.1 hx
  exact h.getD _
theorem rowOf_b (zs : List Int) : rowOf zs = (bcells zs).toArray := rfl
def CutFact (o n : Int) (l c : Nat) : Prop := 0 ≤ o ∧ 0 ≤ n ∧ n ≤ 100000 ∧ l ≤ c ∧ l ≤ 100000
noncomputable def cutX : Spec := fun Z args Q s H => match args.toList with
  | [.slice (some ad) l c, ov, nv] => getN ov (fun o H => getN nv (fun n H => match H with
    | [] => False
    | h :: H1 => match h with
      | 0 => match l with
        | 0 => False
        | _ => readB Z (.slice (some ad) l c) (fun cl H => bytesN cl (fun r H => CutFact o n l c ∧ ∀ b, Q (.slice (some ⟨b, 0, none⟩) n.toNat n.toNat) { s with N := (.tuple #[.pointer (some ⟨b, 0, none⟩), .agg (cutV cl o.toNat n.toNat).toArray], 0) :: s.N } H) H) s H1
      | 1 => match l with
        | 0 => False
        | _ => readB Z (.slice (some ad) l c) (fun cl H => bytesN cl (fun r H => CutFact o n l c ∧ ∀ b, Q (.slice (some ⟨b, 0, none⟩) n.toNat n.toNat) { s with M := ⟨b, 5, cutV cl o.toNat n.toNat, n.toNat⟩ :: s.M } H) H) s H1
      | _ => match H1 with
        | [] => False
        | j :: H2 => match winA s j with
          | some q => SameAd q.1 ad <| (RowFact l q.2 ∧ CutFact o n l c) ∧ ∀ b, Q (.slice (some ⟨b, 0, none⟩) n.toNat n.toNat) { s with N := (.tuple #[.pointer (some ⟨b, 0, none⟩), .agg (cutV q.2.toList o.toNat n.toNat).toArray], 0) :: s.N } H2
          | none => False) s H) s H
  | _ => False
theorem cutX_ok : SpecOK 136 cutX := by
  intro S w0 hS Z G args Q s H w h hi
  unfold cutX at h
  split at h
  · rename_i ad l c ov nv hargs
    rw [arr_eq hargs]
    obtain ⟨o, H1, h1, ho⟩ := getN_ok h hi
    clear h
    obtain ⟨n, H2, h, hn⟩ := getN_ok h1 hi
    clear h1
    have fin : ∀ (zs : List Int) Hq, zs.length = l → Dig zs → CutFact o n l c → (∀ i u, (bcells zs)[i]? = some u → w.cell? ⟨ad.block, ad.off + i, none⟩ = some u) → ad.spot = none →
        (∀ b, Q (.slice (some ⟨b, 0, none⟩) n.toNat n.toNat) { s with N := (.tuple #[.pointer (some ⟨b, 0, none⟩), .agg (cutV (bcells zs) o.toNat n.toNat).toArray], 0) :: s.N } Hq) →
        Calls Sagg.prog 136 #[.slice (some ad) l c, ov, nv] w fun e w' => ∃ v s' H', e = .returned v ∧ Q v s' H' ∧ Inv (nmH S) w0 (s'.z Z G) w' := by
      intro zs Hq hz hd hf hc hsp hq
      obtain ⟨f1, f2, f3, f4, f5⟩ := hf
      obtain ⟨O, rfl⟩ := Int.eq_ofNat_of_zero_le f1
      obtain ⟨N, rfl⟩ := Int.eq_ofNat_of_zero_le f2
      have ea : ad = ⟨ad.block, ad.off, none⟩ := by cases ad; cases hsp; rfl
      rw [ea]
      refine (cut_core ad.block ad.off l c O N (min N (l - O)) zs ov nv w rfl hz f4 (by omega) (by omega) ho hn (fun i hi' => hc i _ (by rw [bcells_get _ _ hi']))).mono ?_
      rintro e w' ⟨g, hg, rfl, hrow, hb⟩
      refine ⟨_, _, _, rfl, hq g, hi.addWin hb hg (t := 5) ?_⟩
      rw [hrow, rowOf_b, ← cutV_b]
      rfl
    have fin2 : ∀ (zs : List Int) Hq, zs.length = l → Dig zs → CutFact o n l c → (∀ i u, (bcells zs)[i]? = some u → w.cell? ⟨ad.block, ad.off + i, none⟩ = some u) → ad.spot = none →
        (∀ b, Q (.slice (some ⟨b, 0, none⟩) n.toNat n.toNat) { s with M := ⟨b, 5, cutV (bcells zs) o.toNat n.toNat, n.toNat⟩ :: s.M } Hq) →
        Calls Sagg.prog 136 #[.slice (some ad) l c, ov, nv] w fun e w' => ∃ v s' H', e = .returned v ∧ Q v s' H' ∧ Inv (nmH S) w0 (s'.z Z G) w' := by
      intro zs Hq hz hd hf hc hsp hq
      obtain ⟨f1, f2, f3, f4, f5⟩ := hf
      obtain ⟨O, rfl⟩ := Int.eq_ofNat_of_zero_le f1
      obtain ⟨N, rfl⟩ := Int.eq_ofNat_of_zero_le f2
      have ea : ad = ⟨ad.block, ad.off, none⟩ := by cases ad; cases hsp; rfl
      rw [ea]
      refine (cut_core ad.block ad.off l c O N (min N (l - O)) zs ov nv w rfl hz f4 (by omega) (by omega) ho hn (fun i hi' => hc i _ (by rw [bcells_get _ _ hi']))).mono ?_
      rintro e w' ⟨g, hg, rfl, hrow, hb⟩
      refine ⟨_, _, _, rfl, hq g, hi.addBlk hb hg (by simp [cutV]) ?_⟩
      rw [hrow, rowOf_b, ← cutV_b]
      rfl
    split at h
    · exact h.elim
    · split at h
      · split at h
        · exact h.elim
        · rename_i hl0
          obtain ⟨a2, n2, c2, cl, H3, e, hl, hrow, hA⟩ := readB_ok h hi
          obtain ⟨r, H4, hr, hd, hf, hB⟩ := bytesN_ok hA
          simp only [Value.slice.injEq] at e
          obtain ⟨rfl, rfl, rfl⟩ := e
          have hbc : cl = bcells r := hr
          rw [hbc] at hB hrow hl
          rcases hrow with h0 | ⟨b, off, hab, hc⟩
          · rw [h0] at hl
            exact absurd hl.symm hl0
          · have hab := Option.some.inj hab
            exact fin r _ (by rw [bcells_length] at hl; exact hl) hd hf (by rw [hab]; exact hc) (by rw [hab]) hB
      · split at h
        · exact h.elim
        · rename_i hl0
          obtain ⟨a2, n2, c2, cl, H3, e, hl, hrow, hA⟩ := readB_ok h hi
          obtain ⟨r, H4, hr, hd, hf, hB⟩ := bytesN_ok hA
          simp only [Value.slice.injEq] at e
          obtain ⟨rfl, rfl, rfl⟩ := e
          have hbc : cl = bcells r := hr
          rw [hbc] at hB hrow hl
          rcases hrow with h0 | ⟨b, off, hab, hc⟩
          · rw [h0] at hl
            exact absurd hl.symm hl0
          · have hab := Option.some.inj hab
            exact fin2 r _ (by rw [bcells_length] at hl; exact hl) hd hf (by rw [hab]; exact hc) (by rw [hab]) hB
      · split at h
        · exact h.elim
        · split at h
          · rename_i q hq
            obtain ⟨⟨hqa, hsp⟩, ⟨⟨zs, hcs, hz, hn', hd⟩, hf⟩, hB⟩ := h.get
            have hc := winA_ok hq hi (by rw [hqa]; exact hsp)
            rw [hcs, hqa] at hc
            rw [hcs] at hB
            exact fin zs _ hz hd hf (fun i u hu => hc i u (by rw [List.getElem?_toArray]; exact hu)) hsp hB
          · exact h.elim
  · exact h.elim
/-- A known block is turned, and nothing else that is old. -/
theorem Inv.setX {nm : World → Value → Int → Prop} {w0 w w' : World} {s : St} {Z G : List Blk} {k : Nat} {blk : Blk} {cs : List Value} (h : Inv nm w0 (s.z Z G) w) (hk : s.M[k]? = some blk) (hb : BelowX blk.b w w') (hlen : cs.length = blk.sz) (hrow : w'.heap[blk.b]? = some (.cells cs.toArray blk.t (0, 0))) : Inv nm w0 (({ s with M := s.M.set k { blk with cs := cs } } : St).z Z G) w' := by
  have hz := z_get (Z := Z) (G := G) hk
  rw [← z_set hk]
  have hmem : blk ∈ (s.z Z G).M := List.mem_of_getElem? hz
  have hb0 := (h.mem blk hmem).1
  have hset : ∀ x ∈ (s.z Z G).M.set (Z.length + k) { blk with cs := cs }, x = { blk with cs := cs } ∨ (x ∈ (s.z Z G).M ∧ x.b ≠ blk.b) := by
    intro x hx
    obtain ⟨j, hj⟩ := List.getElem?_of_mem hx
    rw [List.getElem?_set] at hj
    have hilt := (List.getElem?_eq_some_iff.1 hz).1
    by_cases e : Z.length + k = j
    · rw [if_pos e, if_pos hilt] at hj
      exact .inl (Option.some.inj hj).symm
    · rw [if_neg e] at hj
      refine .inr ⟨List.mem_of_getElem? hj, ?_⟩
      have hp := List.pairwise_iff_getElem.1 h.apart
      have hjlt := (List.getElem?_eq_some_iff.1 hj).1
      have e1 : (s.z Z G).M[Z.length + k] = blk := (List.getElem?_eq_some_iff.1 hz).2
      have e2 : (s.z Z G).M[j] = x := (List.getElem?_eq_some_iff.1 hj).2
      rcases Nat.lt_or_ge (Z.length + k) j with hlt | hge
      · have := hp _ _ hilt hjlt hlt
        rw [e1, e2] at this
        exact fun e => this e.symm
      · have := hp _ _ hjlt hilt (by omega)
        rw [e1, e2] at this
        exact this
  refine ⟨⟨hb.os.trans h.below.os, hb.tape.trans h.below.tape, hb.output.trans h.below.output, Nat.le_trans h.below.size hb.size, fun x hx => ?_⟩, ?_, ?_, ?_, h.rd⟩
  · have := h.below.size
    rw [hb.block x (by omega) (by omega)]
    exact h.below.block x hx
  · intro x hx
    rcases hset x hx with rfl | ⟨hx, hne⟩
    · exact ⟨hb0, [], by simpa using hlen, by simpa using hrow⟩
    · obtain ⟨h1, rest, h2, h3⟩ := h.mem x hx
      exact ⟨h1, rest, h2, by rw [hb.block x.b (h.mem x hx).lt hne]; exact h3⟩
  · have hp := h.apart
    have hm : ((s.z Z G).M.set (Z.length + k) { blk with cs := cs }).map Blk.b = (s.z Z G).M.map Blk.b := by
      rw [List.map_set]
      apply List.ext_getElem?
      intro j
      rw [List.getElem?_set]
      by_cases e : Z.length + k = j
      · subst e
        rw [if_pos rfl, if_pos (by simpa using (List.getElem?_eq_some_iff.1 hz).1), List.getElem?_map, hz]
        rfl
      · rw [if_neg e]
    rw [← List.pairwise_map (f := Blk.b) (R := fun x y => x ≠ y)] at hp ⊢
    rw [hm]
    exact hp
  · intro p hp w2 hsz hsame
    refine h.num p hp w2 (Nat.le_trans hb.size hsz) (fun b hlt hkn => ?_)
    have hne : b ≠ blk.b := fun e => hkn blk hmem e.symm
    rw [hsame b (Nat.lt_of_lt_of_le hlt hb.size) (fun x hx => ?_), hb.block b hlt hne]
    rcases hset x hx with rfl | ⟨hx, _⟩
    · exact fun e => hne e.symm
    · exact hkn x hx
def WriteFact (d : Int) (l m m' : Nat) (cs : Array Value) (t : TypeId) (mc : List Value) (sz : Nat) : Prop := d = 0 ∧ m' = m ∧ RowFact l cs ∧ (l ≤ m ∧ 0 < m ∧ m ≤ 100000) ∧ t = 5 ∧ mc = zeroB m ∧ sz = m
noncomputable def writeX : Spec := fun Z args Q s H => match args.toList with
  | [.pointer (some fa), dv, .slice (some ad) l c] => getN dv (fun d H => match H with
    | i :: k :: j :: H1 => match nth (Z ++ s.M) i with
      | some fb => match nth fb.cs (fa.off + 9) with
        | some (.slice (some gM) m m') => match nth s.M k with
          | some mem => match winA s j with
            | some q => atB fa fb.b <| SameAd gM ⟨mem.b, 0, none⟩ <| SameAd q.1 ad <| WriteFact d l m m' q.2 mem.t mem.cs mem.sz ∧ Q (.tuple #[]) { s with M := setNth s.M k { mem with cs := cutV q.2.toList 0 m } } H1
            | none => False
          | none => False
        | _ => False
      | none => False
    | _ => False) s H
  | _ => False
theorem writeX_ok : SpecOK 132 writeX := by
  intro S w0 hS Z G args Q s H w h hi
  unfold writeX at h
  split at h
  · rename_i fa dv ad l c hargs
    rw [arr_eq hargs]
    obtain ⟨d, H1, h1, hd⟩ := getN_ok h hi
    clear h
    have h := h1
    clear h1
    split at h
    · rename_i i k j H2
      split at h
      · rename_i fb hfb
        rw [nth_eq] at hfb
        split at h
        · rename_i gM m m' hcell
          rw [nth_eq] at hcell
          split at h
          · rename_i mem hmem
            rw [nth_eq] at hmem
            split at h
            · rename_i q hq
              obtain ⟨hfa0, h⟩ := atB_ok h
              have hfa := addr_eq hfa0
              obtain ⟨⟨hgM, -⟩, h⟩ := h.get
              obtain ⟨⟨hqa, hsp⟩, ⟨hd0, hmm, ⟨zs, hcs, hz, hn, hdg⟩, ⟨h1, h2, h3⟩, mt, mcs, msz⟩, hB⟩ := h.get
              have hm : mem = ⟨gM.block, 5, zeroB m, m⟩ := by
                obtain ⟨x, y, z, u⟩ := mem
                simp only at mt mcs msz
                subst mt mcs msz
                rw [hgM]
              have hgM : gM = ⟨gM.block, 0, none⟩ := by rw [hgM]
              subst hqa
              subst hd0
              subst hmm
              rw [setNth_eq] at hB
              have hc := winA_ok hq hi hsp
              have ea : q.1 = ⟨q.1.block, q.1.off, none⟩ := by
                obtain ⟨⟨x, y, z⟩, cs⟩ := q
                simp at hsp
                subst hsp
                rfl
              have hF := hi.cell (zl (G := G) hfb) hcell
              have hM : w.heap[gM.block]? = some (.cells (rowOf (zeros m')) 5 (0, 0)) := by
                obtain ⟨_, rest, hr1, hr2⟩ := hi.mem mem (List.mem_of_getElem? (z_get (Z := Z) (G := G) hmem))
                rw [hm] at hr1 hr2
                simp [zeroB] at hr1
                obtain rfl : rest = [] := hr1
                rw [hr2]
                simp [zeroB, rowOf, zeros]
              rw [hfa, ea]
              rw [hgM] at hF
              refine (write_core fb.b fa.off gM.block m' q.1.block q.1.off l c zs dv w h2 (by omega) hz h1 hM hF hd (fun i hi' => hc i _ (by rw [hcs, List.getElem?_toArray, bcells_get _ _ hi']))).mono ?_
              rintro e w' ⟨rfl, hb, hrow⟩
              have hmb : mem.b = gM.block := by rw [hm]
              refine ⟨_, _, _, rfl, hB, hi.setX hmem (by rw [hmb]; exact hb) ?_ ?_⟩
              · rw [hm]; simp [cutV]
              · rw [hmb, hrow, hcs, rowOf_b, ← cutV_b, hm]
            · exact h.elim
          · exact h.elim
        · exact h.elim
      · exact h.elim
    · exact h.elim
  · exact h.elim
end Go.Proofs.EX
