/-
  ROWS OF UNKNOWN LENGTH: what the engine takes for 'copyBytes', 'bytesOf', 'U64'.
-/
import Derived.Test.YgcsagGreatJW
namespace Go.Proofs.YgcsagGreat
open Go.RowKit
set_option linter.unusedVariables false
set_option linter.unusedSimpArgs false
def post0 (v : Value) (w : World) : Ending → World → Prop := fun e w' => e = .returned v ∧ Below w.heap.size w w'
set_option maxRecDepth 100000 in
set_option maxHeartbeats 8000000 in
theorem nil25_core (n c : Nat) (zs : List Int) (w : World) : Calls Sagg.prog 25 #[.slice none n c] w (post0 (.slice none 0 0) w) := by
  refine CX_calls (tips17 n zs w) {} (by kernel_rfl) Sagg.func25 rfl _ rfl (by kernel_rfl) ?_
  refine of_eq (p := (post0 (.slice none 0 0) w) (Ending.returned (Value.slice none 0 0)) w) (by kernel_rfl) ?_
  exact ⟨rfl, Below.refl _ _⟩

set_option maxRecDepth 100000 in
set_option maxHeartbeats 8000000 in
theorem nil50_core (n c : Nat) (zs : List Int) (w : World) : Calls Sagg.prog 50 #[.slice none n c] w (post0 (.slice none 0 0) w) := by
  refine CX_calls (tips17 n zs w) {} (by kernel_rfl) Sagg.func50 rfl _ rfl (by kernel_rfl) ?_
  refine of_eq (p := (post0 (.slice none 0 0) w) (Ending.returned (Value.slice none 0 0)) w) (by kernel_rfl) ?_
  exact ⟨rfl, Below.refl _ _⟩


end Go.Proofs.YgcsagGreat
namespace Go.Proofs.EX
open Go.RowKit Go.Proofs.YgcsagGreat
set_option linter.unusedVariables false
set_option linter.unusedSimpArgs false
/-- A new block is known. -/
theorem Inv.addBlk {nm : World → Value → Int → Prop} {w0 w w' : World} {s : St} {Z G : List Blk} {g : Nat} {t : TypeId} {l : List Value} {n : Nat} (h : Inv nm w0 (s.z Z G) w) (hb : Below w.heap.size w w') (hg : w.heap.size ≤ g) (hn : l.length = n) (hrow : w'.heap[g]? = some (.cells l.toArray t (0, 0))) : Inv nm w0 (({ s with M := ⟨g, t, l, n⟩ :: s.M } : St).z Z G) w' := by
  have h' := h.later hb
  refine z_cons ⟨h'.below, ?_, ?_, ?_, h'.rd⟩
  · intro k hk
    rcases List.mem_cons.1 hk with rfl | hk
    · exact ⟨Nat.le_trans h.below.size hg, [], by simpa using hn, by simpa using hrow⟩
    · exact h'.mem k hk
  · refine List.pairwise_cons.2 ⟨fun k hk => ?_, h'.apart⟩
    have := (h.mem k hk).lt
    show g ≠ k.b
    omega
  · intro p hp w2 hsz hsame
    refine h.num p hp w2 (Nat.le_trans hb.size hsz) (fun b hlt hk => ?_)
    rw [hsame b (Nat.lt_of_lt_of_le hlt hb.size) (fun k hk' => ?_), hb.block b hlt]
    rcases List.mem_cons.1 hk' with rfl | hk'
    · show g ≠ b
      omega
    · exact hk k hk'
/-- A new row is known by a window. -/
theorem Inv.addWin {S : Nat → Prop} {w0 w w' : World} {s : St} {Z G : List Blk} {g : Nat} {t : TypeId} {cs : Array Value} (h : Inv (nmH S) w0 (s.z Z G) w) (hb : Below w.heap.size w w') (hg : w.heap.size ≤ g) (hrow : w'.heap[g]? = some (.cells cs t (0, 0))) : Inv (nmH S) w0 (({ s with N := (.tuple #[.pointer (some ⟨g, 0, none⟩), .agg cs], 0) :: s.N } : St).z Z G) w' := by
  have h' := h.later hb
  refine ⟨h'.below, h'.mem, h'.apart, ?_, h'.rd⟩
  intro p hp
  rcases List.mem_cons.1 hp with rfl | hp
  · intro w2 hsz hsame b o cs2 e j u hu
    cases e
    have hlt : g < w'.heap.size := (Array.getElem?_eq_some_iff.1 hrow).1
    have hne : ∀ k ∈ (s.z Z G).M, k.b ≠ g := fun k hk => by
      have := (h.mem k hk).lt
      omega
    have e2 := hsame g hlt hne
    unfold World.cell?
    simp only [Nat.zero_add]
    rw [e2, hrow]
    simpa using hu
  · exact h'.num p hp
/-- A window among the facts. -/
noncomputable def winA (s : St) (j : Nat) : Option (Addr × Array Value) := match nth s.N j with
  | some p => match p.1 with
    | .tuple vs => match vs.toList with
      | [.pointer (some a), .agg cs] => some (a, cs)
      | _ => none
    | _ => none
  | none => none
theorem winA_ok {S : Nat → Prop} {w0 w : World} {s : St} {Z G : List Blk} {j : Nat} {q : Addr × Array Value} (h : winA s j = some q) (hi : Inv (nmH S) w0 (s.z Z G) w) (hs : q.1.spot = none) : ∀ i u, q.2[i]? = some u → w.cell? ⟨q.1.block, q.1.off + i, none⟩ = some u := by
  unfold winA at h
  split at h
  · rename_i p hp
    split at h
    · rename_i vs hvs
      split at h
      · rename_i a cs hl
        cases h
        rw [nth_eq] at hp
        have hnow := hi.now (show p ∈ (s.z Z G).N from List.mem_of_getElem? hp)
        rw [hvs] at hnow
        have ea : a = ⟨a.block, a.off, none⟩ := by cases a; cases hs; rfl
        exact hnow a.block a.off cs (by rw [arr_eq hl, ← ea])
      · cases h
    · cases h
  · cases h
/-- A copy of a row. -/
noncomputable def rowCX : Spec := fun Z args Q s H => match args.toList with
  | [.slice a n c] => match H with
    | [] => False
    | h :: H1 => match h with
      | 0 => match a with
        | none => Q (.slice none 0 0) s H1
        | some _ => False
      | 1 => match a with
        | none => False
        | some _ => match Nat.ble n 4096 with
          | false => False
          | true => readB Z (.slice a n c) (fun l H => bytesN l (fun r H => ∀ b, Q (.slice (some ⟨b, 0, none⟩) n n) { s with M := ⟨b, 5, l, n⟩ :: s.M } H) H) s H1
      | _ => match a with
        | none => False
        | some ad => match H1 with
          | [] => False
          | j :: H2 => match winA s j with
            | some q => SameAd q.1 ad <| RowFact n q.2 ∧ ∀ b, Q (.slice (some ⟨b, 0, none⟩) n n) { s with N := (.tuple #[.pointer (some ⟨b, 0, none⟩), .agg q.2], 0) :: s.N } H2
            | none => False
  | _ => False
theorem rowCX_ok {f : FuncId} (hnil : ∀ (n c : Nat) (w : World), Calls Sagg.prog f #[.slice none n c] w (post0 (.slice none 0 0) w)) (hsome : ∀ (p : Addr) (n c : Nat) (zs : List Int) (w : World), zs.length = n → n ≤ 281474976710000 → ByteRow w (some p) zs → Calls Sagg.prog f #[.slice (some p) n c] w (post25 zs n w)) : SpecOK f rowCX := by
  intro S w0 hS Z G args Q s H w h hi
  unfold rowCX at h
  split at h
  · rename_i a n c hargs
    rw [arr_eq hargs]
    split at h
    · exact h.elim
    · split at h
      · split at h
        · refine (hnil n c w).mono ?_
          rintro e w' ⟨rfl, hb⟩
          exact ⟨_, _, _, rfl, h, hi.later hb⟩
        · exact h.elim
      · split at h
        · exact h.elim
        · rename_i ad
          split at h
          · exact h.elim
          · rename_i hn
            have hn := Nat.le_of_ble_eq_true hn
            obtain ⟨a2, n2, c2, l, H1, e, hl, hrow, h⟩ := readB_ok h hi
            cases e
            obtain ⟨r, H2, hr, hd, h⟩ := bytesN_ok h
            have hlen : r.length = n := by rw [← hl, hr, List.length_map]
            refine (hsome ad n c r w hlen (by omega) (byteRow_of hr hd hrow)).mono ?_
            rintro e w' ⟨rfl, hb, hrw⟩
            refine ⟨_, _, _, rfl, h w.heap.size, hi.addBlk hb (Nat.le_refl _) hl ?_⟩
            rw [hrw, hr]
            rfl
      · split at h
        · exact h.elim
        · rename_i ad
          split at h
          · exact h.elim
          · split at h
            · rename_i q hq
              obtain ⟨⟨hqa, hsp⟩, ⟨zs, hcs, hz, hn, hd⟩, hB⟩ := h.get
              subst hqa
              have hc := winA_ok hq hi hsp
              have ea : q.1 = ⟨q.1.block, q.1.off, none⟩ := by
                obtain ⟨⟨x, y, z⟩, cs⟩ := q
                simp at hsp
                subst hsp
                rfl
              refine (hsome q.1 n c zs w hz (by omega) ⟨hd, .inr ⟨q.1.block, q.1.off, by rw [← ea], fun i hi' => hc i _ (by rw [hcs, List.getElem?_toArray, bcells_get _ _ hi'])⟩⟩).mono ?_
              rintro e w' ⟨rfl, hb, hrw⟩
              refine ⟨_, _, _, rfl, hB w.heap.size, hi.addWin hb (Nat.le_refl _) (t := 5) ?_⟩
              rw [hrw, hcs]
              rfl
            · exact h.elim
  · exact h.elim
theorem copy25_ok : SpecOK 25 rowCX := rowCX_ok (fun n c w => nil25_core n c [] w) (fun p n c zs w h1 h2 h3 => copyB_core p n c zs w h1 h2 h3)
theorem copy50_ok : SpecOK 50 rowCX := rowCX_ok (fun n c w => nil50_core n c [] w) (fun p n c zs w h1 h2 h3 => bytesB_core p n c zs w h1 h2 h3)
/-- 'U64': at hint 0 the kernel sees the number; 1: it is owed that it fits; i + 2: that it is i. -/
def u64X : Spec := fun Z args Q s H => match args.toList with
  | [x] => getN x (fun m H => match H with
    | [] => False
    | h :: H1 => match h with
      | 0 => match ltB m 18446744073709551616 with
        | true => Q (.tuple #[.int .u64 m, .bool true]) s H1
        | false => False
      | 1 => m < 18446744073709551616 ∧ Q (.tuple #[.int .u64 m, .bool true]) s H1
      | i + 2 => (m = Int.ofNat i ∧ m < 18446744073709551616) ∧ Q (.tuple #[.int .u64 (Int.ofNat i), .bool true]) s H1) s H
  | _ => False
theorem u64X_ok : SpecOK 101 u64X := by
  intro S w0 hS Z G args Q s H w h hi
  unfold u64X at h
  split at h
  · rename_i x hargs
    rw [arr_eq hargs]
    obtain ⟨m, H1, h, hm⟩ := getN_ok h hi
    have fin : ∀ Hq, m < 18446744073709551616 → Q (.tuple #[.int .u64 m, .bool true]) s Hq → Calls Sagg.prog 101 #[x] w fun e w' => ∃ v s' H', e = .returned v ∧ Q v s' H' ∧ Inv (nmH S) w0 (s'.z Z G) w' := by
      intro Hq hlt hq
      obtain ⟨xs, a, ca, rfl, h1, h2, h3, h4, rfl, h6, h7, -⟩ := nmN_open hm
      refine (u64_small a _ ca xs w rfl h1 h2 h3 (by rw [trim_norm h3.1 h4]; exact norm_len h3.1 h4 hlt)).mono ?_
      rintro e w' ⟨rfl, n, rfl⟩
      exact ⟨_, _, _, rfl, hq, hi.later (drew_below w n)⟩
    split at h
    · exact h.elim
    · split at h
      · split at h
        · rename_i hlt
          rw [ltB_eq] at hlt
          exact fin _ (of_decide_eq_true hlt) h
        · exact h.elim
      · exact fin _ h.1 h.2
      · obtain ⟨⟨e, hlt⟩, h⟩ := h
        rw [← e] at h
        exact fin _ hlt h
  · exact h.elim
end Go.Proofs.EX
