/-
  THE ARGUMENTS' TYPES OPENED.
-/
import Derived.Test.YgcsagRead
import Derived.Test.YgcsagSameE
namespace Go.Proofs.Ygcsag
open Go.RowKit
set_option linter.unusedSimpArgs false

theorem Read.field {P : Program} {w : World} {t : TypeId} {cs : List Value} {fs : Array Field} (ht : P.underlying t = some (.struct fs)) (h : Read P w t cs) (i : Nat) (f : Field) (hf : fs[i]? = some f) (c : Nat) (hc : P.cellsOf f.type = c) :
    Read P w f.type ((cs.drop f.offset).take c) := by
  have := (h.struct ht).2 i f hf
  rwa [hc] at this

theorem cut_at {cs x : List Value} (o c n : Nat) (hn : o + c = n) (hx : (cs.drop o).take c = x) : cs.drop o = x ++ cs.drop n := by
  rw [← hx, ← hn, ← List.drop_drop, List.take_append_drop]

theorem cellsOf5 : Sagg.prog.cellsOf 5 = 1 := by kernel_rfl
theorem cellsOf46 : Sagg.prog.cellsOf 46 = 20 := by kernel_rfl
theorem cellsOf60 : Sagg.prog.cellsOf 60 = 32 := by kernel_rfl
theorem cellsOf108 : Sagg.prog.cellsOf 108 = 64 := by kernel_rfl
theorem cellsOf91 : Sagg.prog.cellsOf 91 = 55 := by kernel_rfl
theorem cellsOf85 : Sagg.prog.cellsOf 85 = 22 := by kernel_rfl
theorem cellsOf48 : Sagg.prog.cellsOf 48 = 25 := by kernel_rfl
theorem cellsOf51 : Sagg.prog.cellsOf 51 = 50 := by kernel_rfl

theorem open22 {w : World} {cs : List Value} (h : Read Sagg.prog w 22 cs) : ∃ a len cap zs, cs = [.slice a len cap] ∧ len ≤ cap ∧ cap ≤ maxLen ∧ zs.length = len ∧ ByteRow w a zs :=
  h.byteSlice Sagg.underlying22 Sagg.underlying5 cellsOf5
theorem open46 {w : World} {cs : List Value} (h : Read Sagg.prog w 46 cs) : ∃ zs, cs = bcells zs ∧ zs.length = 20 ∧ Dig zs := h.bytes Sagg.underlying46 Sagg.underlying5 cellsOf5 cellsOf46
theorem open60 {w : World} {cs : List Value} (h : Read Sagg.prog w 60 cs) : ∃ zs, cs = bcells zs ∧ zs.length = 32 ∧ Dig zs := h.bytes Sagg.underlying60 Sagg.underlying5 cellsOf5 cellsOf60
theorem open49 {w : World} {cs : List Value} (h : Read Sagg.prog w 49 cs) : ∃ a len cap zs, cs = [.slice a len cap] ∧ len ≤ cap ∧ cap ≤ maxLen ∧ zs.length = 32 * len ∧ ByteRow w a zs :=
  h.flat Sagg.underlying49 cellsOf60 (by omega) (fun cs hcs => by obtain ⟨zs, h1, _, h3⟩ := open60 hcs; exact ⟨zs, h1, h3⟩)

theorem open108 {w : World} {cs : List Value} (h : Read Sagg.prog w 108 cs) : ∃ zs, cs = bcells zs ∧ Dig zs := by
  have h0 : Read Sagg.prog w 60 ((cs.drop 0).take 32) := h.field Sagg.underlying108 0 _ rfl 32 cellsOf60
  have h1 : Read Sagg.prog w 60 ((cs.drop 32).take 32) := h.field Sagg.underlying108 1 _ rfl 32 cellsOf60
  have hl := (h.struct Sagg.underlying108).1
  rw [cellsOf108] at hl
  obtain ⟨x, hx, lx, dx⟩ := open60 h0
  obtain ⟨y, hy, ly, dy⟩ := open60 h1
  have e : cs.drop 0 = bcells x ++ (bcells y ++ cs.drop 64) := by rw [cut_at 0 32 32 rfl hx, cut_at 32 32 64 rfl hy]
  rw [List.drop_zero, List.drop_eq_nil_of_le (i := 64) (by omega), List.append_nil] at e
  exact ⟨x ++ y, by rw [e]; simp [bcells], fun n hn => (List.mem_append.1 hn).elim (dx n) (dy n)⟩
theorem open89 {w : World} {cs : List Value} (h : Read Sagg.prog w 89 cs) : ∃ a len cap zs, cs = [.slice a len cap] ∧ len ≤ cap ∧ cap ≤ maxLen ∧ zs.length = 64 * len ∧ ByteRow w a zs :=
  h.flat Sagg.underlying89 cellsOf108 (by omega) (fun cs hcs => open108 hcs)

theorem open85 {w : World} {cs : List Value} (h : Read Sagg.prog w 85 cs) : ∃ L, IsLog w cs L := by
  have h0 : Read Sagg.prog w 46 ((cs.drop 0).take 20) := h.field Sagg.underlying85 0 _ rfl 20 cellsOf46
  have h1 : Read Sagg.prog w 49 ((cs.drop 20).take 1) := h.field Sagg.underlying85 1 _ rfl 1 (by kernel_rfl)
  have h2 : Read Sagg.prog w 22 ((cs.drop 21).take 1) := h.field Sagg.underlying85 2 _ rfl 1 (by kernel_rfl)
  have hl := (h.struct Sagg.underlying85).1
  rw [cellsOf85] at hl
  obtain ⟨x, hx, lx, dx⟩ := open46 h0
  obtain ⟨ta, tn, tc, ts, hy, t1, t2, t3, t4⟩ := open49 h1
  obtain ⟨da, dn, dc, dd, hz, d1, d2, d3, d4⟩ := open22 h2
  have e : cs.drop 0 = bcells x ++ ([.slice ta tn tc] ++ ([.slice da dn dc] ++ cs.drop 22)) := by rw [cut_at 0 20 20 rfl hx, cut_at 20 1 21 rfl hy, cut_at 21 1 22 rfl hz]
  rw [List.drop_zero, List.drop_eq_nil_of_le (i := 22) (by omega), List.append_nil] at e
  exact ⟨⟨x, ts, dd⟩, ta, tn, tc, da, dn, dc, e, lx, dx, t3, by unfold maxLen at t2; omega, t4, d3, d4⟩
theorem open44 {w : World} {cs : List Value} (h : Read Sagg.prog w 44 cs) : ∃ a len cap, ∃ l : List LogD, cs = [.slice a len cap] ∧ len ≤ cap ∧ cap ≤ maxLen ∧ l.length = len ∧ IsLogs w a l :=
  h.rows (p := IsLog w) Sagg.underlying44 cellsOf85 (by omega) (fun cs hcs => open85 hcs)

theorem open91 {w : World} {cs : List Value} (h : Read Sagg.prog w 91 cs) : ∃ A, ∃ ca cn cc sa sn sc, IsAcc w cs A ca cn cc sa sn sc := by
  have h0 : Read Sagg.prog w 46 ((cs.drop 0).take 20) := h.field Sagg.underlying91 0 _ rfl 20 cellsOf46
  have h1 : Read Sagg.prog w 31 ((cs.drop 20).take 1) := h.field Sagg.underlying91 1 _ rfl 1 (by kernel_rfl)
  have h2 : Read Sagg.prog w 60 ((cs.drop 21).take 32) := h.field Sagg.underlying91 2 _ rfl 32 cellsOf60
  have h3 : Read Sagg.prog w 22 ((cs.drop 53).take 1) := h.field Sagg.underlying91 3 _ rfl 1 (by kernel_rfl)
  have h4 : Read Sagg.prog w 89 ((cs.drop 54).take 1) := h.field Sagg.underlying91 4 _ rfl 1 (by kernel_rfl)
  have hl := (h.struct Sagg.underlying91).1
  rw [cellsOf91] at hl
  obtain ⟨x, hx, lx, dx⟩ := open46 h0
  obtain ⟨n, hn, _⟩ := h1.int Sagg.underlying31
  obtain ⟨y, hy, ly, dy⟩ := open60 h2
  obtain ⟨ta, tn, tc, ts, ht, t1, t2, t3, t4⟩ := open22 h3
  obtain ⟨da, dn, dc, dd, hz, d1, d2, d3, d4⟩ := open89 h4
  have e : cs.drop 0 = bcells x ++ ([.int .u64 n] ++ (bcells y ++ ([.slice ta tn tc] ++ ([.slice da dn dc] ++ cs.drop 55)))) := by
    rw [cut_at 0 20 20 rfl hx, cut_at 20 1 21 rfl hn, cut_at 21 32 53 rfl hy, cut_at 53 1 54 rfl ht, cut_at 54 1 55 rfl hz]
  rw [List.drop_zero, List.drop_eq_nil_of_le (i := 55) (by omega), List.append_nil] at e
  exact ⟨⟨x, n, y, ts, dd⟩, ta, tn, tc, da, dn, dc, e, lx, dx, ly, dy, t3, t4, d3, d4, by unfold maxLen at d2; omega⟩
theorem open53 {w : World} {cs : List Value} (h : Read Sagg.prog w 53 cs) : ∃ a len cap, ∃ l : List AccD, cs = [.slice a len cap] ∧ len ≤ cap ∧ cap ≤ maxLen ∧ l.length = len ∧ IsAccs w a l := by
  obtain ⟨a, len, cap, l, h1, h2, h3, h4, h5⟩ := h.rows (p := fun cs A => ∃ ca cn cc sa sn sc, IsAcc w cs A ca cn cc sa sn sc) Sagg.underlying53 cellsOf91 (by omega) (fun cs hcs => open91 hcs)
  refine ⟨a, len, cap, l, h1, h2, h3, h4, ?_⟩
  rcases h5 with h5 | ⟨b, off, ha, hr⟩
  · exact .inl h5
  · refine .inr ⟨b, off, ha, fun i A hi => ?_⟩
    obtain ⟨cs, ⟨ca, cn, cc, sa, sn, sc, k1⟩, k2⟩ := hr i A hi
    exact ⟨cs, ca, cn, cc, sa, sn, sc, k1, k2⟩

/-- A receipt. -/
structure RcD where
  v : Int
  s : Int
  u : Int
  made : List Int
  out : List Int
  logs : List LogD
structure RcOK (w : World) (R : RcD) (oa : Option Addr) (on oc : Nat) (la : Option Addr) (ln lc : Nat) : Prop where
  madeL : R.made.length = 20
  madeD : Dig R.made
  outR : ByteRow w oa R.out
  outL : R.out.length = on
  logs : IsLogs w la R.logs
  logsL : R.logs.length = ln
  logsM : ln ≤ 9223372036854775807
def rc (R : RcD) (oa : Option Addr) (on oc : Nat) (la : Option Addr) (ln lc : Nat) : List Value := rcells R.v R.s R.u oa on oc la ln lc R.made

theorem open48 {w : World} {cs : List Value} (h : Read Sagg.prog w 48 cs) : ∃ R oa on oc la ln lc, cs = rc R oa on oc la ln lc ∧ RcOK w R oa on oc la ln lc := by
  have h0 : Read Sagg.prog w 5 ((cs.drop 0).take 1) := h.field Sagg.underlying48 0 _ rfl 1 (by kernel_rfl)
  have h1 : Read Sagg.prog w 5 ((cs.drop 1).take 1) := h.field Sagg.underlying48 1 _ rfl 1 (by kernel_rfl)
  have h2 : Read Sagg.prog w 31 ((cs.drop 2).take 1) := h.field Sagg.underlying48 2 _ rfl 1 (by kernel_rfl)
  have h3 : Read Sagg.prog w 22 ((cs.drop 3).take 1) := h.field Sagg.underlying48 3 _ rfl 1 (by kernel_rfl)
  have h4 : Read Sagg.prog w 44 ((cs.drop 4).take 1) := h.field Sagg.underlying48 4 _ rfl 1 (by kernel_rfl)
  have h5 : Read Sagg.prog w 46 ((cs.drop 5).take 20) := h.field Sagg.underlying48 5 _ rfl 20 cellsOf46
  have hl := (h.struct Sagg.underlying48).1
  rw [cellsOf48] at hl
  obtain ⟨v, hv, _⟩ := h0.int Sagg.underlying5
  obtain ⟨s, hs, _⟩ := h1.int Sagg.underlying5
  obtain ⟨u, hu, _⟩ := h2.int Sagg.underlying31
  obtain ⟨oa, on, oc, os, ho, o1, o2, o3, o4⟩ := open22 h3
  obtain ⟨la, ln, lc, ls, hls, l1, l2, l3, l4⟩ := open44 h4
  obtain ⟨m, hm, lm, dm⟩ := open46 h5
  have e : cs.drop 0 = [.int .u8 v] ++ ([.int .u8 s] ++ ([.int .u64 u] ++ ([.slice oa on oc] ++ ([.slice la ln lc] ++ (bcells m ++ cs.drop 25))))) := by
    rw [cut_at 0 1 1 rfl hv, cut_at 1 1 2 rfl hs, cut_at 2 1 3 rfl hu, cut_at 3 1 4 rfl ho, cut_at 4 1 5 rfl hls, cut_at 5 20 25 rfl hm]
  rw [List.drop_zero, List.drop_eq_nil_of_le (i := 25) (by omega), List.append_nil] at e
  exact ⟨⟨v, s, u, m, os, ls⟩, oa, on, oc, la, ln, lc, e, lm, dm, o4, o3, l4, l3, by unfold maxLen at l2; show ln ≤ _; omega⟩

theorem open51 {w : World} {cs : List Value} (h : Read Sagg.prog w 51 cs) : ∃ V sa sn sc ma mn mc ra rn rc, cs = vcells V sa sn sc ma mn mc ra rn rc ∧ ViewOK w V sa sn sc ma mn mc ra rn rc := by
  have h0 : Read Sagg.prog w 4 ((cs.drop 0).take 1) := h.field Sagg.underlying51 0 _ rfl 1 (by kernel_rfl)
  have h1 : Read Sagg.prog w 4 ((cs.drop 1).take 1) := h.field Sagg.underlying51 1 _ rfl 1 (by kernel_rfl)
  have h2 : Read Sagg.prog w 5 ((cs.drop 2).take 1) := h.field Sagg.underlying51 2 _ rfl 1 (by kernel_rfl)
  have h3 : Read Sagg.prog w 23 ((cs.drop 3).take 1) := h.field Sagg.underlying51 3 _ rfl 1 (by kernel_rfl)
  have h4 : Read Sagg.prog w 31 ((cs.drop 4).take 1) := h.field Sagg.underlying51 4 _ rfl 1 (by kernel_rfl)
  have h5 : Read Sagg.prog w 31 ((cs.drop 5).take 1) := h.field Sagg.underlying51 5 _ rfl 1 (by kernel_rfl)
  have h6 : Read Sagg.prog w 46 ((cs.drop 6).take 20) := h.field Sagg.underlying51 6 _ rfl 20 cellsOf46
  have h7 : Read Sagg.prog w 46 ((cs.drop 26).take 20) := h.field Sagg.underlying51 7 _ rfl 20 cellsOf46
  have h8 : Read Sagg.prog w 49 ((cs.drop 46).take 1) := h.field Sagg.underlying51 8 _ rfl 1 (by kernel_rfl)
  have h9 : Read Sagg.prog w 22 ((cs.drop 47).take 1) := h.field Sagg.underlying51 9 _ rfl 1 (by kernel_rfl)
  have h10 : Read Sagg.prog w 22 ((cs.drop 48).take 1) := h.field Sagg.underlying51 10 _ rfl 1 (by kernel_rfl)
  have h11 : Read Sagg.prog w 23 ((cs.drop 49).take 1) := h.field Sagg.underlying51 11 _ rfl 1 (by kernel_rfl)
  have hl := (h.struct Sagg.underlying51).1
  rw [cellsOf51] at hl
  obtain ⟨x0, e0⟩ := h0.bool Sagg.underlying4
  obtain ⟨x1, e1⟩ := h1.bool Sagg.underlying4
  obtain ⟨x2, e2, _⟩ := h2.int Sagg.underlying5
  obtain ⟨x3, e3, _⟩ := h3.int Sagg.underlying23
  obtain ⟨x4, e4, _⟩ := h4.int Sagg.underlying31
  obtain ⟨x5, e5, _⟩ := h5.int Sagg.underlying31
  obtain ⟨x6, e6, l6, d6⟩ := open46 h6
  obtain ⟨x7, e7, l7, d7⟩ := open46 h7
  obtain ⟨sa, sn, sc, ss, e8, s1, s2, s3, s4⟩ := open49 h8
  obtain ⟨ma, mn, mc, ms, e9, m1, m2, m3, m4⟩ := open22 h9
  obtain ⟨ra, rn, rc, rs, e10, r1, r2, r3, r4⟩ := open22 h10
  obtain ⟨x11, e11, _⟩ := h11.int Sagg.underlying23
  have e : cs.drop 0 = [.bool x0] ++ ([.bool x1] ++ ([.int .u8 x2] ++ ([.int .u16 x3] ++ ([.int .u64 x4] ++ ([.int .u64 x5] ++ (bcells x6 ++ (bcells x7 ++ ([.slice sa sn sc] ++ ([.slice ma mn mc] ++ ([.slice ra rn rc] ++ ([.int .u16 x11] ++ cs.drop 50))))))))))) := by
    rw [cut_at 0 1 1 rfl e0, cut_at 1 1 2 rfl e1, cut_at 2 1 3 rfl e2, cut_at 3 1 4 rfl e3, cut_at 4 1 5 rfl e4, cut_at 5 1 6 rfl e5, cut_at 6 20 26 rfl e6, cut_at 26 20 46 rfl e7, cut_at 46 1 47 rfl e8, cut_at 47 1 48 rfl e9, cut_at 48 1 49 rfl e10, cut_at 49 1 50 rfl e11]
  rw [List.drop_zero, List.drop_eq_nil_of_le (i := 50) (by omega), List.append_nil] at e
  refine ⟨{ done := x0, static := x1, depth := x2, pc := x3, gas := x4, refund := x5, self := x6, caller := x7, stack := ss, mem := ms, ret := rs, nlogs := x11 }, sa, sn, sc, ma, mn, mc, ra, rn, rc, ?_, ⟨l6, d6, l7, d7, s3, by unfold maxLen at s2; omega, s4, m3, m4, r3, r4⟩⟩
  rw [e]
  simp [vcells]

end Go.Proofs.Ygcsag
