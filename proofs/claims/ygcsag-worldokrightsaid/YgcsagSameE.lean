/-
  WALK: law.viewsMeet.
-/
import Derived.Test.YgcsagSameD
import Derived.Deep.RegionWith
namespace Go.Proofs.Ygcsag
open Go.RowKit
set_option linter.unusedSimpArgs false
set_option linter.unusedVariables false

set_option maxRecDepth 20000 in
theorem row_range {w : World} {g o : Nat} {zs : List Int} (h : w.rangeAt g o (bcells zs)) (hd : Dig zs) : ByteRow w (some ⟨g, o, none⟩) zs :=
  ⟨hd, .inr ⟨g, o, rfl, fun i hi => h i _ (bcells_get _ _ hi)⟩⟩

set_option maxHeartbeats 2000000 in
theorem viewsMeet_calls (V1 : ViewD) (sa1 : Option Addr) (sn1 sc1 : Nat) (ma1 : Option Addr) (mn1 mc1 : Nat) (ra1 : Option Addr) (rn1 rc1 : Nat) (V2 : ViewD) (sa2 : Option Addr) (sn2 sc2 : Nat) (ma2 : Option Addr) (mn2 mc2 : Nat) (ra2 : Option Addr) (rn2 rc2 : Nat) (w : World) (k1 : ViewOK w V1 sa1 sn1 sc1 ma1 mn1 mc1 ra1 rn1 rc1) (k2 : ViewOK w V2 sa2 sn2 sc2 ma2 mn2 mc2 ra2 rn2 rc2) (eb : Bool) (heb : eb = true ↔ V1 = V2) :
    Calls Sagg.prog 45 #[.agg (vcells V1 sa1 sn1 sc1 ma1 mn1 mc1 ra1 rn1 rc1).toArray, .agg (vcells V2 sa2 sn2 sc2 ma2 mn2 mc2 ra2 rn2 rc2).toArray] w fun e w' => e = .returned (.bool eb) ∧ Below w.heap.size w w' := by
  have hbx := boxes (w := w) (vcells V1 sa1 sn1 sc1 ma1 mn1 mc1 ra1 rn1 rc1).toArray (vcells V2 sa2 sn2 sc2 ma2 mn2 mc2 ra2 rn2 rc2).toArray 51
  have hb2 := below2 (w := w) (.cells (vcells V1 sa1 sn1 sc1 ma1 mn1 mc1 ra1 rn1 rc1).toArray 51) (.cells (vcells V2 sa2 sn2 sc2 ma2 mn2 mc2 ra2 rn2 rc2).toArray 51)
  have q1 := view_at hbx.1 k1
  have q2 := view_at hbx.2 k2
  have k1' := k1.ext hb2
  have k2' := k2.ext hb2
  clear hbx k1 k2
  generalize vcells V1 sa1 sn1 sc1 ma1 mn1 mc1 ra1 rn1 rc1 = X1 at *
  generalize vcells V2 sa2 sn2 sc2 ma2 mn2 mc2 ra2 rn2 rc2 = X2 at *
  have HB2 := hide hb2
  clear hb2
  go_enter Sagg.func45, Sagg.ntmps45
  go_upto_region 1 with fail
  generalize hW2 : (w.alloc _).alloc _ = W2 at *
  clear hW2
  have sr1 := row_range q1.self k1'.selfD
  have sr2 := row_range q2.self k2'.selfD
  have cr1 := row_range q1.caller k1'.callerD
  have cr2 := row_range q2.caller k2'.callerD
  have es := fun m => equalBytes_calls (some ⟨w.heap.size, 6, none⟩) (some ⟨w.heap.size + 1, 6, none⟩) 20 20 20 20 V1.self V2.self (W2.drewN m) k1'.selfL k2'.selfL sr1 sr2
  have ec := fun m => equalBytes_calls (some ⟨w.heap.size, 26, none⟩) (some ⟨w.heap.size + 1, 26, none⟩) 20 20 20 20 V1.caller V2.caller (W2.drewN m) k1'.callerL k2'.callerL cr1 cr2
  have sw := fun m => wordsMeet_calls sa1 sa2 sn1 sc1 sn2 sc2 V1.stack V2.stack (W2.drewN m) k1'.stackL k2'.stackL k1'.stackR k2'.stackR k1'.stackM k2'.stackM
  have em := fun m => equalBytes_calls ma1 ma2 mn1 mc1 mn2 mc2 V1.mem V2.mem (W2.drewN m) k1'.memL k2'.memL k1'.memR k2'.memR
  have er := fun m => equalBytes_calls ra1 ra2 rn1 rc1 rn2 rc2 V1.ret V2.ret (W2.drewN m) k1'.retL k2'.retL k1'.retR k2'.retR
  obtain ⟨x0, x1, x2, x3, x4, x5, -, -, x46, x47, x48, x49⟩ := q1
  obtain ⟨y0, y1, y2, y3, y4, y5, -, -, y46, y47, y48, y49⟩ := q2
  clear k1' k2' sr1 sr2 cr1 cr2
  obtain ⟨b0, t0⟩ : ∃ b, (V1.done == V2.done) = b := ⟨_, rfl⟩
  obtain ⟨b1, t1⟩ : ∃ b, (V1.static == V2.static) = b := ⟨_, rfl⟩
  obtain ⟨b2, t2⟩ : ∃ b, (V1.depth == V2.depth) = b := ⟨_, rfl⟩
  obtain ⟨b3, t3⟩ : ∃ b, (V1.pc == V2.pc) = b := ⟨_, rfl⟩
  obtain ⟨b4, t4⟩ : ∃ b, (V1.gas == V2.gas) = b := ⟨_, rfl⟩
  obtain ⟨b5, t5⟩ : ∃ b, (V1.refund == V2.refund) = b := ⟨_, rfl⟩
  obtain ⟨b6, t6⟩ : ∃ b, decide (V1.self = V2.self) = b := ⟨_, rfl⟩
  obtain ⟨b7, t7⟩ : ∃ b, decide (V1.caller = V2.caller) = b := ⟨_, rfl⟩
  obtain ⟨b8, t8⟩ : ∃ b, (V1.nlogs == V2.nlogs) = b := ⟨_, rfl⟩
  obtain ⟨b9, t9⟩ : ∃ b, decide (V1.stack = V2.stack) = b := ⟨_, rfl⟩
  obtain ⟨b10, t10⟩ : ∃ b, decide (V1.mem = V2.mem) = b := ⟨_, rfl⟩
  obtain ⟨b11, t11⟩ : ∃ b, decide (V1.ret = V2.ret) = b := ⟨_, rfl⟩
  rw [t6] at es
  rw [t7] at ec
  rw [t9] at sw
  rw [t10] at em
  rw [t11] at er
  have HV : Hid (eb = (b0 && b1 && b2 && b3 && b4 && b5 && b6 && b7 && b8 && b9 && b10 && b11)) := view_all heb t0 t1 t2 t3 t4 t5 t6 t7 t8 t9 t10 t11
  have ES := hide es
  have EC := hide ec
  have SW := hide sw
  have EM := hide em
  have ER := hide er
  clear t6 t7 t9 t10 t11 heb es ec sw em er
  go_cut [5] (fun s w3 => s = .bool (b0 && b1) ∧ W2 = w3)
  case first =>
    clear HV
    generalize V1.done = d1 at *
    generalize V2.done = d2 at *
    generalize V1.static = s1 at *
    generalize V2.static = s2 at *
    subst t0
    subst t1
    cases d1 <;> cases d2 <;> cases s1 <;> cases s2 <;> ((repeat (first | go_values | go_skip | go_guarded | go_step | go_upon)); go_meet; case rel => exact ⟨rfl, rfl⟩)
  case rest =>
    obtain ⟨rfl, rfl⟩ := hcut
    clear x0 x1 y0 y1 t0 t1
    go_upto_region 2 with fail
    go_cut [6] (fun s w3 => s = .bool (b2 && b3 && b4 && b5 && b8) ∧ W2 = w3)
    case first =>
      cases b2
      · repeat (first | go_values | go_skip | go_guarded | go_step | go_upon)
        go_meet
        case rel => exact ⟨rfl, rfl⟩
      cases b3
      · repeat (first | go_values | go_skip | go_guarded | go_step | go_upon)
        go_meet
        case rel => exact ⟨rfl, rfl⟩
      cases b4
      · repeat (first | go_values | go_skip | go_guarded | go_step | go_upon)
        go_meet
        case rel => exact ⟨rfl, rfl⟩
      cases b5
      · repeat (first | go_values | go_skip | go_guarded | go_step | go_upon)
        go_meet
        case rel => exact ⟨rfl, rfl⟩
      cases b8
      all_goals
        repeat (first | go_values | go_skip | go_guarded | go_step | go_upon)
        go_meet
        case rel => exact ⟨rfl, rfl⟩
    case rest =>
      obtain ⟨rfl, rfl⟩ := hcut
      go_upto_region 3 with fail
      go_cut [7] (fun s w3 => s = .bool (b6 && b7) ∧ ∃ n, w3 = W2.drewN n)
      case first =>
        cases b6
        · go_quiet ((first | (go_at_call_of 8 (Value.slice (some ⟨w.heap.size, 6, none⟩) 20 20); exact Calls.quiet_of_same (unhide ES _)) | (go_at_call_of 8 (Value.slice (some ⟨w.heap.size, 26, none⟩) 20 20); exact Calls.quiet_of_same (unhide EC _))))
          repeat (first | go_values | go_skip | go_guarded | go_step | go_upon)
          go_meet
          case rel => exact ⟨rfl, _, rfl⟩
        cases b7
        all_goals
          go_quiet ((first | (go_at_call_of 8 (Value.slice (some ⟨w.heap.size, 6, none⟩) 20 20); exact Calls.quiet_of_same (unhide ES _)) | (go_at_call_of 8 (Value.slice (some ⟨w.heap.size, 26, none⟩) 20 20); exact Calls.quiet_of_same (unhide EC _))))
          repeat (first | go_values | go_skip | go_guarded | go_step | go_upon)
          go_meet
          case rel => exact ⟨rfl, _, rfl⟩
      case rest =>
        obtain ⟨rfl, n3, rfl⟩ := hcut
        go_upto_region 4 with fail
        go_cut [8] (fun s w3 => s = .bool (b9 && b10 && b11) ∧ ∃ n, w3 = W2.drewN n)
        case first =>
          cases b9
          · repeat (first | go_values | go_skip | go_guarded | go_step | go_upon | go_back)
            refine (unhide SW _).mono ?_
            rintro e w4 ⟨rfl, n4, rfl⟩
            simp only [World.drewN_drewN]
            repeat (first | go_values | go_skip | go_guarded | go_step | go_upon | go_back)
            go_meet
            case rel => exact ⟨rfl, _, rfl⟩
          cases b10
          · repeat (first | go_values | go_skip | go_guarded | go_step | go_upon | go_back)
            refine (unhide SW _).mono ?_
            rintro e w4 ⟨rfl, n4, rfl⟩
            simp only [World.drewN_drewN]
            repeat (first | go_values | go_skip | go_guarded | go_step | go_upon | go_back)
            refine (unhide EM _).mono ?_
            rintro e w4 ⟨rfl, rfl⟩
            simp only []
            repeat (first | go_values | go_skip | go_guarded | go_step | go_upon | go_back)
            go_meet
            case rel => exact ⟨rfl, _, rfl⟩
          cases b11
          all_goals
            repeat (first | go_values | go_skip | go_guarded | go_step | go_upon | go_back)
            refine (unhide SW _).mono ?_
            rintro e w4 ⟨rfl, n4, rfl⟩
            simp only [World.drewN_drewN]
            repeat (first | go_values | go_skip | go_guarded | go_step | go_upon | go_back)
            refine (unhide EM _).mono ?_
            rintro e w4 ⟨rfl, rfl⟩
            simp only []
            repeat (first | go_values | go_skip | go_guarded | go_step | go_upon | go_back)
            refine (unhide ER _).mono ?_
            rintro e w4 ⟨rfl, rfl⟩
            simp only []
            repeat (first | go_values | go_skip | go_guarded | go_step | go_upon | go_back)
            go_meet
            case rel => exact ⟨rfl, _, rfl⟩
        case rest =>
          obtain ⟨rfl, n4, rfl⟩ := hcut
          obtain ⟨c1, hc1⟩ : ∃ c, (b0 && b1) = c := ⟨_, rfl⟩
          obtain ⟨c2, hc2⟩ : ∃ c, (b2 && b3 && b4 && b5 && b8) = c := ⟨_, rfl⟩
          obtain ⟨c3, hc3⟩ : ∃ c, (b6 && b7) = c := ⟨_, rfl⟩
          obtain ⟨c4, hc4⟩ : ∃ c, (b9 && b10 && b11) = c := ⟨_, rfl⟩
          have hfin : eb = (c1 && c2 && c3 && c4) := by
            rw [unhide HV, ← hc1, ← hc2, ← hc3, ← hc4]
            cases b0 <;> cases b1 <;> cases b2 <;> cases b3 <;> cases b4 <;> cases b5 <;> cases b6 <;> cases b7 <;> cases b8 <;> rfl
          rw [hc1, hc2, hc3, hc4]
          have HF := hide hfin
          clear hfin hc1 hc2 hc3 hc4
          cases c1
          · go_wp2
            go_ret
            exact ⟨ret_bool (unhide HF).symm, bel4 (Below.refl _ _) (unhide HB2) _⟩
          cases c2
          · go_wp2
            go_ret
            exact ⟨ret_bool (unhide HF).symm, bel4 (Below.refl _ _) (unhide HB2) _⟩
          cases c3
          · go_wp2
            go_ret
            exact ⟨ret_bool (unhide HF).symm, bel4 (Below.refl _ _) (unhide HB2) _⟩
          cases c4
          all_goals
            go_wp2
            go_ret
            exact ⟨ret_bool (unhide HF).symm, bel4 (Below.refl _ _) (unhide HB2) _⟩
end Go.Proofs.Ygcsag
