/-
  No cell of these rows narrows 'for every input' (looked for: loops, veiled, ifaces, maps, wideKeys, modest, calm, conditions, laid).
  DERIVED. THE GIVEN ROWS OF THIS SEAT. 5 by the template 'for every input the law returns true; each argument reads behind the call as it read before'; 0 by the template 'total and deterministic' (their statements: YgcsagTotals.lean).
  GIVEN WITH THE SEED: the statements are not yours to turn. If you find one false, say at which input.
  Laid BY PROGRAM, IN A SANDBOX (cutbox-rows.mjs): the forced cells as the released guide's own fill.sh prints them over the translation 9294e9caa4bbb460… (all of the seat's roots in one cut). By AI agents, Wed Nov 11 2026. No macro, syntax, notation, axiom, sorry.
-/
import Derived.Test.YgcsagChecked
import GoSem.Claim
import GoSem.ClaimJoined
import GoSem.ClaimMapViews
import Derived.JoinedTies
import Derived.KernelRfl
namespace Go.Proofs.Ygcsag
/- THE CELL 'sum', in the pinned program and in every row, IS THE sha256 OF THE DUMP (.gsa) THAT YgcsagProg.lean LOADS. Nothing in Lean hashes anything: it is a label: what it is worth is what the hold of that sum in a sandbox is worth. -/
noncomputable def Sagg.pinned : Pinned := { name := "ygcsag", sum := "9294e9caa4bbb460644ad5d44a65b0391061c53fd4775a1f0b40b64084f2657d", checked := Sagg.checked }
namespace Rows
def none {H : Type} : Left H := { results := [], args := [] }

/-- 'law.BitPow': WHATEVER THE INPUT: true; the input reads as it did. -/
def bitPowSpec : ChangeSpec := { name := "bitPow", fn := fun _ => fun
  | [d1, d2] => { results := [.lit (.bool true)], args := [d1, d2] }
  | _ => none }
def bitPowRow : OpenClaim := { program := "ygcsag", sum := "9294e9caa4bbb460644ad5d44a65b0391061c53fd4775a1f0b40b64084f2657d", func := "yellow/law.BitPow", spec := "bitPow", apart := false }
def BitPowSaid : Prop := bitPowRow.holds Sagg.pinned (OpenSpec.ofChange bitPowSpec)

/-- ITS FALSE NEIGHBOUR: 'it returns false'. Refute it at one input. -/
def bitPowWrong : ChangeSpec := { name := "bitPow", fn := fun _ => fun
  | [d1, d2] => { results := [.lit (.bool false)], args := [d1, d2] }
  | _ => none }
def BitPowWrongFalsely : Prop := bitPowRow.holds Sagg.pinned (OpenSpec.ofChange bitPowWrong)

/-- 'law.NumRight': WHATEVER THE INPUT: true; the input reads as it did. -/
def numRightSpec : ChangeSpec := { name := "numRight", fn := fun _ => fun
  | [d1, d2, d3, d4, d5] => { results := [.lit (.bool true)], args := [d1, d2, d3, d4, d5] }
  | _ => none }
def numRightRow : OpenClaim := { program := "ygcsag", sum := "9294e9caa4bbb460644ad5d44a65b0391061c53fd4775a1f0b40b64084f2657d", func := "yellow/law.NumRight", spec := "numRight", named := ["math/bits.divideError", "math/bits.overflowError"], apart := false }
def NumRightSaid : Prop := numRightRow.holds Sagg.pinned (OpenSpec.ofChange numRightSpec)

/-- ITS FALSE NEIGHBOUR: 'it returns false'. Refute it at one input. -/
def numRightWrong : ChangeSpec := { name := "numRight", fn := fun _ => fun
  | [d1, d2, d3, d4, d5] => { results := [.lit (.bool false)], args := [d1, d2, d3, d4, d5] }
  | _ => none }
def NumRightWrongFalsely : Prop := numRightRow.holds Sagg.pinned (OpenSpec.ofChange numRightWrong)

/-- 'law.SameRight': WHATEVER THE INPUT: true; the input reads as it did. -/
def sameRightSpec : ChangeSpec := { name := "sameRight", fn := fun _ => fun
  | [d1, d2, d3, d4, d5, d6] => { results := [.lit (.bool true)], args := [d1, d2, d3, d4, d5, d6] }
  | _ => none }
def sameRightRow : OpenClaim := { program := "ygcsag", sum := "9294e9caa4bbb460644ad5d44a65b0391061c53fd4775a1f0b40b64084f2657d", func := "yellow/law.SameRight", spec := "sameRight", apart := false }
def SameRightSaid : Prop := sameRightRow.holds Sagg.pinned (OpenSpec.ofChange sameRightSpec)

/-- ITS FALSE NEIGHBOUR: 'it returns false'. Refute it at one input. -/
def sameRightWrong : ChangeSpec := { name := "sameRight", fn := fun _ => fun
  | [d1, d2, d3, d4, d5, d6] => { results := [.lit (.bool false)], args := [d1, d2, d3, d4, d5, d6] }
  | _ => none }
def SameRightWrongFalsely : Prop := sameRightRow.holds Sagg.pinned (OpenSpec.ofChange sameRightWrong)

/-- 'law.WorldOKRight': WHATEVER THE INPUT: true; the input reads as it did. -/
def worldOKRightSpec : ChangeSpec := { name := "worldOKRight", fn := fun _ => fun
  | [d1, d2] => { results := [.lit (.bool true)], args := [d1, d2] }
  | _ => none }
def worldOKRightRow : OpenClaim := { program := "ygcsag", sum := "9294e9caa4bbb460644ad5d44a65b0391061c53fd4775a1f0b40b64084f2657d", func := "yellow/law.WorldOKRight", spec := "worldOKRight", apart := false }
def WorldOKRightSaid : Prop := worldOKRightRow.holds Sagg.pinned (OpenSpec.ofChange worldOKRightSpec)

/-- ITS FALSE NEIGHBOUR: 'it returns false'. Refute it at one input. -/
def worldOKRightWrong : ChangeSpec := { name := "worldOKRight", fn := fun _ => fun
  | [d1, d2] => { results := [.lit (.bool false)], args := [d1, d2] }
  | _ => none }
def WorldOKRightWrongFalsely : Prop := worldOKRightRow.holds Sagg.pinned (OpenSpec.ofChange worldOKRightWrong)

/-- 'law.OpNames': WHATEVER THE INPUT: true; the input reads as it did. -/
def opNamesSpec : ChangeSpec := { name := "opNames", fn := fun _ => fun
  | [d] => { results := [.lit (.bool true)], args := [d] }
  | _ => none }
def opNamesRow : OpenClaim := { program := "ygcsag", sum := "9294e9caa4bbb460644ad5d44a65b0391061c53fd4775a1f0b40b64084f2657d", func := "yellow/law.OpNames", spec := "opNames", apart := false }
def OpNamesSaid : Prop := opNamesRow.holds Sagg.pinned (OpenSpec.ofChange opNamesSpec)

/-- ITS FALSE NEIGHBOUR: 'it returns false'. Refute it at one input. -/
def opNamesWrong : ChangeSpec := { name := "opNames", fn := fun _ => fun
  | [d] => { results := [.lit (.bool false)], args := [d] }
  | _ => none }
def OpNamesWrongFalsely : Prop := opNamesRow.holds Sagg.pinned (OpenSpec.ofChange opNamesWrong)

end Rows
end Go.Proofs.Ygcsag
