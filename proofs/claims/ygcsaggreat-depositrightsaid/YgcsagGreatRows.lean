/-
  No cell of these rows narrows 'for every input' (looked for: loops, veiled, ifaces, maps, wideKeys, modest, calm, conditions, laid).
  DERIVED. THE GIVEN ROWS OF THIS SEAT. 7 by the template 'for every input the law returns true; each argument reads behind the call as it read before'; 0 by the template 'total and deterministic' (their statements: YgcsagGreatTotals.lean).
  GIVEN WITH THE SEED: the statements are not yours to turn. If you find one false, say at which input.
  Laid BY PROGRAM, IN A SANDBOX (cutbox-rows.mjs): the forced cells as the released guide's own fill.sh prints them over the translation 6e3343c8c6efa7e5… (all of the seat's roots in one cut). By AI agents, Wed Nov 11 2026. No macro, syntax, notation, axiom, sorry.
-/
import Derived.Test.YgcsagGreatChecked
import GoSem.Claim
import GoSem.ClaimJoined
import GoSem.ClaimMapViews
import Derived.JoinedTies
import Derived.KernelRfl
namespace Go.Proofs.YgcsagGreat
/- THE CELL 'sum', in the pinned program and in every row, IS THE sha256 OF THE DUMP (.gsa) THAT YgcsagGreatProg.lean LOADS. Nothing in Lean hashes anything: it is a label: what it is worth is what the hold of that sum in a sandbox is worth. -/
noncomputable def Sagg.pinned : Pinned := { name := "ygcsaggreat", sum := "6e3343c8c6efa7e5e8d94d49699436ca15ae64c91251677efb3a577ffd81050b", checked := Sagg.checked }
namespace Rows
def none {H : Type} : Left H := { results := [], args := [] }

/-- 'law.CallCodeRight': WHATEVER THE INPUT: true; the input reads as it did. -/
def callCodeRightSpec : ChangeSpec := { name := "callCodeRight", fn := fun _ => fun
  | [d1, d2, d3] => { results := [.lit (.bool true)], args := [d1, d2, d3] }
  | _ => none }
def callCodeRightRow : OpenClaim := { program := "ygcsaggreat", sum := "6e3343c8c6efa7e5e8d94d49699436ca15ae64c91251677efb3a577ffd81050b", func := "yellow/law.CallCodeRight", spec := "callCodeRight", apart := false }
def CallCodeRightSaid : Prop := callCodeRightRow.holds Sagg.pinned (OpenSpec.ofChange callCodeRightSpec)

/-- ITS FALSE NEIGHBOUR: 'it returns false'. Refute it at one input. -/
def callCodeRightWrong : ChangeSpec := { name := "callCodeRight", fn := fun _ => fun
  | [d1, d2, d3] => { results := [.lit (.bool false)], args := [d1, d2, d3] }
  | _ => none }
def CallCodeRightWrongFalsely : Prop := callCodeRightRow.holds Sagg.pinned (OpenSpec.ofChange callCodeRightWrong)

/-- 'law.DestructRight': WHATEVER THE INPUT: true; the input reads as it did. -/
def destructRightSpec : ChangeSpec := { name := "destructRight", fn := fun _ => fun
  | [d1, d2] => { results := [.lit (.bool true)], args := [d1, d2] }
  | _ => none }
def destructRightRow : OpenClaim := { program := "ygcsaggreat", sum := "6e3343c8c6efa7e5e8d94d49699436ca15ae64c91251677efb3a577ffd81050b", func := "yellow/law.DestructRight", spec := "destructRight", apart := false }
def DestructRightSaid : Prop := destructRightRow.holds Sagg.pinned (OpenSpec.ofChange destructRightSpec)

/-- ITS FALSE NEIGHBOUR: 'it returns false'. Refute it at one input. -/
def destructRightWrong : ChangeSpec := { name := "destructRight", fn := fun _ => fun
  | [d1, d2] => { results := [.lit (.bool false)], args := [d1, d2] }
  | _ => none }
def DestructRightWrongFalsely : Prop := destructRightRow.holds Sagg.pinned (OpenSpec.ofChange destructRightWrong)

/-- 'law.TransientRight': WHATEVER THE INPUT: true; the input reads as it did. -/
def transientRightSpec : ChangeSpec := { name := "transientRight", fn := fun _ => fun
  | [d1, d2, d3, d4] => { results := [.lit (.bool true)], args := [d1, d2, d3, d4] }
  | _ => none }
def transientRightRow : OpenClaim := { program := "ygcsaggreat", sum := "6e3343c8c6efa7e5e8d94d49699436ca15ae64c91251677efb3a577ffd81050b", func := "yellow/law.TransientRight", spec := "transientRight", apart := false }
def TransientRightSaid : Prop := transientRightRow.holds Sagg.pinned (OpenSpec.ofChange transientRightSpec)

/-- ITS FALSE NEIGHBOUR: 'it returns false'. Refute it at one input. -/
def transientRightWrong : ChangeSpec := { name := "transientRight", fn := fun _ => fun
  | [d1, d2, d3, d4] => { results := [.lit (.bool false)], args := [d1, d2, d3, d4] }
  | _ => none }
def TransientRightWrongFalsely : Prop := transientRightRow.holds Sagg.pinned (OpenSpec.ofChange transientRightWrong)

/-- 'law.Topics': WHATEVER THE INPUT: true; the input reads as it did. -/
def topicsSpec : ChangeSpec := { name := "topics", fn := fun _ => fun
  | [d1, d2, d3, d4, d5] => { results := [.lit (.bool true)], args := [d1, d2, d3, d4, d5] }
  | _ => none }
def topicsRow : OpenClaim := { program := "ygcsaggreat", sum := "6e3343c8c6efa7e5e8d94d49699436ca15ae64c91251677efb3a577ffd81050b", func := "yellow/law.Topics", spec := "topics", apart := false }
def TopicsSaid : Prop := topicsRow.holds Sagg.pinned (OpenSpec.ofChange topicsSpec)

/-- ITS FALSE NEIGHBOUR: 'it returns false'. Refute it at one input. -/
def topicsWrong : ChangeSpec := { name := "topics", fn := fun _ => fun
  | [d1, d2, d3, d4, d5] => { results := [.lit (.bool false)], args := [d1, d2, d3, d4, d5] }
  | _ => none }
def TopicsWrongFalsely : Prop := topicsRow.holds Sagg.pinned (OpenSpec.ofChange topicsWrong)

/-- 'law.BlockHashRight': WHATEVER THE INPUT: true; the input reads as it did. -/
def blockHashRightSpec : ChangeSpec := { name := "blockHashRight", fn := fun _ => fun
  | [d1, d2, d3] => { results := [.lit (.bool true)], args := [d1, d2, d3] }
  | _ => none }
def blockHashRightRow : OpenClaim := { program := "ygcsaggreat", sum := "6e3343c8c6efa7e5e8d94d49699436ca15ae64c91251677efb3a577ffd81050b", func := "yellow/law.BlockHashRight", spec := "blockHashRight", apart := false }
def BlockHashRightSaid : Prop := blockHashRightRow.holds Sagg.pinned (OpenSpec.ofChange blockHashRightSpec)

/-- ITS FALSE NEIGHBOUR: 'it returns false'. Refute it at one input. -/
def blockHashRightWrong : ChangeSpec := { name := "blockHashRight", fn := fun _ => fun
  | [d1, d2, d3] => { results := [.lit (.bool false)], args := [d1, d2, d3] }
  | _ => none }
def BlockHashRightWrongFalsely : Prop := blockHashRightRow.holds Sagg.pinned (OpenSpec.ofChange blockHashRightWrong)

/-- 'law.EnvOps': WHATEVER THE INPUT: true; the input reads as it did. -/
def envOpsSpec : ChangeSpec := { name := "envOps", fn := fun _ => fun
  | [d1, d2] => { results := [.lit (.bool true)], args := [d1, d2] }
  | _ => none }
def envOpsRow : OpenClaim := { program := "ygcsaggreat", sum := "6e3343c8c6efa7e5e8d94d49699436ca15ae64c91251677efb3a577ffd81050b", func := "yellow/law.EnvOps", spec := "envOps", apart := false }
def EnvOpsSaid : Prop := envOpsRow.holds Sagg.pinned (OpenSpec.ofChange envOpsSpec)

/-- ITS FALSE NEIGHBOUR: 'it returns false'. Refute it at one input. -/
def envOpsWrong : ChangeSpec := { name := "envOps", fn := fun _ => fun
  | [d1, d2] => { results := [.lit (.bool false)], args := [d1, d2] }
  | _ => none }
def EnvOpsWrongFalsely : Prop := envOpsRow.holds Sagg.pinned (OpenSpec.ofChange envOpsWrong)

/-- 'law.DepositRight': WHATEVER THE INPUT: true; the input reads as it did. -/
def depositRightSpec : ChangeSpec := { name := "depositRight", fn := fun _ => fun
  | [d1, d2, d3] => { results := [.lit (.bool true)], args := [d1, d2, d3] }
  | _ => none }
def depositRightRow : OpenClaim := { program := "ygcsaggreat", sum := "6e3343c8c6efa7e5e8d94d49699436ca15ae64c91251677efb3a577ffd81050b", func := "yellow/law.DepositRight", spec := "depositRight", apart := false }
def DepositRightSaid : Prop := depositRightRow.holds Sagg.pinned (OpenSpec.ofChange depositRightSpec)

/-- ITS FALSE NEIGHBOUR: 'it returns false'. Refute it at one input. -/
def depositRightWrong : ChangeSpec := { name := "depositRight", fn := fun _ => fun
  | [d1, d2, d3] => { results := [.lit (.bool false)], args := [d1, d2, d3] }
  | _ => none }
def DepositRightWrongFalsely : Prop := depositRightRow.holds Sagg.pinned (OpenSpec.ofChange depositRightWrong)

end Rows
end Go.Proofs.YgcsagGreat
