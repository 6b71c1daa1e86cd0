/-
  The specs that 'BlockHashRight' is run with.
-/
import Derived.Test.YgcsagGreatHoc
import Derived.KernelRfl
namespace Go.Proofs.EX
def l32 (f : Nat → Int) : List Int := (List.range 32).map f
def dl32 (x : Int) : List Int := (List.range 32).map fun j => dig x (31 - j)
def hfl (h : Nat → Nat → Int) (n : Nat) : List Int := (List.range n).flatMap fun i => l32 (h i)
def hvN (num : Int) (a : Nat → Int) (h : Nat → Nat → Int) (n : Nat) : Int := hvL num (beV (l32 a)) (hfl h n) n
def bhSpecs : List (FuncId × Spec) := (161, bvX) :: (32, hoX) :: natSpecs2
theorem bhSpecs_ok : ∀ p ∈ bhSpecs, SpecOK p.1 p.2 := by
  intro p hp
  rcases List.mem_cons.1 hp with rfl | hp
  · exact bv_ok
  · rcases List.mem_cons.1 hp with rfl | hp
    · exact ho_ok
    · exact natSpecs2_ok p hp
end Go.Proofs.EX
