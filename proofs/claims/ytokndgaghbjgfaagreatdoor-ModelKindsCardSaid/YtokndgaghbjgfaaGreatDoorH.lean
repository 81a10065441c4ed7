/- The functions of this program that the evaluator takes by a contract, and what it knows at the start. No conditions. -/
import Derived.Test.YtokndgaghbjgfaaGreatDoorVG
import Derived.Test.YtokndgaghbjgfaaGreatDoorSh
import Derived.KernelRfl
namespace Go.Proofs.YtokndgaghbjgfaaGreatDoor
open Go.VM
def extL : List (Nat × Nat) := [(319, 4), (332, 5), (365, 1), (339, 2), (264, 3), (383, 6)]
def sumL : List (Nat × Nat) := [(261, 1), (307, 1), (185, 2)]
abbrev hookA : Hook := ⟨lookN sumL, lookN extL⟩
abbrev hookM : Hook := ⟨lookN ((4, 3) :: sumL), lookN extL⟩
def spaceZ : List Int := [0, 0, 0, 0, 0, 0, 0, 0, 0, 1, 1, 1, 1, 1, 0, 0, 0, 0, 0, 0, 0, 0, 0, 0, 0, 0, 0, 0, 0, 0, 0, 0, 1, 0, 0, 0, 0, 0, 0, 0, 0, 0, 0, 0, 0, 0, 0, 0, 0, 0, 0, 0, 0, 0, 0, 0, 0, 0, 0, 0, 0, 0, 0, 0, 0, 0, 0, 0, 0, 0, 0, 0, 0, 0, 0, 0, 0, 0, 0, 0, 0, 0, 0, 0, 0, 0, 0, 0, 0, 0, 0, 0, 0, 0, 0, 0, 0, 0, 0, 0, 0, 0, 0, 0, 0, 0, 0, 0, 0, 0, 0, 0, 0, 0, 0, 0, 0, 0, 0, 0, 0, 0, 0, 0, 0, 0, 0, 0, 0, 0, 0, 0, 0, 0, 0, 0, 0, 0, 0, 0, 0, 0, 0, 0, 0, 0, 0, 0, 0, 0, 0, 0, 0, 0, 0, 0, 0, 0, 0, 0, 0, 0, 0, 0, 0, 0, 0, 0, 0, 0, 0, 0, 0, 0, 0, 0, 0, 0, 0, 0, 0, 0, 0, 0, 0, 0, 0, 0, 0, 0, 0, 0, 0, 0, 0, 0, 0, 0, 0, 0, 0, 0, 0, 0, 0, 0, 0, 0, 0, 0, 0, 0, 0, 0, 0, 0, 0, 0, 0, 0, 0, 0, 0, 0, 0, 0, 0, 0, 0, 0, 0, 0, 0, 0, 0, 0, 0, 0, 0, 0, 0, 0, 0, 0, 0, 0, 0, 0, 0, 0, 0, 0, 0, 0, 0, 0]
def laidL : List (Nat × AObj) := [(1, .fixed 0 (spaceZ.map fun z => AV.int .u8 z))]
def tot (_ : Nat) : Nat := 256
end Go.Proofs.YtokndgaghbjgfaaGreatDoor
