/- The functions of this program that the evaluator takes by a contract, and what it knows at the start. No conditions. -/
import Derived.Test.YtelcgdcbghmngaaGreatDoorVH
import Derived.Test.YtelcgdcbghmngaaGreatDoorSh
import Derived.KernelRfl
namespace Go.Proofs.YtelcgdcbghmngaaGreatDoor
open Go.VM
def extL : List (Nat × Nat) := [(330, 4), (343, 5), (376, 1), (350, 2), (275, 3), (394, 6)]
def sumL : List (Nat × Nat) := [(272, 1), (318, 1), (196, 2)]
abbrev hookA : Hook := ⟨lookN sumL, lookN extL⟩
abbrev hookM : Hook := ⟨lookN ((7, 3) :: sumL), lookN extL⟩
def spaceZ : List Int := [0, 0, 0, 0, 0, 0, 0, 0, 0, 1, 1, 1, 1, 1, 0, 0, 0, 0, 0, 0, 0, 0, 0, 0, 0, 0, 0, 0, 0, 0, 0, 0, 1, 0, 0, 0, 0, 0, 0, 0, 0, 0, 0, 0, 0, 0, 0, 0, 0, 0, 0, 0, 0, 0, 0, 0, 0, 0, 0, 0, 0, 0, 0, 0, 0, 0, 0, 0, 0, 0, 0, 0, 0, 0, 0, 0, 0, 0, 0, 0, 0, 0, 0, 0, 0, 0, 0, 0, 0, 0, 0, 0, 0, 0, 0, 0, 0, 0, 0, 0, 0, 0, 0, 0, 0, 0, 0, 0, 0, 0, 0, 0, 0, 0, 0, 0, 0, 0, 0, 0, 0, 0, 0, 0, 0, 0, 0, 0, 0, 0, 0, 0, 0, 0, 0, 0, 0, 0, 0, 0, 0, 0, 0, 0, 0, 0, 0, 0, 0, 0, 0, 0, 0, 0, 0, 0, 0, 0, 0, 0, 0, 0, 0, 0, 0, 0, 0, 0, 0, 0, 0, 0, 0, 0, 0, 0, 0, 0, 0, 0, 0, 0, 0, 0, 0, 0, 0, 0, 0, 0, 0, 0, 0, 0, 0, 0, 0, 0, 0, 0, 0, 0, 0, 0, 0, 0, 0, 0, 0, 0, 0, 0, 0, 0, 0, 0, 0, 0, 0, 0, 0, 0, 0, 0, 0, 0, 0, 0, 0, 0, 0, 0, 0, 0, 0, 0, 0, 0, 0, 0, 0, 0, 0, 0, 0, 0, 0, 0, 0, 0, 0, 0, 0, 0, 0, 0]
def laidL : List (Nat × AObj) := [(1, .fixed 0 (spaceZ.map fun z => AV.int .u8 z))]
def tot (_ : Nat) : Nat := 256
end Go.Proofs.YtelcgdcbghmngaaGreatDoor
