/- The states at the heads of the law's loop, round by round, reckoned by the evaluator; the first way of each. No conditions. -/
import Derived.Test.YtaoackhjaoofnaaJqH
namespace Go.Proofs.Ytaoackhjaoofnaa
open Go.VM
def ts : List Nat := [11, 47, 48, 49, 50, 51, 53, 59]
def dsL : List Nat := []
def wsOf (j : Nat) : List (Nat × Nat × Nat × Nat) := [(5, 3, 256, j + 1)]
def ksOf (_ : Nat) : List (Key × Nat) := [(keyN 0, 64), (keyN 4096, 16), (keyA, 1), (keyL, 1)]
noncomputable def nx (j : Nat) (s : St) : St := @nextW Try.prog hookM (wsOf j) dsL (ksOf j) ts (@firstB Try.prog hookM 3 500000 s)
noncomputable def s0 : St := stG Try.prog laidL 3 [.sliceG keyA keyL] [(keyL, .ivl 1 9223372036854775808)] keyA (.red .i64 false 1 0) keyL (keyN 4096)
noncomputable def s1 : St := nx 0 s0
noncomputable def s2 : St := nx 1 s1
noncomputable def s3 : St := nx 2 s2
noncomputable def s4 : St := nx 3 s3
noncomputable def s5 : St := nx 4 s4
noncomputable def s6 : St := nx 5 s5
noncomputable def s7 : St := nx 6 s6
noncomputable def s8 : St := nx 7 s7
noncomputable def s9 : St := nx 8 s8
noncomputable def s10 : St := nx 9 s9
noncomputable def s11 : St := nx 10 s10
noncomputable def s12 : St := nx 11 s11
noncomputable def s13 : St := nx 12 s12
noncomputable def s14 : St := nx 13 s13
noncomputable def s15 : St := nx 14 s14
noncomputable def s16 : St := nx 15 s15
noncomputable def s17 : St := nx 16 s16
noncomputable def s18 : St := nx 17 s17
noncomputable def s19 : St := nx 18 s18
noncomputable def s20 : St := nx 19 s19
noncomputable def s21 : St := nx 20 s20
noncomputable def s22 : St := nx 21 s21
noncomputable def s23 : St := nx 22 s22
noncomputable def s24 : St := nx 23 s23
noncomputable def s25 : St := nx 24 s24
noncomputable def s26 : St := nx 25 s25
noncomputable def s27 : St := nx 26 s26
noncomputable def s28 : St := nx 27 s27
noncomputable def s29 : St := nx 28 s28
noncomputable def s30 : St := nx 29 s29
end Go.Proofs.Ytaoackhjaoofnaa
