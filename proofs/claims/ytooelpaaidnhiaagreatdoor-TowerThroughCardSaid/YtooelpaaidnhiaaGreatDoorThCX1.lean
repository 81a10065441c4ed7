/- Rows that turn memory: runs by the evaluator, in the kernel, in every order. No conditions. -/
import Derived.Test.YtooelpaaidnhiaaGreatDoorThH
namespace Go.Proofs.YtooelpaaidnhiaaGreatDoor
open Go.VM
set_option maxRecDepth 1000000 in
theorem cw16_ok : QC cw16 := by decide +kernel
set_option maxRecDepth 1000000 in
theorem cw17_ok : QC cw17 := by decide +kernel
set_option maxRecDepth 1000000 in
theorem cw18_ok : QC cw18 := by decide +kernel
set_option maxRecDepth 1000000 in
theorem cw19_ok : QC cw19 := by decide +kernel
set_option maxRecDepth 1000000 in
theorem cw20_ok : QC cw20 := by decide +kernel
set_option maxRecDepth 1000000 in
theorem cw21_ok : QC cw21 := by decide +kernel
set_option maxRecDepth 1000000 in
theorem cw22_ok : QC cw22 := by decide +kernel
set_option maxRecDepth 1000000 in
theorem cw23_ok : QC cw23 := by decide +kernel
set_option maxRecDepth 1000000 in
theorem cw24_ok : QC cw24 := by decide +kernel
set_option maxRecDepth 1000000 in
theorem cw25_ok : QC cw25 := by decide +kernel
set_option maxRecDepth 1000000 in
theorem cw26_ok : QC cw26 := by decide +kernel
set_option maxRecDepth 1000000 in
theorem cw27_ok : QC cw27 := by decide +kernel
set_option maxRecDepth 1000000 in
theorem cw28_ok : QC cw28 := by decide +kernel
set_option maxRecDepth 1000000 in
theorem cw29_ok : QC cw29 := by decide +kernel
end Go.Proofs.YtooelpaaidnhiaaGreatDoor
