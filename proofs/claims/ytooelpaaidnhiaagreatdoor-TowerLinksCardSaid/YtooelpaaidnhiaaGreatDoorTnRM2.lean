/- Runs of the law by the evaluator, in the kernel, its 'awake' taken by its contract: it answers true in every order. No conditions. -/
import Derived.Test.YtooelpaaidnhiaaGreatDoorTnH
namespace Go.Proofs.YtooelpaaidnhiaaGreatDoor
open Go.VM
set_option maxRecDepth 1000000 in
theorem main_run_0_2 : @runF Tryz.prog hookM isTrue 500000 (startStS Tryz.prog laidL 3 [.red .i64 true 3 0, .reds .i64 true 255 keyI] [(keyI, dom2)] (keyN 64)) = true := by decide +kernel
set_option maxRecDepth 1000000 in
theorem main_run_0_7 : @runF Tryz.prog hookM isTrue 500000 (startStS Tryz.prog laidL 3 [.red .i64 true 3 0, .reds .i64 true 255 keyI] [(keyI, dom7)] (keyN 64)) = true := by decide +kernel
set_option maxRecDepth 1000000 in
theorem main_run_1_4 : @runF Tryz.prog hookM isTrue 500000 (startStS Tryz.prog laidL 3 [.red .i64 true 3 1, .reds .i64 true 255 keyI] [(keyI, dom4)] (keyN 64)) = true := by decide +kernel
set_option maxRecDepth 1000000 in
theorem main_run_2_1 : @runF Tryz.prog hookM isTrue 500000 (startStS Tryz.prog laidL 3 [.red .i64 true 3 2, .reds .i64 true 255 keyI] [(keyI, dom1)] (keyN 64)) = true := by decide +kernel
set_option maxRecDepth 1000000 in
theorem main_run_2_6 : @runF Tryz.prog hookM isTrue 500000 (startStS Tryz.prog laidL 3 [.red .i64 true 3 2, .reds .i64 true 255 keyI] [(keyI, dom6)] (keyN 64)) = true := by decide +kernel
set_option maxRecDepth 1000000 in
theorem main_run_3_3 : @runF Tryz.prog hookM isTrue 500000 (startStS Tryz.prog laidL 3 [.red .i64 true 3 3, .reds .i64 true 255 keyI] [(keyI, dom3)] (keyN 64)) = true := by decide +kernel
end Go.Proofs.YtooelpaaidnhiaaGreatDoor
