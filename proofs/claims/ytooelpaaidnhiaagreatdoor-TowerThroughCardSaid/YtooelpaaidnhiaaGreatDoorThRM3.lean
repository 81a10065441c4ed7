/- Runs of the law by the evaluator, in the kernel, its 'awake' taken by its contract: it answers true in every order. No conditions. -/
import Derived.Test.YtooelpaaidnhiaaGreatDoorThH
namespace Go.Proofs.YtooelpaaidnhiaaGreatDoor
open Go.VM
set_option maxRecDepth 1000000 in
theorem main_run_0_3 : @runF Tryz.prog hookM isTrue 500000 (startStS Tryz.prog laidL 6 [.reds .i64 true 255 keyI, .red .i64 true 3 3] [(keyI, dom0)] (keyN 64)) = true := by decide +kernel
set_option maxRecDepth 1000000 in
theorem main_run_1_3 : @runF Tryz.prog hookM isTrue 500000 (startStS Tryz.prog laidL 6 [.reds .i64 true 255 keyI, .red .i64 true 3 3] [(keyI, dom1)] (keyN 64)) = true := by decide +kernel
set_option maxRecDepth 1000000 in
theorem main_run_2_3 : @runF Tryz.prog hookM isTrue 500000 (startStS Tryz.prog laidL 6 [.reds .i64 true 255 keyI, .red .i64 true 3 3] [(keyI, dom2)] (keyN 64)) = true := by decide +kernel
set_option maxRecDepth 1000000 in
theorem main_run_3_3 : @runF Tryz.prog hookM isTrue 500000 (startStS Tryz.prog laidL 6 [.reds .i64 true 255 keyI, .red .i64 true 3 3] [(keyI, dom3)] (keyN 64)) = true := by decide +kernel
set_option maxRecDepth 1000000 in
theorem main_run_4_3 : @runF Tryz.prog hookM isTrue 500000 (startStS Tryz.prog laidL 6 [.reds .i64 true 255 keyI, .red .i64 true 3 3] [(keyI, dom4)] (keyN 64)) = true := by decide +kernel
set_option maxRecDepth 1000000 in
theorem main_run_5_3 : @runF Tryz.prog hookM isTrue 500000 (startStS Tryz.prog laidL 6 [.reds .i64 true 255 keyI, .red .i64 true 3 3] [(keyI, dom5)] (keyN 64)) = true := by decide +kernel
set_option maxRecDepth 1000000 in
theorem main_run_6_3 : @runF Tryz.prog hookM isTrue 500000 (startStS Tryz.prog laidL 6 [.reds .i64 true 255 keyI, .red .i64 true 3 3] [(keyI, dom6)] (keyN 64)) = true := by decide +kernel
set_option maxRecDepth 1000000 in
theorem main_run_7_3 : @runF Tryz.prog hookM isTrue 500000 (startStS Tryz.prog laidL 6 [.reds .i64 true 255 keyI, .red .i64 true 3 3] [(keyI, dom7)] (keyN 64)) = true := by decide +kernel
set_option maxRecDepth 1000000 in
theorem main_run_8_3 : @runF Tryz.prog hookM isTrue 500000 (startStS Tryz.prog laidL 6 [.reds .i64 true 255 keyI, .red .i64 true 3 3] [(keyI, dom8)] (keyN 64)) = true := by decide +kernel
end Go.Proofs.YtooelpaaidnhiaaGreatDoor
