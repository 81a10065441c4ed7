/- Rows that turn memory: runs by the evaluator, in the kernel, in every order. No conditions. -/
import Derived.Test.YtocphdopmdiciaaGreatDoorTkH
namespace Go.Proofs.YtocphdopmdiciaaGreatDoor
open Go.VM
set_option maxRecDepth 1000000 in
theorem cr0_ok : cr0.ok Tryz.prog laidL = true := by decide +kernel
set_option maxRecDepth 1000000 in
theorem cr0_run : (picks cr0.pre).all (fun c => @runF Tryz.prog hookB (covers cr0) 500000 (startM Tryz.prog laidL 25 cr0.args c keyTw)) = true := by decide +kernel
set_option maxRecDepth 1000000 in
theorem cr1_ok : cr1.ok Tryz.prog laidL = true := by decide +kernel
set_option maxRecDepth 1000000 in
theorem cr1_run : (picks cr1.pre).all (fun c => @runF Tryz.prog hookB (covers cr1) 500000 (startM Tryz.prog laidL 25 cr1.args c keyTw)) = true := by decide +kernel
set_option maxRecDepth 1000000 in
theorem cr2_ok : cr2.ok Tryz.prog laidL = true := by decide +kernel
set_option maxRecDepth 1000000 in
theorem cr2_run : (picks cr2.pre).all (fun c => @runF Tryz.prog hookB (covers cr2) 500000 (startM Tryz.prog laidL 25 cr2.args c keyTw)) = true := by decide +kernel
set_option maxRecDepth 1000000 in
theorem cr3_ok : cr3.ok Tryz.prog laidL = true := by decide +kernel
set_option maxRecDepth 1000000 in
theorem cr3_run : (picks cr3.pre).all (fun c => @runF Tryz.prog hookB (covers cr3) 500000 (startM Tryz.prog laidL 25 cr3.args c keyTw)) = true := by decide +kernel
set_option maxRecDepth 1000000 in
theorem cr4_ok : cr4.ok Tryz.prog laidL = true := by decide +kernel
set_option maxRecDepth 1000000 in
theorem cr4_run : (picks cr4.pre).all (fun c => @runF Tryz.prog hookB (covers cr4) 500000 (startM Tryz.prog laidL 25 cr4.args c keyTw)) = true := by decide +kernel
set_option maxRecDepth 1000000 in
theorem cr5_ok : cr5.ok Tryz.prog laidL = true := by decide +kernel
set_option maxRecDepth 1000000 in
theorem cr5_run : (picks cr5.pre).all (fun c => @runF Tryz.prog hookB (covers cr5) 500000 (startM Tryz.prog laidL 25 cr5.args c keyTw)) = true := by decide +kernel
end Go.Proofs.YtocphdopmdiciaaGreatDoor
