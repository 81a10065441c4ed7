/- Rows that turn memory: runs by the evaluator, in the kernel, in every order. No conditions. -/
import Derived.Test.YtocphdopmdiciaaGreatDoorTkH
namespace Go.Proofs.YtocphdopmdiciaaGreatDoor
open Go.VM
set_option maxRecDepth 1000000 in
theorem tr32_ok : tr32.ok Tryz.prog laidL = true := by decide +kernel
set_option maxRecDepth 1000000 in
theorem tr32_run : (picks tr32.pre).all (fun c => @runF Tryz.prog hookA (covers tr32) 500000 (startM Tryz.prog laidL 125 tr32.args c keyTw)) = true := by decide +kernel
set_option maxRecDepth 1000000 in
theorem tr33_ok : tr33.ok Tryz.prog laidL = true := by decide +kernel
set_option maxRecDepth 1000000 in
theorem tr33_run : (picks tr33.pre).all (fun c => @runF Tryz.prog hookA (covers tr33) 500000 (startM Tryz.prog laidL 125 tr33.args c keyTw)) = true := by decide +kernel
set_option maxRecDepth 1000000 in
theorem tr34_ok : tr34.ok Tryz.prog laidL = true := by decide +kernel
set_option maxRecDepth 1000000 in
theorem tr34_run : (picks tr34.pre).all (fun c => @runF Tryz.prog hookA (covers tr34) 500000 (startM Tryz.prog laidL 125 tr34.args c keyTw)) = true := by decide +kernel
set_option maxRecDepth 1000000 in
theorem tr35_ok : tr35.ok Tryz.prog laidL = true := by decide +kernel
set_option maxRecDepth 1000000 in
theorem tr35_run : (picks tr35.pre).all (fun c => @runF Tryz.prog hookA (covers tr35) 500000 (startM Tryz.prog laidL 125 tr35.args c keyTw)) = true := by decide +kernel
set_option maxRecDepth 1000000 in
theorem tr36_ok : tr36.ok Tryz.prog laidL = true := by decide +kernel
set_option maxRecDepth 1000000 in
theorem tr36_run : (picks tr36.pre).all (fun c => @runF Tryz.prog hookA (covers tr36) 500000 (startM Tryz.prog laidL 125 tr36.args c keyTw)) = true := by decide +kernel
set_option maxRecDepth 1000000 in
theorem tr37_ok : tr37.ok Tryz.prog laidL = true := by decide +kernel
set_option maxRecDepth 1000000 in
theorem tr37_run : (picks tr37.pre).all (fun c => @runF Tryz.prog hookA (covers tr37) 500000 (startM Tryz.prog laidL 125 tr37.args c keyTw)) = true := by decide +kernel
set_option maxRecDepth 1000000 in
theorem tr38_ok : tr38.ok Tryz.prog laidL = true := by decide +kernel
set_option maxRecDepth 1000000 in
theorem tr38_run : (picks tr38.pre).all (fun c => @runF Tryz.prog hookA (covers tr38) 500000 (startM Tryz.prog laidL 125 tr38.args c keyTw)) = true := by decide +kernel
set_option maxRecDepth 1000000 in
theorem tr39_ok : tr39.ok Tryz.prog laidL = true := by decide +kernel
set_option maxRecDepth 1000000 in
theorem tr39_run : (picks tr39.pre).all (fun c => @runF Tryz.prog hookA (covers tr39) 500000 (startM Tryz.prog laidL 125 tr39.args c keyTw)) = true := by decide +kernel
end Go.Proofs.YtocphdopmdiciaaGreatDoor
