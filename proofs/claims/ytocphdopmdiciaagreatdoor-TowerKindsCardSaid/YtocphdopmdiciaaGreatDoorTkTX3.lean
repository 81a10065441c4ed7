/- Rows that turn memory: runs by the evaluator, in the kernel, in every order. No conditions. -/
import Derived.Test.YtocphdopmdiciaaGreatDoorTkH
namespace Go.Proofs.YtocphdopmdiciaaGreatDoor
open Go.VM
set_option maxRecDepth 1000000 in
theorem tr24_ok : tr24.ok Tryz.prog laidL = true := by decide +kernel
set_option maxRecDepth 1000000 in
theorem tr24_run : (picks tr24.pre).all (fun c => @runF Tryz.prog hookA (covers tr24) 500000 (startM Tryz.prog laidL 125 tr24.args c keyTw)) = true := by decide +kernel
set_option maxRecDepth 1000000 in
theorem tr25_ok : tr25.ok Tryz.prog laidL = true := by decide +kernel
set_option maxRecDepth 1000000 in
theorem tr25_run : (picks tr25.pre).all (fun c => @runF Tryz.prog hookA (covers tr25) 500000 (startM Tryz.prog laidL 125 tr25.args c keyTw)) = true := by decide +kernel
set_option maxRecDepth 1000000 in
theorem tr26_ok : tr26.ok Tryz.prog laidL = true := by decide +kernel
set_option maxRecDepth 1000000 in
theorem tr26_run : (picks tr26.pre).all (fun c => @runF Tryz.prog hookA (covers tr26) 500000 (startM Tryz.prog laidL 125 tr26.args c keyTw)) = true := by decide +kernel
set_option maxRecDepth 1000000 in
theorem tr27_ok : tr27.ok Tryz.prog laidL = true := by decide +kernel
set_option maxRecDepth 1000000 in
theorem tr27_run : (picks tr27.pre).all (fun c => @runF Tryz.prog hookA (covers tr27) 500000 (startM Tryz.prog laidL 125 tr27.args c keyTw)) = true := by decide +kernel
set_option maxRecDepth 1000000 in
theorem tr28_ok : tr28.ok Tryz.prog laidL = true := by decide +kernel
set_option maxRecDepth 1000000 in
theorem tr28_run : (picks tr28.pre).all (fun c => @runF Tryz.prog hookA (covers tr28) 500000 (startM Tryz.prog laidL 125 tr28.args c keyTw)) = true := by decide +kernel
set_option maxRecDepth 1000000 in
theorem tr29_ok : tr29.ok Tryz.prog laidL = true := by decide +kernel
set_option maxRecDepth 1000000 in
theorem tr29_run : (picks tr29.pre).all (fun c => @runF Tryz.prog hookA (covers tr29) 500000 (startM Tryz.prog laidL 125 tr29.args c keyTw)) = true := by decide +kernel
set_option maxRecDepth 1000000 in
theorem tr30_ok : tr30.ok Tryz.prog laidL = true := by decide +kernel
set_option maxRecDepth 1000000 in
theorem tr30_run : (picks tr30.pre).all (fun c => @runF Tryz.prog hookA (covers tr30) 500000 (startM Tryz.prog laidL 125 tr30.args c keyTw)) = true := by decide +kernel
set_option maxRecDepth 1000000 in
theorem tr31_ok : tr31.ok Tryz.prog laidL = true := by decide +kernel
set_option maxRecDepth 1000000 in
theorem tr31_run : (picks tr31.pre).all (fun c => @runF Tryz.prog hookA (covers tr31) 500000 (startM Tryz.prog laidL 125 tr31.args c keyTw)) = true := by decide +kernel
end Go.Proofs.YtocphdopmdiciaaGreatDoor
