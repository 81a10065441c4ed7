/- Runs of the law by the evaluator, in the kernel, its 'awake' taken by its contract: it answers true in every order. No conditions. -/
import Derived.Test.YtpijekjadohebaaGreatDoorToH
namespace Go.Proofs.YtpijekjadohebaaGreatDoor
open Go.VM
set_option maxRecDepth 1000000 in
theorem main_run_0 : @runF Tryz.prog hookM isTrue 500000 (startSt Tryz.prog laidL 4 [.red .i64 true 3 0]) = true := by decide +kernel
end Go.Proofs.YtpijekjadohebaaGreatDoor
