/- A row that turns memory: its run up to its first fork, then way by way, in the kernel. No conditions. -/
import Derived.Test.YtooelpaaidnhiaaGreatDoorTwH
import Derived.Test.YtooelpaaidnhiaaGreatDoorVK
namespace Go.Proofs.YtooelpaaidnhiaaGreatDoor
open Go.VM
noncomputable def trow5 : MRow := match tw5 with | r :: _ => r | _ => ⟨[], [], .junk, []⟩
set_option maxRecDepth 1000000 in
theorem tw5_own : trow5.okX Tryz.prog laidL = true := by decide +kernel
set_option maxRecDepth 1000000 in
theorem tw5_one : Nat.beq (List.length (picks trow5.pre)) 1 = true := by decide +kernel
set_option maxRecDepth 1000000 in
theorem tw5_len : Nat.beq (waysN (@forkF Tryz.prog hookA 500000 (@startX Tryz.prog laidL 134 keyTw trow5))) (5 + 1) = true := by decide +kernel
set_option maxRecDepth 1000000 in
theorem tw5_way0 : @runF Tryz.prog hookA (covers trow5) 500000 (wayAt (@forkF Tryz.prog hookA 500000 (@startX Tryz.prog laidL 134 keyTw trow5)) 0) = true := by decide +kernel
set_option maxRecDepth 1000000 in
theorem tw5_way1 : @runF Tryz.prog hookA (covers trow5) 500000 (wayAt (@forkF Tryz.prog hookA 500000 (@startX Tryz.prog laidL 134 keyTw trow5)) 1) = true := by decide +kernel
set_option maxRecDepth 1000000 in
theorem tw5_way2 : @runF Tryz.prog hookA (covers trow5) 500000 (wayAt (@forkF Tryz.prog hookA 500000 (@startX Tryz.prog laidL 134 keyTw trow5)) 2) = true := by decide +kernel
set_option maxRecDepth 1000000 in
theorem tw5_way3 : @runF Tryz.prog hookA (covers trow5) 500000 (wayAt (@forkF Tryz.prog hookA 500000 (@startX Tryz.prog laidL 134 keyTw trow5)) 3) = true := by decide +kernel
set_option maxRecDepth 1000000 in
theorem tw5_way4 : @runF Tryz.prog hookA (covers trow5) 500000 (wayAt (@forkF Tryz.prog hookA 500000 (@startX Tryz.prog laidL 134 keyTw trow5)) 4) = true := by decide +kernel
set_option maxRecDepth 1000000 in
theorem tw5_way5 : @runF Tryz.prog hookA (covers trow5) 500000 (wayAt (@forkF Tryz.prog hookA 500000 (@startX Tryz.prog laidL 134 keyTw trow5)) 5) = true := by decide +kernel
set_option maxRecDepth 1000000 in
theorem tw5_all (r : MRow) (h : r ∈ tw5) : @RowRunsX hookA Tryz.prog laidL 134 keyTw r := by
  have e : r = trow5 := by simpa [tw5, trow5] using h
  subst e
  exact @row_split Tryz.prog hookA laidL 134 500000 500000 5 keyTw trow5 tw5_own tw5_one tw5_len (fun i hi => match i, hi with
    | 0, _ => tw5_way0
    | 1, _ => tw5_way1
    | 2, _ => tw5_way2
    | 3, _ => tw5_way3
    | 4, _ => tw5_way4
    | 5, _ => tw5_way5
    | n + 6, hi => absurd hi (by omega))
end Go.Proofs.YtooelpaaidnhiaaGreatDoor
