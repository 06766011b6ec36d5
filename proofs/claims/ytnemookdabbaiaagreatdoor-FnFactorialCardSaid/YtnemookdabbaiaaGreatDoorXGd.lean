/- FnFactorial: pieces of its run, by the kernel. -/
import Derived.Test.YtnemookdabbaiaaGreatDoorXGh
namespace Go.Proofs.YtnemookdabbaiaaGreatDoor.LwFactorial
open Go.Xc
theorem p4_9 : execF (fiZ ⟨0, 0⟩) 100000 (comp (EZ ⟨0, 0⟩) N c4) ⟨putL [(3, (.int .i64 (.lit 9)))] .lf, []⟩ ⟨.lf, .h⟩ (ckP N .normal [(3, (.int .i64 (.lit 9))), (4, (.str ([.lit 102, .lit 97, .lit 117, .lit 108, .lit 116, .lit 32, .lit 51, .lit 10]) 8)), (5, (.bool true))]) = true := by kernel_rfl
theorem p5_9 : execF (fiZ ⟨0, 0⟩) 100000 (comp (EZ ⟨0, 0⟩) N c5) ⟨putL [(3, (.int .i64 (.lit 9))), (4, (.str ([.lit 102, .lit 97, .lit 117, .lit 108, .lit 116, .lit 32, .lit 51, .lit 10]) 8)), (5, (.bool true))] .lf, []⟩ ⟨.lf, .h⟩ (ckP N .ret [(2, (.bool true))]) = true := by kernel_rfl
theorem p4_10 : execF (fiZ ⟨0, 0⟩) 100000 (comp (EZ ⟨0, 0⟩) N c4) ⟨putL [(3, (.int .i64 (.lit 10)))] .lf, []⟩ ⟨.lf, .h⟩ (ckP N .normal [(3, (.int .i64 (.lit 10))), (4, (.str ([.lit 102, .lit 97, .lit 117, .lit 108, .lit 116, .lit 32, .lit 51, .lit 10]) 8)), (5, (.bool true))]) = true := by kernel_rfl
theorem p5_10 : execF (fiZ ⟨0, 0⟩) 100000 (comp (EZ ⟨0, 0⟩) N c5) ⟨putL [(3, (.int .i64 (.lit 10))), (4, (.str ([.lit 102, .lit 97, .lit 117, .lit 108, .lit 116, .lit 32, .lit 51, .lit 10]) 8)), (5, (.bool true))] .lf, []⟩ ⟨.lf, .h⟩ (ckP N .ret [(2, (.bool true))]) = true := by kernel_rfl
theorem p4_11 : execF (fiZ ⟨0, 0⟩) 100000 (comp (EZ ⟨0, 0⟩) N c4) ⟨putL [(3, (.int .i64 (.lit 11)))] .lf, []⟩ ⟨.lf, .h⟩ (ckP N .normal [(3, (.int .i64 (.lit 11))), (4, (.str ([.lit 102, .lit 97, .lit 117, .lit 108, .lit 116, .lit 32, .lit 51, .lit 10]) 8)), (5, (.bool true))]) = true := by kernel_rfl
theorem p5_11 : execF (fiZ ⟨0, 0⟩) 100000 (comp (EZ ⟨0, 0⟩) N c5) ⟨putL [(3, (.int .i64 (.lit 11))), (4, (.str ([.lit 102, .lit 97, .lit 117, .lit 108, .lit 116, .lit 32, .lit 51, .lit 10]) 8)), (5, (.bool true))] .lf, []⟩ ⟨.lf, .h⟩ (ckP N .ret [(2, (.bool true))]) = true := by kernel_rfl
end Go.Proofs.YtnemookdabbaiaaGreatDoor.LwFactorial
