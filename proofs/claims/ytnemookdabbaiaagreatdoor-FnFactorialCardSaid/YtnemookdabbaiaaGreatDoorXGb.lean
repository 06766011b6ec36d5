/- FnFactorial: pieces of its run, by the kernel. -/
import Derived.Test.YtnemookdabbaiaaGreatDoorXGh
namespace Go.Proofs.YtnemookdabbaiaaGreatDoor.LwFactorial
open Go.Xc
theorem p4_3 : execF (fiZ ⟨0, 0⟩) 100000 (comp (EZ ⟨0, 0⟩) N c4) ⟨putL [(3, (.int .i64 (.lit 3)))] .lf, []⟩ ⟨.lf, .h⟩ (ckP N .normal [(3, (.int .i64 (.lit 3))), (4, (.str ([.lit 54, .lit 10]) 2)), (5, (.bool true))]) = true := by kernel_rfl
theorem p5_3 : execF (fiZ ⟨0, 0⟩) 100000 (comp (EZ ⟨0, 0⟩) N c5) ⟨putL [(3, (.int .i64 (.lit 3))), (4, (.str ([.lit 54, .lit 10]) 2)), (5, (.bool true))] .lf, []⟩ ⟨.lf, .h⟩ (ckP N .ret [(2, (.bool true))]) = true := by kernel_rfl
theorem p4_4 : execF (fiZ ⟨0, 0⟩) 100000 (comp (EZ ⟨0, 0⟩) N c4) ⟨putL [(3, (.int .i64 (.lit 4)))] .lf, []⟩ ⟨.lf, .h⟩ (ckP N .normal [(3, (.int .i64 (.lit 4))), (4, (.str ([.lit 50, .lit 52, .lit 10]) 3)), (5, (.bool true))]) = true := by kernel_rfl
theorem p5_4 : execF (fiZ ⟨0, 0⟩) 100000 (comp (EZ ⟨0, 0⟩) N c5) ⟨putL [(3, (.int .i64 (.lit 4))), (4, (.str ([.lit 50, .lit 52, .lit 10]) 3)), (5, (.bool true))] .lf, []⟩ ⟨.lf, .h⟩ (ckP N .ret [(2, (.bool true))]) = true := by kernel_rfl
theorem p4_5 : execF (fiZ ⟨0, 0⟩) 100000 (comp (EZ ⟨0, 0⟩) N c4) ⟨putL [(3, (.int .i64 (.lit 5)))] .lf, []⟩ ⟨.lf, .h⟩ (ckP N .normal [(3, (.int .i64 (.lit 5))), (4, (.str ([.lit 49, .lit 50, .lit 48, .lit 10]) 4)), (5, (.bool true))]) = true := by kernel_rfl
theorem p5_5 : execF (fiZ ⟨0, 0⟩) 100000 (comp (EZ ⟨0, 0⟩) N c5) ⟨putL [(3, (.int .i64 (.lit 5))), (4, (.str ([.lit 49, .lit 50, .lit 48, .lit 10]) 4)), (5, (.bool true))] .lf, []⟩ ⟨.lf, .h⟩ (ckP N .ret [(2, (.bool true))]) = true := by kernel_rfl
end Go.Proofs.YtnemookdabbaiaaGreatDoor.LwFactorial
