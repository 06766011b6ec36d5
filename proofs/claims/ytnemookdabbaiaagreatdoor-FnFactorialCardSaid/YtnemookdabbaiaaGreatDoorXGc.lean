/- FnFactorial: pieces of its run, by the kernel. -/
import Derived.Test.YtnemookdabbaiaaGreatDoorXGh
namespace Go.Proofs.YtnemookdabbaiaaGreatDoor.LwFactorial
open Go.Xc
theorem p4_6 : execF (fiZ ⟨0, 0⟩) 100000 (comp (EZ ⟨0, 0⟩) N c4) ⟨putL [(3, (.int .i64 (.lit 6)))] .lf, []⟩ ⟨.lf, .h⟩ (ckP N .normal [(3, (.int .i64 (.lit 6))), (4, (.str ([.lit 55, .lit 50, .lit 48, .lit 10]) 4)), (5, (.bool true))]) = true := by kernel_rfl
theorem p5_6 : execF (fiZ ⟨0, 0⟩) 100000 (comp (EZ ⟨0, 0⟩) N c5) ⟨putL [(3, (.int .i64 (.lit 6))), (4, (.str ([.lit 55, .lit 50, .lit 48, .lit 10]) 4)), (5, (.bool true))] .lf, []⟩ ⟨.lf, .h⟩ (ckP N .ret [(2, (.bool true))]) = true := by kernel_rfl
theorem p4_7 : execF (fiZ ⟨0, 0⟩) 100000 (comp (EZ ⟨0, 0⟩) N c4) ⟨putL [(3, (.int .i64 (.lit 7)))] .lf, []⟩ ⟨.lf, .h⟩ (ckP N .normal [(3, (.int .i64 (.lit 7))), (4, (.str ([.lit 53, .lit 48, .lit 52, .lit 48, .lit 10]) 5)), (5, (.bool true))]) = true := by kernel_rfl
theorem p5_7 : execF (fiZ ⟨0, 0⟩) 100000 (comp (EZ ⟨0, 0⟩) N c5) ⟨putL [(3, (.int .i64 (.lit 7))), (4, (.str ([.lit 53, .lit 48, .lit 52, .lit 48, .lit 10]) 5)), (5, (.bool true))] .lf, []⟩ ⟨.lf, .h⟩ (ckP N .ret [(2, (.bool true))]) = true := by kernel_rfl
theorem p4_8 : execF (fiZ ⟨0, 0⟩) 100000 (comp (EZ ⟨0, 0⟩) N c4) ⟨putL [(3, (.int .i64 (.lit 8)))] .lf, []⟩ ⟨.lf, .h⟩ (ckP N .normal [(3, (.int .i64 (.lit 8))), (4, (.str ([.lit 52, .lit 48, .lit 51, .lit 50, .lit 48, .lit 10]) 6)), (5, (.bool true))]) = true := by kernel_rfl
theorem p5_8 : execF (fiZ ⟨0, 0⟩) 100000 (comp (EZ ⟨0, 0⟩) N c5) ⟨putL [(3, (.int .i64 (.lit 8))), (4, (.str ([.lit 52, .lit 48, .lit 51, .lit 50, .lit 48, .lit 10]) 6)), (5, (.bool true))] .lf, []⟩ ⟨.lf, .h⟩ (ckP N .ret [(2, (.bool true))]) = true := by kernel_rfl
end Go.Proofs.YtnemookdabbaiaaGreatDoor.LwFactorial
