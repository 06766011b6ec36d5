/- FnParams: pieces of its run, by the kernel. -/
import Derived.Test.YtnemookdabbaiaaGreatDoorXFh
namespace Go.Proofs.YtnemookdabbaiaaGreatDoor.LwParams
open Go.Xc
theorem p4_0 : execF (fiZ ⟨0, 0⟩) 100000 (comp (EZ ⟨0, 0⟩) N c4) ⟨putL [(3, (.int .i64 (.lit 0)))] .lf, []⟩ ⟨.lf, .h⟩ (ckP N .normal [(3, (.int .i64 (.lit 0))), (4, (.str ([.lit 50] ++ [.lit 32] ++ [.lit 48] ++ [.lit 32, .lit 49, .lit 32] ++ [.lit 49] ++ [.lit 10]) 8)), (5, (.bool true))]) = true := by kernel_rfl
theorem p5_0 : execF (fiZ ⟨0, 0⟩) 100000 (comp (EZ ⟨0, 0⟩) N c5) ⟨putL [(3, (.int .i64 (.lit 0))), (4, (.str ([.lit 50] ++ [.lit 32] ++ [.lit 48] ++ [.lit 32, .lit 49, .lit 32] ++ [.lit 49] ++ [.lit 10]) 8)), (5, (.bool true))] .lf, []⟩ ⟨.lf, .h⟩ (ckP N .ret [(2, (.bool true))]) = true := by kernel_rfl
theorem p4_1 : execF (fiZ ⟨0, 0⟩) 100000 (comp (EZ ⟨0, 0⟩) N c4) ⟨putL [(3, (.int .i64 (.lit 1)))] .lf, []⟩ ⟨.lf, .h⟩ (ckP N .normal [(3, (.int .i64 (.lit 1))), (4, (.str ([.lit 52] ++ [.lit 32] ++ [.lit 49] ++ [.lit 32, .lit 49, .lit 32] ++ [.lit 50] ++ [.lit 10]) 8)), (5, (.bool true))]) = true := by kernel_rfl
theorem p5_1 : execF (fiZ ⟨0, 0⟩) 100000 (comp (EZ ⟨0, 0⟩) N c5) ⟨putL [(3, (.int .i64 (.lit 1))), (4, (.str ([.lit 52] ++ [.lit 32] ++ [.lit 49] ++ [.lit 32, .lit 49, .lit 32] ++ [.lit 50] ++ [.lit 10]) 8)), (5, (.bool true))] .lf, []⟩ ⟨.lf, .h⟩ (ckP N .ret [(2, (.bool true))]) = true := by kernel_rfl
theorem p4_2 : execF (fiZ ⟨0, 0⟩) 100000 (comp (EZ ⟨0, 0⟩) N c4) ⟨putL [(3, (.int .i64 (.lit 2)))] .lf, []⟩ ⟨.lf, .h⟩ (ckP N .normal [(3, (.int .i64 (.lit 2))), (4, (.str ([.lit 54] ++ [.lit 32] ++ [.lit 50] ++ [.lit 32, .lit 49, .lit 32] ++ [.lit 51] ++ [.lit 10]) 8)), (5, (.bool true))]) = true := by kernel_rfl
theorem p5_2 : execF (fiZ ⟨0, 0⟩) 100000 (comp (EZ ⟨0, 0⟩) N c5) ⟨putL [(3, (.int .i64 (.lit 2))), (4, (.str ([.lit 54] ++ [.lit 32] ++ [.lit 50] ++ [.lit 32, .lit 49, .lit 32] ++ [.lit 51] ++ [.lit 10]) 8)), (5, (.bool true))] .lf, []⟩ ⟨.lf, .h⟩ (ckP N .ret [(2, (.bool true))]) = true := by kernel_rfl
end Go.Proofs.YtnemookdabbaiaaGreatDoor.LwParams
