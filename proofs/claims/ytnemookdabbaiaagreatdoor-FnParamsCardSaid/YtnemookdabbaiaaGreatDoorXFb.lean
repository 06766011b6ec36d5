/- FnParams: pieces of its run, by the kernel. -/
import Derived.Test.YtnemookdabbaiaaGreatDoorXFh
namespace Go.Proofs.YtnemookdabbaiaaGreatDoor.LwParams
open Go.Xc
theorem p4_3 : execF (fiZ ⟨0, 0⟩) 100000 (comp (EZ ⟨0, 0⟩) N c4) ⟨putL [(3, (.int .i64 (.lit 3)))] .lf, []⟩ ⟨.lf, .h⟩ (ckP N .normal [(3, (.int .i64 (.lit 3))), (4, (.str ([.lit 56] ++ [.lit 32] ++ [.lit 51] ++ [.lit 32, .lit 49, .lit 32] ++ [.lit 52] ++ [.lit 10]) 8)), (5, (.bool true))]) = true := by kernel_rfl
theorem p5_3 : execF (fiZ ⟨0, 0⟩) 100000 (comp (EZ ⟨0, 0⟩) N c5) ⟨putL [(3, (.int .i64 (.lit 3))), (4, (.str ([.lit 56] ++ [.lit 32] ++ [.lit 51] ++ [.lit 32, .lit 49, .lit 32] ++ [.lit 52] ++ [.lit 10]) 8)), (5, (.bool true))] .lf, []⟩ ⟨.lf, .h⟩ (ckP N .ret [(2, (.bool true))]) = true := by kernel_rfl
theorem p4_4 : execF (fiZ ⟨4, 8⟩) 100000 (comp (EZ ⟨4, 8⟩) N c4) ⟨putL [(3, (.int .i64 (.lin 1 (0))))] .lf, []⟩ ⟨.lf, .h⟩ (ckP N .normal [(3, (.int .i64 (.lin 1 (0)))), (4, (.str (digs (2) (2) 2 ++ [.lit 32] ++ digs (1) (0) 1 ++ [.lit 32, .lit 49, .lit 32] ++ digs (1) (1) 1 ++ [.lit 10]) 9)), (5, (.bool true))]) = true := by kernel_rfl
theorem p5_4 : execF (fiZ ⟨4, 8⟩) 100000 (comp (EZ ⟨4, 8⟩) N c5) ⟨putL [(3, (.int .i64 (.lin 1 (0)))), (4, (.str (digs (2) (2) 2 ++ [.lit 32] ++ digs (1) (0) 1 ++ [.lit 32, .lit 49, .lit 32] ++ digs (1) (1) 1 ++ [.lit 10]) 9)), (5, (.bool true))] .lf, []⟩ ⟨.lf, .h⟩ (ckP N .ret [(2, (.bool true))]) = true := by kernel_rfl
theorem p4_5 : execF (fiZ ⟨0, 0⟩) 100000 (comp (EZ ⟨0, 0⟩) N c4) ⟨putL [(3, (.int .i64 (.lit 9)))] .lf, []⟩ ⟨.lf, .h⟩ (ckP N .normal [(3, (.int .i64 (.lit 9))), (4, (.str ([.lit 50, .lit 48] ++ [.lit 32] ++ [.lit 57] ++ [.lit 32, .lit 49, .lit 32] ++ [.lit 49, .lit 48] ++ [.lit 10]) 10)), (5, (.bool true))]) = true := by kernel_rfl
theorem p5_5 : execF (fiZ ⟨0, 0⟩) 100000 (comp (EZ ⟨0, 0⟩) N c5) ⟨putL [(3, (.int .i64 (.lit 9))), (4, (.str ([.lit 50, .lit 48] ++ [.lit 32] ++ [.lit 57] ++ [.lit 32, .lit 49, .lit 32] ++ [.lit 49, .lit 48] ++ [.lit 10]) 10)), (5, (.bool true))] .lf, []⟩ ⟨.lf, .h⟩ (ckP N .ret [(2, (.bool true))]) = true := by kernel_rfl
end Go.Proofs.YtnemookdabbaiaaGreatDoor.LwParams
