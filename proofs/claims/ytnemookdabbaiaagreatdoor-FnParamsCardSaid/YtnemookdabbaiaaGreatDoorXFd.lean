/- FnParams: pieces of its run, by the kernel. -/
import Derived.Test.YtnemookdabbaiaaGreatDoorXFh
namespace Go.Proofs.YtnemookdabbaiaaGreatDoor.LwParams
open Go.Xc
theorem p4_8 : execF (fiZ ⟨0, 0⟩) 100000 (comp (EZ ⟨0, 0⟩) N c4) ⟨putL [(3, (.int .i64 (.lit 99)))] .lf, []⟩ ⟨.lf, .h⟩ (ckP N .normal [(3, (.int .i64 (.lit 99))), (4, (.str ([.lit 50, .lit 48, .lit 48] ++ [.lit 32] ++ [.lit 57, .lit 57] ++ [.lit 32, .lit 49, .lit 32] ++ [.lit 49, .lit 48, .lit 48] ++ [.lit 10]) 13)), (5, (.bool true))]) = true := by kernel_rfl
theorem p5_8 : execF (fiZ ⟨0, 0⟩) 100000 (comp (EZ ⟨0, 0⟩) N c5) ⟨putL [(3, (.int .i64 (.lit 99))), (4, (.str ([.lit 50, .lit 48, .lit 48] ++ [.lit 32] ++ [.lit 57, .lit 57] ++ [.lit 32, .lit 49, .lit 32] ++ [.lit 49, .lit 48, .lit 48] ++ [.lit 10]) 13)), (5, (.bool true))] .lf, []⟩ ⟨.lf, .h⟩ (ckP N .ret [(2, (.bool true))]) = true := by kernel_rfl
theorem p4_9 : execF (fiZ ⟨100, 255⟩) 100000 (comp (EZ ⟨100, 255⟩) N c4) ⟨putL [(3, (.int .i64 (.lin 1 (0))))] .lf, []⟩ ⟨.lf, .h⟩ (ckP N .normal [(3, (.int .i64 (.lin 1 (0)))), (4, (.str (digs (2) (2) 3 ++ [.lit 32] ++ digs (1) (0) 3 ++ [.lit 32, .lit 49, .lit 32] ++ digs (1) (1) 3 ++ [.lit 10]) 14)), (5, (.bool true))]) = true := by kernel_rfl
theorem p5_9 : execF (fiZ ⟨100, 255⟩) 100000 (comp (EZ ⟨100, 255⟩) N c5) ⟨putL [(3, (.int .i64 (.lin 1 (0)))), (4, (.str (digs (2) (2) 3 ++ [.lit 32] ++ digs (1) (0) 3 ++ [.lit 32, .lit 49, .lit 32] ++ digs (1) (1) 3 ++ [.lit 10]) 14)), (5, (.bool true))] .lf, []⟩ ⟨.lf, .h⟩ (ckP N .ret [(2, (.bool true))]) = true := by kernel_rfl
end Go.Proofs.YtnemookdabbaiaaGreatDoor.LwParams
