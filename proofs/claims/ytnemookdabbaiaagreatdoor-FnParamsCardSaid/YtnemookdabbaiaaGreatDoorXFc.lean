/- FnParams: pieces of its run, by the kernel. -/
import Derived.Test.YtnemookdabbaiaaGreatDoorXFh
namespace Go.Proofs.YtnemookdabbaiaaGreatDoor.LwParams
open Go.Xc
theorem p4_6 : execF (fiZ ⟨10, 48⟩) 100000 (comp (EZ ⟨10, 48⟩) N c4) ⟨putL [(3, (.int .i64 (.lin 1 (0))))] .lf, []⟩ ⟨.lf, .h⟩ (ckP N .normal [(3, (.int .i64 (.lin 1 (0)))), (4, (.str (digs (2) (2) 2 ++ [.lit 32] ++ digs (1) (0) 2 ++ [.lit 32, .lit 49, .lit 32] ++ digs (1) (1) 2 ++ [.lit 10]) 11)), (5, (.bool true))]) = true := by kernel_rfl
theorem p5_6 : execF (fiZ ⟨10, 48⟩) 100000 (comp (EZ ⟨10, 48⟩) N c5) ⟨putL [(3, (.int .i64 (.lin 1 (0)))), (4, (.str (digs (2) (2) 2 ++ [.lit 32] ++ digs (1) (0) 2 ++ [.lit 32, .lit 49, .lit 32] ++ digs (1) (1) 2 ++ [.lit 10]) 11)), (5, (.bool true))] .lf, []⟩ ⟨.lf, .h⟩ (ckP N .ret [(2, (.bool true))]) = true := by kernel_rfl
theorem p4_7 : execF (fiZ ⟨49, 98⟩) 100000 (comp (EZ ⟨49, 98⟩) N c4) ⟨putL [(3, (.int .i64 (.lin 1 (0))))] .lf, []⟩ ⟨.lf, .h⟩ (ckP N .normal [(3, (.int .i64 (.lin 1 (0)))), (4, (.str (digs (2) (2) 3 ++ [.lit 32] ++ digs (1) (0) 2 ++ [.lit 32, .lit 49, .lit 32] ++ digs (1) (1) 2 ++ [.lit 10]) 12)), (5, (.bool true))]) = true := by kernel_rfl
theorem p5_7 : execF (fiZ ⟨49, 98⟩) 100000 (comp (EZ ⟨49, 98⟩) N c5) ⟨putL [(3, (.int .i64 (.lin 1 (0)))), (4, (.str (digs (2) (2) 3 ++ [.lit 32] ++ digs (1) (0) 2 ++ [.lit 32, .lit 49, .lit 32] ++ digs (1) (1) 2 ++ [.lit 10]) 12)), (5, (.bool true))] .lf, []⟩ ⟨.lf, .h⟩ (ckP N .ret [(2, (.bool true))]) = true := by kernel_rfl
end Go.Proofs.YtnemookdabbaiaaGreatDoor.LwParams
