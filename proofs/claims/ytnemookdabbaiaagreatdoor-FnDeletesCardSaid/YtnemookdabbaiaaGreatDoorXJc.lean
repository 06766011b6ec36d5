/- FnDeletes: pieces of its run, by the kernel. -/
import Derived.Test.YtnemookdabbaiaaGreatDoorXJh
namespace Go.Proofs.YtnemookdabbaiaaGreatDoor.LwDeletes
open Go.Xc
theorem p4_3 : execF (fiZ ⟨3, 4⟩) 100000 (comp (EZ ⟨3, 4⟩) N c4) ⟨putL [(3, (.str (digs (1) (0) 1) 1))] .lf, []⟩ ⟨.lf, .h⟩ (ckP N .normal [(3, (.str (digs (1) (0) 1) 1)), (4, (.str ([.lit 49, .lit 10, .lit 48, .lit 10, .lit 49, .lit 32, .lit 49, .lit 10]) 8)), (5, (.bool true))]) = true := by kernel_rfl
theorem p5_3 : execF (fiZ ⟨3, 4⟩) 100000 (comp (EZ ⟨3, 4⟩) N c5) ⟨putL [(3, (.str (digs (1) (0) 1) 1)), (4, (.str ([.lit 49, .lit 10, .lit 48, .lit 10, .lit 49, .lit 32, .lit 49, .lit 10]) 8)), (5, (.bool true))] .lf, []⟩ ⟨.lf, .h⟩ (ckP N .ret [(2, (.bool true))]) = true := by kernel_rfl
theorem p4_5 : execF (fiZ ⟨6, 9⟩) 100000 (comp (EZ ⟨6, 9⟩) N c4) ⟨putL [(3, (.str (digs (1) (0) 1) 1))] .lf, []⟩ ⟨.lf, .h⟩ (ckP N .normal [(3, (.str (digs (1) (0) 1) 1)), (4, (.str ([.lit 49, .lit 10, .lit 48, .lit 10, .lit 49, .lit 32, .lit 49, .lit 10]) 8)), (5, (.bool true))]) = true := by kernel_rfl
theorem p5_5 : execF (fiZ ⟨6, 9⟩) 100000 (comp (EZ ⟨6, 9⟩) N c5) ⟨putL [(3, (.str (digs (1) (0) 1) 1)), (4, (.str ([.lit 49, .lit 10, .lit 48, .lit 10, .lit 49, .lit 32, .lit 49, .lit 10]) 8)), (5, (.bool true))] .lf, []⟩ ⟨.lf, .h⟩ (ckP N .ret [(2, (.bool true))]) = true := by kernel_rfl
end Go.Proofs.YtnemookdabbaiaaGreatDoor.LwDeletes
