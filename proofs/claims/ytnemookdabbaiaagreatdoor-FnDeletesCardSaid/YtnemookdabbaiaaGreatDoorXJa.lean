/- FnDeletes: pieces of its run, by the kernel. -/
import Derived.Test.YtnemookdabbaiaaGreatDoorXJh
namespace Go.Proofs.YtnemookdabbaiaaGreatDoor.LwDeletes
open Go.Xc
theorem p4_0 : execF (fiZ ⟨0, 0⟩) 100000 (comp (EZ ⟨0, 0⟩) N c4) ⟨putL [(3, (.str ([.lit 48]) 1))] .lf, []⟩ ⟨.lf, .h⟩ (ckP N .normal [(3, (.str ([.lit 48]) 1)), (4, (.str ([.lit 49, .lit 10, .lit 48, .lit 10, .lit 49, .lit 32, .lit 49, .lit 10]) 8)), (5, (.bool true))]) = true := by kernel_rfl
theorem p5_0 : execF (fiZ ⟨0, 0⟩) 100000 (comp (EZ ⟨0, 0⟩) N c5) ⟨putL [(3, (.str ([.lit 48]) 1)), (4, (.str ([.lit 49, .lit 10, .lit 48, .lit 10, .lit 49, .lit 32, .lit 49, .lit 10]) 8)), (5, (.bool true))] .lf, []⟩ ⟨.lf, .h⟩ (ckP N .ret [(2, (.bool true))]) = true := by kernel_rfl
theorem p4_1 : execF (fiZ ⟨0, 0⟩) 100000 (comp (EZ ⟨0, 0⟩) N c4) ⟨putL [(3, (.str ([.lit 49]) 1))] .lf, []⟩ ⟨.lf, .h⟩ (ckP N .normal [(3, (.str ([.lit 49]) 1)), (4, (.str ([.lit 49, .lit 10, .lit 48, .lit 10, .lit 49, .lit 32, .lit 49, .lit 10]) 8)), (5, (.bool true))]) = true := by kernel_rfl
theorem p5_1 : execF (fiZ ⟨0, 0⟩) 100000 (comp (EZ ⟨0, 0⟩) N c5) ⟨putL [(3, (.str ([.lit 49]) 1)), (4, (.str ([.lit 49, .lit 10, .lit 48, .lit 10, .lit 49, .lit 32, .lit 49, .lit 10]) 8)), (5, (.bool true))] .lf, []⟩ ⟨.lf, .h⟩ (ckP N .ret [(2, (.bool true))]) = true := by kernel_rfl
end Go.Proofs.YtnemookdabbaiaaGreatDoor.LwDeletes
