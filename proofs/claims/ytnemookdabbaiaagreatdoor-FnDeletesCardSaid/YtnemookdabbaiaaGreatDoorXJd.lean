/- FnDeletes: pieces of its run, by the kernel. -/
import Derived.Test.YtnemookdabbaiaaGreatDoorXJh
namespace Go.Proofs.YtnemookdabbaiaaGreatDoor.LwDeletes
open Go.Xc
theorem p4_6 : execF (fiZ ⟨10, 99⟩) 100000 (comp (EZ ⟨10, 99⟩) N c4) ⟨putL [(3, (.str (digs (1) (0) 2) 2))] .lf, []⟩ ⟨.lf, .h⟩ (ckP N .normal [(3, (.str (digs (1) (0) 2) 2)), (4, (.str ([.lit 49, .lit 10, .lit 48, .lit 10, .lit 49, .lit 32, .lit 49, .lit 10]) 8)), (5, (.bool true))]) = true := by kernel_rfl
theorem p5_6 : execF (fiZ ⟨10, 99⟩) 100000 (comp (EZ ⟨10, 99⟩) N c5) ⟨putL [(3, (.str (digs (1) (0) 2) 2)), (4, (.str ([.lit 49, .lit 10, .lit 48, .lit 10, .lit 49, .lit 32, .lit 49, .lit 10]) 8)), (5, (.bool true))] .lf, []⟩ ⟨.lf, .h⟩ (ckP N .ret [(2, (.bool true))]) = true := by kernel_rfl
end Go.Proofs.YtnemookdabbaiaaGreatDoor.LwDeletes
