/- FnDeletes: the numbers in words. -/
import Derived.Test.YtnemookdabbaiaaGreatDoorXJh
namespace Go.Proofs.YtnemookdabbaiaaGreatDoor.LwDeletes
open Go.Xc
theorem d_0 : callOf (fiZ ⟨0, 0⟩) (execF (fiZ ⟨0, 0⟩) 100000) 13 [(.int .i64 (.lit 0))] ⟨.lf, .h⟩ (fun u _ => feq u (.str ([.lit 48]) 1)) = true := by kernel_rfl
theorem o_0 : ((fiZ ⟨0, 0⟩) 13).orc.isNone = true := by kernel_rfl
theorem d_1 : callOf (fiZ ⟨0, 0⟩) (execF (fiZ ⟨0, 0⟩) 100000) 13 [(.int .i64 (.lit 1))] ⟨.lf, .h⟩ (fun u _ => feq u (.str ([.lit 49]) 1)) = true := by kernel_rfl
theorem o_1 : ((fiZ ⟨0, 0⟩) 13).orc.isNone = true := by kernel_rfl
theorem d_2 : callOf (fiZ ⟨0, 0⟩) (execF (fiZ ⟨0, 0⟩) 100000) 13 [(.int .i64 (.lit 2))] ⟨.lf, .h⟩ (fun u _ => feq u (.str ([.lit 50]) 1)) = true := by kernel_rfl
theorem o_2 : ((fiZ ⟨0, 0⟩) 13).orc.isNone = true := by kernel_rfl
theorem d_3 : callOf (fiZ ⟨3, 4⟩) (execF (fiZ ⟨3, 4⟩) 100000) 13 [(.int .i64 (.lin 1 (0)))] ⟨.lf, .h⟩ (fun u _ => feq u (.str (digs (1) (0) 1) 1)) = true := by kernel_rfl
theorem o_3 : ((fiZ ⟨3, 4⟩) 13).orc.isNone = true := by kernel_rfl
theorem d_4 : callOf (fiZ ⟨0, 0⟩) (execF (fiZ ⟨0, 0⟩) 100000) 13 [(.int .i64 (.lit 5))] ⟨.lf, .h⟩ (fun u _ => feq u (.str ([.lit 53]) 1)) = true := by kernel_rfl
theorem o_4 : ((fiZ ⟨0, 0⟩) 13).orc.isNone = true := by kernel_rfl
theorem d_5 : callOf (fiZ ⟨6, 9⟩) (execF (fiZ ⟨6, 9⟩) 100000) 13 [(.int .i64 (.lin 1 (0)))] ⟨.lf, .h⟩ (fun u _ => feq u (.str (digs (1) (0) 1) 1)) = true := by kernel_rfl
theorem o_5 : ((fiZ ⟨6, 9⟩) 13).orc.isNone = true := by kernel_rfl
theorem d_6 : callOf (fiZ ⟨10, 99⟩) (execF (fiZ ⟨10, 99⟩) 100000) 13 [(.int .i64 (.lin 1 (0)))] ⟨.lf, .h⟩ (fun u _ => feq u (.str (digs (1) (0) 2) 2)) = true := by kernel_rfl
theorem o_6 : ((fiZ ⟨10, 99⟩) 13).orc.isNone = true := by kernel_rfl
theorem d_7 : callOf (fiZ ⟨100, 255⟩) (execF (fiZ ⟨100, 255⟩) 100000) 13 [(.int .i64 (.lin 1 (0)))] ⟨.lf, .h⟩ (fun u _ => feq u (.str (digs (1) (0) 3) 3)) = true := by kernel_rfl
theorem o_7 : ((fiZ ⟨100, 255⟩) 13).orc.isNone = true := by kernel_rfl
end Go.Proofs.YtnemookdabbaiaaGreatDoor.LwDeletes
