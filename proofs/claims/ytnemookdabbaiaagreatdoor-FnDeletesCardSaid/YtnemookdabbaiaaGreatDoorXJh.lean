/- FnDeletes: the code of the law's own body, parted. -/
import Derived.Test.YtnemookdabbaiaaGreatDoorYg
namespace Go.Proofs.YtnemookdabbaiaaGreatDoor.LwDeletes
open Go Go.Xc
def sL : Code → Code
  | .seq a _ => a
  | c => c
def sR : Code → Code
  | .seq _ b => b
  | c => c
def bodyOf (f : Func) : Code := match f.body with
  | some c => c
  | none => .skip
noncomputable def body : Code := bodyOf Tryz.f4
noncomputable def c4 : Code := sL (sR (sR (sR (body))))
noncomputable def c5 : Code := sR (sR (sR (sR (body))))
def N : TC := ⟨39, 549755813887, []⟩
end Go.Proofs.YtnemookdabbaiaaGreatDoor.LwDeletes
