/- FnFactorial: the code of the law's own body, parted. -/
import Derived.Test.YtnemookdabbaiaaGreatDoorXh
namespace Go.Proofs.YtnemookdabbaiaaGreatDoor.LwFactorial
open Go.Xc
noncomputable def body : Code := bodyOf Tryz.f6
noncomputable def c4 : Code := sL (sR (sR (sR (body))))
noncomputable def c5 : Code := sR (sR (sR (sR (body))))
def N : TC := ⟨47, 140737488355327, []⟩
end Go.Proofs.YtnemookdabbaiaaGreatDoor.LwFactorial
