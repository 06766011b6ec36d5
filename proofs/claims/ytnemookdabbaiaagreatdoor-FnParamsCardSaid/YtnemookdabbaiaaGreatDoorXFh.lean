/- FnParams: the code of the law's own body, parted. -/
import Derived.Test.YtnemookdabbaiaaGreatDoorXh
namespace Go.Proofs.YtnemookdabbaiaaGreatDoor.LwParams
open Go.Xc
noncomputable def body : Code := bodyOf Tryz.f9
noncomputable def c4 : Code := sL (sR (sR (sR (body))))
noncomputable def c5 : Code := sR (sR (sR (sR (body))))
def N : TC := ⟨38, 274877906943, []⟩
end Go.Proofs.YtnemookdabbaiaaGreatDoor.LwParams
