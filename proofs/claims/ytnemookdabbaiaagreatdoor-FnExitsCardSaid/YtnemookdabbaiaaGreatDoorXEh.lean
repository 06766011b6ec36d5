/- FnExits: the code of the law's own body, parted. -/
import Derived.Test.YtnemookdabbaiaaGreatDoorXh
namespace Go.Proofs.YtnemookdabbaiaaGreatDoor.LwExits
open Go.Xc
noncomputable def body : Code := bodyOf Tryz.f5
noncomputable def c4 : Code := sL (sR (sR (sR (body))))
noncomputable def c5 : Code := sL (sR (sR (sR (sR (body)))))
noncomputable def c6 : Code := sR (sR (sR (sR (sR (body)))))
def N : TC := ⟨42, 4398046511103, []⟩
end Go.Proofs.YtnemookdabbaiaaGreatDoor.LwExits
