/- FnLoops: the code of the law's own body, parted. -/
import Derived.Test.YtnemookdabbaiaaGreatDoorXh
namespace Go.Proofs.YtnemookdabbaiaaGreatDoor.LwLoops
open Go.Xc
noncomputable def body : Code := bodyOf Tryz.f8
noncomputable def c4 : Code := sL (sR (sR (sR (body))))
noncomputable def c5 : Code := sR (sR (sR (sR (body))))
def N : TC := ⟨57, 144115188075855871, []⟩
end Go.Proofs.YtnemookdabbaiaaGreatDoor.LwLoops
