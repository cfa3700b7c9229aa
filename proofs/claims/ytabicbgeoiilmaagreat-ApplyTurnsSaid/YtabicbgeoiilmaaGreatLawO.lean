/-
  The statements' type.
-/
import Derived.Test.YtabicbgeoiilmaaGreatRows
import Derived.Test.YtabicbgeoiilmaaGreatPrt
import Derived.WalkKit
import Derived.ProofKit
namespace Go.Proofs.YtabicbgeoiilmaaGreat.Dsk
open Go.Vm Go.ChangeShapes Go.WideShapes Go.ChangeAt
abbrev BTy:Ty:= .pair (.slice I) (.pair (.slice AcT) (.pair (.slice LnT) (.pair (.slice RTy) (.pair (.slice Vl) (.slice EnT)))))
theorem own:ownKnob Tryz.prog.godebug=none:=by kernel_rfl
theorem laid:laidOutB Tryz.prog=true:=by kernel_rfl
theorem ok_of {r:List (TypeId×Ty)} {x:ArgsT ((29,BTy)::r)} (h:argsOk ((29,BTy)::r) x):Bks.Ok x.1.1 x.1.2.1 x.1.2.2.1 x.1.2.2.2.1 x.1.2.2.2.2.1 x.1.2.2.2.2.2:=by
 have hN:=h.1.2.2.2.2.2;refine ⟨(by have:=hN.1;unfold maxLen at this;exact this),fun y hy z hz=> ?_⟩;obtain ⟨i,hi⟩:=List.mem_iff_getElem?.1 hy;obtain ⟨k,hk⟩:=List.mem_iff_getElem?.1 hz;exact ((hN.2 i y hi).2.2.2 k z hk).2.2.2
end Go.Proofs.YtabicbgeoiilmaaGreat.Dsk
