/-
  The seat's types.
-/
import Derived.Test.YtabicbgeoiilmaaGreatVmJ
import Derived.Test.YtabicbgeoiilmaaGreatProg
namespace Go.Proofs.YtabicbgeoiilmaaGreat
open Go.Vm
abbrev I:Ty:= .int .i64
abbrev Vl:Ty:= .pair I I
abbrev RTy:Ty:= .pair I (.pair I (.pair I (.pair I Vl)))
abbrev LnT:Ty:= .pair I (.pair I (.pair I I))
abbrev EnT:Ty:= .pair I (.pair I (.slice LnT))
abbrev AcT:Ty:= .pair I (.pair I (.pair .bool .bool))
abbrev PoT:Ty:= .pair I (.pair I (.pair I LnT))
theorem mixed:Tryz.prog.follows .mixedOrders=true:=rfl
noncomputable def tys0:TypeId->Option Ty:=fun|3=>some I|251=>some (.int .u64)|39=>some Vl|130=>some RTy|61=>some LnT|55=>some EnT|125=>some AcT|143=>some LnT|57=>some Vl|231=>some PoT|119=>some PoT|_=>none
end Go.Proofs.YtabicbgeoiilmaaGreat
