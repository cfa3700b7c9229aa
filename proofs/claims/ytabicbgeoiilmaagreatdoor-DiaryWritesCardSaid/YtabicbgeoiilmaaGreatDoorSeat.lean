/-
  The seat's types.
-/
import Derived.Test.YtabicbgeoiilmaaGreatDoorVmJ
import Derived.Test.YtabicbgeoiilmaaGreatDoorProg
namespace Go.Proofs.YtabicbgeoiilmaaGreatDoor
open Go.Vm
abbrev I:Ty:= .int .i64
abbrev B8:Ty:= .int .u8
abbrev Vl:Ty:= .pair I I
abbrev RTy:Ty:= .pair I (.pair I (.pair I (.pair I Vl)))
abbrev LnT:Ty:= .pair I (.pair I (.pair I I))
abbrev Ln:Ty:=LnT
abbrev EnT:Ty:= .pair I (.pair I (.slice LnT))
abbrev AcT:Ty:= .pair I (.pair I (.pair .bool .bool))
abbrev PoT:Ty:= .pair I (.pair I (.pair I LnT))
abbrev Cm:Ty:= .pair I (.pair I (.pair I (.pair I (.pair I (.pair .bool (.pair .bool (.pair (.pair I I) (.slice LnT))))))))
theorem mixed:Tryz.prog.follows .mixedOrders=true:=rfl
noncomputable def tys0:TypeId->Option Ty:=fun|3=>some I|5=>some B8|222=>some (.int .u64)|54=>some Vl|144=>some RTy|101=>some LnT|95=>some EnT|140=>some AcT|142=>some LnT|146=>some Vl|288=>some PoT|248=>some PoT|_=>none
end Go.Proofs.YtabicbgeoiilmaaGreatDoor
