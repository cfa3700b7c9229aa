import Derived.Test.YtabicbgeoiilmaaGreatDoorVmJ
import Derived.Test.YtabicbgeoiilmaaGreatDoorProg
noncomputable section
namespace Go.Proofs.YtabicbgeoiilmaaGreatDoor
open Go.Vm
abbrev I:Ty:= .int .i64
abbrev B8:Ty:= .int .u8
abbrev Vl:Ty:= .pair I I
abbrev RTy:Ty:= .pair I (.pair I (.pair I (.pair I Vl)))
abbrev LnT:Ty:= .pair I (.pair I (.pair I I))
abbrev Ln:Ty:=LnT
abbrev EnT:Ty:= .pair I (.pair I (.slice LnT))
abbrev AcT:Ty:= .pair I (.pair I (.pair .bool .bool))
abbrev PoT:Ty:= .pair I (.pair I (.pair I LnT))
abbrev Cm:Ty:= .pair I (.pair I (.pair I (.pair I (.pair I (.pair .bool (.pair .bool (.pair (.pair I I) (.slice LnT))))))))
theorem mixed:Tryz.prog.follows .mixedOrders=true:=rfl
def aJ:TypeId->Option Ty:=fun|3=>some I|5=>some B8|222=>some (.int .u64)|54=>some Vl|144=>some RTy|101=>some LnT|95=>some EnT|140=>some AcT|142=>some LnT|146=>some Vl|288=>some PoT|248=>some PoT|_=>none
abbrev ee:Env:={P:=Tryz.prog,ty:=aJ}
theorem av {E:Env} {f:FuncId} {fn:Func} {args:List V} {ps:List Pat} {r:Xs ps} {g:Prop} (h:g) (hS:SpecsOk E) (hf:Tryz.prog.funcs[f]? =some fn) (hP:E.P=Tryz.prog:=by rfl) (e:Ie E fn args ps r=g:=by kernel_rfl) (hb:fn.body=some (ey fn):=by rfl) (ht:dZ fn.results.toList=some (KC fn):=by rfl):Pure Tryz.prog f args (Bj ps r):=by
 have k:=Pure.of_cond e h hS (by rw [hP];exact mixed) (by rw [hP];exact hf) hb ht;rw [hP] at k;exact k
end Go.Proofs.YtabicbgeoiilmaaGreatDoor
