import Derived.Test.YtabicbgeoiilmaaGreatDoorCmd8
namespace Go.Proofs.YtabicbgeoiilmaaGreatDoor
noncomputable section
section
namespace Cm
open Go.Vm
def R0 (s:By):List Int×Int×Int:=az s (bY (ac s).1).toNat (ac s).2.1 []
def fB (l:List Int):List Int:=l++List.replicate (4-l.length) 0
def S2 (s:By):Int×Int×Bool×Bool:=
 if (ac s).1=2 then
  if (aI s (R0 s).2.1 0 1).2.2=0 then ((aI s (aI s (R0 s).2.1 0 1).2.1 0 1).2.1,(aI s (aI s (R0 s).2.1 0 1).2.1 0 1).2.2,decide ((aI s (R0 s).2.1 0 1).1=1),decide ((aI s (aI s (R0 s).2.1 0 1).2.1 0 1).1=1))
  else ((aI s (R0 s).2.1 0 1).2.1,(aI s (R0 s).2.1 0 1).2.2,decide ((aI s (R0 s).2.1 0 1).1=1),false)
 else ((R0 s).2.1,0,false,false)
def S5 (s:By):Int×Int×Int×Int:=
 if (ac s).1=5 then
  if (az s 2 (S2 s).1 []).2.2=0 then ((az s 2 (S2 s).1 []).2.1,0,a8 (az s 2 (S2 s).1 []).1 0,a8 (az s 2 (S2 s).1 []).1 1)
  else ((az s 2 (S2 s).1 []).2.1,(az s 2 (S2 s).1 []).2.2,0,0)
 else ((S2 s).1,(S2 s).2.1,0,0)
def S7 (s:By):Int×Int×List LnD:=
 if (ac s).1=7 then ((aV s (S5 s).1).2.1,(aV s (S5 s).1).2.2,(aV s (S5 s).1).1) else ((S5 s).1,(S5 s).2.1,[])
def ef (s:By):Int×Int×Int×Int×Int:=((ac s).1,a8 (fB (R0 s).1) 0,a8 (fB (R0 s).1) 1,a8 (fB (R0 s).1) 2,a8 (fB (R0 s).1) 3)
def C7 (s:By):CmD:=((ef s).1,(ef s).2.1,(ef s).2.2.1,(ef s).2.2.2.1,(ef s).2.2.2.2,(S2 s).2.2.1,(S2 s).2.2.2,((S5 s).2.2.1,(S5 s).2.2.2),(S7 s).2.2)
def ap (s:By):CmD×Int:=
 if (ac s).2.2=0 then
  if (R0 s).2.2=0 then eU s (C7 s) (S7 s).1 (S7 s).2.1
  else (wu,(R0 s).2.2)
 else (wu,(ac s).2.2)
abbrev X9:Type:=Int×Int×Int×Int×Int×Int×Int×Bool×Bool×Int×Int×List LnD×Unit
def zw (s:By):Env where
 P:=Tryz.prog
 ty:=aJ
 specs:=ai [tS,wv,HI,kz,HJ]
 frz:=fun|84=>true|103=>true|_=>false
 heads:=fun
  |7=>some {slots:=[(7, .slc 9000 I)],boxes:=[],keep:=[2],drop:=[22,27,28],inv:=fun _ (x:List Int×Unit)=>x.1.length<=4/\fB x.1=fB (R0 s).1,measure:=fun _ (x:List Int×Unit)=>4-x.1.length}
  |_=>none
 joins:=fun
  |18=>some {slots:=[(5, .int .i64),(6, .int .i64)],boxes:=[(8,[.int .i64, .int .i64, .int .i64, .int .i64, .int .i64, .bool, .bool, .int .i64, .int .i64, .list .part Ln])],keep:=[2],drop:=[7,35,42,43,45,46,48,49,51,52],inv:=fun _ (x:X9)=>(x.1,x.2.1,x.2.2.2.2.2.2.2.1,x.2.2.2.2.2.2.2.2.1)=S2 s/\(x.2.2.1,x.2.2.2.1,x.2.2.2.2.1,x.2.2.2.2.2.1,x.2.2.2.2.2.2.1)=ef s/\x.2.2.2.2.2.2.2.2.2.1=0/\x.2.2.2.2.2.2.2.2.2.2.1=0/\x.2.2.2.2.2.2.2.2.2.2.2.1.length=0}
  |22=>some {slots:=[(5, .int .i64),(6, .int .i64)],boxes:=[(8,[.int .i64, .int .i64, .int .i64, .int .i64, .int .i64, .bool, .bool, .int .i64, .int .i64, .list .part Ln])],keep:=[2],inv:=fun _ (x:X9)=>(x.1,x.2.1,x.2.2.2.2.2.2.2.2.2.1,x.2.2.2.2.2.2.2.2.2.2.1)=S5 s/\(x.2.2.1,x.2.2.2.1,x.2.2.2.2.1,x.2.2.2.2.2.1,x.2.2.2.2.2.2.1)=ef s/\(x.2.2.2.2.2.2.2.1,x.2.2.2.2.2.2.2.2.1)=(S2 s).2.2/\x.2.2.2.2.2.2.2.2.2.2.2.1.length=0}
  |24=>some {slots:=[(5, .int .i64),(6, .int .i64)],boxes:=[(8,[.int .i64, .int .i64, .int .i64, .int .i64, .int .i64, .bool, .bool, .int .i64, .int .i64, .list .part Ln])],keep:=[2],inv:=fun _ (x:X9)=>(x.1,x.2.1,x.2.2.2.2.2.2.2.2.2.2.2.1)=S7 s/\(x.2.2.1,x.2.2.2.1,x.2.2.2.2.1,x.2.2.2.2.2.1,x.2.2.2.2.2.2.1,x.2.2.2.2.2.2.2.1,x.2.2.2.2.2.2.2.2.1,(x.2.2.2.2.2.2.2.2.2.1,x.2.2.2.2.2.2.2.2.2.2.1),x.2.2.2.2.2.2.2.2.2.2.2.1)=C7 s}
  |_=>none
abbrev zx:Ann:={slots:=bB 0 [.int .i64, .int .i64, .int .i64, .int .i64, .int .i64, .bool, .bool, .int .i64, .int .i64, .list .part Ln, .int .i64],boxes:=[],inv:=fun _ _=>True}
abbrev aW:_root_.Go.Vm.Obj:=Obj.box [V.int IntKind.i64 (0:Int),V.int IntKind.i64 (0:Int),V.int IntKind.i64 (0:Int),V.int IntKind.i64 (0:Int),V.int IntKind.i64 (0:Int),V.kb false,V.kb false,V.int IntKind.i64 (0:Int),V.int IntKind.i64 (0:Int),V.nils]
def nG (s:By):Prop:=
 List.length s<=(10000:Nat)/\((!decide ((ac s).2.2=0))=true->True/\((0:Int),(0:Int),(0:Int),(0:Int),(0:Int),false,false,(0:Int),(0:Int),[],(ac s).2.2,())=((ap s).1.1,(ap s).1.2.1,(ap s).1.2.2.1,(ap s).1.2.2.2.1,(ap s).1.2.2.2.2.1,(ap s).1.2.2.2.2.2.1,(ap s).1.2.2.2.2.2.2.1,(ap s).1.2.2.2.2.2.2.2.1.1,(ap s).1.2.2.2.2.2.2.2.1.2,(ap s).1.2.2.2.2.2.2.2.2,(ap s).2,()))/\((!decide ((ac s).2.2=0))=false->(1<=(ac s).1/\(ac s).1<=8)/\(List.length s<=(10000:Nat)/\0<=bY (ac s).1/\bY (ac s).1<=100)/\((!decide ((az s (bY (ac s).1).toNat (ac s).2.1 []).2.2=0))=true->True/\((0:Int),(0:Int),(0:Int),(0:Int),(0:Int),false,false,(0:Int),(0:Int),[],(az s (bY (ac s).1).toNat (ac s).2.1 []).2.2,())=((ap s).1.1,(ap s).1.2.1,(ap s).1.2.2.1,(ap s).1.2.2.2.1,(ap s).1.2.2.2.2.1,(ap s).1.2.2.2.2.2.1,(ap s).1.2.2.2.2.2.2.1,(ap s).1.2.2.2.2.2.2.2.1.1,(ap s).1.2.2.2.2.2.2.2.1.2,(ap s).1.2.2.2.2.2.2.2.2,(ap s).2,()))/\((!decide ((az s (bY (ac s).1).toNat (ac s).2.1 []).2.2=0))=false->((some aW=some aW/\True)/\(az s (bY (ac s).1).toNat (ac s).2.1 []).1.length<=(4:Nat)/\fB (az s (bY (ac s).1).toNat (ac s).2.1 []).1=fB (R0 s).1)/\∀(x:List Int×Unit),x.1.length<=(4:Nat)/\fB x.1=fB (R0 s).1->(ag ((↑x.1.length:Int)<(4:Int))->((x.1.length+(1:Nat))*(8:Nat)<=(140737488355328:Nat)/\x.1.length+(1:Nat)<=(4611686018427387904:Nat))/\(some aW=some aW/\True)/\((x.1++[(0:Int)]).length<=(4:Nat)/\fB (x.1++[(0:Int)])=fB (R0 s).1)/\(4:Nat)-(x.1++[(0:Int)]).length<(4:Nat)-x.1.length)/\(aj ((↑x.1.length:Int)<(4:Int))->(0<=(0:Int)/\(0:Int)<(↑x.1.length:Int))/\Int.toNat 0<x.1.length/\∀(x_1:Int),x.1[Int.toNat 0]? =some x_1->(0<=(1:Int)/\(1:Int)<(↑x.1.length:Int))/\Int.toNat 1<x.1.length/\∀(x_2:Int),x.1[Int.toNat 1]? =some x_2->(0<=(2:Int)/\(2:Int)<(↑x.1.length:Int))/\Int.toNat 2<x.1.length/\∀(x_3:Int),x.1[Int.toNat 2]? =some x_3->(0<=(3:Int)/\(3:Int)<(↑x.1.length:Int))/\Int.toNat 3<x.1.length/\∀(x_4:Int),x.1[Int.toNat 3]? =some x_4->((ag ((ac s).1=2)->List.length s<=(10000:Nat)/\(ag ((aI s (az s (bY (ac s).1).toNat (ac s).2.1 []).2.1 0 1).2.2=0)->List.length s<=(10000:Nat)/\(some aW=some aW/\True)/\((aI s (aI s (az s (bY (ac s).1).toNat (ac s).2.1 []).2.1 0 1).2.1 0 1).2.1,(aI s (aI s (az s (bY (ac s).1).toNat (ac s).2.1 []).2.1 0 1).2.1 0 1).2.2,decide ((aI s (az s (bY (ac s).1).toNat (ac s).2.1 []).2.1 0 1).1=1),decide ((aI s (aI s (az s (bY (ac s).1).toNat (ac s).2.1 []).2.1 0 1).2.1 0 1).1=1))=S2 s/\((ac s).1,x_1,x_2,x_3,x_4)=ef s/\(0:Int)=(0:Int)/\(0:Int)=(0:Int)/\(0:Nat)=(0:Nat))/\(aj ((aI s (az s (bY (ac s).1).toNat (ac s).2.1 []).2.1 0 1).2.2=0)->(some aW=some aW/\True)/\((aI s (az s (bY (ac s).1).toNat (ac s).2.1 []).2.1 0 1).2.1,(aI s (az s (bY (ac s).1).toNat (ac s).2.1 []).2.1 0 1).2.2,decide ((aI s (az s (bY (ac s).1).toNat (ac s).2.1 []).2.1 0 1).1=1),decide ((0:Int)=(1:Int)))=S2 s/\((ac s).1,x_1,x_2,x_3,x_4)=ef s/\(0:Int)=(0:Int)/\(0:Int)=(0:Int)/\(0:Nat)=(0:Nat)))/\(aj ((ac s).1=2)->(some aW=some aW/\True)/\((az s (bY (ac s).1).toNat (ac s).2.1 []).2.1,(az s (bY (ac s).1).toNat (ac s).2.1 []).2.2,false,false)=S2 s/\((ac s).1,x_1,x_2,x_3,x_4)=ef s/\(0:Int)=(0:Int)/\(0:Int)=(0:Int)/\(0:Nat)=(0:Nat)))/\∀(x:Int×Int×Int×Int×Int×Int×Int×Bool×Bool×Int×Int×List (Int×Int×Int×Int)×Unit),(x.1,x.2.1,x.2.2.2.2.2.2.2.1,x.2.2.2.2.2.2.2.2.1)=S2 s/\(x.2.2.1,x.2.2.2.1,x.2.2.2.2.1,x.2.2.2.2.2.1,x.2.2.2.2.2.2.1)=ef s/\x.2.2.2.2.2.2.2.2.2.1=0/\x.2.2.2.2.2.2.2.2.2.2.1=0/\x.2.2.2.2.2.2.2.2.2.2.2.1.length=(0:Nat)->((ag ((ac s).1=5)->(List.length s<=(10000:Nat)/\0<=(2:Int)/\(2:Int)<=(100:Int))/\(ag ((az s (Int.toNat 2) x.1 []).2.2=0)->(0<=(0:Int)/\(0:Int)<(↑(az s (Int.toNat 2) x.1 []).1.length:Int))/\∀(x_5:Int),(az s (Int.toNat 2) x.1 []).1[Int.toNat 0]? =some x_5->(0<=(1:Int)/\(1:Int)<(↑(az s (Int.toNat 2) x.1 []).1.length:Int))/\∀(x_6:Int),(az s (Int.toNat 2) x.1 []).1[Int.toNat 1]? =some x_6->(some aW=some aW/\True)/\((az s (Int.toNat 2) x.1 []).2.1,(az s (Int.toNat 2) x.1 []).2.2,x_5,x_6)=S5 s/\(x.2.2.1,x.2.2.2.1,x.2.2.2.2.1,x.2.2.2.2.2.1,x.2.2.2.2.2.2.1)=ef s/\(x.2.2.2.2.2.2.2.1,x.2.2.2.2.2.2.2.2.1)=(S2 s).2.2/\x.2.2.2.2.2.2.2.2.2.2.2.1.length=(0:Nat))/\(aj ((az s (Int.toNat 2) x.1 []).2.2=0)->(some aW=some aW/\True)/\((az s (Int.toNat 2) x.1 []).2.1,(az s (Int.toNat 2) x.1 []).2.2,x.2.2.2.2.2.2.2.2.2.1,x.2.2.2.2.2.2.2.2.2.2.1)=S5 s/\(x.2.2.1,x.2.2.2.1,x.2.2.2.2.1,x.2.2.2.2.2.1,x.2.2.2.2.2.2.1)=ef s/\(x.2.2.2.2.2.2.2.1,x.2.2.2.2.2.2.2.2.1)=(S2 s).2.2/\x.2.2.2.2.2.2.2.2.2.2.2.1.length=(0:Nat)))/\(aj ((ac s).1=5)->(some aW=some aW/\True)/\(x.1,x.2.1,x.2.2.2.2.2.2.2.2.2.1,x.2.2.2.2.2.2.2.2.2.2.1)=S5 s/\(x.2.2.1,x.2.2.2.1,x.2.2.2.2.1,x.2.2.2.2.2.1,x.2.2.2.2.2.2.1)=ef s/\(x.2.2.2.2.2.2.2.1,x.2.2.2.2.2.2.2.2.1)=(S2 s).2.2/\x.2.2.2.2.2.2.2.2.2.2.2.1.length=(0:Nat)))/\∀(x:Int×Int×Int×Int×Int×Int×Int×Bool×Bool×Int×Int×List (Int×Int×Int×Int)×Unit),(x.1,x.2.1,x.2.2.2.2.2.2.2.2.2.1,x.2.2.2.2.2.2.2.2.2.2.1)=S5 s/\(x.2.2.1,x.2.2.2.1,x.2.2.2.2.1,x.2.2.2.2.2.1,x.2.2.2.2.2.2.1)=ef s/\(x.2.2.2.2.2.2.2.1,x.2.2.2.2.2.2.2.2.1)=(S2 s).2.2/\x.2.2.2.2.2.2.2.2.2.2.2.1.length=(0:Nat)->((ag ((ac s).1=7)->List.length s<=(10000:Nat)/\(some aW=some aW/\True)/\((aV s x.1).2.1,(aV s x.1).2.2,(aV s x.1).1)=S7 s/\(x.2.2.1,x.2.2.2.1,x.2.2.2.2.1,x.2.2.2.2.2.1,x.2.2.2.2.2.2.1,x.2.2.2.2.2.2.2.1,x.2.2.2.2.2.2.2.2.1,(x.2.2.2.2.2.2.2.2.2.1,x.2.2.2.2.2.2.2.2.2.2.1),(aV s x.1).1)=C7 s)/\(aj ((ac s).1=7)->(some aW=some aW/\True)/\(x.1,x.2.1,x.2.2.2.2.2.2.2.2.2.2.2.1)=S7 s/\(x.2.2.1,x.2.2.2.1,x.2.2.2.2.1,x.2.2.2.2.2.1,x.2.2.2.2.2.2.1,x.2.2.2.2.2.2.2.1,x.2.2.2.2.2.2.2.2.1,(x.2.2.2.2.2.2.2.2.2.1,x.2.2.2.2.2.2.2.2.2.2.1),x.2.2.2.2.2.2.2.2.2.2.2.1)=C7 s))/\∀(x:Int×Int×Int×Int×Int×Int×Int×Bool×Bool×Int×Int×List (Int×Int×Int×Int)×Unit),(x.1,x.2.1,x.2.2.2.2.2.2.2.2.2.2.2.1)=S7 s/\(x.2.2.1,x.2.2.2.1,x.2.2.2.2.1,x.2.2.2.2.2.1,x.2.2.2.2.2.2.1,x.2.2.2.2.2.2.2.1,x.2.2.2.2.2.2.2.2.1,(x.2.2.2.2.2.2.2.2.2.1,x.2.2.2.2.2.2.2.2.2.2.1),x.2.2.2.2.2.2.2.2.2.2.2.1)=C7 s->((!decide (x.2.1=0))=true->True/\((0:Int),(0:Int),(0:Int),(0:Int),(0:Int),false,false,(0:Int),(0:Int),[],x.2.1,())=((ap s).1.1,(ap s).1.2.1,(ap s).1.2.2.1,(ap s).1.2.2.2.1,(ap s).1.2.2.2.2.1,(ap s).1.2.2.2.2.2.1,(ap s).1.2.2.2.2.2.2.1,(ap s).1.2.2.2.2.2.2.2.1.1,(ap s).1.2.2.2.2.2.2.2.1.2,(ap s).1.2.2.2.2.2.2.2.2,(ap s).2,()))/\((!decide (x.2.1=0))=false->(ag (x.1<(↑(List.length s):Int))->True/\((0:Int),(0:Int),(0:Int),(0:Int),(0:Int),false,false,(0:Int),(0:Int),[],(6:Int),())=((ap s).1.1,(ap s).1.2.1,(ap s).1.2.2.1,(ap s).1.2.2.2.1,(ap s).1.2.2.2.2.1,(ap s).1.2.2.2.2.2.1,(ap s).1.2.2.2.2.2.2.1,(ap s).1.2.2.2.2.2.2.2.1.1,(ap s).1.2.2.2.2.2.2.2.1.2,(ap s).1.2.2.2.2.2.2.2.2,(ap s).2,()))/\(aj (x.1<(↑(List.length s):Int))->True/\(x.2.2.1,x.2.2.2.1,x.2.2.2.2.1,x.2.2.2.2.2.1,x.2.2.2.2.2.2.1,x.2.2.2.2.2.2.2.1,x.2.2.2.2.2.2.2.2.1,x.2.2.2.2.2.2.2.2.2.1,x.2.2.2.2.2.2.2.2.2.2.1,x.2.2.2.2.2.2.2.2.2.2.2.1,(0:Int),())=((ap s).1.1,(ap s).1.2.1,(ap s).1.2.2.1,(ap s).1.2.2.2.1,(ap s).1.2.2.2.2.1,(ap s).1.2.2.2.2.2.1,(ap s).1.2.2.2.2.2.2.1,(ap s).1.2.2.2.2.2.2.2.1.1,(ap s).1.2.2.2.2.2.2.2.1.2,(ap s).1.2.2.2.2.2.2.2.2,(ap s).2,()))))))
theorem t7 {s:By} {o:List Int} {x0 x1 x2 x3:Int} (hp:fB o=fB (R0 s).1) (h0:o[Int.toNat 0]? =some x0) (h1:o[Int.toNat 1]? =some x1) (h2:o[Int.toNat 2]? =some x2) (h3:o[Int.toNat 3]? =some x3) (hl:o.length<=4) (hl2: ¬(o.length:Int)<4):((ac s).1,x0,x1,x2,x3)=ef s:=by
 have e:fB o=o:=by
  unfold fB;rw [show 4-o.length=0 by omega];simp
 unfold ef;rw [<-hp,e];unfold a8;rw [h0,h1,h2,h3];rfl
theorem HK {o:List Int} (h:(o.length:Int)<4):fB (o++[0])=fB o:=by
 unfold fB;rw [Re,Rm,show 4-o.length=(4-(o.length+1))+1 by omega,List.replicate_succ,RA];rfl
theorem HL (s:By): ∀(n:Nat) (a:Int) (out:List Int),(az s n a out).1.length<=out.length+n
 |0,a,out=>Rf _
 |n+1,a,out=>by
  unfold az;split
  ·have:=HL s n (ae s a 0).2.1 (out++[(ae s a 0).1]);rw [Re,Rm] at this;omega
  ·simp
theorem ww (s:By) (h:s.length<=10000):nG s:=by
 unfold nG aj ag;simp only [Q7,Q6,Rb,Rd,Rl,Rg];have hki:= @kZ s;have hR:az s (bY (ac s).1).toNat (ac s).2.1 []=R0 s:=rfl;rw [hR];have hnum:(ac s).2.2=0->1<=bY (ac s).1/\bY (ac s).1<=4:=fun e=>ia (hki e).1 (hki e).2;have hp0:(ac s).2.2=0->(R0 s).2.2=0->ap s=eU s (C7 s) (S7 s).1 (S7 s).2.1:=fun e f=>by
  unfold ap;rw [Q_ e,Q_ f]
 repeat' (first
  |with_reducible apply And.intro
  |(intro (x:List Int×Unit);obtain ⟨o,⟨⟩⟩:=x;rintro ⟨h0,hp⟩;dsimp only at h0 hp⊢)
  |(intro (x:Int×Int×Int×Int×Int×Int×Int×Bool×Bool×Int×Int×List (Int×Int×Int×Int)×Unit);obtain ⟨at1,e,c0,c1,c2,c3,c4,b,p,n,m,ls,⟨⟩⟩:=x;dsimp only;intro hx)
  |intro _)
 all_goals try (first|trivial|rfl|omega)
 ·rename_i e;unfold ap;rw [Q8 e];rfl
 ·rename_i e f;unfold ap;rw [Q_ e,Q8 f];rfl
 ·have h1:=hnum (by assumption);have h2:=HL s (bY (ac s).1).toNat (ac s).2.1 [];rw [hR,RJ] at h2;omega
 ·rw [Re,Rm];omega
 ·rw [HK (by assumption),hp]
 ·rw [Re,Rm];omega
 ·rename_i k2 e;unfold S2;rw [Q_ k2,Q_ e]
 ·exact t7 hp (by assumption) (by assumption) (by assumption) (by assumption) h0 (by assumption)
 ·rename_i k2 e;unfold S2;rw [Q_ k2,Q8 e];rfl
 ·exact t7 hp (by assumption) (by assumption) (by assumption) (by assumption) h0 (by assumption)
 ·rename_i f _ _ _ _ _ _ _ _ _ k2;unfold S2;rw [Q8 k2,f]
 ·exact t7 hp (by assumption) (by assumption) (by assumption) (by assumption) h0 (by assumption)
 ·have:=oR s 2 at1 [] (by assumption);show 0<((az s 2 at1 []).1.length:Int);rw [this];decide
 ·have:=oR s 2 at1 [] (by assumption);show 1<((az s 2 at1 []).1.length:Int);rw [this];decide
 ·rename_i k5 f _ y0 _ y1;unfold S5;rw [<-hx.1,Q_ k5];have f:(az s 2 at1 []).2.2=0:=f;rw [Q_ f];unfold a8;rw [show (az s 2 at1 []).1[Int.toNat 0]? =_ from y0,show (az s 2 at1 []).1[Int.toNat 1]? =_ from y1];rw [<-f];rfl
 ·exact hx.2.1
 ·rw [<-hx.1]
 ·rename_i k5 f;unfold S5;rw [<-hx.1,Q_ k5];have f: ¬(az s 2 at1 []).2.2=0:=f;rw [Q8 f,hx.2.2.1,hx.2.2.2.1];rfl
 ·exact hx.2.1
 ·rw [<-hx.1]
 ·rename_i k5;unfold S5;rw [<-hx.1,Q8 k5,hx.2.2.1,hx.2.2.2.1]
 ·exact hx.2.1
 ·rw [<-hx.1]
 ·rename_i k7;unfold S7;rw [<-hx.1,Q_ k7]
 ·rename_i k7;have e7:(S7 s).2.2=(aV s at1).1:=by
   unfold S7;rw [<-hx.1,Q_ k7]
  unfold C7;rw [e7,<-hx.1,<-hx.2.1,<-hx.2.2.1]
 ·rename_i k7;unfold S7;rw [<-hx.1,Q8 k7,Rk hx.2.2.2]
 ·rename_i k7;have e7:(S7 s).2.2=[]:=by
   unfold S7;rw [Q8 k7]
  unfold C7;rw [e7,<-hx.1,<-hx.2.1,<-hx.2.2.1,Rk hx.2.2.2]
 ·rename_i he;rw [hp0 (by assumption) (by assumption),<-hx.1];unfold eU;rw [Q8 he];rfl
 ·rename_i he hr;rw [hp0 (by assumption) (by assumption),<-hx.1];unfold eU;rw [Q_ he,Q_ hr];rfl
 ·rename_i he hr;rw [hp0 (by assumption) (by assumption),<-hx.1];unfold eU;rw [Q_ he,Q8 hr,<-hx.2]
set_option maxRecDepth 20000
def Ee:FSpec Tryz.prog:=mkG 32 (.c .s .z) (fun x=>(fun (s:By)=>(s.length<=10000,(.tuple [.agg [.int .i64 (ap s).1.1, .int .i64 (ap s).1.2.1, .int .i64 (ap s).1.2.2.1, .int .i64 (ap s).1.2.2.2.1, .int .i64 (ap s).1.2.2.2.2.1, .bool (ap s).1.2.2.2.2.2.1, .bool (ap s).1.2.2.2.2.2.2.1, .int .i64 (ap s).1.2.2.2.2.2.2.2.1.1, .int .i64 (ap s).1.2.2.2.2.2.2.2.1.2, .list .part Ln (ap s).1.2.2.2.2.2.2.2.2], .int .i64 (ap s).2]))) x.1) fun ⟨s,_⟩ h=>Pure.of_condG (E:=zw s) (sh:=[some 10,none]) (ann:=zx) (x:=(fun (s:By)=>((ap s).1.1,(ap s).1.2.1,(ap s).1.2.2.1,(ap s).1.2.2.2.1,(ap s).1.2.2.2.2.1,(ap s).1.2.2.2.2.2.1,(ap s).1.2.2.2.2.2.2.1,(ap s).1.2.2.2.2.2.2.2.1.1,(ap s).1.2.2.2.2.2.2.2.1.2,(ap s).1.2.2.2.2.2.2.2.2,(ap s).2,())) s) (by kernel_rfl) (ww s h) rfl (ab rfl _ [] rfl rfl) mixed Tryz.func32
end Cm
end
section
namespace Cm
open Go.Vm
theorem ib {s:By} {a e lo hi:Int} (h: ¬e=0):am s a e lo hi=(0,a,e):=by
 unfold am;rw [Q8 h]
theorem f8 {s:By} {a e:Int} (h: ¬e=0):ae s a e=(0,a,e):=ib h
theorem mt {s:By} {e:Int} (h: ¬e=0): ∀(L:List Int) (a:Int) (l:List Int),(aL s L (a,e,l)).2.1=e
 |[],_,_=>rfl
 |j::r,a,l=>by
  show (aL s r ((am s a e (loF j) (hiF j)).2.1,(am s a e (loF j) (hiF j)).2.2,_)).2.1=e;rw [ib h];exact mt h r a _
theorem cQ {s:By} {e:Int} (h: ¬e=0): ∀(n:Nat) (a:Int) (ls:List LnD),(bG s n (a,e,ls)).2.1=e
 |0,_,_=>rfl
 |n+1,a,ls=>by
  unfold bG;simp only [f8 h];exact cQ h n _ _
theorem wx {s:By} {k a e:Int} (h: ¬e=0):(c_ s k a e).2.1=e:=by
 unfold c_;split
 ·simp only [ib h];exact cQ h _ _ _
 ·rfl
theorem gC {s:By} {c:CmD} {a e:Int} (h: ¬e=0):eU s c a e=(wu,e):=Q8 h
def Ef (l:List Int):Nat->List Int->List Int
 |_,[]=>l
 |i,v::r=>Ef (l.set i v) (i+1) r
theorem mv (s:By) (M:List Int): ∀(n:Nat) (a:Int) (i:Nat) (l out:List Int),i+n<=4->
 ((az s n a out).2.2=0->∃vs,(az s n a out).1=out++vs/\vs.length=n/\aL s ((List.range' i n).map Int.ofNat++M) (a,0,l)=aL s M ((az s n a out).2.1,0,Ef l i vs))/\
 (¬(az s n a out).2.2=0->(aL s ((List.range' i n).map Int.ofNat++M) (a,0,l)).2.1=(az s n a out).2.2)
 |0,a,i,l,out,_=>⟨fun _=>⟨[],by simp [az],rfl,rfl⟩,fun h=>absurd rfl h⟩
 |n+1,a,i,l,out,hi=>by
  have hlo:loF (Int.ofNat i)= -9223372036854775808:=Q8 (by simp only [Int.ofNat_eq_natCast];omega);have hhi:hiF (Int.ofNat i)=9223372036854775807:=Q8 (by simp only [Int.ofNat_eq_natCast];omega);have e1:aL s ((List.range' i (n+1)).map Int.ofNat++M) (a,0,l)=aL s ((List.range' (i+1) n).map Int.ofNat++M) ((ae s a 0).2.1,(ae s a 0).2.2,l.set i (ae s a 0).1):=by
   show aL s (Int.ofNat i::((List.range' (i+1) n).map Int.ofNat++M)) (a,0,l)=_;show aL s _ ((am s a 0 (loF (Int.ofNat i)) (hiF (Int.ofNat i))).2.1,(am s a 0 (loF (Int.ofNat i)) (hiF (Int.ofNat i))).2.2,l.set i (am s a 0 (loF (Int.ofNat i)) (hiF (Int.ofNat i))).1)=_;rw [hlo,hhi];rfl
  rw [e1];unfold az;by_cases h:(ae s a 0).2.2=0
  ·rw [Q_ h,h];obtain ⟨ih1,ih2⟩:=mv s M n (ae s a 0).2.1 (i+1) (l.set i (ae s a 0).1) (out++[(ae s a 0).1]) (by omega);refine ⟨fun h0=> ?_,ih2⟩;obtain ⟨vs,q1,q2,q3⟩:=ih1 h0;exact ⟨(ae s a 0).1::vs,by rw [q1];simp,by simp [q2],q3⟩
  ·rw [Q8 h];exact ⟨fun h0=>absurd h0 h,fun _=>mt h _ _ _⟩
theorem wy (s:By): ∀(n:Nat) (a:Int) (out:List LnD),
 ((cM s n a out).2.2=0->bG s n (a,0,out)=((cM s n a out).2.1,0,(cM s n a out).1))/\(¬(cM s n a out).2.2=0->(bG s n (a,0,out)).2.1=(cM s n a out).2.2)
 |0,a,out=>⟨fun _=>rfl,fun h=>absurd rfl h⟩
 |n+1,a,out=>by
  have e0: ∀(m:Nat) (b:Int) (o:List Int),az s (m+1) b o=if (ae s b 0).2.2=0 then az s m (ae s b 0).2.1 (o++[(ae s b 0).1]) else ([],0,(ae s b 0).2.2):=fun _ _ _=>rfl
  unfold cM bG;dsimp only;by_cases h1:(ae s a 0).2.2=0
  ·rw [h1];by_cases h2:(ae s (ae s a 0).2.1 0).2.2=0
   ·rw [h2];by_cases h3:(ae s (ae s (ae s a 0).2.1 0).2.1 0).2.2=0
    ·rw [h3];by_cases h4:(ae s (ae s (ae s (ae s a 0).2.1 0).2.1 0).2.1 0).2.2=0
     ·rw [e0,Q_ h1,e0,Q_ h2,e0,Q_ h3,e0,Q_ h4,h4];exact wy s n _ _
     ·rw [e0,Q_ h1,e0,Q_ h2,e0,Q_ h3,e0,Q8 h4];rw [Q8 h4];exact ⟨fun h0=>absurd h0 h4,fun _=>cQ h4 _ _ _⟩
    ·rw [e0,Q_ h1,e0,Q_ h2,e0,Q8 h3];rw [Q8 h3];simp only [f8 h3];exact ⟨fun h0=>absurd h0 h3,fun _=>cQ h3 _ _ _⟩
   ·rw [e0,Q_ h1,e0,Q8 h2];rw [Q8 h2];simp only [f8 h2];exact ⟨fun h0=>absurd h0 h2,fun _=>cQ h2 _ _ _⟩
  ·rw [e0,Q8 h1];rw [Q8 h1];simp only [f8 h1];exact ⟨fun h0=>absurd h0 h1,fun _=>cQ h1 _ _ _⟩
theorem zy (s:By) (a:Int):((aV s a).2.2=0->c_ s 7 a 0=((aV s a).2.1,0,(aV s a).1))/\(¬(aV s a).2.2=0->(c_ s 7 a 0).2.1=(aV s a).2.2):=by
 unfold c_ aV;rw [Q_ rfl];dsimp only;have e:am s a 0 0 50=aI s a 0 50:=rfl;rw [e];by_cases h:(aI s a 0 50).2.2=0
 ·rw [Q_ h,h];exact wy s _ _ _
 ·rw [Q8 h];exact ⟨fun h0=>absurd h0 h,fun _=>cQ h _ _ _⟩
theorem t8 {s:By} (h:(ac s).2.2=0) (h2: ¬(P0 s).2.1=0):ak s=(wu,(P0 s).2.1):=by
 rw [dg h rfl,wx h2];exact gC h2
theorem iT {s:By} (h:(ac s).2.2=0) (h2:(R0 s).2.2=0):ap s=eU s (C7 s) (S7 s).1 (S7 s).2.1:=by
 unfold ap;rw [Q_ h,Q_ h2]
theorem ON {s:By} {k n:Int} (hk:(ac s).1=k) (hn:bY k=n):R0 s=az s n.toNat (ac s).2.1 []:=by
 unfold R0;rw [hk,hn]
theorem OO {s:By} {k:Int} {L:List Int} (hk:(ac s).1=k) (hp:an k=L):P0 s=aL s L ((ac s).2.1,0,iU):=by
 unfold P0;rw [hk,hp]
theorem k_ {s:By} (e:(ac s).2.2=0) {k:Int} {n:Nat} {M:List Int} (hk:(ac s).1=k) (hn:bY k=n) (hp:an k=(List.range' 0 n).map Int.ofNat++M) (h4:n<=4) (h: ¬(R0 s).2.2=0):ap s=ak s:=by
 have hR:=ON hk hn;rw [R3] at hR;have hP:=OO hk hp;have h1:=(mv s M n (ac s).2.1 0 iU [] (by omega)).2 (by rw [<-hR];exact h);rw [<-hP,<-hR] at h1;rw [t8 e (by rw [h1];exact h),h1];unfold ap;rw [Q_ e,Q8 h]
theorem oS {s:By} {k:Int} {n:Nat} {M:List Int} (hk:(ac s).1=k) (hn:bY k=n) (hp:an k=(List.range' 0 n).map Int.ofNat++M) (h4:n<=4) (h:(R0 s).2.2=0):
 ∃vs,(R0 s).1=vs/\vs.length=n/\P0 s=aL s M ((R0 s).2.1,0,Ef iU 0 vs):=by
 have hR:=ON hk hn;rw [R3] at hR;have hP:=OO hk hp;obtain ⟨vs,q1,q2,q3⟩:=(mv s M n (ac s).2.1 0 iU [] (by omega)).1 (by rw [<-hR];exact h);rw [<-hP,<-hR] at q3;exact ⟨vs,by rw [hR,q1];rfl,q2,q3⟩
theorem sj {s:By} {vs:List Int} {b p:Bool} {n m:Int} {ls:List LnD} {all:List Int} (h0:(R0 s).1=vs) (h2:(S2 s).2.2=(b,p)) (h5:(S5 s).2.2=(n,m)) (h7:(S7 s).2.2=ls) (ha:(P0 s).2.2=all)
 (e0:a8 (fB vs) 0=a8 all 0) (e1:a8 (fB vs) 1=a8 all 1) (e2:a8 (fB vs) 2=a8 all 2) (e3:a8 (fB vs) 3=a8 all 3) (e4:b=decide (a8 all 4=1)) (e5:p=decide (a8 all 5=1)) (e6:n=a8 all 6) (e7:m=a8 all 7):
 C7 s=hdC s ls:=by
 unfold C7 hdC mkC ef;rw [h0,h2,h5,h7,ha,e0,e1,e2,e3,e4,e5,e6,e7]
theorem Cz {vs:List Int} (h:vs.length=1): ∃v,vs=[v]:=List.length_eq_one_iff.1 h
theorem CA {vs:List Int} (h:vs.length=2): ∃v w,vs=[v,w]:=by
 match vs,h with
 |[v,w],_=>exact ⟨v,w,rfl⟩
theorem wz {vs:List Int} (h:vs.length=4): ∃v w x y,vs=[v,w,x,y]:=by
 match vs,h with
 |[v,w,x,y],_=>exact ⟨v,w,x,y,rfl⟩
theorem iV {s:By} (e:(ac s).2.2=0) {k:Int} {n:Nat} (hk:(ac s).1=k) (hn:bY k=n) (hp:an k=(List.range' 0 n).map Int.ofNat) (h4:n=1∨n=2∨n=4) (k2:k≠2) (k5:k≠5) (k7:k≠7):ap s=ak s:=by
 have hp':an k=(List.range' 0 n).map Int.ofNat++[]:=by rw [hp,RH]
 by_cases h:(R0 s).2.2=0
 ·obtain ⟨vs,q1,q2,q3⟩:=oS hk hn hp' (by omega) h;have s2:S2 s=((R0 s).2.1,0,false,false):=Q8 (by rw [hk];exact k2);have s5:S5 s=((R0 s).2.1,0,0,0):=by unfold S5;rw [Q8 (by rw [hk];exact k5),s2]
  have s7:S7 s=((R0 s).2.1,0,[]):=by unfold S7;rw [Q8 (by rw [hk];exact k7),s5]
  have ht:c_ s (ac s).1 (P0 s).1 (P0 s).2.1=((R0 s).2.1,0,[]):=by
   rw [q3];unfold c_;rw [Q8 (by rw [hk];exact k7)];rfl
  rw [iT e h,dg e ht,s7];have hc:C7 s=hdC s []:=by
   rcases h4 with rfl|rfl|rfl
   ·obtain ⟨v,rfl⟩:=Cz q2;exact sj (b:=false) (p:=false) (n:=0) (m:=0) (ls:=[]) (all:=Ef iU 0 _) q1 (by rw [s2]) (by rw [s5]) (by rw [s7]) (by rw [q3];rfl) rfl rfl rfl rfl rfl rfl rfl rfl
   ·obtain ⟨v,w,rfl⟩:=CA q2;exact sj (b:=false) (p:=false) (n:=0) (m:=0) (ls:=[]) (all:=Ef iU 0 _) q1 (by rw [s2]) (by rw [s5]) (by rw [s7]) (by rw [q3];rfl) rfl rfl rfl rfl rfl rfl rfl rfl
   ·obtain ⟨v,w,x,y,rfl⟩:=wz q2;exact sj (b:=false) (p:=false) (n:=0) (m:=0) (ls:=[]) (all:=Ef iU 0 _) q1 (by rw [s2]) (by rw [s5]) (by rw [s7]) (by rw [q3];rfl) rfl rfl rfl rfl rfl rfl rfl rfl
  rw [hc]
 ·exact k_ e hk hn hp' (by omega) h
theorem Pa {s:By} (e:(ac s).2.2=0) (hk:(ac s).1=2):ap s=ak s:=by
 have hn:bY 2=(2:Nat):=rfl;have hp:an 2=(List.range' 0 2).map Int.ofNat++[4,5]:=rfl;by_cases h:(R0 s).2.2=0
 ·obtain ⟨vs,q1,q2,q3⟩:=oS hk hn hp (by omega) h;obtain ⟨v,w,rfl⟩:=CA q2;generalize ha:(R0 s).2.1=a at q3;have q3:P0 s=((am s (aI s a 0 1).2.1 (aI s a 0 1).2.2 0 1).2.1,(am s (aI s a 0 1).2.1 (aI s a 0 1).2.2 0 1).2.2,[v,w,0,0,(aI s a 0 1).1,(am s (aI s a 0 1).2.1 (aI s a 0 1).2.2 0 1).1,0,0]):=q3;by_cases hx:(aI s a 0 1).2.2=0
  ·rw [hx] at q3;have s2:S2 s=((aI s (aI s a 0 1).2.1 0 1).2.1,(aI s (aI s a 0 1).2.1 0 1).2.2,decide ((aI s a 0 1).1=1),decide ((aI s (aI s a 0 1).2.1 0 1).1=1)):=by
    unfold S2;rw [ha,Q_ hk,Q_ hx]
   have s5:S5 s=((S2 s).1,(S2 s).2.1,0,0):=Q8 (by rw [hk];decide);have s7:S7 s=((S2 s).1,(S2 s).2.1,[]):=by unfold S7;rw [Q8 (by rw [hk];decide),s5]
   have ht:c_ s (ac s).1 (P0 s).1 (P0 s).2.1=((S2 s).1,(S2 s).2.1,[]):=by
    rw [q3,s2];unfold c_;rw [Q8 (by rw [hk];decide)];rfl
   rw [iT e h,dg e ht,s7];have hc:C7 s=hdC s []:=sj (b:=decide ((aI s a 0 1).1=1)) (p:=decide ((aI s (aI s a 0 1).2.1 0 1).1=1)) (n:=0) (m:=0) (ls:=[]) (all:=[v,w,0,0,(aI s a 0 1).1,(aI s (aI s a 0 1).2.1 0 1).1,0,0]) q1 (by rw [s2]) (by rw [s5]) (by rw [s7]) (by rw [q3];rfl) rfl rfl rfl rfl rfl rfl rfl rfl;rw [hc]
  ·have hP:(P0 s).2.1=(aI s a 0 1).2.2:=by rw [q3,ib hx]
   rw [t8 e (by rw [hP];exact hx),hP,iT e h];have s2:S2 s=((aI s a 0 1).2.1,(aI s a 0 1).2.2,decide ((aI s a 0 1).1=1),false):=by
    unfold S2;rw [ha,Q_ hk,Q8 hx]
   have s5:S5 s=((S2 s).1,(S2 s).2.1,0,0):=Q8 (by rw [hk];decide);have s7:S7 s=((S2 s).1,(S2 s).2.1,[]):=by unfold S7;rw [Q8 (by rw [hk];decide),s5]
   rw [s7,s2];exact gC hx
 ·exact k_ e hk hn hp (by omega) h
theorem L8 {s:By} (e:(ac s).2.2=0) (hk:(ac s).1=5):ap s=ak s:=by
 have hn:bY 5=(4:Nat):=rfl;have hp:an 5=(List.range' 0 4).map Int.ofNat++[6,7]:=rfl;by_cases h:(R0 s).2.2=0
 ·obtain ⟨vs,q1,q2,q3⟩:=oS hk hn hp (by omega) h;obtain ⟨v,w,x,y,rfl⟩:=wz q2;generalize ha:(R0 s).2.1=a at q3;have q3:P0 s=((ae s (ae s a 0).2.1 (ae s a 0).2.2).2.1,(ae s (ae s a 0).2.1 (ae s a 0).2.2).2.2,[v,w,x,y,0,0,(ae s a 0).1,(ae s (ae s a 0).2.1 (ae s a 0).2.2).1]):=q3;have s2:S2 s=(a,0,false,false):=by
   unfold S2;rw [Q8 (by rw [hk];decide),ha]
  have hrow:az s 2 a []=if (ae s a 0).2.2=0 then (if (ae s (ae s a 0).2.1 0).2.2=0 then ([(ae s a 0).1,(ae s (ae s a 0).2.1 0).1],(ae s (ae s a 0).2.1 0).2.1,0) else ([],0,(ae s (ae s a 0).2.1 0).2.2)) else ([],0,(ae s a 0).2.2):=rfl
  have s5:S5 s=if (az s 2 a []).2.2=0 then ((az s 2 a []).2.1,0,a8 (az s 2 a []).1 0,a8 (az s 2 a []).1 1) else ((az s 2 a []).2.1,(az s 2 a []).2.2,0,0):=by
   unfold S5;rw [Q_ hk,s2]
  have s7:S7 s=((S5 s).1,(S5 s).2.1,[]):=Q8 (by rw [hk];decide);by_cases hx:(ae s a 0).2.2=0
  ·rw [hx] at q3;by_cases hy:(ae s (ae s a 0).2.1 0).2.2=0
   ·rw [hrow,Q_ hx,Q_ hy] at s5;have s5:S5 s=((ae s (ae s a 0).2.1 0).2.1,0,(ae s a 0).1,(ae s (ae s a 0).2.1 0).1):=s5;have ht:c_ s (ac s).1 (P0 s).1 (P0 s).2.1=((ae s (ae s a 0).2.1 0).2.1,0,[]):=by
     rw [q3,hy];unfold c_;rw [Q8 (by rw [hk];decide)]
    rw [iT e h,dg e ht,s7,s5];have hc:C7 s=hdC s []:=sj (b:=false) (p:=false) (n:=(ae s a 0).1) (m:=(ae s (ae s a 0).2.1 0).1) (ls:=[]) (all:=[v,w,x,y,0,0,(ae s a 0).1,(ae s (ae s a 0).2.1 0).1]) q1 (by rw [s2]) (by rw [s5]) (by rw [s7]) (by rw [q3]) rfl rfl rfl rfl rfl rfl rfl rfl;rw [hc]
   ·have hP:(P0 s).2.1=(ae s (ae s a 0).2.1 0).2.2:=by rw [q3]
    rw [t8 e (by rw [hP];exact hy),hP,iT e h];rw [hrow,Q_ hx,Q8 hy] at s5;have s5:S5 s=(0,(ae s (ae s a 0).2.1 0).2.2,0,0):=s5.trans (Q8 hy);rw [s7,s5];exact gC hy
  ·have hP:(P0 s).2.1=(ae s a 0).2.2:=by rw [q3,f8 hx]
   rw [t8 e (by rw [hP];exact hx),hP,iT e h];rw [hrow,Q8 hx] at s5;have s5:S5 s=(0,(ae s a 0).2.2,0,0):=s5.trans (Q8 hx);rw [s7,s5];exact gC hx
 ·exact k_ e hk hn hp (by omega) h
theorem HM {s:By} (e:(ac s).2.2=0) (hk:(ac s).1=7):ap s=ak s:=by
 have hn:bY 7=(1:Nat):=rfl;have hp:an 7=(List.range' 0 1).map Int.ofNat++[]:=rfl;by_cases h:(R0 s).2.2=0
 ·obtain ⟨vs,q1,q2,q3⟩:=oS hk hn hp (by omega) h;obtain ⟨v,rfl⟩:=Cz q2;generalize ha:(R0 s).2.1=a at q3;have q3:P0 s=(a,0,[v,0,0,0,0,0,0,0]):=q3;have s2:S2 s=(a,0,false,false):=by
   unfold S2;rw [Q8 (by rw [hk];decide),ha]
  have s5:S5 s=(a,0,0,0):=by
   unfold S5;rw [Q8 (by rw [hk];decide),s2]
  have s7:S7 s=((aV s a).2.1,(aV s a).2.2,(aV s a).1):=by
   unfold S7;rw [Q_ hk,s5]
  obtain ⟨t1,t2⟩:=zy s a;by_cases hx:(aV s a).2.2=0
  ·have ht:c_ s (ac s).1 (P0 s).1 (P0 s).2.1=((aV s a).2.1,0,(aV s a).1):=by
    rw [q3,hk];exact t1 hx
   rw [iT e h,dg e ht,s7,hx];have hc:C7 s=hdC s (aV s a).1:=sj (b:=false) (p:=false) (n:=0) (m:=0) (ls:=(aV s a).1) (all:=[v,0,0,0,0,0,0,0]) q1 (by rw [s2]) (by rw [s5]) (by rw [s7]) (by rw [q3]) rfl rfl rfl rfl rfl rfl rfl rfl;rw [hc]
  ·have ht:(c_ s (ac s).1 (P0 s).1 (P0 s).2.1).2.1=(aV s a).2.2:=by
    rw [q3,hk];exact t2 hx
   rw [iT e h,dg e rfl,s7,ht,gC hx,gC hx]
 ·exact k_ e hk hn hp (by omega) h
theorem Eg (s:By):ap s=ak s:=by
 by_cases e:(ac s).2.2=0
 ·obtain ⟨h1,h8⟩:=kZ e;rcases pA h1 h8 with hk|hk|hk|hk|hk|hk|hk|hk
  ·exact iV e hk (n:=1) rfl rfl (by omega) (by decide) (by decide) (by decide)
  ·exact Pa e hk
  ·exact iV e hk (n:=2) rfl rfl (by omega) (by decide) (by decide) (by decide)
  ·exact iV e hk (n:=4) rfl rfl (by omega) (by decide) (by decide) (by decide)
  ·exact L8 e hk
  ·exact iV e hk (n:=2) rfl rfl (by omega) (by decide) (by decide) (by decide)
  ·exact HM e hk
  ·exact iV e hk (n:=2) rfl rfl (by omega) (by decide) (by decide) (by decide)
 ·rw [zz e];unfold ap;rw [Q8 e]
end Cm
end
section
namespace Cm
open Go.Vm
def f7 (p r:Int) (L:List LnD) (q s:Int) (M:List LnD):Bool:=decide (p=q/\r=s/\L=M)
set_option maxRecDepth 20000
theorem Pb {n:Int} (h:decide (-1000<=n/\n<=1000)=true):InI n:=by
 have:=Se h;unfold InI;omega
end Cm
end
section
namespace Cm
open Go.Vm
theorem dN {s:By} {a lo hi:Int} (ha:0<=a) (ha2:a<=s.length) (h:(am s a 0 lo hi).2.2=0):
 a<=(am s a 0 lo hi).2.1/\(am s a 0 lo hi).2.1<=s.length/\lo<=(am s a 0 lo hi).1/\(am s a 0 lo hi).1<=hi/\InI (am s a 0 lo hi).1/\
  s.take (am s a 0 lo hi).2.1.toNat=s.take a.toNat++bd [(am s a 0 lo hi).1]:=by
 unfold am at h⊢;rw [Q_ rfl] at h⊢;by_cases hl:(aO s a [32]).2=0
 ·rw [Q_ hl] at h⊢;have hl1:(aO s a [32]).1=a+1/\Lib.hasPrefix (s.drop a.toNat) [32]=true:=by
   unfold aO at hl⊢;rw [Q8 (by omega)] at hl⊢;by_cases hp:Lib.hasPrefix (s.drop a.toNat) [32]=true
   ·rw [Q_ hp];exact ⟨rfl,hp⟩
   ·rw [Q8 hp] at hl;split at hl<;>cases hl
  rw [hl1.1] at h⊢;obtain ⟨⟨_,n2⟩,⟨n3,n4⟩,⟨n5,n6⟩,n7,n8,_⟩:=mw h;refine ⟨by omega,n4,n5,n6,n7, ?_⟩;have hp:=(bZ _ _).1 hl1.2;have hp:(s.drop a.toNat).take 1=[32]:=hp;generalize (aK s (a+1) lo hi).2.1=b at n3 n4 n8⊢;generalize (aK s (a+1) lo hi).1=n at n8⊢;have e2:bd [n]=[32]++Lib.itoa n:=by simp [bd]
  rw [e2,n8,<-hp,<-RA,<-List.take_add,show a.toNat+1=(a+1).toNat by omega];have:s.take (a+1).toNat=(s.take b.toNat).take (a+1).toNat:=by
   rw [List.take_take,Sg (by omega)]
  rw [this,Si]
 ·rw [Q8 hl] at h;exact absurd h hl
def la (l:List Int):List Int->List Int->List Int
 |j::r,v::vs=>la (l.set j.toNat v) r vs
 |_,_=>l
def L9:List Int->List Int->Prop
 |j::r,v::vs=>(InI v/\loF j<=v/\v<=hiF j)/\L9 r vs
 |[],[]=>True
 |_,_=>False
theorem pC {s:By}: ∀{L:List Int} {a:Int} {l:List Int},0<=a->a<=s.length->(aL s L (a,0,l)).2.1=0->
 ∃vs,L9 L vs/\aL s L (a,0,l)=((aL s L (a,0,l)).1,0,la l L vs)/\a<=(aL s L (a,0,l)).1/\(aL s L (a,0,l)).1<=s.length/\s.take (aL s L (a,0,l)).1.toNat=s.take a.toNat++bd vs
 |[],a,l,h0,h1,_=>⟨[],trivial,rfl,SA _,h1,by simp [bd,aL]⟩
 |j::L,a,l,h0,h1,h=>by
  have e:aL s (j::L) (a,0,l)=aL s L ((am s a 0 (loF j) (hiF j)).2.1,(am s a 0 (loF j) (hiF j)).2.2,l.set j.toNat (am s a 0 (loF j) (hiF j)).1):=rfl;rw [e] at h⊢;by_cases he:(am s a 0 (loF j) (hiF j)).2.2=0
  ·obtain ⟨w1,w2,w3,w4,w5,w6⟩:=dN h0 h1 he;rw [he] at h⊢;obtain ⟨vs,q1,q2,q3,q4,q5⟩:=pC (by omega) w2 h;refine ⟨(am s a 0 (loF j) (hiF j)).1::vs,⟨⟨w5,w3,w4⟩,q1⟩,q2,by omega,q4, ?_⟩;rw [q5,w6,RA,<-dw];rfl
  ·rw [mt he] at h;exact absurd h he
theorem gD {s:By}: ∀{n:Nat} {a:Int} {out:List LnD},0<=a->a<=s.length->(bG s n (a,0,out)).2.1=0->
 ∃ls:List LnD,ls.length=n/\(∀x∈ls,L_ x)/\bG s n (a,0,out)=((bG s n (a,0,out)).1,0,out++ls)/\a<=(bG s n (a,0,out)).1/\(bG s n (a,0,out)).1<=s.length/\s.take (bG s n (a,0,out)).1.toNat=s.take a.toNat++bd (ls.flatMap lnL)
 |0,a,out,h0,h1,_=>⟨[],rfl,(fun _ h=>by cases h),by simp [bG],SA _,h1,by simp [bd,bG]⟩
 |n+1,a,out,h0,h1,h=>by
  have e:bG s (n+1) (a,0,out)=bG s n ((ae s (ae s (ae s (ae s a 0).2.1 (ae s a 0).2.2).2.1 (ae s (ae s a 0).2.1 (ae s a 0).2.2).2.2).2.1 (ae s (ae s (ae s a 0).2.1 (ae s a 0).2.2).2.1 (ae s (ae s a 0).2.1 (ae s a 0).2.2).2.2).2.2).2.1,
   (ae s (ae s (ae s (ae s a 0).2.1 (ae s a 0).2.2).2.1 (ae s (ae s a 0).2.1 (ae s a 0).2.2).2.2).2.1 (ae s (ae s (ae s a 0).2.1 (ae s a 0).2.2).2.1 (ae s (ae s a 0).2.1 (ae s a 0).2.2).2.2).2.2).2.2,
   out++[((ae s a 0).1,(ae s (ae s a 0).2.1 (ae s a 0).2.2).1,(ae s (ae s (ae s a 0).2.1 (ae s a 0).2.2).2.1 (ae s (ae s a 0).2.1 (ae s a 0).2.2).2.2).1,(ae s (ae s (ae s (ae s a 0).2.1 (ae s a 0).2.2).2.1 (ae s (ae s a 0).2.1 (ae s a 0).2.2).2.2).2.1 (ae s (ae s (ae s a 0).2.1 (ae s a 0).2.2).2.1 (ae s (ae s a 0).2.1 (ae s a 0).2.2).2.2).2.2).1)]):=rfl
  rw [e] at h⊢;by_cases k1:(ae s a 0).2.2=0
  ·obtain ⟨w1,w2,_,_,w5,w6⟩:=dN h0 h1 k1;change a<=(ae s a 0).2.1 at w1;change (ae s a 0).2.1<=s.length at w2;change InI (ae s a 0).1 at w5;change s.take (ae s a 0).2.1.toNat=s.take a.toNat++bd [(ae s a 0).1] at w6;rw [k1] at h⊢;generalize (ae s a 0).2.1=a1 at*;generalize (ae s a 0).1=y1 at*;by_cases k2:(ae s a1 0).2.2=0
   ·obtain ⟨v1,v2,_,_,v5,v6⟩:=dN (by omega) w2 k2;change a1<=(ae s a1 0).2.1 at v1;change (ae s a1 0).2.1<=s.length at v2;change InI (ae s a1 0).1 at v5;change s.take (ae s a1 0).2.1.toNat=s.take a1.toNat++bd [(ae s a1 0).1] at v6;rw [k2] at h⊢;generalize (ae s a1 0).2.1=a2 at*;generalize (ae s a1 0).1=y2 at*;by_cases k3:(ae s a2 0).2.2=0
    ·obtain ⟨u1,u2,_,_,u5,u6⟩:=dN (by omega) v2 k3;change a2<=(ae s a2 0).2.1 at u1;change (ae s a2 0).2.1<=s.length at u2;change InI (ae s a2 0).1 at u5;change s.take (ae s a2 0).2.1.toNat=s.take a2.toNat++bd [(ae s a2 0).1] at u6;rw [k3] at h⊢;generalize (ae s a2 0).2.1=a3 at*;generalize (ae s a2 0).1=y3 at*;by_cases k4:(ae s a3 0).2.2=0
     ·obtain ⟨t1,t2,_,_,t5,t6⟩:=dN (by omega) u2 k4;change a3<=(ae s a3 0).2.1 at t1;change (ae s a3 0).2.1<=s.length at t2;change InI (ae s a3 0).1 at t5;change s.take (ae s a3 0).2.1.toNat=s.take a3.toNat++bd [(ae s a3 0).1] at t6;rw [k4] at h⊢;generalize (ae s a3 0).2.1=a4 at*;generalize (ae s a3 0).1=y4 at*;obtain ⟨ls,q1,q2,q3,q4,q5,q6⟩:=gD (by omega) t2 h;refine ⟨(y1,y2,y3,y4)::ls,by simp [q1], ?_,q3.trans (by simp only [RA,List.singleton_append]),by omega,q5, ?_⟩
      ·intro x hx;rcases Rp.1 hx with rfl|hx
       ·intro z hz;simp only [lnL,Rp,Sj,or_false] at hz;rcases hz with rfl|rfl|rfl|rfl
        ·exact w5
        ·exact v5
        ·exact u5
        ·exact t5
       ·exact q2 x hx
      ·rw [q6,t6,u6,v6,w6];have e6:bd (((y1,y2,y3,y4)::ls).flatMap lnL)=bd [y1]++(bd [y2]++(bd [y3]++(bd [y4]++bd (ls.flatMap lnL)))):=by
        rw [<-dw,<-dw,<-dw,<-dw];simp [lnL]
       rw [e6];simp only [RA]
     ·rw [cQ k4] at h;exact absurd h k4
    ·simp only [f8 k3] at h;rw [cQ k3] at h;exact absurd h k3
   ·simp only [f8 k2] at h;rw [cQ k2] at h;exact absurd h k2
  ·simp only [f8 k1] at h;rw [cQ k1] at h;exact absurd h k1
theorem Qz (s w:By):aO s 0 w=if Lib.hasPrefix s w then ((w.length:Int),0) else if Lib.hasPrefix w s then (0,4) else (0,8):=by
 unfold aO;rw [Q8 (by omega)];show (if Lib.hasPrefix s w then ((0:Int)+w.length,(0:Int)) else _)=_;rw [Int.zero_add];rfl
theorem pD (s:By): ∀(l:List Int) (w:Int),w≠0->(cE s l w).2.2=0->(cE s l w).2.1=((ba (cE s l w).1).length:Int)/\s.take (ba (cE s l w).1).length=ba (cE s l w).1
 |[],w,hw,h=>absurd h hw
 |k::r,w,hw,h=>by
  unfold cE at h⊢;by_cases e:(aO s 0 (ba k)).2=0
  ·rw [Q_ e];dsimp only;rw [Qz] at e⊢;by_cases hp:Lib.hasPrefix s (ba k)=true
   ·rw [Q_ hp];exact ⟨rfl,(bZ _ _).1 hp⟩
   ·rw [Q8 hp] at e;split at e<;>cases e
  ·rw [Q8 e] at h⊢;refine pD s r _ ?_ h;split
   ·decide
   ·exact hw
theorem Eh {s:By} (h:(ac s).2.2=0):(ac s).2.1=((ba (ac s).1).length:Int)/\s.take (ba (ac s).1).length=ba (ac s).1:=pD s kinds 8 (by decide) h
theorem wA: ∀(L vs l:List Int),(la l L vs).length=l.length
 |[],_,_=>by simp [la]
 |_::_,[],_=>by simp [la]
 |j::r,v::vs,l=>by
  simp only [la];rw [wA r vs,List.length_set]
theorem pE: ∀(L vs l:List Int) (i:Nat),(∀j∈L,0<=j)->(i:Int)∉L->(la l L vs)[i]? =l[i]?
 |[],_,_,_,_,_=>by simp [la]
 |_::_,[],_,_,_,_=>by simp [la]
 |j::r,v::vs,l,i,h0,hi=>by
  simp only [la];have hj:=h0 j (by simp);rw [pE r vs _ i (fun x hx=>h0 x (by simp [hx])) (fun hx=>hi (by simp [hx])),List.getElem?_set_ne (fun e=>hi (by simp;left;omega))]
theorem wB: ∀(L vs l:List Int),(∀j∈L,0<=j/\j<l.length)->L.Nodup->vs.length=L.length->L.map (a8 (la l L vs))=vs
 |[],[],_,_,_,_=>rfl
 |[],_::_,_,_,_,h=>by simp at h
 |_::_,[],_,_,_,h=>by simp at h
 |j::r,v::vs,l,h0,hn,hl=>by
  have hj:=h0 j (by simp);rw [Su] at hn;simp only [la,RU];rw [wB r vs _ (fun x hx=>by rw [List.length_set];exact h0 x (by simp [hx])) hn.2 (by simpa using hl)];congr 1;unfold a8;rw [pE r vs _ _ (fun x hx=>(h0 x (by simp [hx])).1) (by rw [show ((j.toNat:Nat):Int)=j by omega];exact hn.1),List.getElem?_set_self (by omega)];rfl
theorem wC: ∀{L vs:List Int},L9 L vs->vs.length=L.length
 |[],[],_=>rfl
 |_::_,_::_,h=>by simp [wC h.2]
 |[],_::_,h=>h.elim
 |_::_,[],h=>h.elim
theorem wD {f:Int->Int}: ∀{L:List Int},L9 L (L.map f)->∀j∈L,InI (f j)/\loF j<=f j/\f j<=hiF j
 |[],_,_,h=>by cases h
 |j::r,h,x,hx=>by
  rcases Rp.1 hx with rfl|hx
  ·exact h.1
  ·exact wD h.2 x hx
theorem zA {k:Int}:(an k).Nodup:=by
 unfold an wE;generalize (k-1).toNat=j;match j with
 |0|1|2|3|4|5|6|7=>decide
 |n+8=>simp
theorem Ei {l:List Int} (h:l.length=8): ∃a b c d e f g i,l=[a,b,c,d,e,f,g,i]:=by
 match l,h with
 |[a,b,c,d,e,f,g,i],_=>exact ⟨a,b,c,d,e,f,g,i,rfl⟩
theorem CB {n:Int} (h:n=0∨n=1):dh (decide (n=1))=n:=by
 rcases h with rfl|rfl<;>rfl
theorem Pc {k:Int} {l:List Int} {ls:List LnD} (h:l.length=8) (h4:a8 l 4=0∨a8 l 4=1) (h5:a8 l 5=0∨a8 l 5=1):cR (mkC k l ls)=l:=by
 obtain ⟨a,b,c,d,e,f,g,i,rfl⟩:=Ei h;have e4:dh (decide (e=1))=e:=CB h4;have e5:dh (decide (f=1))=f:=CB h5;show [a,b,c,d,dh (decide (e=1)),dh (decide (f=1)),g,i]=_;rw [e4,e5]
theorem Pd {c:CmD} (h1:1<=c.1) (h8:c.1<=8) (h50:(aB c).length<=50) (hl:c.1=7∨aB c=[]) (h: ∀i:Int,0<=i->i<8->i∉an c.1->a8 (cR c) i=0):ah c=0:=by
 rw [my h1 h8 h50 (by rcases hl with e|e;exact .inl e;exact .inr (by rw [e];rfl)),Q8];rw [pF fun i i0 i1 hb=>hb.1 (h i i0 i1 hb.2)];decide
theorem sk {s t:By} {b:Int} (h:s.take b.toNat=t) (hb: ¬b<s.length):s=t:=by
 rw [<-h,Rh (by omega)]
theorem Ej {s:By} (h:(ak s).2=0):ah (ak s).1=0/\gE (ak s).1=s/\InC (ak s).1:=by
 have e:(ac s).2.2=0:=Classical.byContradiction fun e=>by
  rw [zz e] at h;exact e h
 obtain ⟨k1,k8⟩:=kZ e;obtain ⟨hn,hw⟩:=Eh e;rw [dg e rfl] at h⊢;unfold eU at h⊢;have ht0:(c_ s (ac s).1 (P0 s).1 (P0 s).2.1).2.1=0:=Classical.byContradiction fun ht=>by
  rw [Q8 ht] at h;exact ht h
 rw [Q_ ht0] at h⊢;by_cases hr:(c_ s (ac s).1 (P0 s).1 (P0 s).2.1).1<s.length
 ·rw [Q_ hr] at h;cases h
 rw [Q8 hr];dsimp only;have hp0:(P0 s).2.1=0:=Classical.byContradiction fun hp=>by
  rw [wx hp] at ht0;exact hp ht0
 have hwl:(ba (ac s).1).length<=s.length:=by
  have:=congrArg List.length hw;rw [Rz] at this;omega
 unfold P0 at hp0;obtain ⟨vs,q1,q2,q3,q4,q5⟩:=pC (by omega) (by omega) hp0;change P0 s=((P0 s).1,0,la iU (an (ac s).1) vs) at q2;change _<=(P0 s).1 at q3;change (P0 s).1<=_ at q4;change s.take (P0 s).1.toNat=_ at q5;rw [hn,R3,hw] at q5;have hm:=wB (an (ac s).1) vs iU (fun j hj=>by have:=lc hj;simp;omega) zA (wC q1);generalize hS:la iU (an (ac s).1) vs=S at hm q2;have hSl:S.length=8:=by rw [<-hS,wA];rfl
 have hoff: ∀i:Int,0<=i->i<8->i∉an (ac s).1->a8 S i=0:=fun i i0 i8 hi=>by
  unfold a8;rw [<-hS,pE _ _ _ _ (fun j hj=>(lc hj).1) (by rw [show ((i.toNat:Nat):Int)=i by omega];exact hi)];have:i.toNat<8:=by omega
  generalize i.toNat=j at this;match j,this with
  |0,_|1,_|2,_|3,_|4,_|5,_|6,_|7,_=>rfl
 have hfit:=wD (f:=a8 S) (L:=an (ac s).1) (by rw [hm];exact q1);have hbit: ∀i:Int,(i=4∨i=5)->a8 S i=0∨a8 S i=1:=fun i hi=>by
  by_cases hin:i∈an (ac s).1
  ·obtain ⟨_,b1,b2⟩:=hfit i hin;unfold loF at b1;unfold hiF at b2;rw [Q_ hi] at b1 b2;omega
  ·exact .inl (hoff i (by omega) (by omega) hin)
 have hSI: ∀n∈S,InI n:=fun n hn=>by
  obtain ⟨i,hi,rfl⟩:=List.mem_iff_getElem.1 hn;have hv:a8 S i=S[i]:=by
   unfold a8;rw [R3,List.getElem?_eq_getElem hi];rfl
  by_cases hin:(i:Int)∈an (ac s).1
  ·rw [<-hv];exact (hfit i hin).1
  ·rw [<-hv,hoff i (by omega) (by omega) hin];unfold InI;omega
 have hP1:(P0 s).2.2=S:=by rw [q2]
 have hP2:(P0 s).2.1=0:=by rw [q2]
 have hall: ∀ls,cR (hdC s ls)=S:=fun ls=>by
  unfold hdC;rw [hP1];exact Pc hSl (hbit 4 (.inl rfl)) (hbit 5 (.inr rfl))
 have hkk: ∀ls,(hdC s ls).1=(ac s).1:=fun _=>rfl;have hlin: ∀ls,aB (hdC s ls)=ls:=fun _=>rfl;have fin: ∀ls:List LnD,ls.length<=50->((ac s).1=7∨ls=[])->(∀x∈ls,L_ x)->s=ba (ac s).1++bd (vs++if (ac s).1=7 then (ls.length:Int)::ls.flatMap lnL else [])->
  ah (hdC s ls)=0/\gE (hdC s ls)=s/\InC (hdC s ls):=fun ls l1 l2 l3 l4=>by
  refine ⟨Pd (by rw [hkk];exact k1) (by rw [hkk];exact k8) (by rw [hlin];exact l1) (by rw [hkk,hlin];exact l2) (fun i i0 i8 hi=>by rw [hall];exact hoff i i0 i8 (by rw [<-hkk ls];exact hi)), ?_,⟨by rw [hall];exact hSI,by rw [hlin];exact l3⟩⟩;unfold gE nH;rw [hall,hkk,hlin,hm];exact l4.symm
 rw [hP2] at ht0 hr⊢;by_cases h7:(ac s).1=7
 ·unfold c_ at ht0 hr⊢;rw [Q_ h7] at ht0 hr⊢;dsimp only at ht0 hr⊢;by_cases hx:(am s (P0 s).1 0 0 50).2.2=0
  ·obtain ⟨w1,w2,w3,w4,w5,w6⟩:=dN (by omega) q4 hx;rw [hx] at ht0 hr⊢;obtain ⟨ls,r1,r2,r3,r4,r5,r6⟩:=gD (by omega) w2 ht0;rw [r3];dsimp only;rw [RM];have hsx:=sk r6 hr;refine fin ls (by omega) (.inl h7) r2 ?_;rw [Q_ h7];have e1:(am s (P0 s).1 0 0 50).1=(ls.length:Int):=by omega
   rw [e1] at w6;rw [w6,q5] at hsx;rw [dw,<-List.singleton_append,dw,<-RA,<-RA];exact hsx
  ·rw [cQ hx] at ht0;exact absurd ht0 hx
 ·unfold c_ at hr⊢;rw [Q8 h7] at hr⊢;dsimp only at hr⊢;have hsx:=sk q5 hr;refine fin [] (by simp) (.inr rfl) (fun x hx=>by cases hx) ?_;rw [Q8 h7,RH];exact hsx
theorem Ek {l:List Int} (h: ∀n∈l,InI n):(bd l).length<=41*l.length:=by
 induction l with
 |nil=>simp [bd]
 |cons a r ih=>
  have:=ih (fun n hn=>h n (by simp [hn]));have h2:=ld (h a (by simp));have e:bd (a::r)=(32::Lib.itoa a)++bd r:=by simp [bd]
  rw [e];simp only [Re,Rj];omega
end Cm
end
end
end Go.Proofs.YtabicbgeoiilmaaGreatDoor
