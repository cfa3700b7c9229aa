/-
  command: what comes back. Plain Lean.
-/
import Derived.Test.YtabicbgeoiilmaaGreatDoorCmd8
section
namespace Go.Proofs.YtabicbgeoiilmaaGreatDoor.Cm
open Go.Vm
def R0 (s:By):List Int×Int×Int:=rowGo s (numN (kindF s).1).toNat (kindF s).2.1 []
def pad4 (l:List Int):List Int:=l++List.replicate (4-l.length) 0
def S2 (s:By):Int×Int×Bool×Bool:=
 if (kindF s).1=2 then
  if (rnumF s (R0 s).2.1 0 1).2.2=0 then ((rnumF s (rnumF s (R0 s).2.1 0 1).2.1 0 1).2.1,(rnumF s (rnumF s (R0 s).2.1 0 1).2.1 0 1).2.2,decide ((rnumF s (R0 s).2.1 0 1).1=1),decide ((rnumF s (rnumF s (R0 s).2.1 0 1).2.1 0 1).1=1))
  else ((rnumF s (R0 s).2.1 0 1).2.1,(rnumF s (R0 s).2.1 0 1).2.2,decide ((rnumF s (R0 s).2.1 0 1).1=1),false)
 else ((R0 s).2.1,0,false,false)
def S5 (s:By):Int×Int×Int×Int:=
 if (kindF s).1=5 then
  if (rowGo s 2 (S2 s).1 []).2.2=0 then ((rowGo s 2 (S2 s).1 []).2.1,0,nthI (rowGo s 2 (S2 s).1 []).1 0,nthI (rowGo s 2 (S2 s).1 []).1 1)
  else ((rowGo s 2 (S2 s).1 []).2.1,(rowGo s 2 (S2 s).1 []).2.2,0,0)
 else ((S2 s).1,(S2 s).2.1,0,0)
def S7 (s:By):Int×Int×List LnD:=
 if (kindF s).1=7 then ((linesFr s (S5 s).1).2.1,(linesFr s (S5 s).1).2.2,(linesFr s (S5 s).1).1) else ((S5 s).1,(S5 s).2.1,[])
def base5 (s:By):Int×Int×Int×Int×Int:=((kindF s).1,nthI (pad4 (R0 s).1) 0,nthI (pad4 (R0 s).1) 1,nthI (pad4 (R0 s).1) 2,nthI (pad4 (R0 s).1) 3)
def C7 (s:By):CmD:=((base5 s).1,(base5 s).2.1,(base5 s).2.2.1,(base5 s).2.2.2.1,(base5 s).2.2.2.2,(S2 s).2.2.1,(S2 s).2.2.2,((S5 s).2.2.1,(S5 s).2.2.2),(S7 s).2.2)
def rparseF (s:By):CmD×Int:=
 if (kindF s).2.2=0 then
  if (R0 s).2.2=0 then restF s (C7 s) (S7 s).1 (S7 s).2.1
  else (nilC,(R0 s).2.2)
 else (nilC,(kindF s).2.2)
abbrev X9:Type:=Int×Int×Int×Int×Int×Int×Int×Bool×Bool×Int×Int×List LnD×Unit
noncomputable def env_rparse (s:By):Env where
 P:=Tryz.prog
 ty:=tys0
 specs:=specsOf [sp_kind,sp_rnums,sp_row,sp_rnumber,sp_lines]
 frz:=fun|84=>true|103=>true|_=>false
 heads:=fun
  |7=>some {slots:=[(7, .slc 9000 I)],boxes:=[],keep:=[2],drop:=[22,27,28],inv:=fun _ (x:List Int×Unit)=>x.1.length<=4/\pad4 x.1=pad4 (R0 s).1,measure:=fun _ (x:List Int×Unit)=>4-x.1.length}
  |_=>none
 joins:=fun
  |18=>some {slots:=[(5, .int .i64),(6, .int .i64)],boxes:=[(8,[.int .i64, .int .i64, .int .i64, .int .i64, .int .i64, .bool, .bool, .int .i64, .int .i64, .list .part Ln])],keep:=[2],drop:=[7,35,42,43,45,46,48,49,51,52],inv:=fun _ (x:X9)=>(x.1,x.2.1,x.2.2.2.2.2.2.2.1,x.2.2.2.2.2.2.2.2.1)=S2 s/\(x.2.2.1,x.2.2.2.1,x.2.2.2.2.1,x.2.2.2.2.2.1,x.2.2.2.2.2.2.1)=base5 s/\x.2.2.2.2.2.2.2.2.2.1=0/\x.2.2.2.2.2.2.2.2.2.2.1=0/\x.2.2.2.2.2.2.2.2.2.2.2.1.length=0}
  |22=>some {slots:=[(5, .int .i64),(6, .int .i64)],boxes:=[(8,[.int .i64, .int .i64, .int .i64, .int .i64, .int .i64, .bool, .bool, .int .i64, .int .i64, .list .part Ln])],keep:=[2],inv:=fun _ (x:X9)=>(x.1,x.2.1,x.2.2.2.2.2.2.2.2.2.1,x.2.2.2.2.2.2.2.2.2.2.1)=S5 s/\(x.2.2.1,x.2.2.2.1,x.2.2.2.2.1,x.2.2.2.2.2.1,x.2.2.2.2.2.2.1)=base5 s/\(x.2.2.2.2.2.2.2.1,x.2.2.2.2.2.2.2.2.1)=(S2 s).2.2/\x.2.2.2.2.2.2.2.2.2.2.2.1.length=0}
  |24=>some {slots:=[(5, .int .i64),(6, .int .i64)],boxes:=[(8,[.int .i64, .int .i64, .int .i64, .int .i64, .int .i64, .bool, .bool, .int .i64, .int .i64, .list .part Ln])],keep:=[2],inv:=fun _ (x:X9)=>(x.1,x.2.1,x.2.2.2.2.2.2.2.2.2.2.2.1)=S7 s/\(x.2.2.1,x.2.2.2.1,x.2.2.2.2.1,x.2.2.2.2.2.1,x.2.2.2.2.2.2.1,x.2.2.2.2.2.2.2.1,x.2.2.2.2.2.2.2.2.1,(x.2.2.2.2.2.2.2.2.2.1,x.2.2.2.2.2.2.2.2.2.2.1),x.2.2.2.2.2.2.2.2.2.2.2.1)=C7 s}
  |_=>none
abbrev ann_rparse:Ann:={slots:=numP 0 [.int .i64, .int .i64, .int .i64, .int .i64, .int .i64, .bool, .bool, .int .i64, .int .i64, .list .part Ln, .int .i64],boxes:=[],inv:=fun _ _=>True}
abbrev bx_rparse_1:_root_.Go.Vm.Obj:=Obj.box [V.int IntKind.i64 (0:Int),V.int IntKind.i64 (0:Int),V.int IntKind.i64 (0:Int),V.int IntKind.i64 (0:Int),V.int IntKind.i64 (0:Int),V.kb false,V.kb false,V.int IntKind.i64 (0:Int),V.int IntKind.i64 (0:Int),V.nils]
def g_rparse_vc (s:By):Prop:=
 List.length s<=(10000:Nat)/\((!decide ((kindF s).2.2=(0:Int)))=true->True/\((0:Int),(0:Int),(0:Int),(0:Int),(0:Int),false,false,(0:Int),(0:Int),[],(kindF s).2.2,())=((rparseF s).1.1,(rparseF s).1.2.1,(rparseF s).1.2.2.1,(rparseF s).1.2.2.2.1,(rparseF s).1.2.2.2.2.1,(rparseF s).1.2.2.2.2.2.1,(rparseF s).1.2.2.2.2.2.2.1,(rparseF s).1.2.2.2.2.2.2.2.1.1,(rparseF s).1.2.2.2.2.2.2.2.1.2,(rparseF s).1.2.2.2.2.2.2.2.2,(rparseF s).2,()))/\((!decide ((kindF s).2.2=(0:Int)))=false->((1:Int)<=(kindF s).1/\(kindF s).1<=(8:Int))/\(List.length s<=(10000:Nat)/\0<=numN (kindF s).1/\numN (kindF s).1<=(100:Int))/\((!decide ((rowGo s (numN (kindF s).1).toNat (kindF s).2.1 []).2.2=(0:Int)))=true->True/\((0:Int),(0:Int),(0:Int),(0:Int),(0:Int),false,false,(0:Int),(0:Int),[],(rowGo s (numN (kindF s).1).toNat (kindF s).2.1 []).2.2,())=((rparseF s).1.1,(rparseF s).1.2.1,(rparseF s).1.2.2.1,(rparseF s).1.2.2.2.1,(rparseF s).1.2.2.2.2.1,(rparseF s).1.2.2.2.2.2.1,(rparseF s).1.2.2.2.2.2.2.1,(rparseF s).1.2.2.2.2.2.2.2.1.1,(rparseF s).1.2.2.2.2.2.2.2.1.2,(rparseF s).1.2.2.2.2.2.2.2.2,(rparseF s).2,()))/\((!decide ((rowGo s (numN (kindF s).1).toNat (kindF s).2.1 []).2.2=(0:Int)))=false->((some bx_rparse_1=some bx_rparse_1/\True)/\(rowGo s (numN (kindF s).1).toNat (kindF s).2.1 []).1.length<=(4:Nat)/\pad4 (rowGo s (numN (kindF s).1).toNat (kindF s).2.1 []).1=pad4 (R0 s).1)/\∀(x:List Int×Unit),x.1.length<=(4:Nat)/\pad4 x.1=pad4 (R0 s).1->(decide ((↑x.1.length:Int)<(4:Int))=true->((x.1.length+(1:Nat))*(8:Nat)<=(140737488355328:Nat)/\x.1.length+(1:Nat)<=(4611686018427387904:Nat))/\(some bx_rparse_1=some bx_rparse_1/\True)/\((x.1++[(0:Int)]).length<=(4:Nat)/\pad4 (x.1++[(0:Int)])=pad4 (R0 s).1)/\(4:Nat)-(x.1++[(0:Int)]).length<(4:Nat)-x.1.length)/\(decide ((↑x.1.length:Int)<(4:Int))=false->(0<=(0:Int)/\(0:Int)<(↑x.1.length:Int))/\Int.toNat (0:Int)<x.1.length/\∀(x_1:Int),x.1[Int.toNat (0:Int)]? =some x_1->(0<=(1:Int)/\(1:Int)<(↑x.1.length:Int))/\Int.toNat (1:Int)<x.1.length/\∀(x_2:Int),x.1[Int.toNat (1:Int)]? =some x_2->(0<=(2:Int)/\(2:Int)<(↑x.1.length:Int))/\Int.toNat (2:Int)<x.1.length/\∀(x_3:Int),x.1[Int.toNat (2:Int)]? =some x_3->(0<=(3:Int)/\(3:Int)<(↑x.1.length:Int))/\Int.toNat (3:Int)<x.1.length/\∀(x_4:Int),x.1[Int.toNat (3:Int)]? =some x_4->((decide ((kindF s).1=(2:Int))=true->List.length s<=(10000:Nat)/\(decide ((rnumF s (rowGo s (numN (kindF s).1).toNat (kindF s).2.1 []).2.1 (0:Int) (1:Int)).2.2=(0:Int))=true->List.length s<=(10000:Nat)/\(some bx_rparse_1=some bx_rparse_1/\True)/\((rnumF s (rnumF s (rowGo s (numN (kindF s).1).toNat (kindF s).2.1 []).2.1 (0:Int) (1:Int)).2.1 (0:Int) (1:Int)).2.1,(rnumF s (rnumF s (rowGo s (numN (kindF s).1).toNat (kindF s).2.1 []).2.1 (0:Int) (1:Int)).2.1 (0:Int) (1:Int)).2.2,decide ((rnumF s (rowGo s (numN (kindF s).1).toNat (kindF s).2.1 []).2.1 (0:Int) (1:Int)).1=(1:Int)),decide ((rnumF s (rnumF s (rowGo s (numN (kindF s).1).toNat (kindF s).2.1 []).2.1 (0:Int) (1:Int)).2.1 (0:Int) (1:Int)).1=(1:Int)))=S2 s/\((kindF s).1,x_1,x_2,x_3,x_4)=base5 s/\(0:Int)=(0:Int)/\(0:Int)=(0:Int)/\(0:Nat)=(0:Nat))/\(decide ((rnumF s (rowGo s (numN (kindF s).1).toNat (kindF s).2.1 []).2.1 (0:Int) (1:Int)).2.2=(0:Int))=false->(some bx_rparse_1=some bx_rparse_1/\True)/\((rnumF s (rowGo s (numN (kindF s).1).toNat (kindF s).2.1 []).2.1 (0:Int) (1:Int)).2.1,(rnumF s (rowGo s (numN (kindF s).1).toNat (kindF s).2.1 []).2.1 (0:Int) (1:Int)).2.2,decide ((rnumF s (rowGo s (numN (kindF s).1).toNat (kindF s).2.1 []).2.1 (0:Int) (1:Int)).1=(1:Int)),decide ((0:Int)=(1:Int)))=S2 s/\((kindF s).1,x_1,x_2,x_3,x_4)=base5 s/\(0:Int)=(0:Int)/\(0:Int)=(0:Int)/\(0:Nat)=(0:Nat)))/\(decide ((kindF s).1=(2:Int))=false->(some bx_rparse_1=some bx_rparse_1/\True)/\((rowGo s (numN (kindF s).1).toNat (kindF s).2.1 []).2.1,(rowGo s (numN (kindF s).1).toNat (kindF s).2.1 []).2.2,false,false)=S2 s/\((kindF s).1,x_1,x_2,x_3,x_4)=base5 s/\(0:Int)=(0:Int)/\(0:Int)=(0:Int)/\(0:Nat)=(0:Nat)))/\∀(x:Int×Int×Int×Int×Int×Int×Int×Bool×Bool×Int×Int×List (Int×Int×Int×Int)×Unit),(x.1,x.2.1,x.2.2.2.2.2.2.2.1,x.2.2.2.2.2.2.2.2.1)=S2 s/\(x.2.2.1,x.2.2.2.1,x.2.2.2.2.1,x.2.2.2.2.2.1,x.2.2.2.2.2.2.1)=base5 s/\x.2.2.2.2.2.2.2.2.2.1=(0:Int)/\x.2.2.2.2.2.2.2.2.2.2.1=(0:Int)/\x.2.2.2.2.2.2.2.2.2.2.2.1.length=(0:Nat)->((decide ((kindF s).1=(5:Int))=true->(List.length s<=(10000:Nat)/\0<=(2:Int)/\(2:Int)<=(100:Int))/\(decide ((rowGo s (Int.toNat (2:Int)) x.1 []).2.2=(0:Int))=true->(0<=(0:Int)/\(0:Int)<(↑(rowGo s (Int.toNat (2:Int)) x.1 []).1.length:Int))/\∀(x_5:Int),(rowGo s (Int.toNat (2:Int)) x.1 []).1[Int.toNat (0:Int)]? =some x_5->(0<=(1:Int)/\(1:Int)<(↑(rowGo s (Int.toNat (2:Int)) x.1 []).1.length:Int))/\∀(x_6:Int),(rowGo s (Int.toNat (2:Int)) x.1 []).1[Int.toNat (1:Int)]? =some x_6->(some bx_rparse_1=some bx_rparse_1/\True)/\((rowGo s (Int.toNat (2:Int)) x.1 []).2.1,(rowGo s (Int.toNat (2:Int)) x.1 []).2.2,x_5,x_6)=S5 s/\(x.2.2.1,x.2.2.2.1,x.2.2.2.2.1,x.2.2.2.2.2.1,x.2.2.2.2.2.2.1)=base5 s/\(x.2.2.2.2.2.2.2.1,x.2.2.2.2.2.2.2.2.1)=(S2 s).2.2/\x.2.2.2.2.2.2.2.2.2.2.2.1.length=(0:Nat))/\(decide ((rowGo s (Int.toNat (2:Int)) x.1 []).2.2=(0:Int))=false->(some bx_rparse_1=some bx_rparse_1/\True)/\((rowGo s (Int.toNat (2:Int)) x.1 []).2.1,(rowGo s (Int.toNat (2:Int)) x.1 []).2.2,x.2.2.2.2.2.2.2.2.2.1,x.2.2.2.2.2.2.2.2.2.2.1)=S5 s/\(x.2.2.1,x.2.2.2.1,x.2.2.2.2.1,x.2.2.2.2.2.1,x.2.2.2.2.2.2.1)=base5 s/\(x.2.2.2.2.2.2.2.1,x.2.2.2.2.2.2.2.2.1)=(S2 s).2.2/\x.2.2.2.2.2.2.2.2.2.2.2.1.length=(0:Nat)))/\(decide ((kindF s).1=(5:Int))=false->(some bx_rparse_1=some bx_rparse_1/\True)/\(x.1,x.2.1,x.2.2.2.2.2.2.2.2.2.1,x.2.2.2.2.2.2.2.2.2.2.1)=S5 s/\(x.2.2.1,x.2.2.2.1,x.2.2.2.2.1,x.2.2.2.2.2.1,x.2.2.2.2.2.2.1)=base5 s/\(x.2.2.2.2.2.2.2.1,x.2.2.2.2.2.2.2.2.1)=(S2 s).2.2/\x.2.2.2.2.2.2.2.2.2.2.2.1.length=(0:Nat)))/\∀(x:Int×Int×Int×Int×Int×Int×Int×Bool×Bool×Int×Int×List (Int×Int×Int×Int)×Unit),(x.1,x.2.1,x.2.2.2.2.2.2.2.2.2.1,x.2.2.2.2.2.2.2.2.2.2.1)=S5 s/\(x.2.2.1,x.2.2.2.1,x.2.2.2.2.1,x.2.2.2.2.2.1,x.2.2.2.2.2.2.1)=base5 s/\(x.2.2.2.2.2.2.2.1,x.2.2.2.2.2.2.2.2.1)=(S2 s).2.2/\x.2.2.2.2.2.2.2.2.2.2.2.1.length=(0:Nat)->((decide ((kindF s).1=(7:Int))=true->List.length s<=(10000:Nat)/\(some bx_rparse_1=some bx_rparse_1/\True)/\((linesFr s x.1).2.1,(linesFr s x.1).2.2,(linesFr s x.1).1)=S7 s/\(x.2.2.1,x.2.2.2.1,x.2.2.2.2.1,x.2.2.2.2.2.1,x.2.2.2.2.2.2.1,x.2.2.2.2.2.2.2.1,x.2.2.2.2.2.2.2.2.1,(x.2.2.2.2.2.2.2.2.2.1,x.2.2.2.2.2.2.2.2.2.2.1),(linesFr s x.1).1)=C7 s)/\(decide ((kindF s).1=(7:Int))=false->(some bx_rparse_1=some bx_rparse_1/\True)/\(x.1,x.2.1,x.2.2.2.2.2.2.2.2.2.2.2.1)=S7 s/\(x.2.2.1,x.2.2.2.1,x.2.2.2.2.1,x.2.2.2.2.2.1,x.2.2.2.2.2.2.1,x.2.2.2.2.2.2.2.1,x.2.2.2.2.2.2.2.2.1,(x.2.2.2.2.2.2.2.2.2.1,x.2.2.2.2.2.2.2.2.2.2.1),x.2.2.2.2.2.2.2.2.2.2.2.1)=C7 s))/\∀(x:Int×Int×Int×Int×Int×Int×Int×Bool×Bool×Int×Int×List (Int×Int×Int×Int)×Unit),(x.1,x.2.1,x.2.2.2.2.2.2.2.2.2.2.2.1)=S7 s/\(x.2.2.1,x.2.2.2.1,x.2.2.2.2.1,x.2.2.2.2.2.1,x.2.2.2.2.2.2.1,x.2.2.2.2.2.2.2.1,x.2.2.2.2.2.2.2.2.1,(x.2.2.2.2.2.2.2.2.2.1,x.2.2.2.2.2.2.2.2.2.2.1),x.2.2.2.2.2.2.2.2.2.2.2.1)=C7 s->((!decide (x.2.1=(0:Int)))=true->True/\((0:Int),(0:Int),(0:Int),(0:Int),(0:Int),false,false,(0:Int),(0:Int),[],x.2.1,())=((rparseF s).1.1,(rparseF s).1.2.1,(rparseF s).1.2.2.1,(rparseF s).1.2.2.2.1,(rparseF s).1.2.2.2.2.1,(rparseF s).1.2.2.2.2.2.1,(rparseF s).1.2.2.2.2.2.2.1,(rparseF s).1.2.2.2.2.2.2.2.1.1,(rparseF s).1.2.2.2.2.2.2.2.1.2,(rparseF s).1.2.2.2.2.2.2.2.2,(rparseF s).2,()))/\((!decide (x.2.1=(0:Int)))=false->(decide (x.1<(↑(List.length s):Int))=true->True/\((0:Int),(0:Int),(0:Int),(0:Int),(0:Int),false,false,(0:Int),(0:Int),[],(6:Int),())=((rparseF s).1.1,(rparseF s).1.2.1,(rparseF s).1.2.2.1,(rparseF s).1.2.2.2.1,(rparseF s).1.2.2.2.2.1,(rparseF s).1.2.2.2.2.2.1,(rparseF s).1.2.2.2.2.2.2.1,(rparseF s).1.2.2.2.2.2.2.2.1.1,(rparseF s).1.2.2.2.2.2.2.2.1.2,(rparseF s).1.2.2.2.2.2.2.2.2,(rparseF s).2,()))/\(decide (x.1<(↑(List.length s):Int))=false->True/\(x.2.2.1,x.2.2.2.1,x.2.2.2.2.1,x.2.2.2.2.2.1,x.2.2.2.2.2.2.1,x.2.2.2.2.2.2.2.1,x.2.2.2.2.2.2.2.2.1,x.2.2.2.2.2.2.2.2.2.1,x.2.2.2.2.2.2.2.2.2.2.1,x.2.2.2.2.2.2.2.2.2.2.2.1,(0:Int),())=((rparseF s).1.1,(rparseF s).1.2.1,(rparseF s).1.2.2.1,(rparseF s).1.2.2.2.1,(rparseF s).1.2.2.2.2.1,(rparseF s).1.2.2.2.2.2.1,(rparseF s).1.2.2.2.2.2.2.1,(rparseF s).1.2.2.2.2.2.2.2.1.1,(rparseF s).1.2.2.2.2.2.2.2.1.2,(rparseF s).1.2.2.2.2.2.2.2.2,(rparseF s).2,()))))))
theorem base_of {s:By} {o:List Int} {x0 x1 x2 x3:Int} (hp:pad4 o=pad4 (R0 s).1) (h0:o[Int.toNat 0]? =some x0) (h1:o[Int.toNat 1]? =some x1) (h2:o[Int.toNat 2]? =some x2) (h3:o[Int.toNat 3]? =some x3) (hl:o.length<=4) (hl2: ¬(o.length:Int)<4):((kindF s).1,x0,x1,x2,x3)=base5 s:=by
 have e:pad4 o=o:=by
  unfold pad4;rw [show 4-o.length=0 by omega];simp
 unfold base5;rw [<-hp,e];unfold nthI;rw [h0,h1,h2,h3];rfl
theorem pad_next {o:List Int} (h:(o.length:Int)<4):pad4 (o++[0])=pad4 o:=by
 unfold pad4;rw [List.length_append,List.length_singleton,show 4-o.length=(4-(o.length+1))+1 by omega,List.replicate_succ,List.append_assoc];rfl
theorem row_le (s:By): ∀(n:Nat) (a:Int) (out:List Int),(rowGo s n a out).1.length<=out.length+n
 |0,a,out=>Nat.le_refl _
 |n+1,a,out=>by
  unfold rowGo;split
  ·have:=row_le s n (anyF s a 0).2.1 (out++[(anyF s a 0).1]);rw [List.length_append,List.length_singleton] at this;omega
  ·simp
theorem g_rparse_ok (s:By) (h:s.length<=10000):g_rparse_vc s:=by
 unfold g_rparse_vc;simp only [decide_eq_true_eq,decide_eq_false_iff_not,Bool.not_eq_true',Bool.not_eq_false',Bool.not_true,Bool.not_false];have hki:= @kindF_in s;have hR:rowGo s (numN (kindF s).1).toNat (kindF s).2.1 []=R0 s:=rfl;rw [hR];have hnum:(kindF s).2.2=0->1<=numN (kindF s).1/\numN (kindF s).1<=4:=fun e=>numN_in (hki e).1 (hki e).2;have hp0:(kindF s).2.2=0->(R0 s).2.2=0->rparseF s=restF s (C7 s) (S7 s).1 (S7 s).2.1:=fun e f=>by
  unfold rparseF;rw [if_pos e,if_pos f]
 repeat' (first
  |with_reducible apply And.intro
  |(intro (x:List Int×Unit);obtain ⟨o,⟨⟩⟩:=x;rintro ⟨h0,hp⟩;dsimp only at h0 hp⊢)
  |(intro (x:Int×Int×Int×Int×Int×Int×Int×Bool×Bool×Int×Int×List (Int×Int×Int×Int)×Unit);obtain ⟨at1,e,c0,c1,c2,c3,c4,b,p,n,m,ls,⟨⟩⟩:=x;dsimp only;intro hx)
  |intro _)
 all_goals try (first|trivial|rfl|omega)
 ·rename_i e;unfold rparseF;rw [if_neg e];rfl
 ·rename_i e f;unfold rparseF;rw [if_pos e,if_neg f];rfl
 ·have h1:=hnum (by assumption);have h2:=row_le s (numN (kindF s).1).toNat (kindF s).2.1 [];rw [hR,List.length_nil] at h2;omega
 ·rw [List.length_append,List.length_singleton];omega
 ·rw [pad_next (by assumption),hp]
 ·rw [List.length_append,List.length_singleton];omega
 ·rename_i k2 e;unfold S2;rw [if_pos k2,if_pos e]
 ·exact base_of hp (by assumption) (by assumption) (by assumption) (by assumption) h0 (by assumption)
 ·rename_i k2 e;unfold S2;rw [if_pos k2,if_neg e];rfl
 ·exact base_of hp (by assumption) (by assumption) (by assumption) (by assumption) h0 (by assumption)
 ·rename_i f _ _ _ _ _ _ _ _ _ k2;unfold S2;rw [if_neg k2,f]
 ·exact base_of hp (by assumption) (by assumption) (by assumption) (by assumption) h0 (by assumption)
 ·have:=row_len s 2 at1 [] (by assumption);show 0<((rowGo s 2 at1 []).1.length:Int);rw [this];decide
 ·have:=row_len s 2 at1 [] (by assumption);show 1<((rowGo s 2 at1 []).1.length:Int);rw [this];decide
 ·rename_i k5 f _ y0 _ y1;unfold S5;rw [<-hx.1,if_pos k5];have f:(rowGo s 2 at1 []).2.2=0:=f;rw [if_pos f];unfold nthI;rw [show (rowGo s 2 at1 []).1[Int.toNat 0]? =_ from y0,show (rowGo s 2 at1 []).1[Int.toNat 1]? =_ from y1];rw [<-f];rfl
 ·exact hx.2.1
 ·rw [<-hx.1]
 ·rename_i k5 f;unfold S5;rw [<-hx.1,if_pos k5];have f: ¬(rowGo s 2 at1 []).2.2=0:=f;rw [if_neg f,hx.2.2.1,hx.2.2.2.1];rfl
 ·exact hx.2.1
 ·rw [<-hx.1]
 ·rename_i k5;unfold S5;rw [<-hx.1,if_neg k5,hx.2.2.1,hx.2.2.2.1]
 ·exact hx.2.1
 ·rw [<-hx.1]
 ·rename_i k7;unfold S7;rw [<-hx.1,if_pos k7]
 ·rename_i k7;have e7:(S7 s).2.2=(linesFr s at1).1:=by
   unfold S7;rw [<-hx.1,if_pos k7]
  unfold C7;rw [e7,<-hx.1,<-hx.2.1,<-hx.2.2.1]
 ·rename_i k7;unfold S7;rw [<-hx.1,if_neg k7,List.eq_nil_of_length_eq_zero hx.2.2.2]
 ·rename_i k7;have e7:(S7 s).2.2=[]:=by
   unfold S7;rw [if_neg k7]
  unfold C7;rw [e7,<-hx.1,<-hx.2.1,<-hx.2.2.1,List.eq_nil_of_length_eq_zero hx.2.2.2]
 ·rename_i he;rw [hp0 (by assumption) (by assumption),<-hx.1];unfold restF;rw [if_neg he];rfl
 ·rename_i he hr;rw [hp0 (by assumption) (by assumption),<-hx.1];unfold restF;rw [if_pos he,if_pos hr];rfl
 ·rename_i he hr;rw [hp0 (by assumption) (by assumption),<-hx.1];unfold restF;rw [if_pos he,if_neg hr,<-hx.2]
set_option maxRecDepth 20000
noncomputable def sp_rparse:FSpec Tryz.prog:=mkG 32 (.c .s .z) (fun x=>(fun (s:By)=>(s.length<=10000,(.tuple [.agg [.int .i64 (rparseF s).1.1, .int .i64 (rparseF s).1.2.1, .int .i64 (rparseF s).1.2.2.1, .int .i64 (rparseF s).1.2.2.2.1, .int .i64 (rparseF s).1.2.2.2.2.1, .bool (rparseF s).1.2.2.2.2.2.1, .bool (rparseF s).1.2.2.2.2.2.2.1, .int .i64 (rparseF s).1.2.2.2.2.2.2.2.1.1, .int .i64 (rparseF s).1.2.2.2.2.2.2.2.1.2, .list .part Ln (rparseF s).1.2.2.2.2.2.2.2.2], .int .i64 (rparseF s).2]))) x.1) fun ⟨s,_⟩ h=>Pure.of_condG (E:=env_rparse s) (sh:=[some 10,none]) (ann:=ann_rparse) (x:=(fun (s:By)=>((rparseF s).1.1,(rparseF s).1.2.1,(rparseF s).1.2.2.1,(rparseF s).1.2.2.2.1,(rparseF s).1.2.2.2.2.1,(rparseF s).1.2.2.2.2.2.1,(rparseF s).1.2.2.2.2.2.2.1,(rparseF s).1.2.2.2.2.2.2.2.1.1,(rparseF s).1.2.2.2.2.2.2.2.1.2,(rparseF s).1.2.2.2.2.2.2.2.2,(rparseF s).2,())) s) (by kernel_rfl) (g_rparse_ok s h) rfl (specs_ok rfl _ [] rfl rfl) mixed Tryz.func32
end Go.Proofs.YtabicbgeoiilmaaGreatDoor.Cm
end
section
namespace Go.Proofs.YtabicbgeoiilmaaGreatDoor.Cm
open Go.Vm
theorem within_err {s:By} {a e lo hi:Int} (h: ¬e=0):withinF s a e lo hi=(0,a,e):=by
 unfold withinF;rw [if_neg h]
theorem any_err {s:By} {a e:Int} (h: ¬e=0):anyF s a e=(0,a,e):=within_err h
theorem parts_err {s:By} {e:Int} (h: ¬e=0): ∀(L:List Int) (a:Int) (l:List Int),(partsGo s L (a,e,l)).2.1=e
 |[],_,_=>rfl
 |j::r,a,l=>by
  show (partsGo s r ((withinF s a e (loF j) (hiF j)).2.1,(withinF s a e (loF j) (hiF j)).2.2,_)).2.1=e;rw [within_err h];exact parts_err h r a _
theorem line_err {s:By} {e:Int} (h: ¬e=0): ∀(n:Nat) (a:Int) (ls:List LnD),(lineGo s n (a,e,ls)).2.1=e
 |0,_,_=>rfl
 |n+1,a,ls=>by
  unfold lineGo;simp only [any_err h];exact line_err h n _ _
theorem tail_err {s:By} {k a e:Int} (h: ¬e=0):(tailF s k a e).2.1=e:=by
 unfold tailF;split
 ·simp only [within_err h];exact line_err h _ _ _
 ·rfl
theorem rest_err {s:By} {c:CmD} {a e:Int} (h: ¬e=0):restF s c a e=(nilC,e):=if_neg h
def setR (l:List Int):Nat->List Int->List Int
 |_,[]=>l
 |i,v::r=>setR (l.set i v) (i+1) r
theorem row_parts (s:By) (M:List Int): ∀(n:Nat) (a:Int) (i:Nat) (l out:List Int),i+n<=4->
 ((rowGo s n a out).2.2=0->∃vs,(rowGo s n a out).1=out++vs/\vs.length=n/\partsGo s ((List.range' i n).map Int.ofNat++M) (a,0,l)=partsGo s M ((rowGo s n a out).2.1,0,setR l i vs))/\
 (¬(rowGo s n a out).2.2=0->(partsGo s ((List.range' i n).map Int.ofNat++M) (a,0,l)).2.1=(rowGo s n a out).2.2)
 |0,a,i,l,out,_=>⟨fun _=>⟨[],by simp [rowGo],rfl,rfl⟩,fun h=>absurd rfl h⟩
 |n+1,a,i,l,out,hi=>by
  have hlo:loF (Int.ofNat i)= -9223372036854775808:=if_neg (by simp only [Int.ofNat_eq_natCast];omega);have hhi:hiF (Int.ofNat i)=9223372036854775807:=if_neg (by simp only [Int.ofNat_eq_natCast];omega);have e1:partsGo s ((List.range' i (n+1)).map Int.ofNat++M) (a,0,l)=partsGo s ((List.range' (i+1) n).map Int.ofNat++M) ((anyF s a 0).2.1,(anyF s a 0).2.2,l.set i (anyF s a 0).1):=by
   show partsGo s (Int.ofNat i::((List.range' (i+1) n).map Int.ofNat++M)) (a,0,l)=_;show partsGo s _ ((withinF s a 0 (loF (Int.ofNat i)) (hiF (Int.ofNat i))).2.1,(withinF s a 0 (loF (Int.ofNat i)) (hiF (Int.ofNat i))).2.2,l.set i (withinF s a 0 (loF (Int.ofNat i)) (hiF (Int.ofNat i))).1)=_;rw [hlo,hhi];rfl
  rw [e1];unfold rowGo;by_cases h:(anyF s a 0).2.2=0
  ·rw [if_pos h,h];obtain ⟨ih1,ih2⟩:=row_parts s M n (anyF s a 0).2.1 (i+1) (l.set i (anyF s a 0).1) (out++[(anyF s a 0).1]) (by omega);refine ⟨fun h0=> ?_,ih2⟩;obtain ⟨vs,q1,q2,q3⟩:=ih1 h0;exact ⟨(anyF s a 0).1::vs,by rw [q1];simp,by simp [q2],q3⟩
  ·rw [if_neg h];exact ⟨fun h0=>absurd h0 h,fun _=>parts_err h _ _ _⟩
theorem lines_eq (s:By): ∀(n:Nat) (a:Int) (out:List LnD),
 ((linesGo s n a out).2.2=0->lineGo s n (a,0,out)=((linesGo s n a out).2.1,0,(linesGo s n a out).1))/\(¬(linesGo s n a out).2.2=0->(lineGo s n (a,0,out)).2.1=(linesGo s n a out).2.2)
 |0,a,out=>⟨fun _=>rfl,fun h=>absurd rfl h⟩
 |n+1,a,out=>by
  have e0: ∀(m:Nat) (b:Int) (o:List Int),rowGo s (m+1) b o=if (anyF s b 0).2.2=0 then rowGo s m (anyF s b 0).2.1 (o++[(anyF s b 0).1]) else ([],0,(anyF s b 0).2.2):=fun _ _ _=>rfl
  unfold linesGo lineGo;dsimp only;by_cases h1:(anyF s a 0).2.2=0
  ·rw [h1];by_cases h2:(anyF s (anyF s a 0).2.1 0).2.2=0
   ·rw [h2];by_cases h3:(anyF s (anyF s (anyF s a 0).2.1 0).2.1 0).2.2=0
    ·rw [h3];by_cases h4:(anyF s (anyF s (anyF s (anyF s a 0).2.1 0).2.1 0).2.1 0).2.2=0
     ·rw [e0,if_pos h1,e0,if_pos h2,e0,if_pos h3,e0,if_pos h4,h4];exact lines_eq s n _ _
     ·rw [e0,if_pos h1,e0,if_pos h2,e0,if_pos h3,e0,if_neg h4];rw [if_neg h4];exact ⟨fun h0=>absurd h0 h4,fun _=>line_err h4 _ _ _⟩
    ·rw [e0,if_pos h1,e0,if_pos h2,e0,if_neg h3];rw [if_neg h3];simp only [any_err h3];exact ⟨fun h0=>absurd h0 h3,fun _=>line_err h3 _ _ _⟩
   ·rw [e0,if_pos h1,e0,if_neg h2];rw [if_neg h2];simp only [any_err h2];exact ⟨fun h0=>absurd h0 h2,fun _=>line_err h2 _ _ _⟩
  ·rw [e0,if_neg h1];rw [if_neg h1];simp only [any_err h1];exact ⟨fun h0=>absurd h0 h1,fun _=>line_err h1 _ _ _⟩
theorem tail_seven (s:By) (a:Int):((linesFr s a).2.2=0->tailF s 7 a 0=((linesFr s a).2.1,0,(linesFr s a).1))/\(¬(linesFr s a).2.2=0->(tailF s 7 a 0).2.1=(linesFr s a).2.2):=by
 unfold tailF linesFr;rw [if_pos rfl];dsimp only;have e:withinF s a 0 0 50=rnumF s a 0 50:=rfl;rw [e];by_cases h:(rnumF s a 0 50).2.2=0
 ·rw [if_pos h,h];exact lines_eq s _ _ _
 ·rw [if_neg h];exact ⟨fun h0=>absurd h0 h,fun _=>line_err h _ _ _⟩
theorem cp_fin {s:By} (h:(kindF s).2.2=0) (h2: ¬(P0 s).2.1=0):cparseF s=(nilC,(P0 s).2.1):=by
 rw [cp_rest h rfl,tail_err h2];exact rest_err h2
theorem rp_fin {s:By} (h:(kindF s).2.2=0) (h2:(R0 s).2.2=0):rparseF s=restF s (C7 s) (S7 s).1 (S7 s).2.1:=by
 unfold rparseF;rw [if_pos h,if_pos h2]
theorem R0_at {s:By} {k n:Int} (hk:(kindF s).1=k) (hn:numN k=n):R0 s=rowGo s n.toNat (kindF s).2.1 []:=by
 unfold R0;rw [hk,hn]
theorem P0_at {s:By} {k:Int} {L:List Int} (hk:(kindF s).1=k) (hp:partF k=L):P0 s=partsGo s L ((kindF s).2.1,0,zeros):=by
 unfold P0;rw [hk,hp]
theorem both_err {s:By} (e:(kindF s).2.2=0) {k:Int} {n:Nat} {M:List Int} (hk:(kindF s).1=k) (hn:numN k=n) (hp:partF k=(List.range' 0 n).map Int.ofNat++M) (h4:n<=4) (h: ¬(R0 s).2.2=0):rparseF s=cparseF s:=by
 have hR:=R0_at hk hn;rw [Int.toNat_natCast] at hR;have hP:=P0_at hk hp;have h1:=(row_parts s M n (kindF s).2.1 0 zeros [] (by omega)).2 (by rw [<-hR];exact h);rw [<-hP,<-hR] at h1;rw [cp_fin e (by rw [h1];exact h),h1];unfold rparseF;rw [if_pos e,if_neg h]
theorem both_ok {s:By} {k:Int} {n:Nat} {M:List Int} (hk:(kindF s).1=k) (hn:numN k=n) (hp:partF k=(List.range' 0 n).map Int.ofNat++M) (h4:n<=4) (h:(R0 s).2.2=0):
 ∃vs,(R0 s).1=vs/\vs.length=n/\P0 s=partsGo s M ((R0 s).2.1,0,setR zeros 0 vs):=by
 have hR:=R0_at hk hn;rw [Int.toNat_natCast] at hR;have hP:=P0_at hk hp;obtain ⟨vs,q1,q2,q3⟩:=(row_parts s M n (kindF s).2.1 0 zeros [] (by omega)).1 (by rw [<-hR];exact h);rw [<-hP,<-hR] at q3;exact ⟨vs,by rw [hR,q1];rfl,q2,q3⟩
theorem C7_eq {s:By} {vs:List Int} {b p:Bool} {n m:Int} {ls:List LnD} {all:List Int} (h0:(R0 s).1=vs) (h2:(S2 s).2.2=(b,p)) (h5:(S5 s).2.2=(n,m)) (h7:(S7 s).2.2=ls) (ha:(P0 s).2.2=all)
 (e0:nthI (pad4 vs) 0=nthI all 0) (e1:nthI (pad4 vs) 1=nthI all 1) (e2:nthI (pad4 vs) 2=nthI all 2) (e3:nthI (pad4 vs) 3=nthI all 3) (e4:b=decide (nthI all 4=1)) (e5:p=decide (nthI all 5=1)) (e6:n=nthI all 6) (e7:m=nthI all 7):
 C7 s=hdC s ls:=by
 unfold C7 hdC mkC base5;rw [h0,h2,h5,h7,ha,e0,e1,e2,e3,e4,e5,e6,e7]
theorem len_one {vs:List Int} (h:vs.length=1): ∃v,vs=[v]:=List.length_eq_one_iff.1 h
theorem len_two {vs:List Int} (h:vs.length=2): ∃v w,vs=[v,w]:=by
 match vs,h with
 |[v,w],_=>exact ⟨v,w,rfl⟩
theorem len_four {vs:List Int} (h:vs.length=4): ∃v w x y,vs=[v,w,x,y]:=by
 match vs,h with
 |[v,w,x,y],_=>exact ⟨v,w,x,y,rfl⟩
theorem eq_plain {s:By} (e:(kindF s).2.2=0) {k:Int} {n:Nat} (hk:(kindF s).1=k) (hn:numN k=n) (hp:partF k=(List.range' 0 n).map Int.ofNat) (h4:n=1∨n=2∨n=4) (k2:k≠2) (k5:k≠5) (k7:k≠7):rparseF s=cparseF s:=by
 have hp':partF k=(List.range' 0 n).map Int.ofNat++[]:=by rw [hp,List.append_nil]
 by_cases h:(R0 s).2.2=0
 ·obtain ⟨vs,q1,q2,q3⟩:=both_ok hk hn hp' (by omega) h;have s2:S2 s=((R0 s).2.1,0,false,false):=if_neg (by rw [hk];exact k2);have s5:S5 s=((R0 s).2.1,0,0,0):=by unfold S5;rw [if_neg (by rw [hk];exact k5),s2]
  have s7:S7 s=((R0 s).2.1,0,[]):=by unfold S7;rw [if_neg (by rw [hk];exact k7),s5]
  have ht:tailF s (kindF s).1 (P0 s).1 (P0 s).2.1=((R0 s).2.1,0,[]):=by
   rw [q3];unfold tailF;rw [if_neg (by rw [hk];exact k7)];rfl
  rw [rp_fin e h,cp_rest e ht,s7];have hc:C7 s=hdC s []:=by
   rcases h4 with rfl|rfl|rfl
   ·obtain ⟨v,rfl⟩:=len_one q2;exact C7_eq (b:=false) (p:=false) (n:=0) (m:=0) (ls:=[]) (all:=setR zeros 0 _) q1 (by rw [s2]) (by rw [s5]) (by rw [s7]) (by rw [q3];rfl) rfl rfl rfl rfl rfl rfl rfl rfl
   ·obtain ⟨v,w,rfl⟩:=len_two q2;exact C7_eq (b:=false) (p:=false) (n:=0) (m:=0) (ls:=[]) (all:=setR zeros 0 _) q1 (by rw [s2]) (by rw [s5]) (by rw [s7]) (by rw [q3];rfl) rfl rfl rfl rfl rfl rfl rfl rfl
   ·obtain ⟨v,w,x,y,rfl⟩:=len_four q2;exact C7_eq (b:=false) (p:=false) (n:=0) (m:=0) (ls:=[]) (all:=setR zeros 0 _) q1 (by rw [s2]) (by rw [s5]) (by rw [s7]) (by rw [q3];rfl) rfl rfl rfl rfl rfl rfl rfl rfl
  rw [hc]
 ·exact both_err e hk hn hp' (by omega) h
theorem eq_two {s:By} (e:(kindF s).2.2=0) (hk:(kindF s).1=2):rparseF s=cparseF s:=by
 have hn:numN 2=(2:Nat):=rfl;have hp:partF 2=(List.range' 0 2).map Int.ofNat++[4,5]:=rfl;by_cases h:(R0 s).2.2=0
 ·obtain ⟨vs,q1,q2,q3⟩:=both_ok hk hn hp (by omega) h;obtain ⟨v,w,rfl⟩:=len_two q2;generalize ha:(R0 s).2.1=a at q3;have q3:P0 s=((withinF s (rnumF s a 0 1).2.1 (rnumF s a 0 1).2.2 0 1).2.1,(withinF s (rnumF s a 0 1).2.1 (rnumF s a 0 1).2.2 0 1).2.2,[v,w,0,0,(rnumF s a 0 1).1,(withinF s (rnumF s a 0 1).2.1 (rnumF s a 0 1).2.2 0 1).1,0,0]):=q3;by_cases hx:(rnumF s a 0 1).2.2=0
  ·rw [hx] at q3;have s2:S2 s=((rnumF s (rnumF s a 0 1).2.1 0 1).2.1,(rnumF s (rnumF s a 0 1).2.1 0 1).2.2,decide ((rnumF s a 0 1).1=1),decide ((rnumF s (rnumF s a 0 1).2.1 0 1).1=1)):=by
    unfold S2;rw [ha,if_pos hk,if_pos hx]
   have s5:S5 s=((S2 s).1,(S2 s).2.1,0,0):=if_neg (by rw [hk];decide);have s7:S7 s=((S2 s).1,(S2 s).2.1,[]):=by unfold S7;rw [if_neg (by rw [hk];decide),s5]
   have ht:tailF s (kindF s).1 (P0 s).1 (P0 s).2.1=((S2 s).1,(S2 s).2.1,[]):=by
    rw [q3,s2];unfold tailF;rw [if_neg (by rw [hk];decide)];rfl
   rw [rp_fin e h,cp_rest e ht,s7];have hc:C7 s=hdC s []:=C7_eq (b:=decide ((rnumF s a 0 1).1=1)) (p:=decide ((rnumF s (rnumF s a 0 1).2.1 0 1).1=1)) (n:=0) (m:=0) (ls:=[]) (all:=[v,w,0,0,(rnumF s a 0 1).1,(rnumF s (rnumF s a 0 1).2.1 0 1).1,0,0]) q1 (by rw [s2]) (by rw [s5]) (by rw [s7]) (by rw [q3];rfl) rfl rfl rfl rfl rfl rfl rfl rfl;rw [hc]
  ·have hP:(P0 s).2.1=(rnumF s a 0 1).2.2:=by rw [q3,within_err hx]
   rw [cp_fin e (by rw [hP];exact hx),hP,rp_fin e h];have s2:S2 s=((rnumF s a 0 1).2.1,(rnumF s a 0 1).2.2,decide ((rnumF s a 0 1).1=1),false):=by
    unfold S2;rw [ha,if_pos hk,if_neg hx]
   have s5:S5 s=((S2 s).1,(S2 s).2.1,0,0):=if_neg (by rw [hk];decide);have s7:S7 s=((S2 s).1,(S2 s).2.1,[]):=by unfold S7;rw [if_neg (by rw [hk];decide),s5]
   rw [s7,s2];exact rest_err hx
 ·exact both_err e hk hn hp (by omega) h
theorem eq_five {s:By} (e:(kindF s).2.2=0) (hk:(kindF s).1=5):rparseF s=cparseF s:=by
 have hn:numN 5=(4:Nat):=rfl;have hp:partF 5=(List.range' 0 4).map Int.ofNat++[6,7]:=rfl;by_cases h:(R0 s).2.2=0
 ·obtain ⟨vs,q1,q2,q3⟩:=both_ok hk hn hp (by omega) h;obtain ⟨v,w,x,y,rfl⟩:=len_four q2;generalize ha:(R0 s).2.1=a at q3;have q3:P0 s=((anyF s (anyF s a 0).2.1 (anyF s a 0).2.2).2.1,(anyF s (anyF s a 0).2.1 (anyF s a 0).2.2).2.2,[v,w,x,y,0,0,(anyF s a 0).1,(anyF s (anyF s a 0).2.1 (anyF s a 0).2.2).1]):=q3;have s2:S2 s=(a,0,false,false):=by
   unfold S2;rw [if_neg (by rw [hk];decide),ha]
  have hrow:rowGo s 2 a []=if (anyF s a 0).2.2=0 then (if (anyF s (anyF s a 0).2.1 0).2.2=0 then ([(anyF s a 0).1,(anyF s (anyF s a 0).2.1 0).1],(anyF s (anyF s a 0).2.1 0).2.1,0) else ([],0,(anyF s (anyF s a 0).2.1 0).2.2)) else ([],0,(anyF s a 0).2.2):=rfl
  have s5:S5 s=if (rowGo s 2 a []).2.2=0 then ((rowGo s 2 a []).2.1,0,nthI (rowGo s 2 a []).1 0,nthI (rowGo s 2 a []).1 1) else ((rowGo s 2 a []).2.1,(rowGo s 2 a []).2.2,0,0):=by
   unfold S5;rw [if_pos hk,s2]
  have s7:S7 s=((S5 s).1,(S5 s).2.1,[]):=if_neg (by rw [hk];decide);by_cases hx:(anyF s a 0).2.2=0
  ·rw [hx] at q3;by_cases hy:(anyF s (anyF s a 0).2.1 0).2.2=0
   ·rw [hrow,if_pos hx,if_pos hy] at s5;have s5:S5 s=((anyF s (anyF s a 0).2.1 0).2.1,0,(anyF s a 0).1,(anyF s (anyF s a 0).2.1 0).1):=s5;have ht:tailF s (kindF s).1 (P0 s).1 (P0 s).2.1=((anyF s (anyF s a 0).2.1 0).2.1,0,[]):=by
     rw [q3,hy];unfold tailF;rw [if_neg (by rw [hk];decide)]
    rw [rp_fin e h,cp_rest e ht,s7,s5];have hc:C7 s=hdC s []:=C7_eq (b:=false) (p:=false) (n:=(anyF s a 0).1) (m:=(anyF s (anyF s a 0).2.1 0).1) (ls:=[]) (all:=[v,w,x,y,0,0,(anyF s a 0).1,(anyF s (anyF s a 0).2.1 0).1]) q1 (by rw [s2]) (by rw [s5]) (by rw [s7]) (by rw [q3]) rfl rfl rfl rfl rfl rfl rfl rfl;rw [hc]
   ·have hP:(P0 s).2.1=(anyF s (anyF s a 0).2.1 0).2.2:=by rw [q3]
    rw [cp_fin e (by rw [hP];exact hy),hP,rp_fin e h];rw [hrow,if_pos hx,if_neg hy] at s5;have s5:S5 s=(0,(anyF s (anyF s a 0).2.1 0).2.2,0,0):=s5.trans (if_neg hy);rw [s7,s5];exact rest_err hy
  ·have hP:(P0 s).2.1=(anyF s a 0).2.2:=by rw [q3,any_err hx]
   rw [cp_fin e (by rw [hP];exact hx),hP,rp_fin e h];rw [hrow,if_neg hx] at s5;have s5:S5 s=(0,(anyF s a 0).2.2,0,0):=s5.trans (if_neg hx);rw [s7,s5];exact rest_err hx
 ·exact both_err e hk hn hp (by omega) h
theorem eq_seven {s:By} (e:(kindF s).2.2=0) (hk:(kindF s).1=7):rparseF s=cparseF s:=by
 have hn:numN 7=(1:Nat):=rfl;have hp:partF 7=(List.range' 0 1).map Int.ofNat++[]:=rfl;by_cases h:(R0 s).2.2=0
 ·obtain ⟨vs,q1,q2,q3⟩:=both_ok hk hn hp (by omega) h;obtain ⟨v,rfl⟩:=len_one q2;generalize ha:(R0 s).2.1=a at q3;have q3:P0 s=(a,0,[v,0,0,0,0,0,0,0]):=q3;have s2:S2 s=(a,0,false,false):=by
   unfold S2;rw [if_neg (by rw [hk];decide),ha]
  have s5:S5 s=(a,0,0,0):=by
   unfold S5;rw [if_neg (by rw [hk];decide),s2]
  have s7:S7 s=((linesFr s a).2.1,(linesFr s a).2.2,(linesFr s a).1):=by
   unfold S7;rw [if_pos hk,s5]
  obtain ⟨t1,t2⟩:=tail_seven s a;by_cases hx:(linesFr s a).2.2=0
  ·have ht:tailF s (kindF s).1 (P0 s).1 (P0 s).2.1=((linesFr s a).2.1,0,(linesFr s a).1):=by
    rw [q3,hk];exact t1 hx
   rw [rp_fin e h,cp_rest e ht,s7,hx];have hc:C7 s=hdC s (linesFr s a).1:=C7_eq (b:=false) (p:=false) (n:=0) (m:=0) (ls:=(linesFr s a).1) (all:=[v,0,0,0,0,0,0,0]) q1 (by rw [s2]) (by rw [s5]) (by rw [s7]) (by rw [q3]) rfl rfl rfl rfl rfl rfl rfl rfl;rw [hc]
  ·have ht:(tailF s (kindF s).1 (P0 s).1 (P0 s).2.1).2.1=(linesFr s a).2.2:=by
    rw [q3,hk];exact t2 hx
   rw [rp_fin e h,cp_rest e rfl,s7,ht,rest_err hx,rest_err hx]
 ·exact both_err e hk hn hp (by omega) h
theorem rparse_eq (s:By):rparseF s=cparseF s:=by
 by_cases e:(kindF s).2.2=0
 ·obtain ⟨h1,h8⟩:=kindF_in e;rcases kinds_of h1 h8 with hk|hk|hk|hk|hk|hk|hk|hk
  ·exact eq_plain e hk (n:=1) rfl rfl (by omega) (by decide) (by decide) (by decide)
  ·exact eq_two e hk
  ·exact eq_plain e hk (n:=2) rfl rfl (by omega) (by decide) (by decide) (by decide)
  ·exact eq_plain e hk (n:=4) rfl rfl (by omega) (by decide) (by decide) (by decide)
  ·exact eq_five e hk
  ·exact eq_plain e hk (n:=2) rfl rfl (by omega) (by decide) (by decide) (by decide)
  ·exact eq_seven e hk
  ·exact eq_plain e hk (n:=2) rfl rfl (by omega) (by decide) (by decide) (by decide)
 ·rw [cp_err e];unfold rparseF;rw [if_neg e]
end Go.Proofs.YtabicbgeoiilmaaGreatDoor.Cm
end
section
namespace Go.Proofs.YtabicbgeoiilmaaGreatDoor.Cm
open Go.Vm
def sameE (p r:Int) (L:List LnD) (q s:Int) (M:List LnD):Bool:=decide (p=q/\r=s/\L=M)
noncomputable def env_same (p r q s:Int) (L M:List LnD):Env where
 P:=Tryz.prog
 ty:=tys0
 heads:=fun
  |4=>some {slots:=[(5, .int .i64)],boxes:=[],keep:=[2,3],inv:=fun _ (x:Int×Unit)=>0<=x.1/\x.1<=L.length/\L.length=M.length/\p=q/\r=s/\L.take x.1.toNat=M.take x.1.toNat,measure:=fun _ (x:Int×Unit)=>(L.length-x.1).toNat}
  |_=>none
abbrev bx_same_1 (p:Int) (r:Int) (L:List LnD):_root_.Go.Vm.Obj:=Obj.box [V.int IntKind.i64 p,V.int IntKind.i64 r,V.list LK.tmp Ln L]
abbrev bx_same_2 (q:Int) (s:Int) (M:List LnD):_root_.Go.Vm.Obj:=Obj.box [V.int IntKind.i64 q,V.int IntKind.i64 s,V.list LK.tmp Ln M]
def g_same_vc (p:Int) (r:Int) (q:Int) (s:Int) (L:List LnD) (M:List LnD):Prop:=
 ((!decide (p=q))=false->((!decide (r=s))=false->((!decide ((↑L.length:Int)=(↑M.length:Int)))=true->(false,())=(sameE p r L q s M,()))/\((!decide ((↑L.length:Int)=(↑M.length:Int)))=false->((some (bx_same_1 p r L)=some (bx_same_1 p r L)/\some (bx_same_2 q s M)=some (bx_same_2 q s M)/\True)/\0<=(0:Int)/\0<=(↑L.length:Int)/\L.length=M.length/\p=q/\r=s/\List.take (Int.toNat (0:Int)) L=List.take (Int.toNat (0:Int)) M)/\∀(x:Int×Unit),0<=x.1/\x.1<=(↑L.length:Int)/\L.length=M.length/\p=q/\r=s/\List.take x.1.toNat L=List.take x.1.toNat M->(decide (x.1<(↑L.length:Int))=true->(0<=x.1/\x.1<(↑L.length:Int))/\∀(x_1:Int×Int×Int×Int),L[x.1.toNat]? =some x_1->(0<=x.1/\x.1<(↑M.length:Int))/\∀(x_2:Int×Int×Int×Int),M[x.1.toNat]? =some x_2->((!(decide (x_1.1=x_2.1)&&(decide (x_1.2.1=x_2.2.1)&&(decide (x_1.2.2.1=x_2.2.2.1)&&(decide (x_1.2.2.2=x_2.2.2.2)&&true)))))=true->(false,())=(sameE p r L q s M,()))/\((!(decide (x_1.1=x_2.1)&&(decide (x_1.2.1=x_2.2.1)&&(decide (x_1.2.2.1=x_2.2.2.1)&&(decide (x_1.2.2.2=x_2.2.2.2)&&true)))))=false->(-9223372036854775808<=x.1+1/\x.1+1<=9223372036854775807)/\(some (bx_same_1 p r L)=some (bx_same_1 p r L)/\some (bx_same_2 q s M)=some (bx_same_2 q s M)/\True)/\(0<=x.1+1/\x.1+1<=(↑L.length:Int)/\L.length=M.length/\p=q/\r=s/\List.take (x.1+1).toNat L=List.take (x.1+1).toNat M)/\((↑L.length:Int)-(x.1+1)).toNat<((↑L.length:Int)-x.1).toNat))/\(decide (x.1<(↑L.length:Int))=false->(true,())=(sameE p r L q s M,()))))/\((!decide (r=s))= !false->(false,())=(sameE p r L q s M,())))/\((!decide (p=q))= !false->(false,())=(sameE p r L q s M,()))
theorem g_same_ok (p r q s:Int) (L M:List LnD) (h:L.length<=1000000000):g_same_vc p r q s L M:=by
 unfold g_same_vc sameE;have kf: ¬(p=q/\r=s/\L=M)->(false,())=(decide (p=q/\r=s/\L=M),()):=fun hn=>by rw [decide_eq_false hn]
 simp only [decide_eq_true_eq,decide_eq_false_iff_not,Bool.not_eq_true',Bool.not_eq_false',Bool.not_false];refine ⟨fun c1=>⟨fun c2=>⟨fun c=>kf fun e=>c (by rw [e.2.2]),fun c=>⟨⟨⟨trivial,trivial,trivial⟩,by omega,by omega,by omega,c1,c2,by simp⟩, ?_⟩⟩,fun c2=>kf fun e=>c2 e.2.1⟩,fun c1=>kf fun e=>c1 e.1⟩;rintro ⟨i,⟨⟩⟩ ⟨h1,h2,h3,h4,h5,h6⟩;dsimp only at h1 h2 h3 h6⊢;refine ⟨fun c2=>⟨⟨h1,c2⟩,fun x hx=>⟨⟨h1,by omega⟩,fun y hy=>⟨fun e=>kf fun e2=> ?_,fun e=>⟨⟨by omega,by omega⟩,⟨trivial,trivial,trivial⟩,⟨by omega,by omega,h3,h4,h5, ?_⟩,by omega⟩⟩⟩⟩,fun c2=> ?_⟩
 ·have exy:x=y:=by
   obtain ⟨_,_,rfl⟩:=e2;rw [hx] at hy;exact Option.some.inj hy
  subst exy;simp at e
 ·have exy:x=y:=by
   obtain ⟨x1,x2,x3,x4⟩:=x;obtain ⟨y1,y2,y3,y4⟩:=y;simp only [Bool.and_eq_true,decide_eq_true_eq,and_true] at e;obtain ⟨rfl,rfl,rfl,rfl⟩:=e;rfl
  rw [show (i+1).toNat=i.toNat+1 by omega,List.take_add_one,List.take_add_one,hx,hy,h6,exy]
 ·rw [List.take_of_length_le (by omega),List.take_of_length_le (by omega)] at h6;rw [decide_eq_true ⟨h4,h5,h6⟩]
set_option maxRecDepth 20000
noncomputable def sp_same:FSpec Tryz.prog:=mkF 41 (.c (.g (.c .j (.c .j (.c (.l Ln) .z)))) (.c (.g (.c .j (.c .j (.c (.l Ln) .z)))) .z)) [.bool] (fun x=>(fun (p r q s:Int) (L M:List LnD)=>(L.length<=1000000000,sameE p r L q s M,())) x.1.1 x.1.2.1 x.2.1.1 x.2.1.2.1 x.1.2.2.1 x.2.1.2.2.1) fun ⟨⟨p,r,L,_⟩,⟨q,s,M,_⟩,_⟩ h=>Pure.of_cond (E:=env_same p r q s L M) (by kernel_rfl) (g_same_ok p r q s L M h) (specs_ok rfl [] [] rfl rfl) mixed Tryz.func41
def sameC (c d:CmD):Bool:=decide (c.1=d.1)&&(decide (c.2.1=d.2.1)&&(decide (c.2.2.1=d.2.2.1)&&(decide (c.2.2.2.1=d.2.2.2.1)&&(decide (c.2.2.2.2.1=d.2.2.2.2.1)&&(decide (c.2.2.2.2.2.1=d.2.2.2.2.2.1)&&(decide (c.2.2.2.2.2.2.1=d.2.2.2.2.2.2.1)&&
 (decide (c.2.2.2.2.2.2.2.1.1=d.2.2.2.2.2.2.2.1.1)&&(decide (c.2.2.2.2.2.2.2.1.2=d.2.2.2.2.2.2.2.1.2)&&decide (c.2.2.2.2.2.2.2.2=d.2.2.2.2.2.2.2.2)))))))))
theorem sameC_iff (c d:CmD):sameC c d=true↔c=d:=by
 obtain ⟨k,a,b,c,e,s,p,⟨n,m⟩,l⟩:=c;obtain ⟨k',a',b',c',e',s',p',⟨n',m'⟩,l'⟩:=d;unfold sameC;simp only [Bool.and_eq_true,decide_eq_true_eq,Prod.mk.injEq];constructor
 ·rintro ⟨h1,h2,h3,h4,h5,h6,h7,h8,h9,h10⟩;exact ⟨h1,h2,h3,h4,h5,h6,h7,⟨h8,h9⟩,h10⟩
 ·rintro ⟨h1,h2,h3,h4,h5,h6,h7,⟨h8,h9⟩,h10⟩;exact ⟨h1,h2,h3,h4,h5,h6,h7,h8,h9,h10⟩
noncomputable def env_csame (k a b c d:Int) (s p:Bool) (n m:Int) (l:List LnD) (k' a' b' c' d':Int) (s' p':Bool) (n' m':Int) (l':List LnD):Env where
 P:=Tryz.prog
 ty:=tys0
 specs:=specsOf [sp_same]
def g_csame_vc (k:Int) (a:Int) (b:Int) (c:Int) (d:Int) (s:Bool) (p:Bool) (n:Int) (m:Int) (l:List LnD) (k':Int) (a':Int) (b':Int) (c':Int) (d':Int) (s':Bool) (p':Bool) (n':Int) (m':Int) (l':List LnD):Prop:=
 (decide (k=k')=true->(decide (a=a')=true->(decide (b=b')=true->(decide (c=c')=true->(decide (d=d')=true->((s==s')=true->((p==p')=true->((decide (n=n')&&(decide (m=m')&&true))=true->l.length<=(1000000000:Nat)/\(sameE (0:Int) (0:Int) l (0:Int) (0:Int) l',())=(sameC (k,a,b,c,d,s,p,(n,m),l) (k',a',b',c',d',s',p',(n',m'),l'),()))/\((decide (n=n')&&(decide (m=m')&&true))= !true->(false,())=(sameC (k,a,b,c,d,s,p,(n,m),l) (k',a',b',c',d',s',p',(n',m'),l'),())))/\((p==p')= !true->(false,())=(sameC (k,a,b,c,d,s,p,(n,m),l) (k',a',b',c',d',s',p',(n',m'),l'),())))/\((s==s')= !true->(false,())=(sameC (k,a,b,c,d,s,p,(n,m),l) (k',a',b',c',d',s',p',(n',m'),l'),())))/\(decide (d=d')= !true->(false,())=(sameC (k,a,b,c,d,s,p,(n,m),l) (k',a',b',c',d',s',p',(n',m'),l'),())))/\(decide (c=c')= !true->(false,())=(sameC (k,a,b,c,d,s,p,(n,m),l) (k',a',b',c',d',s',p',(n',m'),l'),())))/\(decide (b=b')= !true->(false,())=(sameC (k,a,b,c,d,s,p,(n,m),l) (k',a',b',c',d',s',p',(n',m'),l'),())))/\(decide (a=a')= !true->(false,())=(sameC (k,a,b,c,d,s,p,(n,m),l) (k',a',b',c',d',s',p',(n',m'),l'),())))/\(decide (k=k')= !true->(false,())=(sameC (k,a,b,c,d,s,p,(n,m),l) (k',a',b',c',d',s',p',(n',m'),l'),()))
theorem g_csame_ok (k a b c d:Int) (s p:Bool) (n m:Int) (l:List LnD) (k' a' b' c' d':Int) (s' p':Bool) (n' m':Int) (l':List LnD) (h:l.length<=1000000000):g_csame_vc k a b c d s p n m l k' a' b' c' d' s' p' n' m' l':=by
 unfold g_csame_vc sameE sameC;repeat' (first|with_reducible apply And.intro|intro _)
 all_goals try (first|trivial|omega)
 all_goals simp_all
noncomputable def sp_csame:FSpec Tryz.prog:=mkF 33 (.c (.g (.c .j (.c .j (.c .j (.c .j (.c .j (.c .b (.c .b (.c .j (.c .j (.c (.l Ln) .z))))))))))) (.c (.g (.c .j (.c .j (.c .j (.c .j (.c .j (.c .b (.c .b (.c .j (.c .j (.c (.l Ln) .z))))))))))) .z)) [.bool] (fun x=>(fun (k a b c d:Int) (s p:Bool) (n m:Int) (l:List LnD) (k' a' b' c' d':Int) (s' p':Bool) (n' m':Int) (l':List LnD)=>(l.length<=1000000000,sameC (k,a,b,c,d,s,p,(n,m),l) (k',a',b',c',d',s',p',(n',m'),l'),())) x.1.1 x.1.2.1 x.1.2.2.1 x.1.2.2.2.1 x.1.2.2.2.2.1 x.1.2.2.2.2.2.1 x.1.2.2.2.2.2.2.1 x.1.2.2.2.2.2.2.2.1 x.1.2.2.2.2.2.2.2.2.1 x.1.2.2.2.2.2.2.2.2.2.1 x.2.1.1 x.2.1.2.1 x.2.1.2.2.1 x.2.1.2.2.2.1 x.2.1.2.2.2.2.1 x.2.1.2.2.2.2.2.1 x.2.1.2.2.2.2.2.2.1 x.2.1.2.2.2.2.2.2.2.1 x.2.1.2.2.2.2.2.2.2.2.1 x.2.1.2.2.2.2.2.2.2.2.2.1) fun ⟨⟨k,a,b,c,d,s,p,n,m,l,_⟩,⟨k',a',b',c',d',s',p',n',m',l',_⟩,_⟩ h=>Pure.of_cond (E:=env_csame k a b c d s p n m l k' a' b' c' d' s' p' n' m' l') (by kernel_rfl) (g_csame_ok k a b c d s p n m l k' a' b' c' d' s' p' n' m' l' h) (specs_ok rfl _ [] rfl rfl) mixed Tryz.func33
theorem in_lit {n:Int} (h:decide (-1000<=n/\n<=1000)=true):InI n:=by
 have:=of_decide_eq_true h;unfold InI;omega
end Go.Proofs.YtabicbgeoiilmaaGreatDoor.Cm
end
section
namespace Go.Proofs.YtabicbgeoiilmaaGreatDoor.Cm
open Go.Vm
theorem within_read {s:By} {a lo hi:Int} (ha:0<=a) (ha2:a<=s.length) (h:(withinF s a 0 lo hi).2.2=0):
 a<=(withinF s a 0 lo hi).2.1/\(withinF s a 0 lo hi).2.1<=s.length/\lo<=(withinF s a 0 lo hi).1/\(withinF s a 0 lo hi).1<=hi/\InI (withinF s a 0 lo hi).1/\
  s.take (withinF s a 0 lo hi).2.1.toNat=s.take a.toNat++sayF [(withinF s a 0 lo hi).1]:=by
 unfold withinF at h⊢;rw [if_pos rfl] at h⊢;by_cases hl:(litF s a [32]).2=0
 ·rw [if_pos hl] at h⊢;have hl1:(litF s a [32]).1=a+1/\Lib.hasPrefix (s.drop a.toNat) [32]=true:=by
   unfold litF at hl⊢;rw [if_neg (by omega)] at hl⊢;by_cases hp:Lib.hasPrefix (s.drop a.toNat) [32]=true
   ·rw [if_pos hp];exact ⟨rfl,hp⟩
   ·rw [if_neg hp] at hl;split at hl<;>cases hl
  rw [hl1.1] at h⊢;obtain ⟨⟨_,n2⟩,⟨n3,n4⟩,⟨n5,n6⟩,n7,n8,_⟩:=numF_zero h;refine ⟨by omega,n4,n5,n6,n7, ?_⟩;have hp:=(hasPrefix_iff _ _).1 hl1.2;have hp:(s.drop a.toNat).take 1=[32]:=hp;generalize (numF s (a+1) lo hi).2.1=b at n3 n4 n8⊢;generalize (numF s (a+1) lo hi).1=n at n8⊢;have e2:sayF [n]=[32]++Lib.itoa n:=by simp [sayF]
  rw [e2,n8,<-hp,<-List.append_assoc,<-List.take_add,show a.toNat+1=(a+1).toNat by omega];have:s.take (a+1).toNat=(s.take b.toNat).take (a+1).toNat:=by
   rw [List.take_take,Nat.min_eq_left (by omega)]
  rw [this,List.take_append_drop]
 ·rw [if_neg hl] at h;exact absurd h hl
def setL (l:List Int):List Int->List Int->List Int
 |j::r,v::vs=>setL (l.set j.toNat v) r vs
 |_,_=>l
def Fits:List Int->List Int->Prop
 |j::r,v::vs=>(InI v/\loF j<=v/\v<=hiF j)/\Fits r vs
 |[],[]=>True
 |_,_=>False
theorem parts_read {s:By}: ∀{L:List Int} {a:Int} {l:List Int},0<=a->a<=s.length->(partsGo s L (a,0,l)).2.1=0->
 ∃vs,Fits L vs/\partsGo s L (a,0,l)=((partsGo s L (a,0,l)).1,0,setL l L vs)/\a<=(partsGo s L (a,0,l)).1/\(partsGo s L (a,0,l)).1<=s.length/\s.take (partsGo s L (a,0,l)).1.toNat=s.take a.toNat++sayF vs
 |[],a,l,h0,h1,_=>⟨[],trivial,rfl,Int.le_refl _,h1,by simp [sayF,partsGo]⟩
 |j::L,a,l,h0,h1,h=>by
  have e:partsGo s (j::L) (a,0,l)=partsGo s L ((withinF s a 0 (loF j) (hiF j)).2.1,(withinF s a 0 (loF j) (hiF j)).2.2,l.set j.toNat (withinF s a 0 (loF j) (hiF j)).1):=rfl;rw [e] at h⊢;by_cases he:(withinF s a 0 (loF j) (hiF j)).2.2=0
  ·obtain ⟨w1,w2,w3,w4,w5,w6⟩:=within_read h0 h1 he;rw [he] at h⊢;obtain ⟨vs,q1,q2,q3,q4,q5⟩:=parts_read (by omega) w2 h;refine ⟨(withinF s a 0 (loF j) (hiF j)).1::vs,⟨⟨w5,w3,w4⟩,q1⟩,q2,by omega,q4, ?_⟩;rw [q5,w6,List.append_assoc,<-sayF_app];rfl
  ·rw [parts_err he] at h;exact absurd h he
theorem line_read {s:By}: ∀{n:Nat} {a:Int} {out:List LnD},0<=a->a<=s.length->(lineGo s n (a,0,out)).2.1=0->
 ∃ls:List LnD,ls.length=n/\(∀x∈ls,InLn x)/\lineGo s n (a,0,out)=((lineGo s n (a,0,out)).1,0,out++ls)/\a<=(lineGo s n (a,0,out)).1/\(lineGo s n (a,0,out)).1<=s.length/\s.take (lineGo s n (a,0,out)).1.toNat=s.take a.toNat++sayF (ls.flatMap lnL)
 |0,a,out,h0,h1,_=>⟨[],rfl,(fun _ h=>by cases h),by simp [lineGo],Int.le_refl _,h1,by simp [sayF,lineGo]⟩
 |n+1,a,out,h0,h1,h=>by
  have e:lineGo s (n+1) (a,0,out)=lineGo s n ((anyF s (anyF s (anyF s (anyF s a 0).2.1 (anyF s a 0).2.2).2.1 (anyF s (anyF s a 0).2.1 (anyF s a 0).2.2).2.2).2.1 (anyF s (anyF s (anyF s a 0).2.1 (anyF s a 0).2.2).2.1 (anyF s (anyF s a 0).2.1 (anyF s a 0).2.2).2.2).2.2).2.1,
   (anyF s (anyF s (anyF s (anyF s a 0).2.1 (anyF s a 0).2.2).2.1 (anyF s (anyF s a 0).2.1 (anyF s a 0).2.2).2.2).2.1 (anyF s (anyF s (anyF s a 0).2.1 (anyF s a 0).2.2).2.1 (anyF s (anyF s a 0).2.1 (anyF s a 0).2.2).2.2).2.2).2.2,
   out++[((anyF s a 0).1,(anyF s (anyF s a 0).2.1 (anyF s a 0).2.2).1,(anyF s (anyF s (anyF s a 0).2.1 (anyF s a 0).2.2).2.1 (anyF s (anyF s a 0).2.1 (anyF s a 0).2.2).2.2).1,(anyF s (anyF s (anyF s (anyF s a 0).2.1 (anyF s a 0).2.2).2.1 (anyF s (anyF s a 0).2.1 (anyF s a 0).2.2).2.2).2.1 (anyF s (anyF s (anyF s a 0).2.1 (anyF s a 0).2.2).2.1 (anyF s (anyF s a 0).2.1 (anyF s a 0).2.2).2.2).2.2).1)]):=rfl
  rw [e] at h⊢;by_cases k1:(anyF s a 0).2.2=0
  ·obtain ⟨w1,w2,_,_,w5,w6⟩:=within_read h0 h1 k1;change a<=(anyF s a 0).2.1 at w1;change (anyF s a 0).2.1<=s.length at w2;change InI (anyF s a 0).1 at w5;change s.take (anyF s a 0).2.1.toNat=s.take a.toNat++sayF [(anyF s a 0).1] at w6;rw [k1] at h⊢;generalize (anyF s a 0).2.1=a1 at*;generalize (anyF s a 0).1=y1 at*;by_cases k2:(anyF s a1 0).2.2=0
   ·obtain ⟨v1,v2,_,_,v5,v6⟩:=within_read (by omega) w2 k2;change a1<=(anyF s a1 0).2.1 at v1;change (anyF s a1 0).2.1<=s.length at v2;change InI (anyF s a1 0).1 at v5;change s.take (anyF s a1 0).2.1.toNat=s.take a1.toNat++sayF [(anyF s a1 0).1] at v6;rw [k2] at h⊢;generalize (anyF s a1 0).2.1=a2 at*;generalize (anyF s a1 0).1=y2 at*;by_cases k3:(anyF s a2 0).2.2=0
    ·obtain ⟨u1,u2,_,_,u5,u6⟩:=within_read (by omega) v2 k3;change a2<=(anyF s a2 0).2.1 at u1;change (anyF s a2 0).2.1<=s.length at u2;change InI (anyF s a2 0).1 at u5;change s.take (anyF s a2 0).2.1.toNat=s.take a2.toNat++sayF [(anyF s a2 0).1] at u6;rw [k3] at h⊢;generalize (anyF s a2 0).2.1=a3 at*;generalize (anyF s a2 0).1=y3 at*;by_cases k4:(anyF s a3 0).2.2=0
     ·obtain ⟨t1,t2,_,_,t5,t6⟩:=within_read (by omega) u2 k4;change a3<=(anyF s a3 0).2.1 at t1;change (anyF s a3 0).2.1<=s.length at t2;change InI (anyF s a3 0).1 at t5;change s.take (anyF s a3 0).2.1.toNat=s.take a3.toNat++sayF [(anyF s a3 0).1] at t6;rw [k4] at h⊢;generalize (anyF s a3 0).2.1=a4 at*;generalize (anyF s a3 0).1=y4 at*;obtain ⟨ls,q1,q2,q3,q4,q5,q6⟩:=line_read (by omega) t2 h;refine ⟨(y1,y2,y3,y4)::ls,by simp [q1], ?_,q3.trans (by simp only [List.append_assoc,List.singleton_append]),by omega,q5, ?_⟩
      ·intro x hx;rcases List.mem_cons.1 hx with rfl|hx
       ·intro z hz;simp only [lnL,List.mem_cons,List.not_mem_nil,or_false] at hz;rcases hz with rfl|rfl|rfl|rfl
        ·exact w5
        ·exact v5
        ·exact u5
        ·exact t5
       ·exact q2 x hx
      ·rw [q6,t6,u6,v6,w6];have e6:sayF (((y1,y2,y3,y4)::ls).flatMap lnL)=sayF [y1]++(sayF [y2]++(sayF [y3]++(sayF [y4]++sayF (ls.flatMap lnL)))):=by
        rw [<-sayF_app,<-sayF_app,<-sayF_app,<-sayF_app];simp [lnL]
       rw [e6];simp only [List.append_assoc]
     ·rw [line_err k4] at h;exact absurd h k4
    ·simp only [any_err k3] at h;rw [line_err k3] at h;exact absurd h k3
   ·simp only [any_err k2] at h;rw [line_err k2] at h;exact absurd h k2
  ·simp only [any_err k1] at h;rw [line_err k1] at h;exact absurd h k1
theorem lit0 (s w:By):litF s 0 w=if Lib.hasPrefix s w then ((w.length:Int),0) else if Lib.hasPrefix w s then (0,4) else (0,8):=by
 unfold litF;rw [if_neg (by omega)];show (if Lib.hasPrefix s w then ((0:Int)+w.length,(0:Int)) else _)=_;rw [Int.zero_add];rfl
theorem kindL_read (s:By): ∀(l:List Int) (w:Int),w≠0->(kindL s l w).2.2=0->(kindL s l w).2.1=((wordF (kindL s l w).1).length:Int)/\s.take (wordF (kindL s l w).1).length=wordF (kindL s l w).1
 |[],w,hw,h=>absurd h hw
 |k::r,w,hw,h=>by
  unfold kindL at h⊢;by_cases e:(litF s 0 (wordF k)).2=0
  ·rw [if_pos e];dsimp only;rw [lit0] at e⊢;by_cases hp:Lib.hasPrefix s (wordF k)=true
   ·rw [if_pos hp];exact ⟨rfl,(hasPrefix_iff _ _).1 hp⟩
   ·rw [if_neg hp] at e;split at e<;>cases e
  ·rw [if_neg e] at h⊢;refine kindL_read s r _ ?_ h;split
   ·decide
   ·exact hw
theorem kind_read {s:By} (h:(kindF s).2.2=0):(kindF s).2.1=((wordF (kindF s).1).length:Int)/\s.take (wordF (kindF s).1).length=wordF (kindF s).1:=kindL_read s kinds 8 (by decide) h
theorem setL_len: ∀(L vs l:List Int),(setL l L vs).length=l.length
 |[],_,_=>by simp [setL]
 |_::_,[],_=>by simp [setL]
 |j::r,v::vs,l=>by
  simp only [setL];rw [setL_len r vs,List.length_set]
theorem setL_off: ∀(L vs l:List Int) (i:Nat),(∀j∈L,0<=j)->(i:Int)∉L->(setL l L vs)[i]? =l[i]?
 |[],_,_,_,_,_=>by simp [setL]
 |_::_,[],_,_,_,_=>by simp [setL]
 |j::r,v::vs,l,i,h0,hi=>by
  simp only [setL];have hj:=h0 j (by simp);rw [setL_off r vs _ i (fun x hx=>h0 x (by simp [hx])) (fun hx=>hi (by simp [hx])),List.getElem?_set_ne (fun e=>hi (by simp;left;omega))]
theorem setL_map: ∀(L vs l:List Int),(∀j∈L,0<=j/\j<l.length)->L.Nodup->vs.length=L.length->L.map (nthI (setL l L vs))=vs
 |[],[],_,_,_,_=>rfl
 |[],_::_,_,_,_,h=>by simp at h
 |_::_,[],_,_,_,h=>by simp at h
 |j::r,v::vs,l,h0,hn,hl=>by
  have hj:=h0 j (by simp);rw [List.nodup_cons] at hn;simp only [setL,List.map_cons];rw [setL_map r vs _ (fun x hx=>by rw [List.length_set];exact h0 x (by simp [hx])) hn.2 (by simpa using hl)];congr 1;unfold nthI;rw [setL_off r vs _ _ (fun x hx=>(h0 x (by simp [hx])).1) (by rw [show ((j.toNat:Nat):Int)=j by omega];exact hn.1),List.getElem?_set_self (by omega)];rfl
theorem fits_len: ∀{L vs:List Int},Fits L vs->vs.length=L.length
 |[],[],_=>rfl
 |_::_,_::_,h=>by simp [fits_len h.2]
 |[],_::_,h=>h.elim
 |_::_,[],h=>h.elim
theorem fits_all {f:Int->Int}: ∀{L:List Int},Fits L (L.map f)->∀j∈L,InI (f j)/\loF j<=f j/\f j<=hiF j
 |[],_,_,h=>by cases h
 |j::r,h,x,hx=>by
  rcases List.mem_cons.1 hx with rfl|hx
  ·exact h.1
  ·exact fits_all h.2 x hx
theorem part_nodup {k:Int}:(partF k).Nodup:=by
 unfold partF partL;generalize (k-1).toNat=j;match j with
 |0|1|2|3|4|5|6|7=>decide
 |n+8=>simp
theorem all_eight {l:List Int} (h:l.length=8): ∃a b c d e f g i,l=[a,b,c,d,e,f,g,i]:=by
 match l,h with
 |[a,b,c,d,e,f,g,i],_=>exact ⟨a,b,c,d,e,f,g,i,rfl⟩
theorem bit_dec {n:Int} (h:n=0∨n=1):bitF (decide (n=1))=n:=by
 rcases h with rfl|rfl<;>rfl
theorem all_mk {k:Int} {l:List Int} {ls:List LnD} (h:l.length=8) (h4:nthI l 4=0∨nthI l 4=1) (h5:nthI l 5=0∨nthI l 5=1):allF (mkC k l ls)=l:=by
 obtain ⟨a,b,c,d,e,f,g,i,rfl⟩:=all_eight h;have e4:bitF (decide (e=1))=e:=bit_dec h4;have e5:bitF (decide (f=1))=f:=bit_dec h5;show [a,b,c,d,bitF (decide (e=1)),bitF (decide (f=1)),g,i]=_;rw [e4,e5]
theorem chk_ok {c:CmD} (h1:1<=c.1) (h8:c.1<=8) (h50:(linesF c).length<=50) (hl:c.1=7∨linesF c=[]) (h: ∀i:Int,0<=i->i<8->i∉partF c.1->nthI (allF c) i=0):checkF c=0:=by
 rw [checkF_ok h1 h8 h50 (by rcases hl with e|e;exact .inl e;exact .inr (by rw [e];rfl)),if_neg];rw [badF_false fun i i0 i1 hb=>hb.1 (h i i0 i1 hb.2)];decide
theorem full_take {s t:By} {b:Int} (h:s.take b.toNat=t) (hb: ¬b<s.length):s=t:=by
 rw [<-h,List.take_of_length_le (by omega)]
theorem read_back {s:By} (h:(cparseF s).2=0):checkF (cparseF s).1=0/\textF (cparseF s).1=s/\InC (cparseF s).1:=by
 have e:(kindF s).2.2=0:=Classical.byContradiction fun e=>by
  rw [cp_err e] at h;exact e h
 obtain ⟨k1,k8⟩:=kindF_in e;obtain ⟨hn,hw⟩:=kind_read e;rw [cp_rest e rfl] at h⊢;unfold restF at h⊢;have ht0:(tailF s (kindF s).1 (P0 s).1 (P0 s).2.1).2.1=0:=Classical.byContradiction fun ht=>by
  rw [if_neg ht] at h;exact ht h
 rw [if_pos ht0] at h⊢;by_cases hr:(tailF s (kindF s).1 (P0 s).1 (P0 s).2.1).1<s.length
 ·rw [if_pos hr] at h;cases h
 rw [if_neg hr];dsimp only;have hp0:(P0 s).2.1=0:=Classical.byContradiction fun hp=>by
  rw [tail_err hp] at ht0;exact hp ht0
 have hwl:(wordF (kindF s).1).length<=s.length:=by
  have:=congrArg List.length hw;rw [List.length_take] at this;omega
 unfold P0 at hp0;obtain ⟨vs,q1,q2,q3,q4,q5⟩:=parts_read (by omega) (by omega) hp0;change P0 s=((P0 s).1,0,setL zeros (partF (kindF s).1) vs) at q2;change _<=(P0 s).1 at q3;change (P0 s).1<=_ at q4;change s.take (P0 s).1.toNat=_ at q5;rw [hn,Int.toNat_natCast,hw] at q5;have hm:=setL_map (partF (kindF s).1) vs zeros (fun j hj=>by have:=partF_in hj;simp;omega) part_nodup (fits_len q1);generalize hS:setL zeros (partF (kindF s).1) vs=S at hm q2;have hSl:S.length=8:=by rw [<-hS,setL_len];rfl
 have hoff: ∀i:Int,0<=i->i<8->i∉partF (kindF s).1->nthI S i=0:=fun i i0 i8 hi=>by
  unfold nthI;rw [<-hS,setL_off _ _ _ _ (fun j hj=>(partF_in hj).1) (by rw [show ((i.toNat:Nat):Int)=i by omega];exact hi)];have:i.toNat<8:=by omega
  generalize i.toNat=j at this;match j,this with
  |0,_|1,_|2,_|3,_|4,_|5,_|6,_|7,_=>rfl
 have hfit:=fits_all (f:=nthI S) (L:=partF (kindF s).1) (by rw [hm];exact q1);have hbit: ∀i:Int,(i=4∨i=5)->nthI S i=0∨nthI S i=1:=fun i hi=>by
  by_cases hin:i∈partF (kindF s).1
  ·obtain ⟨_,b1,b2⟩:=hfit i hin;unfold loF at b1;unfold hiF at b2;rw [if_pos hi] at b1 b2;omega
  ·exact .inl (hoff i (by omega) (by omega) hin)
 have hSI: ∀n∈S,InI n:=fun n hn=>by
  obtain ⟨i,hi,rfl⟩:=List.mem_iff_getElem.1 hn;have hv:nthI S i=S[i]:=by
   unfold nthI;rw [Int.toNat_natCast,List.getElem?_eq_getElem hi];rfl
  by_cases hin:(i:Int)∈partF (kindF s).1
  ·rw [<-hv];exact (hfit i hin).1
  ·rw [<-hv,hoff i (by omega) (by omega) hin];unfold InI;omega
 have hP1:(P0 s).2.2=S:=by rw [q2]
 have hP2:(P0 s).2.1=0:=by rw [q2]
 have hall: ∀ls,allF (hdC s ls)=S:=fun ls=>by
  unfold hdC;rw [hP1];exact all_mk hSl (hbit 4 (.inl rfl)) (hbit 5 (.inr rfl))
 have hkk: ∀ls,(hdC s ls).1=(kindF s).1:=fun _=>rfl;have hlin: ∀ls,linesF (hdC s ls)=ls:=fun _=>rfl;have fin: ∀ls:List LnD,ls.length<=50->((kindF s).1=7∨ls=[])->(∀x∈ls,InLn x)->s=wordF (kindF s).1++sayF (vs++if (kindF s).1=7 then (ls.length:Int)::ls.flatMap lnL else [])->
  checkF (hdC s ls)=0/\textF (hdC s ls)=s/\InC (hdC s ls):=fun ls l1 l2 l3 l4=>by
  refine ⟨chk_ok (by rw [hkk];exact k1) (by rw [hkk];exact k8) (by rw [hlin];exact l1) (by rw [hkk,hlin];exact l2) (fun i i0 i8 hi=>by rw [hall];exact hoff i i0 i8 (by rw [<-hkk ls];exact hi)), ?_,⟨by rw [hall];exact hSI,by rw [hlin];exact l3⟩⟩;unfold textF numsF;rw [hall,hkk,hlin,hm];exact l4.symm
 rw [hP2] at ht0 hr⊢;by_cases h7:(kindF s).1=7
 ·unfold tailF at ht0 hr⊢;rw [if_pos h7] at ht0 hr⊢;dsimp only at ht0 hr⊢;by_cases hx:(withinF s (P0 s).1 0 0 50).2.2=0
  ·obtain ⟨w1,w2,w3,w4,w5,w6⟩:=within_read (by omega) q4 hx;rw [hx] at ht0 hr⊢;obtain ⟨ls,r1,r2,r3,r4,r5,r6⟩:=line_read (by omega) w2 ht0;rw [r3];dsimp only;rw [List.nil_append];have hsx:=full_take r6 hr;refine fin ls (by omega) (.inl h7) r2 ?_;rw [if_pos h7];have e1:(withinF s (P0 s).1 0 0 50).1=(ls.length:Int):=by omega
   rw [e1] at w6;rw [w6,q5] at hsx;rw [sayF_app,<-List.singleton_append,sayF_app,<-List.append_assoc,<-List.append_assoc];exact hsx
  ·rw [line_err hx] at ht0;exact absurd ht0 hx
 ·unfold tailF at hr⊢;rw [if_neg h7] at hr⊢;dsimp only at hr⊢;have hsx:=full_take q5 hr;refine fin [] (by simp) (.inr rfl) (fun x hx=>by cases hx) ?_;rw [if_neg h7,List.append_nil];exact hsx
theorem say_len41 {l:List Int} (h: ∀n∈l,InI n):(sayF l).length<=41*l.length:=by
 induction l with
 |nil=>simp [sayF]
 |cons a r ih=>
  have:=ih (fun n hn=>h n (by simp [hn]));have h2:=itoa_len (h a (by simp));have e:sayF (a::r)=(32::Lib.itoa a)++sayF r:=by simp [sayF]
  rw [e];simp only [List.length_append,List.length_cons];omega
end Go.Proofs.YtabicbgeoiilmaaGreatDoor.Cm
end
