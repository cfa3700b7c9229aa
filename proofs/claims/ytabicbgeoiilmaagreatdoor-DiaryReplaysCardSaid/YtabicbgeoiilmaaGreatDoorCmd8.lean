import Derived.Test.YtabicbgeoiilmaaGreatDoorBuild2
namespace Go.Proofs.YtabicbgeoiilmaaGreatDoor
noncomputable section
section
namespace Cm
open Go.Vm
abbrev CmD:Type:=Int×Int×Int×Int×Int×Bool×Bool×(Int×Int)×List (Int×Int×Int×Int)
abbrev LnD:Type:=Int×Int×Int×Int
def dh (b:Bool):Int:=if b then 1 else 0
def Ma (b:Bool):Env:=ee
def wF (b:Bool):Prop:=
 (b=true->((1:Int),())=(dh b,()))/\(b=false->((0:Int),())=(dh b,()))
theorem HN (b:Bool):wF b:=by
 unfold wF dh;cases b<;>simp
set_option maxRecDepth 20000
def Pe:FSpec Tryz.prog:=mkF 106 (.c .b .z) [.int .i64] (fun x=>(fun (b:Bool)=>(True,dh b,())) x.1) fun ⟨b,_⟩ _=>av (E:=Ma b) (HN b) (ab rfl [] [] rfl rfl) Tryz.func106
def bd (l:List Int):List UInt8:=l.flatMap fun n=>32::Lib.itoa n
theorem El {l:List Int} {i:Nat} {n:Int} (h:l[i]? =some n):bd (l.take (i+1))=bd (l.take i)++([32]++Lib.itoa n):=by
 unfold bd;rw [RD,h];simp
theorem t_ {l:List Int} (h: ∀n∈l,InI n):(bd l).length<=50*l.length:=by
 induction l with
 |nil=>simp [bd]
 |cons a r ih=>
  have:=ih (fun n hn=>h n (by simp [hn]));have h2:=ld (h a (by simp));have e:bd (a::r)=(32::Lib.itoa a)++bd r:=by simp [bd]
  rw [e];simp only [Re,Rj];omega
def Mb (l d:List Int):Env where
 P:=Tryz.prog
 ty:=aJ
 specs:=ai [nJ]
 upd:=bJ [py.upd]
 pins:=[9000]
 heads:=fun
  |1=>some {slots:=[(7, .int .i64)],boxes:=[(9000,[.own 9000 62, .slc 9001 B8])],keep:=[],inv:=fun _ (x:Int×Unit×List Int×Unit)=>0<=x.1/\x.1<=l.length/\x.2.2.1=d++byD (bd (l.take x.1.toNat)),measure:=fun _ (x:Int×Unit×List Int×Unit)=>(l.length-x.1).toNat}
  |_=>none
abbrev Mc:Ann:={slots:=bB 0 [],boxes:=[(9000,[.own 9000 62, .slc 9001 B8])],inv:=fun _ _=>True}
def pG (l:List Int) (d:List Int):Prop:=
 (True/\0<=(0:Int)/\0<=(↑l.length:Int)/\d=d++byD (bd (List.take (Int.toNat 0) l)))/\∀(x:Int×Unit×List Int×Unit),0<=x.1/\x.1<=l.length/\x.2.2.1=d++byD (bd (List.take x.1.toNat l))->(ag (x.1<l.length)->(0<=x.1/\x.1<l.length)/\∀(x_1:Int),l[x.1.toNat]? =some x_1->InI x_1/\(1:Nat)+(Lib.itoa x_1).length<=(9223372036854775807:Nat)/\([(32:UInt8)]++Lib.itoa x_1).length+x.2.2.1.length<=(100000000:Nat)/\(au (x.1+1))/\True/\(0<=x.1+1/\x.1+1<=l.length/\x.2.2.1++byD ([(32:UInt8)]++Lib.itoa x_1)=d++byD (bd (List.take (x.1+1).toNat l)))/\(l.length-(x.1+1)).toNat<(l.length-x.1).toNat)/\(aj (x.1<l.length)->True/\((),x.2.2.1,())=((),d++byD (bd l),()))
theorem HO (l d:List Int):dV (Mb l d) Tryz.f83 [.list .tmp I l, .ptr 9000 0] [(9000, .box [.own 9000 62, .slc 9001 0 none]),(9001, .arr 0 (.int .u8) d)] [] Mc ((),d++byD (bd l),())=pG l d:=by kernel_rfl
theorem HP (l d:List Int) (h:(∀n∈l,InI n)/\l.length<=1000/\d.length<=1000000):pG l d:=by
 unfold pG aj ag;obtain ⟨hl,hn,hd⟩:=h;simp only [Q7,Q6];refine ⟨⟨trivial,by omega,by omega,by simp [bd]⟩, ?_⟩;rintro ⟨i,⟨⟩,e,⟨⟩⟩ ⟨h0,h1,he⟩;dsimp only at h0 h1 he⊢;refine ⟨fun c=>⟨⟨h0,c⟩,fun n hx=> ?_⟩,fun c=>⟨trivial, ?_⟩⟩
 ·have hI:=hl n (Rr hx);have h2:=ld hI;have h3:(bd (l.take i.toNat)).length<=50*(l.take i.toNat).length:=t_ fun m hm=>hl m (Sl hm);have h4:(l.take i.toNat).length<=l.length:=List.length_take_le' _ _;have h5:e.length=d.length+(bd (l.take i.toNat)).length:=by rw [he,Re,eG]
  have h6:([(32:UInt8)]++Lib.itoa n).length=1+(Lib.itoa n).length:=by rw [Re];rfl
  refine ⟨hI,by omega,by omega,by omega,trivial,⟨by omega,by omega, ?_⟩,by omega⟩;rw [show (i+1).toNat=i.toNat+1 by omega,El hx,he,kY (bd _),RA]
 ·rw [he,Rh (by omega)]
theorem Md (l d:List Int) (h:(∀n∈l,InI n)/\l.length<=1000/\d.length<=1000000):UpdC Tryz.prog 83 [.list .tmp I l, .ptr 9000 0] [(9000, .box [.own 9000 62, .slc 9001 0 none]),(9001, .arr 0 (.int .u8) d)] (.tuple []) [(9001, .arr 0 (.int .u8) (d++byD (bd l))),(9000, .box [.own 9000 62, .slc 9001 0 none])]:=
 by have k:=UpdC.of_cond (HO l d) (HP l d h) (ab rfl [nJ] [py.upd] rfl rfl) mixed Tryz.func83;exact k
def QA (l d:List Int):Prop×V×Store:=((∀n∈l,InI n)/\l.length<=1000/\d.length<=1000000, .tuple [],[(9001, .arr 0 (.int .u8) (d++byD (bd l))),(9000, .box [.own 9000 62, .slc 9001 0 none])])
def Pf:OSpec Tryz.prog where
 f:=83
 run:=fun args σ=>match args,σ with
  |[v0, .ptr 9000 0],[(9000, .box [.own 9000 62, .slc 9001 0 none]),(9001, .arr 0 (.int .u8) d)]=>(asL I v0:Option (List Int)).bind fun l=>some (QA l d)
  |_,_=>none
 ok:=fun args σ pre r σ' h hp=>by
  try dsimp only at h
  split at h
  ·rename_i v0 d;obtain ⟨l,h0,h⟩:=Ra.1 h;exact eL h hp fun h=>(Md l d h).weak (.cons (aT h0) (.cons (.refl _) .nil))
  ·cases h
def CC:List (List UInt8):=[[101,110,116,105,116,121],[97,99,99,111,117,110,116],[109,111,118,101],[111,119,110],[114,97,116,101],[108,111,99,107],[112,111,115,116],[114,101,118,101,114,115,101]]
def wE:List (List Int):=[[0],[0,1,4,5],[0,1],[0,1,2,3],[0,1,2,3,6,7],[0,1],[0],[0,1]]
def ba (k:Int):List UInt8:=(CC[(k-1).toNat]?).getD []
def an (k:Int):List Int:=(wE[(k-1).toNat]?).getD []
abbrev fl (l:List Int):V:= .list .full I l
abbrev Pg:List V:=[.str [101,110,116,105,116,121],fl [0], .str [97,99,99,111,117,110,116],fl [0,1,4,5], .str [109,111,118,101],fl [0,1], .str [111,119,110],fl [0,1,2,3], .str [114,97,116,101],fl [0,1,2,3,6,7], .str [108,111,99,107],fl [0,1], .str [112,111,115,116],fl [0], .str [114,101,118,101,114,115,101],fl [0,1]]
def Em:Env where
 P:=Tryz.prog
 ty:=aJ
 asRows:=fun|17=>true|_=>false
def zB:Prop:=
 some (V.rows 2 [V.str [(101:UInt8),(110:UInt8),(116:UInt8),(105:UInt8),(116:UInt8),(121:UInt8)],V.list LK.full I [(0:Int)],V.str [(97:UInt8),(99:UInt8),(99:UInt8),(111:UInt8),(117:UInt8),(110:UInt8),(116:UInt8)],V.list LK.full I [(0:Int),(1:Int),(4:Int),(5:Int)],V.str [(109:UInt8),(111:UInt8),(118:UInt8),(101:UInt8)],V.list LK.full I [(0:Int),(1:Int)],V.str [(111:UInt8),(119:UInt8),(110:UInt8)],V.list LK.full I [(0:Int),(1:Int),(2:Int),(3:Int)],V.str [(114:UInt8),(97:UInt8),(116:UInt8),(101:UInt8)],V.list LK.full I [(0:Int),(1:Int),(2:Int),(3:Int),(6:Int),(7:Int)],V.str [(108:UInt8),(111:UInt8),(99:UInt8),(107:UInt8)],V.list LK.full I [(0:Int),(1:Int)],V.str [(112:UInt8),(111:UInt8),(115:UInt8),(116:UInt8)],V.list LK.full I [(0:Int)],V.str [(114:UInt8),(101:UInt8),(118:UInt8),(101:UInt8),(114:UInt8),(115:UInt8),(101:UInt8)],V.list LK.full I [(0:Int),(1:Int)]])=some (V.rows 2 [V.str [(101:UInt8),(110:UInt8),(116:UInt8),(105:UInt8),(116:UInt8),(121:UInt8)],V.list LK.full I [(0:Int)],V.str [(97:UInt8),(99:UInt8),(99:UInt8),(111:UInt8),(117:UInt8),(110:UInt8),(116:UInt8)],V.list LK.full I [(0:Int),(1:Int),(4:Int),(5:Int)],V.str [(109:UInt8),(111:UInt8),(118:UInt8),(101:UInt8)],V.list LK.full I [(0:Int),(1:Int)],V.str [(111:UInt8),(119:UInt8),(110:UInt8)],V.list LK.full I [(0:Int),(1:Int),(2:Int),(3:Int)],V.str [(114:UInt8),(97:UInt8),(116:UInt8),(101:UInt8)],V.list LK.full I [(0:Int),(1:Int),(2:Int),(3:Int),(6:Int),(7:Int)],V.str [(108:UInt8),(111:UInt8),(99:UInt8),(107:UInt8)],V.list LK.full I [(0:Int),(1:Int)],V.str [(112:UInt8),(111:UInt8),(115:UInt8),(116:UInt8)],V.list LK.full I [(0:Int)],V.str [(114:UInt8),(101:UInt8),(118:UInt8),(101:UInt8),(114:UInt8),(115:UInt8),(101:UInt8)],V.list LK.full I [(0:Int),(1:Int)]])
theorem zC:zB:=by
 exact rfl
def le:ZSpec Tryz.prog:=mkZ 60 .z (fun x=>(True,(.rows 2 Pg))) fun _ _=>PureZ.of_cond (E:=Em) (by kernel_rfl) zC (ab rfl [] [] rfl rfl) mixed Tryz.func60
def cR (c:CmD):List Int:=[c.2.1,c.2.2.1,c.2.2.2.1,c.2.2.2.2.1,dh c.2.2.2.2.2.1,dh c.2.2.2.2.2.2.1,c.2.2.2.2.2.2.2.1.1,c.2.2.2.2.2.2.2.1.2]
def HQ (k a b c d:Int) (s p:Bool) (n m:Int) (l:List LnD):Env where
 P:=Tryz.prog
 ty:=aJ
 specs:=ai [Pe]
 frz:=fun|13=>true|16=>true|_=>false
abbrev HR:Ann:={slots:=bB 0 [.int .i64, .int .i64, .int .i64, .int .i64, .int .i64, .int .i64, .int .i64, .int .i64],boxes:=[],inv:=fun _ _=>True}
def Eo (k:Int) (a:Int) (b:Int) (c:Int) (d:Int) (s:Bool) (p:Bool) (n:Int) (m:Int) (l:List LnD):Prop:=
 True/\True/\True/\(a,b,c,d,dh s,dh p,n,m,())=(a,b,c,d,dh s,dh p,n,m,())
theorem Ep (k a b c d:Int) (s p:Bool) (n m:Int) (l:List LnD) (h:True):Eo k a b c d s p n m l:=⟨trivial,trivial,trivial,rfl⟩
def CD:FSpec Tryz.prog:=mkG 82 (.c (.g (.c .j (.c .j (.c .j (.c .j (.c .j (.c .b (.c .b (.c .j (.c .j (.c (.l Ln) .z))))))))))) .z) (fun x=>(fun (k a b c d:Int) (s p:Bool) (n m:Int) (l:List LnD)=>(True,(.agg [.int .i64 a, .int .i64 b, .int .i64 c, .int .i64 d, .int .i64 (dh s), .int .i64 (dh p), .int .i64 n, .int .i64 m]))) x.1.1 x.1.2.1 x.1.2.2.1 x.1.2.2.2.1 x.1.2.2.2.2.1 x.1.2.2.2.2.2.1 x.1.2.2.2.2.2.2.1 x.1.2.2.2.2.2.2.2.1 x.1.2.2.2.2.2.2.2.2.1 x.1.2.2.2.2.2.2.2.2.2.1) fun ⟨⟨k,a,b,c,d,s,p,n,m,l,_⟩,_⟩ h=>Pure.of_condG (E:=HQ k a b c d s p n m l) (sh:=[some 8]) (ann:=HR) (x:=(fun (k a b c d:Int) (s p:Bool) (n m:Int) (l:List LnD)=>(a,b,c,d,dh s,dh p,n,m,())) k a b c d s p n m l) (by kernel_rfl) (Ep k a b c d s p n m l h) rfl (ab rfl _ [] rfl rfl) mixed Tryz.func82
end Cm
end
section
namespace Cm
open Go.Vm
def bj (l:List Int) (x:Int):Int:=match l.findIdx? (· ==x) with
 |some i=>i
 |none=> -1
def Er (l:List Int) (x:Int):Env where
 P:=Tryz.prog
 ty:=aJ
 heads:=fun
  |2=>some {slots:=[(8, .int .i64)],boxes:=[],inv:=fun _ (y:Int×Unit)=>0<=y.1/\y.1<=l.length/\∀(j:Nat) z,(j:Int)<y.1->l[j]? =some z->z≠x,measure:=fun _ (y:Int×Unit)=>(l.length-y.1).toNat}
  |_=>none
def pH (l:List Int) (x:Int):Prop:=
 (True/\0<=(0:Int)/\0<=(↑l.length:Int)/\∀(j:Nat) (z:Int),(↑j:Int)<(0:Int)->l[j]? =some z->z≠x)/\∀(x_1:Int×Unit),(0<=x_1.1/\x_1.1<=l.length/\∀(j:Nat) (z:Int),j<x_1.1->l[j]? =some z->z≠x)->(ag (x_1.1<l.length)->(0<=x_1.1/\x_1.1<l.length)/\∀(x_2:Int),l[x_1.1.toNat]? =some x_2->(ag (x=x_2)->(x_1.1,())=(bj l x,()))/\(aj (x=x_2)->(au (x_1.1+1))/\True/\(0<=x_1.1+1/\x_1.1+1<=l.length/\∀(j:Nat) (z:Int),j<x_1.1+1->l[j]? =some z->z≠x)/\(l.length-(x_1.1+1)).toNat<(l.length-x_1.1).toNat))/\(aj (x_1.1<l.length)->((-1:Int),())=(bj l x,()))
theorem Me {l:List Int} {x:Int} {i:Nat} (h:l[i]? =some x) (hb: ∀(j:Nat) z,(j:Int)<i->l[j]? =some z->z≠x):bj l x=i:=by
 obtain ⟨hi,e⟩:=List.getElem?_eq_some_iff.1 h;unfold bj;rw [List.findIdx?_eq_some_iff_getElem.2 ⟨hi,by simp [e],fun j hj=>by simpa using hb j _ (by omega) (List.getElem?_eq_getElem (by omega))⟩]
theorem Mf {l:List Int} {x:Int} (h: ∀(j:Nat) z,(j:Int)<l.length->l[j]? =some z->z≠x):bj l x= -1:=by
 unfold bj;rw [List.findIdx?_eq_none_iff.2 fun y hy=>by
  obtain ⟨j,hj,e⟩:=List.mem_iff_getElem.1 hy;simpa using h j y (by omega) (by rw [List.getElem?_eq_getElem hj,e])]
theorem HS (l:List Int) (x:Int):decide (0<=bj l x)=decide (x∈l):=by
 unfold bj;cases e:l.findIdx? (· ==x) with
 |none=>
  have:=List.findIdx?_eq_none_iff.1 e;have hn:x∉l:=fun k=>by simpa using this x k
  simp [hn]
 |some i=>
  obtain ⟨hi,h,_⟩:=List.findIdx?_eq_some_iff_getElem.1 e;have hx:x∈l:=by
   have:l[i]=x:=by simpa using h
   rw [<-this];exact List.getElem_mem _
  simp [hx]
theorem zD (l:List Int) (x:Int) (h:l.length<=1000000):pH l x:=by
 unfold pH aj ag;simp only [Q7,Q6];refine ⟨⟨trivial,by omega,by omega,fun j z hj=>absurd hj (by omega)⟩, ?_⟩;rintro ⟨i,⟨⟩⟩ ⟨h0,h1,hb⟩;dsimp only at h0 h1 hb⊢;refine ⟨fun c=>⟨⟨h0,c⟩,fun y hy=>⟨fun e=> ?_,fun e=>⟨⟨by omega,by omega⟩,trivial,⟨by omega,by omega,fun j z hj hz=> ?_⟩,by omega⟩⟩⟩,fun c=> ?_⟩
 ·subst e;rw [Me hy fun j z hj=>hb j z (by omega)];congr 1;omega
 ·by_cases h2:(j:Int)<i
  ·exact hb j z h2 hz
  ·have:j=i.toNat:=by omega
   subst this;rw [hy] at hz;cases hz;exact fun k=>e k.symm
 ·rw [Mf fun j z hj=>hb j z (by omega)]
set_option maxRecDepth 20000
def HT:FSpec Tryz.prog:=mkF 131 (.c (.l I) (.c .j .z)) [.int .i64] (fun x=>(fun (l:List Int) (x:Int)=>(l.length<=1000000,bj l x,())) x.1 x.2.1) fun ⟨l,x,_⟩ h=>av (E:=Er l x) (zD l x h) (ab rfl [] [] rfl rfl) Tryz.func131
def ua (l:List Int) (x:Int):Env where
 P:=Tryz.prog
 ty:=aJ
 specs:=ai [HT]
def jW (l:List Int) (x:Int):Prop:=
 l.length<=(1000000:Nat)/\(decide (0<=bj l x),())=(decide (x∈l),())
theorem rI (l:List Int) (x:Int) (h:l.length<=1000000):jW l x:=by
 unfold jW;exact ⟨h,by rw [HS]⟩
def wG:FSpec Tryz.prog:=mkF 96 (.c (.l I) (.c .j .z)) [.bool] (fun x=>(fun (l:List Int) (x:Int)=>(l.length<=1000000,decide (x∈l),())) x.1 x.2.1) fun ⟨l,x,_⟩ h=>av (E:=ua l x) (rI l x h) (ab rfl _ [] rfl rfl) Tryz.func96
end Cm
end
section
namespace Cm
open Go.Vm
abbrev a8 (l:List Int) (i:Int):Int:=(l[i.toNat]?).getD 0
def dx (c:CmD) (i:Int):Prop:=a8 (cR c) i≠0/\i∉an c.1
instance (c:CmD) (i:Int):Decidable (dx c i):=by unfold dx;infer_instance
def cq (c:CmD):Bool:=(List.range 8).any fun j=>decide (dx c j)
def aB (c:CmD):List LnD:=c.2.2.2.2.2.2.2.2
def ah (c:CmD):Int:=if c.1<1∨8<c.1 then 25 else if 50<(aB c).length then 30 else if c.1≠7/\0<(aB c).length then 2 else if cq c=true then 2 else 0
def mz (k a b c d:Int) (s p:Bool) (n m:Int) (l:List LnD):Env where
 P:=Tryz.prog
 ty:=aJ
 specs:=ai [wG,CD]
 zspecs:=rJ [le]
 frz:=fun|30=>true|_=>false
 sym:=fun|34=>true|42=>true|_=>false
 joins:=fun
  |7=>some {slots:=[],boxes:=[],keep:=[1],inv:=fun _ _=>1<=k/\k<=8/\l.length<=50/\(k=7∨l.length=0)}
  |_=>none
 heads:=fun
  |9=>some {slots:=[(39, .int .i64)],boxes:=[],keep:=[1],inv:=fun _ (x:Int×Unit)=>0<=x.1/\x.1<=8/\∀i,0<=i->i<x.1->¬dx (k,a,b,c,d,s,p,(n,m),l) i,measure:=fun _ (x:Int×Unit)=>(8-x.1).toNat}
  |_=>none
abbrev aN (k:Int) (a:Int) (b:Int) (c:Int) (d:Int) (s:Bool) (p:Bool) (n:Int) (m:Int) (l:List LnD):_root_.Go.Vm.Obj:=Obj.box [V.int IntKind.i64 k,V.int IntKind.i64 a,V.int IntKind.i64 b,V.int IntKind.i64 c,V.int IntKind.i64 d,V.bool s,V.bool p,V.int IntKind.i64 n,V.int IntKind.i64 m,V.list LK.tmp Ln l]
def fC (k:Int) (a:Int) (b:Int) (c:Int) (d:Int) (s:Bool) (p:Bool) (n:Int) (m:Int) (l:List LnD):Prop:=
 ((aj (k<1)->(ag (8<k)->((25:Int),())=(ah (k,a,b,c,d,s,p,(n,m),l),()))/\(aj (8<k)->(ag ((50:Int)<(↑l.length:Int))->((30:Int),())=(ah (k,a,b,c,d,s,p,(n,m),l),()))/\(aj ((50:Int)<(↑l.length:Int))->((!decide (k=7))=true->(ag ((0:Int)<(↑l.length:Int))->((2:Int),())=(ah (k,a,b,c,d,s,p,(n,m),l),()))/\(aj ((0:Int)<(↑l.length:Int))->(some (aN k a b c d s p n m l)=some (aN k a b c d s p n m l)/\True)/\1<=k/\k<=8/\l.length<=(50:Nat)/\(k=7∨l.length=(0:Nat))))/\((!decide (k=7))= !true->(some (aN k a b c d s p n m l)=some (aN k a b c d s p n m l)/\True)/\1<=k/\k<=8/\l.length<=(50:Nat)/\(k=7∨l.length=(0:Nat))))))/\(bu (k<1)->((25:Int),())=(ah (k,a,b,c,d,s,p,(n,m),l),())))/\∀(x:Unit),1<=k/\k<=8/\l.length<=(50:Nat)/\(k=7∨l.length=(0:Nat))->True/\(au (k-(1:Int)))/\(0<=k-(1:Int)/\k-(1:Int)<(↑(8:Nat):Int))/\True/\((some (aN k a b c d s p n m l)=some (aN k a b c d s p n m l)/\True)/\0<=(0:Int)/\0<=(8:Int)/\∀(i:Int),0<=i->i<0->¬dx (k,a,b,c,d,s,p,(n,m),l) i)/\∀(x:Int×Unit),(0<=x.1/\x.1<=8/\∀(i:Int),0<=i->i<x.1->¬dx (k,a,b,c,d,s,p,(n,m),l) i)->(ag (x.1<8)->(0<=x.1/\x.1<(↑(8:Nat):Int))/\((!decide ([a,b,c,d,dh s,dh p,n,m][x.1.toNat]?.getD 0=(0:Int)))=true->([[(0:Int)],[(0:Int),(1:Int),(4:Int),(5:Int)],[(0:Int),(1:Int)],[(0:Int),(1:Int),(2:Int),(3:Int)],[(0:Int),(1:Int),(2:Int),(3:Int),(6:Int),(7:Int)],[(0:Int),(1:Int)],[(0:Int)],[(0:Int),(1:Int)]][(k-(1:Int)).toNat]?.getD []).length<=(1000000:Nat)/\((!decide (x.1∈[[(0:Int)],[(0:Int),(1:Int),(4:Int),(5:Int)],[(0:Int),(1:Int)],[(0:Int),(1:Int),(2:Int),(3:Int)],[(0:Int),(1:Int),(2:Int),(3:Int),(6:Int),(7:Int)],[(0:Int),(1:Int)],[(0:Int)],[(0:Int),(1:Int)]][(k-(1:Int)).toNat]?.getD []))=true->((2:Int),())=(ah (k,a,b,c,d,s,p,(n,m),l),()))/\((!decide (x.1∈[[(0:Int)],[(0:Int),(1:Int),(4:Int),(5:Int)],[(0:Int),(1:Int)],[(0:Int),(1:Int),(2:Int),(3:Int)],[(0:Int),(1:Int),(2:Int),(3:Int),(6:Int),(7:Int)],[(0:Int),(1:Int)],[(0:Int)],[(0:Int),(1:Int)]][(k-(1:Int)).toNat]?.getD []))=false->(au (x.1+1))/\(some (aN k a b c d s p n m l)=some (aN k a b c d s p n m l)/\True)/\(0<=x.1+1/\x.1+1<=8/\∀(i:Int),0<=i->i<x.1+1->¬dx (k,a,b,c,d,s,p,(n,m),l) i)/\((8:Int)-(x.1+1)).toNat<((8:Int)-x.1).toNat))/\((!decide ([a,b,c,d,dh s,dh p,n,m][x.1.toNat]?.getD 0=(0:Int)))= !true->(au (x.1+1))/\(some (aN k a b c d s p n m l)=some (aN k a b c d s p n m l)/\True)/\(0<=x.1+1/\x.1+1<=8/\∀(i:Int),0<=i->i<x.1+1->¬dx (k,a,b,c,d,s,p,(n,m),l) i)/\((8:Int)-(x.1+1)).toNat<((8:Int)-x.1).toNat))/\(aj (x.1<8)->((0:Int),())=(ah (k,a,b,c,d,s,p,(n,m),l),()))
theorem my {c:CmD} (h1:1<=c.1) (h2:c.1<=8) (h3:(aB c).length<=50) (h4:c.1=7∨(aB c).length=0):ah c=if cq c=true then 2 else 0:=by
 unfold ah;rw [Q8 (by omega),Q8 (by omega),Q8 (by omega)]
theorem Es {c:CmD} {i:Int} (h0:0<=i) (h1:i<8) (h:dx c i):cq c=true:=by
 unfold cq;rw [Sd];exact ⟨i.toNat,RX.2 (by omega),by rw [show ((i.toNat:Nat):Int)=i by omega];exact RB h⟩
theorem pF {c:CmD} (h: ∀i:Int,0<=i->i<8->¬dx c i):cq c=false:=by
 unfold cq;rw [Sw];intro j hj;simp at hj⊢;exact h j (by omega) (by omega)
theorem fk (k:Int):(an k).length<=6:=by
 unfold an wE;generalize (k-1).toNat=j;match j with
 |0|1|2|3|4|5|6|7=>decide
 |n+8=>simp
theorem kA (k a b c d:Int) (s p:Bool) (n m:Int) (l:List LnD):fC k a b c d s p n m l:=by
 unfold fC aj bu ag;have hp:([[(0:Int)],[0,1,4,5],[0,1],[0,1,2,3],[0,1,2,3,6,7],[0,1],[0],[0,1]][(k-1).toNat]?.getD [])=an k:=rfl;simp only [Q7,Q6,Rb,Rd,Rl,Rg,hp];repeat' (first|apply And.intro|intro _)
 all_goals try (first|trivial|rfl|omega)
 ·rw [show ah (k,a,b,c,d,s,p,(n,m),l)=25 from Q_ (by omega)]
 ·rw [show ah (k,a,b,c,d,s,p,(n,m),l)=30 from (Q8 (by simp only;omega)).trans (Q_ (by simp only [aB];omega))]
 ·rw [show ah (k,a,b,c,d,s,p,(n,m),l)=2 from (Q8 (by simp only;omega)).trans ((Q8 (by simp only [aB];omega)).trans (Q_ (by simp only [aB];omega)))]
 ·rw [show ah (k,a,b,c,d,s,p,(n,m),l)=25 from Q_ (by simp only;omega)]
 ·have:=fk k;omega
 ·rename_i h1 x h2 h3 h4 h5;rw [my (c:=(k,a,b,c,d,s,p,(n,m),l)) h1.1 h1.2.1 h1.2.2.1 h1.2.2.2,Q_ (Es (c:=(k,a,b,c,d,s,p,(n,m),l)) h2.1 h3 ⟨h4,h5⟩)]
 ·rename_i x h2 h3 h4 h5 i i0 i1 hb;by_cases hi:i<x.fst
  ·exact h2.2.2 i i0 hi hb
  ·obtain rfl:i=x.fst:=by omega
   exact hb.2 h5
 ·rename_i x h2 h3 h4 i i0 i1 hb;by_cases hi:i<x.fst
  ·exact h2.2.2 i i0 hi hb
  ·obtain rfl:i=x.fst:=by omega
   exact hb.1 h4
 ·rename_i h1 x h2 h3;rw [my (c:=(k,a,b,c,d,s,p,(n,m),l)) h1.1 h1.2.1 h1.2.2.1 h1.2.2.2,pF fun i i0 i1=>h2.2.2 i i0 (by omega)];rfl
set_option maxRecDepth 20000
def bA:FSpec Tryz.prog:=mkF 78 (.c (.g (.c .j (.c .j (.c .j (.c .j (.c .j (.c .b (.c .b (.c .j (.c .j (.c (.l Ln) .z))))))))))) .z) [.int .i64] (fun x=>(fun (k a b c d:Int) (s p:Bool) (n m:Int) (l:List LnD)=>(True,ah (k,a,b,c,d,s,p,(n,m),l),())) x.1.1 x.1.2.1 x.1.2.2.1 x.1.2.2.2.1 x.1.2.2.2.2.1 x.1.2.2.2.2.2.1 x.1.2.2.2.2.2.2.1 x.1.2.2.2.2.2.2.2.1 x.1.2.2.2.2.2.2.2.2.1 x.1.2.2.2.2.2.2.2.2.2.1) fun ⟨⟨k,a,b,c,d,s,p,n,m,l,_⟩,_⟩ _=>av (E:=mz k a b c d s p n m l) (kA k a b c d s p n m l) (fm rfl _ [] [] _ rfl rfl rfl rfl) Tryz.func78
end Cm
end
section
namespace Cm
open Go.Vm
def lnL (x:LnD):List Int:=[x.1,x.2.1,x.2.2.1,x.2.2.2]
def nH (c:CmD):List Int:=(an c.1).map (a8 (cR c))++if c.1=7 then ((aB c).length:Int)::(aB c).flatMap lnL else []
def gE (c:CmD):List UInt8:=ba c.1++bd (nH c)
def bU (c:CmD):List UInt8×Int:=if ah c=0 then (gE c,0) else ([],ah c)
def L_ (x:LnD):Prop:= ∀n∈lnL x,InI n
def InC (c:CmD):Prop:=(∀n∈cR c,InI n)/\∀x∈aB c,L_ x
theorem lc {k j:Int} (h:j∈an k):0<=j/\j<8:=by
 unfold an wE at h;generalize (k-1).toNat=i at h;match i,h with
 |0,h|1,h|2,h|3,h|4,h|5,h|6,h|7,h=>simp at h;omega
 |n+8,h=>simp at h
theorem fo (k:Int):(ba k).length<=7:=by
 unfold ba CC;generalize (k-1).toNat=j;match j with
 |0|1|2|3|4|5|6|7=>decide
 |n+8=>simp
theorem sm {k:Int} (h1:1<=k) (h2:k<=8):0<(ba k).length:=by
 unfold ba CC;have:(k-1).toNat<8:=by omega
 generalize (k-1).toNat=j at this;match j with
 |0|1|2|3|4|5|6|7=>decide
 |n+8=>omega
theorem wH {c:CmD} (h:ah c=0):1<=c.1/\c.1<=8/\(aB c).length<=50:=by
 unfold ah at h;split at h
 ·cases h
 ·split at h
  ·cases h
  ·omega
theorem ub {c:CmD} (h:InC c) (j:Int):InI (a8 (cR c) j):=by
 unfold a8;cases e:(cR c)[j.toNat]? with
 |none=>simp [InI]
 |some n=>exact h.1 n (Rr e)
theorem dw (l m:List Int):bd (l++m)=bd l++bd m:=by simp [bd]
theorem HU {k i x v:Int} {c:CmD} {e:List Int} (he:e=byD (ba k++bd (((an k).map (a8 (cR c))).take i.toNat))) (hi:0<=i) (hx:(an k)[i.toNat]? =some x) (hv:a8 (cR c) x=v):
 e++byD (bd [v])=byD (ba k++bd (((an k).map (a8 (cR c))).take (i+1).toNat)):=by
 rw [he,show (i+1).toNat=i.toNat+1 by omega,RD,List.getElem?_map,hx];simp only [R8,Option.toList_some,hv,dw,<-kY,RA]
theorem CE {k:Int} {c:CmD} {e:List Int} {i:Nat} (h:InC c) (he:e=byD (ba k++bd (((an k).map (a8 (cR c))).take i))):e.length<=1000000:=by
 have h1:=fo k;have h2:=fk k;have h3:(bd (((an k).map (a8 (cR c))).take i)).length<=50*(((an k).map (a8 (cR c))).take i).length:=t_ fun n hn=>by
  obtain ⟨j,_,rfl⟩:=RS.1 (Sl hn);exact ub h j
 have h4:(((an k).map (a8 (cR c))).take i).length<=((an k).map (a8 (cR c))).length:=List.length_take_le' _ _;rw [RI] at h4;rw [he,eG,Re];omega
theorem jr {l:List LnD} {i:Nat}:((l.take i).flatMap lnL).length<=4*l.length:=by
 have: ∀m:List LnD,(m.flatMap lnL).length=4*m.length:=fun m=>by
  induction m with
  |nil=>rfl
  |cons a r ih=>simp only [List.flatMap_cons,Re,ih,lnL,Rj,RJ];omega
 rw [this];have:=List.length_take_le' i l;omega
theorem HV {k:Int} {c:CmD} {l:List LnD} {e:List Int} {i:Nat} (h:InC c) (hl: ∀x∈l,L_ x) (h50:l.length<=50) (he:e=byD (ba k++bd ((an k).map (a8 (cR c))++((l.length:Int)::(l.take i).flatMap lnL)))):e.length<=1000000:=by
 have h1:=fo k;have h2:=fk k;have h3:(bd ((an k).map (a8 (cR c))++((l.length:Int)::(l.take i).flatMap lnL))).length<=50*((an k).map (a8 (cR c))++((l.length:Int)::(l.take i).flatMap lnL)).length:=t_ fun n hn=>by
  simp only [Rn,Rp,List.mem_flatMap] at hn;rcases hn with hn|rfl|⟨x,hx,hn⟩
  ·obtain ⟨j,_,rfl⟩:=RS.1 hn;exact ub h j
  ·unfold InI;omega
  ·exact hl x (Sl hx) n hn
 have h4:=jr (l:=l) (i:=i);rw [Re,Rj,RI] at h3;rw [he,eG,Re];omega
theorem Et {k i:Int} {c:CmD} {l:List LnD} {e:List Int} {x:LnD} (he:e=byD (ba k++bd ((an k).map (a8 (cR c))++((l.length:Int)::(l.take i.toNat).flatMap lnL)))) (hi:0<=i) (hx:l[i.toNat]? =some x):
 e++byD (bd (lnL x))=byD (ba k++bd ((an k).map (a8 (cR c))++((l.length:Int)::(l.take (i+1).toNat).flatMap lnL))):=by
 rw [he,show (i+1).toNat=i.toNat+1 by omega,RD,hx];simp only [Option.toList_some,List.flatMap_append,List.flatMap_cons,List.flatMap_nil,RH,<-RP,<-RA,dw,kY]
def Eu (k a b c d:Int) (s p:Bool) (n m:Int) (l:List LnD):Env where
 P:=Tryz.prog
 ty:=aJ
 specs:=ai [bA,CD]
 zspecs:=rJ [le]
 upd:=bJ [py.upd,Pf.upd,L7.upd]
 frz:=fun|18=>true|_=>false
 sym:=fun|22=>true|39=>true|_=>false
 own:=fun|7=>true|_=>false
 heads:=fun
  |10=>some {slots:=[(33, .int .i64)],boxes:=[(7,[.own 7 62, .slc 9000 B8])],keep:=[1,5,6],inv:=fun _ (x:Int×Unit×List Int×Unit)=>0<=x.1/\x.1<=(an k).length/\x.2.2.1=byD (ba k++bd (((an k).map (a8 (cR (k,a,b,c,d,s,p,(n,m),l)))).take x.1.toNat)),measure:=fun _ (x:Int×Unit×List Int×Unit)=>((an k).length-x.1).toNat}
  |17=>some {slots:=[(56, .int .i64)],boxes:=[(7,[.own 7 62, .slc 9000 B8])],keep:=[1,5,6],inv:=fun _ (x:Int×Unit×List Int×Unit)=>0<=x.1/\x.1<=l.length/\x.2.2.1=byD (ba k++bd ((an k).map (a8 (cR (k,a,b,c,d,s,p,(n,m),l)))++((l.length:Int)::(l.take x.1.toNat).flatMap lnL))),measure:=fun _ (x:Int×Unit×List Int×Unit)=>(l.length-x.1).toNat}
  |_=>none
abbrev aX (k:Int):_root_.Go.Vm.Obj:=Obj.box [V.str ([[(101:UInt8),(110:UInt8),(116:UInt8),(105:UInt8),(116:UInt8),(121:UInt8)],[(97:UInt8),(99:UInt8),(99:UInt8),(111:UInt8),(117:UInt8),(110:UInt8),(116:UInt8)],[(109:UInt8),(111:UInt8),(118:UInt8),(101:UInt8)],[(111:UInt8),(119:UInt8),(110:UInt8)],[(114:UInt8),(97:UInt8),(116:UInt8),(101:UInt8)],[(108:UInt8),(111:UInt8),(99:UInt8),(107:UInt8)],[(112:UInt8),(111:UInt8),(115:UInt8),(116:UInt8)],[(114:UInt8),(101:UInt8),(118:UInt8),(101:UInt8),(114:UInt8),(115:UInt8),(101:UInt8)]][(k-(1:Int)).toNat]?.getD []),V.list LK.full (Ty.int IntKind.i64) ([[(0:Int)],[(0:Int),(1:Int),(4:Int),(5:Int)],[(0:Int),(1:Int)],[(0:Int),(1:Int),(2:Int),(3:Int)],[(0:Int),(1:Int),(2:Int),(3:Int),(6:Int),(7:Int)],[(0:Int),(1:Int)],[(0:Int)],[(0:Int),(1:Int)]][(k-(1:Int)).toNat]?.getD [])]
abbrev aY (k:Int) (a:Int) (b:Int) (c:Int) (d:Int) (s:Bool) (p:Bool) (n:Int) (m:Int) (l:List LnD):_root_.Go.Vm.Obj:=Obj.box [V.int IntKind.i64 k,V.int IntKind.i64 a,V.int IntKind.i64 b,V.int IntKind.i64 c,V.int IntKind.i64 d,V.bool s,V.bool p,V.int IntKind.i64 n,V.int IntKind.i64 m,V.list LK.tmp Ln l]
abbrev aZ (a:Int) (b:Int) (c:Int) (d:Int) (s:Bool) (p:Bool) (n:Int) (m:Int):_root_.Go.Vm.Obj:=Obj.box [V.int IntKind.i64 a,V.int IntKind.i64 b,V.int IntKind.i64 c,V.int IntKind.i64 d,V.int IntKind.i64 (dh s),V.int IntKind.i64 (dh p),V.int IntKind.i64 n,V.int IntKind.i64 m]
def pI (k:Int) (a:Int) (b:Int) (c:Int) (d:Int) (s:Bool) (p:Bool) (n:Int) (m:Int) (l:List LnD):Prop:=
 True/\((!decide (ah (k,a,b,c,d,s,p,(n,m),l)=(0:Int)))=true->([],ah (k,a,b,c,d,s,p,(n,m),l),())=((bU (k,a,b,c,d,s,p,(n,m),l)).1,(bU (k,a,b,c,d,s,p,(n,m),l)).2,()))/\((!decide (ah (k,a,b,c,d,s,p,(n,m),l)=(0:Int)))=false->True/\(au (k-(1:Int)))/\(0<=k-(1:Int)/\k-(1:Int)<(↑(8:Nat):Int))/\True/\([[(101:UInt8),(110:UInt8),(116:UInt8),(105:UInt8),(116:UInt8),(121:UInt8)],[(97:UInt8),(99:UInt8),(99:UInt8),(111:UInt8),(117:UInt8),(110:UInt8),(116:UInt8)],[(109:UInt8),(111:UInt8),(118:UInt8),(101:UInt8)],[(111:UInt8),(119:UInt8),(110:UInt8)],[(114:UInt8),(97:UInt8),(116:UInt8),(101:UInt8)],[(108:UInt8),(111:UInt8),(99:UInt8),(107:UInt8)],[(112:UInt8),(111:UInt8),(115:UInt8),(116:UInt8)],[(114:UInt8),(101:UInt8),(118:UInt8),(101:UInt8),(114:UInt8),(115:UInt8),(101:UInt8)]][(k-(1:Int)).toNat]?.getD []).length<=(100000000:Nat)/\((some (aY k a b c d s p n m l)=some (aY k a b c d s p n m l)/\some (aX k)=some (aX k)/\some (aZ a b c d s p n m)=some (aZ a b c d s p n m)/\True)/\0<=(0:Int)/\0<=(↑(an k).length:Int)/\byD ([[(101:UInt8),(110:UInt8),(116:UInt8),(105:UInt8),(116:UInt8),(121:UInt8)],[(97:UInt8),(99:UInt8),(99:UInt8),(111:UInt8),(117:UInt8),(110:UInt8),(116:UInt8)],[(109:UInt8),(111:UInt8),(118:UInt8),(101:UInt8)],[(111:UInt8),(119:UInt8),(110:UInt8)],[(114:UInt8),(97:UInt8),(116:UInt8),(101:UInt8)],[(108:UInt8),(111:UInt8),(99:UInt8),(107:UInt8)],[(112:UInt8),(111:UInt8),(115:UInt8),(116:UInt8)],[(114:UInt8),(101:UInt8),(118:UInt8),(101:UInt8),(114:UInt8),(115:UInt8),(101:UInt8)]][(k-(1:Int)).toNat]?.getD [])=byD (ba k++bd (List.take (Int.toNat 0) (List.map (a8 (cR (k,a,b,c,d,s,p,(n,m),l))) (an k)))))/\∀(x:Int×Unit×List Int×Unit),0<=x.1/\x.1<=(↑(an k).length:Int)/\x.2.2.1=byD (ba k++bd (List.take x.1.toNat (List.map (a8 (cR (k,a,b,c,d,s,p,(n,m),l))) (an k))))->(ag (x.1<(↑([[(0:Int)],[(0:Int),(1:Int),(4:Int),(5:Int)],[(0:Int),(1:Int)],[(0:Int),(1:Int),(2:Int),(3:Int)],[(0:Int),(1:Int),(2:Int),(3:Int),(6:Int),(7:Int)],[(0:Int),(1:Int)],[(0:Int)],[(0:Int),(1:Int)]][(k-(1:Int)).toNat]?.getD []).length:Int))->(0<=x.1/\x.1<(↑([[(0:Int)],[(0:Int),(1:Int),(4:Int),(5:Int)],[(0:Int),(1:Int)],[(0:Int),(1:Int),(2:Int),(3:Int)],[(0:Int),(1:Int),(2:Int),(3:Int),(6:Int),(7:Int)],[(0:Int),(1:Int)],[(0:Int)],[(0:Int),(1:Int)]][(k-(1:Int)).toNat]?.getD []).length:Int))/\∀(x_1:Int),([[(0:Int)],[(0:Int),(1:Int),(4:Int),(5:Int)],[(0:Int),(1:Int)],[(0:Int),(1:Int),(2:Int),(3:Int)],[(0:Int),(1:Int),(2:Int),(3:Int),(6:Int),(7:Int)],[(0:Int),(1:Int)],[(0:Int)],[(0:Int),(1:Int)]][(k-(1:Int)).toNat]?.getD [])[x.1.toNat]? =some x_1->(0<=x_1/\x_1<(↑(8:Nat):Int))/\(x_1=(↑(0:Nat):Int)->((∀(n:Int),n∈[a]->InI n)/\(1:Nat)<=(1000:Nat)/\x.2.2.1.length<=(1000000:Nat))/\(au (x.1+1))/\(some (aY k a b c d s p n m l)=some (aY k a b c d s p n m l)/\some (aX k)=some (aX k)/\some (aZ a b c d s p n m)=some (aZ a b c d s p n m)/\True)/\(0<=x.1+1/\x.1+1<=(↑(an k).length:Int)/\x.2.2.1++byD (bd [a])=byD (ba k++bd (List.take (x.1+1).toNat (List.map (a8 (cR (k,a,b,c,d,s,p,(n,m),l))) (an k)))))/\((↑(an k).length:Int)-(x.1+1)).toNat<((↑(an k).length:Int)-x.1).toNat)/\(x_1=(↑(1:Nat):Int)->((∀(n:Int),n∈[b]->InI n)/\(1:Nat)<=(1000:Nat)/\x.2.2.1.length<=(1000000:Nat))/\(au (x.1+1))/\(some (aY k a b c d s p n m l)=some (aY k a b c d s p n m l)/\some (aX k)=some (aX k)/\some (aZ a b c d s p n m)=some (aZ a b c d s p n m)/\True)/\(0<=x.1+1/\x.1+1<=(↑(an k).length:Int)/\x.2.2.1++byD (bd [b])=byD (ba k++bd (List.take (x.1+1).toNat (List.map (a8 (cR (k,a,b,c,d,s,p,(n,m),l))) (an k)))))/\((↑(an k).length:Int)-(x.1+1)).toNat<((↑(an k).length:Int)-x.1).toNat)/\(x_1=(↑(2:Nat):Int)->((∀(n:Int),n∈[c]->InI n)/\(1:Nat)<=(1000:Nat)/\x.2.2.1.length<=(1000000:Nat))/\(au (x.1+1))/\(some (aY k a b c d s p n m l)=some (aY k a b c d s p n m l)/\some (aX k)=some (aX k)/\some (aZ a b c d s p n m)=some (aZ a b c d s p n m)/\True)/\(0<=x.1+1/\x.1+1<=(↑(an k).length:Int)/\x.2.2.1++byD (bd [c])=byD (ba k++bd (List.take (x.1+1).toNat (List.map (a8 (cR (k,a,b,c,d,s,p,(n,m),l))) (an k)))))/\((↑(an k).length:Int)-(x.1+1)).toNat<((↑(an k).length:Int)-x.1).toNat)/\(x_1=(↑(3:Nat):Int)->((∀(n:Int),n∈[d]->InI n)/\(1:Nat)<=(1000:Nat)/\x.2.2.1.length<=(1000000:Nat))/\(au (x.1+1))/\(some (aY k a b c d s p n m l)=some (aY k a b c d s p n m l)/\some (aX k)=some (aX k)/\some (aZ a b c d s p n m)=some (aZ a b c d s p n m)/\True)/\(0<=x.1+1/\x.1+1<=(↑(an k).length:Int)/\x.2.2.1++byD (bd [d])=byD (ba k++bd (List.take (x.1+1).toNat (List.map (a8 (cR (k,a,b,c,d,s,p,(n,m),l))) (an k)))))/\((↑(an k).length:Int)-(x.1+1)).toNat<((↑(an k).length:Int)-x.1).toNat)/\(x_1=(↑(4:Nat):Int)->((∀(n:Int),n∈[dh s]->InI n)/\(1:Nat)<=(1000:Nat)/\x.2.2.1.length<=(1000000:Nat))/\(au (x.1+1))/\(some (aY k a b c d s p n m l)=some (aY k a b c d s p n m l)/\some (aX k)=some (aX k)/\some (aZ a b c d s p n m)=some (aZ a b c d s p n m)/\True)/\(0<=x.1+1/\x.1+1<=(↑(an k).length:Int)/\x.2.2.1++byD (bd [dh s])=byD (ba k++bd (List.take (x.1+1).toNat (List.map (a8 (cR (k,a,b,c,d,s,p,(n,m),l))) (an k)))))/\((↑(an k).length:Int)-(x.1+1)).toNat<((↑(an k).length:Int)-x.1).toNat)/\(x_1=(↑(5:Nat):Int)->((∀(n:Int),n∈[dh p]->InI n)/\(1:Nat)<=(1000:Nat)/\x.2.2.1.length<=(1000000:Nat))/\(au (x.1+1))/\(some (aY k a b c d s p n m l)=some (aY k a b c d s p n m l)/\some (aX k)=some (aX k)/\some (aZ a b c d s p n m)=some (aZ a b c d s p n m)/\True)/\(0<=x.1+1/\x.1+1<=(↑(an k).length:Int)/\x.2.2.1++byD (bd [dh p])=byD (ba k++bd (List.take (x.1+1).toNat (List.map (a8 (cR (k,a,b,c,d,s,p,(n,m),l))) (an k)))))/\((↑(an k).length:Int)-(x.1+1)).toNat<((↑(an k).length:Int)-x.1).toNat)/\(x_1=(↑(6:Nat):Int)->((∀(n_1:Int),n_1∈[n]->InI n_1)/\(1:Nat)<=(1000:Nat)/\x.2.2.1.length<=(1000000:Nat))/\(au (x.1+1))/\(some (aY k a b c d s p n m l)=some (aY k a b c d s p n m l)/\some (aX k)=some (aX k)/\some (aZ a b c d s p n m)=some (aZ a b c d s p n m)/\True)/\(0<=x.1+1/\x.1+1<=(↑(an k).length:Int)/\x.2.2.1++byD (bd [n])=byD (ba k++bd (List.take (x.1+1).toNat (List.map (a8 (cR (k,a,b,c,d,s,p,(n,m),l))) (an k)))))/\((↑(an k).length:Int)-(x.1+1)).toNat<((↑(an k).length:Int)-x.1).toNat)/\(x_1=(↑(7:Nat):Int)->((∀(n:Int),n∈[m]->InI n)/\(1:Nat)<=(1000:Nat)/\x.2.2.1.length<=(1000000:Nat))/\(au (x.1+1))/\(some (aY k a b c d s p n m l)=some (aY k a b c d s p n m l)/\some (aX k)=some (aX k)/\some (aZ a b c d s p n m)=some (aZ a b c d s p n m)/\True)/\(0<=x.1+1/\x.1+1<=(↑(an k).length:Int)/\x.2.2.1++byD (bd [m])=byD (ba k++bd (List.take (x.1+1).toNat (List.map (a8 (cR (k,a,b,c,d,s,p,(n,m),l))) (an k)))))/\((↑(an k).length:Int)-(x.1+1)).toNat<((↑(an k).length:Int)-x.1).toNat)/\True)/\(aj (x.1<(↑([[(0:Int)],[(0:Int),(1:Int),(4:Int),(5:Int)],[(0:Int),(1:Int)],[(0:Int),(1:Int),(2:Int),(3:Int)],[(0:Int),(1:Int),(2:Int),(3:Int),(6:Int),(7:Int)],[(0:Int),(1:Int)],[(0:Int)],[(0:Int),(1:Int)]][(k-(1:Int)).toNat]?.getD []).length:Int))->(ag (k=7)->((∀(n:Int),n∈[(↑l.length:Int)]->InI n)/\(1:Nat)<=(1000:Nat)/\x.2.2.1.length<=(1000000:Nat))/\((some (aY k a b c d s p n m l)=some (aY k a b c d s p n m l)/\some (aX k)=some (aX k)/\some (aZ a b c d s p n m)=some (aZ a b c d s p n m)/\True)/\0<=(0:Int)/\0<=(↑l.length:Int)/\x.2.2.1++byD (bd [(↑l.length:Int)])=byD (ba k++bd (List.map (a8 (cR (k,a,b,c,d,s,p,(n,m),l))) (an k)++(↑l.length:Int)::List.flatMap lnL (List.take (Int.toNat 0) l))))/\∀(x:Int×Unit×List Int×Unit),0<=x.1/\x.1<=l.length/\x.2.2.1=byD (ba k++bd (List.map (a8 (cR (k,a,b,c,d,s,p,(n,m),l))) (an k)++(↑l.length:Int)::List.flatMap lnL (List.take x.1.toNat l)))->(ag (x.1<l.length)->(0<=x.1/\x.1<l.length)/\∀(x_1:Int×Int×Int×Int),l[x.1.toNat]? =some x_1->((∀(n:Int),n∈[x_1.1,x_1.2.1,x_1.2.2.1,x_1.2.2.2]->InI n)/\(4:Nat)<=(1000:Nat)/\x.2.2.1.length<=(1000000:Nat))/\(au (x.1+1))/\(some (aY k a b c d s p n m l)=some (aY k a b c d s p n m l)/\some (aX k)=some (aX k)/\some (aZ a b c d s p n m)=some (aZ a b c d s p n m)/\True)/\(0<=x.1+1/\x.1+1<=l.length/\x.2.2.1++byD (bd [x_1.1,x_1.2.1,x_1.2.2.1,x_1.2.2.2])=byD (ba k++bd (List.map (a8 (cR (k,a,b,c,d,s,p,(n,m),l))) (an k)++(↑l.length:Int)::List.flatMap lnL (List.take (x.1+1).toNat l))))/\(l.length-(x.1+1)).toNat<(l.length-x.1).toNat)/\(aj (x.1<l.length)->((0:Nat)<x.2.2.1.length/\∀(z:Int),z∈x.2.2.1->0<=z/\z<=255)/\(List.map (fun z=>z.toNat.toUInt8) x.2.2.1,(0:Int),())=((bU (k,a,b,c,d,s,p,(n,m),l)).1,(bU (k,a,b,c,d,s,p,(n,m),l)).2,())))/\(aj (k=7)->((0:Nat)<x.2.2.1.length/\∀(z:Int),z∈x.2.2.1->0<=z/\z<=255)/\(List.map (fun z=>z.toNat.toUInt8) x.2.2.1,(0:Int),())=((bU (k,a,b,c,d,s,p,(n,m),l)).1,(bU (k,a,b,c,d,s,p,(n,m),l)).2,()))))
theorem zE (k a b c d:Int) (s p:Bool) (n m:Int) (l:List LnD) (h:InC (k,a,b,c,d,s,p,(n,m),l)):pI k a b c d s p n m l:=by
 unfold pI aj ag;have hp:([[(0:Int)],[0,1,4,5],[0,1],[0,1,2,3],[0,1,2,3,6,7],[0,1],[0],[0,1]][(k-1).toNat]?.getD [])=an k:=rfl;have hw:([[(101:UInt8),110,116,105,116,121],[97,99,99,111,117,110,116],[109,111,118,101],[111,119,110],[114,97,116,101],[108,111,99,107],[112,111,115,116],[114,101,118,101,114,115,101]][(k-1).toNat]?.getD [])=ba k:=rfl;simp only [Q7,Q6,Rb,Rd,Rl,Rg,hp,hw];clear hp hw;have hpi: ∀{i:Nat} {x:Int},(an k)[i]? =some x->0<=x/\x<8:=fun e=>lc (Rr e);have hpl:=fk k;have hwl:=fo k;have hall:InI a/\InI b/\InI c/\InI d/\InI (dh s)/\InI (dh p)/\InI n/\InI m:=by simpa [cR] using h.1
 obtain ⟨ha,hb,hc,hd,hs,hpp,hn,hm⟩:=hall;have h1: ∀{v:Int},InI v->∀n:Int,n∈[v]->InI n:=fun hv n hn=>by rw [Ru.1 hn];exact hv
 have hK:ah (k,a,b,c,d,s,p,(n,m),l)=0->1<=k/\k<=8/\l.length<=50:=fun e=>wH e;repeat' (first|with_reducible apply And.intro|intro _)
 all_goals try (first|trivial|rfl|omega)
 all_goals try (rename_i _ hx;first|exact h1 ha _ hx|exact h1 hb _ hx|exact h1 hc _ hx|exact h1 hd _ hx|exact h1 hs _ hx|exact h1 hpp _ hx|exact h1 hn _ hx|exact h1 hm _ hx)
 all_goals try (rename_i x hx _ _ hi hj;exact HU hx.2.2 hx.1 hi (by rw [hj];rfl))
 all_goals try (rename_i x _ hx;have:=hpi hx;omega)
 all_goals try (rename_i x hx _ _ _ _;exact CE h hx.2.2)
 ·rename_i e;unfold bU;rw [Q8 e]
 ·simp [bd]
 ·rename_i e _ _ _ _ _ hx;have:=hK e;rw [Ru.1 hx];unfold InI;omega
 ·rename_i hx _ _;exact CE h hx.2.2
 ·rename_i x hx _ _;rw [hx.2.2,Rh (by rw [RI];omega),<-kY,RA,<-dw];rfl
 ·rename_i hx _ hn;exact h.2 _ (Rr hx) _ hn
 ·rename_i e _ _ _ _ _ hx _ _ _;exact HV h h.2 (hK e).2.2 hx.2.2
 ·rename_i x hx _ x1 hx1;exact Et hx.2.2 hx.1 hx1
 ·rename_i e _ _ _ _ x hx _;rw [hx.2.2,eG,Re];have:=sm (hK e).1 (hK e).2.1;omega
 ·rename_i hx _ z hz;rw [hx.2.2] at hz;exact (pu _ z hz).1
 ·rename_i hx _ z hz;rw [hx.2.2] at hz;exact (pu _ z hz).2
 ·rename_i e _ _ _ hk x hx _;have:=mq (gE (k,a,b,c,d,s,p,(n,m),l));unfold bU;rw [Q_ e,hx.2.2,Rh (l:=l) (by omega)];unfold fA at this;rw [<-this];unfold gE nH;simp only [Q_ hk];rfl
 ·rename_i e x hx _ _;rw [hx.2.2,eG,Re];have:=sm (hK e).1 (hK e).2.1;omega
 ·rename_i hx _ _ z hz;rw [hx.2.2] at hz;exact (pu _ z hz).1
 ·rename_i hx _ _ z hz;rw [hx.2.2] at hz;exact (pu _ z hz).2
 ·rename_i e x hx _ hk;have:=mq (gE (k,a,b,c,d,s,p,(n,m),l));unfold bU;rw [Q_ e,hx.2.2,Rh (by rw [RI];omega)];unfold fA at this;rw [<-this];unfold gE nH;simp only [Q8 hk,RH]
set_option maxRecDepth 20000
def HW:FSpec Tryz.prog:=mkF 48 (.c (.g (.c .j (.c .j (.c .j (.c .j (.c .j (.c .b (.c .b (.c .j (.c .j (.c (.l Ln) .z))))))))))) .z) [.str, .int .i64] (fun x=>(fun (k a b c d:Int) (s p:Bool) (n m:Int) (l:List LnD)=>(InC (k,a,b,c,d,s,p,(n,m),l),(bU (k,a,b,c,d,s,p,(n,m),l)).1,(bU (k,a,b,c,d,s,p,(n,m),l)).2,())) x.1.1 x.1.2.1 x.1.2.2.1 x.1.2.2.2.1 x.1.2.2.2.2.1 x.1.2.2.2.2.2.1 x.1.2.2.2.2.2.2.1 x.1.2.2.2.2.2.2.2.1 x.1.2.2.2.2.2.2.2.2.1 x.1.2.2.2.2.2.2.2.2.2.1) fun ⟨⟨k,a,b,c,d,s,p,n,m,l,_⟩,_⟩ h=>av (E:=Eu k a b c d s p n m l) (zE k a b c d s p n m l h) (fm rfl _ _ [] _ rfl rfl rfl rfl) Tryz.func48
end Cm
end
section
namespace Cm
open Go.Vm
def cE (s:By):List Int->Int->Int×Int×Int
 |[],w=>(0,0,w)
 |k::r,w=>if (aO s 0 (ba k)).2=0 then (k,(aO s 0 (ba k)).1,0) else cE s r (if (aO s 0 (ba k)).2=4 then 4 else w)
def kinds:List Int:=[1,2,3,4,5,6,7,8]
def ac (s:By):Int×Int×Int:=cE s kinds 8
theorem wI {i:Nat} (h:i<8):kinds.drop i=(i+1:Int)::kinds.drop (i+1):=by
 match i,h with
 |0,_|1,_|2,_|3,_|4,_|5,_|6,_|7,_=>rfl
def HX (s:By):Env where
 P:=Tryz.prog
 ty:=aJ
 specs:=ai [uc]
 zspecs:=rJ [le]
 frz:=fun|10=>true|_=>false
 sym:=fun|15=>true|_=>false
 heads:=fun
  |3=>some {slots:=[(5, .int .i64),(12, .int .i64)],boxes:=[],keep:=[],inv:=fun _ (x:Int×Int×Unit)=>0<=x.2.1/\x.2.1<=8/\ac s=cE s (kinds.drop x.2.1.toNat) x.1,measure:=fun _ (x:Int×Int×Unit)=>(8-x.2.1).toNat}
  |_=>none
def sn (s:By):Prop:=
 True/\(True/\0<=(0:Int)/\0<=(8:Int)/\ac s=cE s (List.drop (Int.toNat 0) kinds) 8)/\∀(x:Int×Int×Unit),0<=x.2.1/\x.2.1<=8/\ac s=cE s (List.drop x.2.1.toNat kinds) x.1->(ag (x.2.1<(↑(8:Nat):Int))->(0<=x.2.1/\x.2.1<(↑(8:Nat):Int))/\(List.length s<=(1000000:Nat)/\([[(101:UInt8),(110:UInt8),(116:UInt8),(105:UInt8),(116:UInt8),(121:UInt8)],[(97:UInt8),(99:UInt8),(99:UInt8),(111:UInt8),(117:UInt8),(110:UInt8),(116:UInt8)],[(109:UInt8),(111:UInt8),(118:UInt8),(101:UInt8)],[(111:UInt8),(119:UInt8),(110:UInt8)],[(114:UInt8),(97:UInt8),(116:UInt8),(101:UInt8)],[(108:UInt8),(111:UInt8),(99:UInt8),(107:UInt8)],[(112:UInt8),(111:UInt8),(115:UInt8),(116:UInt8)],[(114:UInt8),(101:UInt8),(118:UInt8),(101:UInt8),(114:UInt8),(115:UInt8),(101:UInt8)]][x.2.1.toNat]?.getD []).length<=(1000000:Nat))/\(ag ((aO s 0 ([[(101:UInt8),(110:UInt8),(116:UInt8),(105:UInt8),(116:UInt8),(121:UInt8)],[(97:UInt8),(99:UInt8),(99:UInt8),(111:UInt8),(117:UInt8),(110:UInt8),(116:UInt8)],[(109:UInt8),(111:UInt8),(118:UInt8),(101:UInt8)],[(111:UInt8),(119:UInt8),(110:UInt8)],[(114:UInt8),(97:UInt8),(116:UInt8),(101:UInt8)],[(108:UInt8),(111:UInt8),(99:UInt8),(107:UInt8)],[(112:UInt8),(111:UInt8),(115:UInt8),(116:UInt8)],[(114:UInt8),(101:UInt8),(118:UInt8),(101:UInt8),(114:UInt8),(115:UInt8),(101:UInt8)]][x.2.1.toNat]?.getD [])).2=0)->(au (x.2.1+1))/\(x.2.1+1,(aO s 0 ([[(101:UInt8),(110:UInt8),(116:UInt8),(105:UInt8),(116:UInt8),(121:UInt8)],[(97:UInt8),(99:UInt8),(99:UInt8),(111:UInt8),(117:UInt8),(110:UInt8),(116:UInt8)],[(109:UInt8),(111:UInt8),(118:UInt8),(101:UInt8)],[(111:UInt8),(119:UInt8),(110:UInt8)],[(114:UInt8),(97:UInt8),(116:UInt8),(101:UInt8)],[(108:UInt8),(111:UInt8),(99:UInt8),(107:UInt8)],[(112:UInt8),(111:UInt8),(115:UInt8),(116:UInt8)],[(114:UInt8),(101:UInt8),(118:UInt8),(101:UInt8),(114:UInt8),(115:UInt8),(101:UInt8)]][x.2.1.toNat]?.getD [])).1,(0:Int),())=((ac s).1,(ac s).2.1,(ac s).2.2,()))/\(aj ((aO s 0 ([[(101:UInt8),(110:UInt8),(116:UInt8),(105:UInt8),(116:UInt8),(121:UInt8)],[(97:UInt8),(99:UInt8),(99:UInt8),(111:UInt8),(117:UInt8),(110:UInt8),(116:UInt8)],[(109:UInt8),(111:UInt8),(118:UInt8),(101:UInt8)],[(111:UInt8),(119:UInt8),(110:UInt8)],[(114:UInt8),(97:UInt8),(116:UInt8),(101:UInt8)],[(108:UInt8),(111:UInt8),(99:UInt8),(107:UInt8)],[(112:UInt8),(111:UInt8),(115:UInt8),(116:UInt8)],[(114:UInt8),(101:UInt8),(118:UInt8),(101:UInt8),(114:UInt8),(115:UInt8),(101:UInt8)]][x.2.1.toNat]?.getD [])).2=0)->(ag ((aO s 0 ([[(101:UInt8),(110:UInt8),(116:UInt8),(105:UInt8),(116:UInt8),(121:UInt8)],[(97:UInt8),(99:UInt8),(99:UInt8),(111:UInt8),(117:UInt8),(110:UInt8),(116:UInt8)],[(109:UInt8),(111:UInt8),(118:UInt8),(101:UInt8)],[(111:UInt8),(119:UInt8),(110:UInt8)],[(114:UInt8),(97:UInt8),(116:UInt8),(101:UInt8)],[(108:UInt8),(111:UInt8),(99:UInt8),(107:UInt8)],[(112:UInt8),(111:UInt8),(115:UInt8),(116:UInt8)],[(114:UInt8),(101:UInt8),(118:UInt8),(101:UInt8),(114:UInt8),(115:UInt8),(101:UInt8)]][x.2.1.toNat]?.getD [])).2=4)->(au (x.2.1+1))/\True/\(0<=x.2.1+1/\x.2.1+1<=8/\ac s=cE s (List.drop (x.2.1+1).toNat kinds) (aO s 0 ([[(101:UInt8),(110:UInt8),(116:UInt8),(105:UInt8),(116:UInt8),(121:UInt8)],[(97:UInt8),(99:UInt8),(99:UInt8),(111:UInt8),(117:UInt8),(110:UInt8),(116:UInt8)],[(109:UInt8),(111:UInt8),(118:UInt8),(101:UInt8)],[(111:UInt8),(119:UInt8),(110:UInt8)],[(114:UInt8),(97:UInt8),(116:UInt8),(101:UInt8)],[(108:UInt8),(111:UInt8),(99:UInt8),(107:UInt8)],[(112:UInt8),(111:UInt8),(115:UInt8),(116:UInt8)],[(114:UInt8),(101:UInt8),(118:UInt8),(101:UInt8),(114:UInt8),(115:UInt8),(101:UInt8)]][x.2.1.toNat]?.getD [])).2)/\((8:Int)-(x.2.1+1)).toNat<((8:Int)-x.2.1).toNat)/\(aj ((aO s 0 ([[(101:UInt8),(110:UInt8),(116:UInt8),(105:UInt8),(116:UInt8),(121:UInt8)],[(97:UInt8),(99:UInt8),(99:UInt8),(111:UInt8),(117:UInt8),(110:UInt8),(116:UInt8)],[(109:UInt8),(111:UInt8),(118:UInt8),(101:UInt8)],[(111:UInt8),(119:UInt8),(110:UInt8)],[(114:UInt8),(97:UInt8),(116:UInt8),(101:UInt8)],[(108:UInt8),(111:UInt8),(99:UInt8),(107:UInt8)],[(112:UInt8),(111:UInt8),(115:UInt8),(116:UInt8)],[(114:UInt8),(101:UInt8),(118:UInt8),(101:UInt8),(114:UInt8),(115:UInt8),(101:UInt8)]][x.2.1.toNat]?.getD [])).2=4)->(au (x.2.1+1))/\True/\(0<=x.2.1+1/\x.2.1+1<=8/\ac s=cE s (List.drop (x.2.1+1).toNat kinds) x.1)/\((8:Int)-(x.2.1+1)).toNat<((8:Int)-x.2.1).toNat)))/\(aj (x.2.1<(↑(8:Nat):Int))->((0:Int),(0:Int),x.1,())=((ac s).1,(ac s).2.1,(ac s).2.2,()))
theorem Ev (s:By) (h:s.length<=10000):sn s:=by
 unfold sn aj ag;have hw: ∀j:Int,([[(101:UInt8),110,116,105,116,121],[97,99,99,111,117,110,116],[109,111,118,101],[111,119,110],[114,97,116,101],[108,111,99,107],[112,111,115,116],[114,101,118,101,114,115,101]][j.toNat]?.getD [])=ba (j+1):=fun j=>by
  unfold ba;rw [Int.add_sub_cancel];rfl
 simp only [Q7,Q6,Rb,Rd,Rl,Rg,hw];have step: ∀x:Int×Int×Unit,0<=x.2.1->x.2.1<8->ac s=cE s (kinds.drop x.2.1.toNat) x.1->ac s=if (aO s 0 (ba (x.2.1+1))).2=0 then (x.2.1+1,(aO s 0 (ba (x.2.1+1))).1,0) else cE s (kinds.drop (x.2.1+1).toNat) (if (aO s 0 (ba (x.2.1+1))).2=4 then 4 else x.1):=fun x h0 h1 hx=>by
  rw [hx,wI (by omega:x.2.1.toNat<8),show (x.2.1+1).toNat=x.2.1.toNat+1 by omega,show ((x.2.1.toNat:Nat):Int)=x.2.1 by omega];rfl
 repeat' (first|with_reducible apply And.intro|intro _)
 all_goals try (first|trivial|rfl|omega)
 ·rename_i x _ _;have:=fo (x.2.1+1);omega
 ·rename_i x hx h8 e;rw [step x hx.1 h8 hx.2.2,Q_ e]
 ·rename_i x hx h8 e e4;rw [step x hx.1 h8 hx.2.2,Q8 e,Q_ e4,e4]
 ·rename_i x hx h8 e e4;rw [step x hx.1 h8 hx.2.2,Q8 e,Q8 e4]
 ·rename_i x hx h8;have h8: ¬x.2.1<8:=h8;rw [hx.2.2,show x.2.1.toNat=8 by omega];rfl
set_option maxRecDepth 20000
def Mg:FSpec Tryz.prog:=mkF 58 (.c .s .z) [.int .i64, .int .i64, .int .i64] (fun x=>(fun (s:By)=>(s.length<=10000,(ac s).1,(ac s).2.1,(ac s).2.2,())) x.1) fun ⟨s,_⟩ h=>av (E:=HX s) (Ev s h) (fm rfl _ [] [] _ rfl rfl rfl rfl) Tryz.func58
def am (s:By) (a e lo hi:Int):Int×Int×Int:=
 if e=0 then if (aO s a [32]).2=0 then aK s (aO s a [32]).1 lo hi else (0,(aO s a [32]).1,(aO s a [32]).2) else (0,a,e)
def zF (s:By) (a e lo hi:Int):Env where
 P:=Tryz.prog
 ty:=aJ
 specs:=ai [uc,zG]
 frz:=fun|24=>true|49=>true|_=>false
 pins:=[9000]
abbrev zH:Ann:={slots:=bB 0 [.int .i64],boxes:=[(9000,[.str, .int .i64, .int .i64])],inv:=fun _ _=>True}
def iW (s:By) (a:Int) (e:Int) (lo:Int) (hi:Int):Prop:=
 (ag (e=0)->(List.length s<=(1000000:Nat)/\(1:Nat)<=(1000000:Nat))/\(ag ((aO s a [(32:UInt8)]).2=0)->List.length s<=(10000:Nat)/\True/\((aK s (aO s a [(32:UInt8)]).1 lo hi).1,s,(aK s (aO s a [(32:UInt8)]).1 lo hi).2.1,(aK s (aO s a [(32:UInt8)]).1 lo hi).2.2,())=((am s a e lo hi).1,s,(am s a e lo hi).2.1,(am s a e lo hi).2.2,()))/\(aj ((aO s a [(32:UInt8)]).2=0)->True/\((0:Int),s,(aO s a [(32:UInt8)]).1,(aO s a [(32:UInt8)]).2,())=((am s a e lo hi).1,s,(am s a e lo hi).2.1,(am s a e lo hi).2.2,())))/\(aj (e=0)->(ag (e=0)->List.length s<=(10000:Nat)/\True/\((aK s a lo hi).1,s,(aK s a lo hi).2.1,(aK s a lo hi).2.2,())=((am s a e lo hi).1,s,(am s a e lo hi).2.1,(am s a e lo hi).2.2,()))/\(aj (e=0)->True/\((0:Int),s,a,e,())=((am s a e lo hi).1,s,(am s a e lo hi).2.1,(am s a e lo hi).2.2,())))
theorem wJ (s:By) (a e lo hi:Int):dV (zF s a e lo hi) Tryz.f61 [.ptr 9000 0, .int .i64 lo, .int .i64 hi] [(9000, .box [.str s, .int .i64 a, .int .i64 e])] [none] zH ((am s a e lo hi).1,s,(am s a e lo hi).2.1,(am s a e lo hi).2.2,())=iW s a e lo hi:=by kernel_rfl
theorem wK (s:By) (a e lo hi:Int) (h:s.length<=10000):iW s a e lo hi:=by
 unfold iW aj ag am;simp only [Q7,Q6];repeat' (first|with_reducible apply And.intro|intro _)
 all_goals try (first|trivial|rfl|omega)
 ·rename_i e e1;rw [Q_ e,Q_ e1]
 ·rename_i e e1;rw [Q_ e,Q8 e1]
 ·rename_i e _;rw [Q8 e]
theorem zI (s:By) (a e lo hi:Int) (h:s.length<=10000):UpdC Tryz.prog 61 [.ptr 9000 0, .int .i64 lo, .int .i64 hi] [(9000, .box [.str s, .int .i64 a, .int .i64 e])] (.int .i64 (am s a e lo hi).1) [(9000, .box [.str s, .int .i64 (am s a e lo hi).2.1, .int .i64 (am s a e lo hi).2.2])]:=
 by have k:=UpdC.of_cond (wJ s a e lo hi) (wK s a e lo hi h) (ab rfl [uc,zG] [] rfl rfl) mixed Tryz.func61;exact k
def HY (s:By) (a e lo hi:Int):Prop×V×Store:=(s.length<=10000, .int .i64 (am s a e lo hi).1,[(9000, .box [.str s, .int .i64 (am s a e lo hi).2.1, .int .i64 (am s a e lo hi).2.2])])
def mA:OSpec Tryz.prog where
 f:=61
 run:=fun args σ=>match args,σ with
  |[.ptr 9000 0, .int .i64 lo, .int .i64 hi],[(9000, .box [.str s, .int .i64 a, .int .i64 e])]=>some (HY s a e lo hi)
  |_,_=>none
 ok:=fun args σ pre r σ' h hp=>by
  try dsimp only at h
  split at h
  ·rename_i lo hi s a e;exact eL h hp fun h=>(zI s a e lo hi h).weak (.cons (.refl _) (.cons (.refl _) (.cons (.refl _) .nil)))
  ·cases h
def ae (s:By) (a e:Int):Int×Int×Int:=am s a e (-9223372036854775808) 9223372036854775807
def Mh (s:By) (a e:Int):Env where
 P:=Tryz.prog
 ty:=aJ
 upd:=bJ [mA.upd]
 pins:=[9000]
abbrev Mi:Ann:={slots:=bB 0 [.int .i64],boxes:=[(9000,[.str, .int .i64, .int .i64])],inv:=fun _ _=>True}
def pJ (s:By) (a:Int) (e:Int):Prop:=
 List.length s<=(10000:Nat)/\True/\((am s a e (-9223372036854775808) 9223372036854775807).1,s,(am s a e (-9223372036854775808) 9223372036854775807).2.1,(am s a e (-9223372036854775808) 9223372036854775807).2.2,())=((ae s a e).1,s,(ae s a e).2.1,(ae s a e).2.2,())
theorem HZ (s:By) (a e:Int):dV (Mh s a e) Tryz.f59 [.ptr 9000 0] [(9000, .box [.str s, .int .i64 a, .int .i64 e])] [none] Mi ((ae s a e).1,s,(ae s a e).2.1,(ae s a e).2.2,())=pJ s a e:=by kernel_rfl
theorem H0 (s:By) (a e:Int) (h:s.length<=10000):pJ s a e:=by
 unfold pJ;exact ⟨h,trivial,rfl⟩
theorem Mj (s:By) (a e:Int) (h:s.length<=10000):UpdC Tryz.prog 59 [.ptr 9000 0] [(9000, .box [.str s, .int .i64 a, .int .i64 e])] (.int .i64 (ae s a e).1) [(9000, .box [.str s, .int .i64 (ae s a e).2.1, .int .i64 (ae s a e).2.2])]:=
 by have k:=UpdC.of_cond (HZ s a e) (H0 s a e h) (ab rfl [] [mA.upd] rfl rfl) mixed Tryz.func59;exact k
def QB (s:By) (a e:Int):Prop×V×Store:=(s.length<=10000, .int .i64 (ae s a e).1,[(9000, .box [.str s, .int .i64 (ae s a e).2.1, .int .i64 (ae s a e).2.2])])
def Ph:OSpec Tryz.prog where
 f:=59
 run:=fun args σ=>match args,σ with
  |[.ptr 9000 0],[(9000, .box [.str s, .int .i64 a, .int .i64 e])]=>some (QB s a e)
  |_,_=>none
 ok:=fun args σ pre r σ' h hp=>by
  try dsimp only at h
  split at h
  ·rename_i s a e;exact eL h hp fun h=>(Mj s a e h).weak (.cons (.refl _) .nil)
  ·cases h
end Cm
end
section
namespace Cm
open Go.Vm
def loF (j:Int):Int:=if j=4∨j=5 then 0 else -9223372036854775808
def hiF (j:Int):Int:=if j=4∨j=5 then 1 else 9223372036854775807
def aL (s:By):List Int->Int×Int×List Int->Int×Int×List Int
 |[],st=>st
 |j::r,st=>let x:=am s st.1 st.2.1 (loF j) (hiF j);aL s r (x.2.1,x.2.2,st.2.2.set j.toNat x.1)
def bG (s:By):Nat->Int×Int×List LnD->Int×Int×List LnD
 |0,st=>st
 |n+1,st=>
  let a:=ae s st.1 st.2.1
  let b:=ae s a.2.1 a.2.2
  let c:=ae s b.2.1 b.2.2
  let d:=ae s c.2.1 c.2.2
  bG s n (d.2.1,d.2.2,st.2.2++[(a.1,b.1,c.1,d.1)])
abbrev iU:List Int:=[0,0,0,0,0,0,0,0]
def wu:CmD:=(0,0,0,0,0,false,false,(0,0),[])
def mkC (k:Int) (l:List Int) (ls:List LnD):CmD:=(k,a8 l 0,a8 l 1,a8 l 2,a8 l 3,decide (a8 l 4=1),decide (a8 l 5=1),(a8 l 6,a8 l 7),ls)
def c_ (s:By) (k a e:Int):Int×Int×List LnD:=
 if k=7 then let x:=am s a e 0 50;bG s x.1.toNat (x.2.1,x.2.2,[]) else (a,e,[])
def P0 (s:By):Int×Int×List Int:=aL s (an (ac s).1) ((ac s).2.1,0,iU)
def hdC (s:By) (ls:List LnD):CmD:=mkC (ac s).1 (P0 s).2.2 ls
def N0 (s:By):Int×Int×Int:=am s (P0 s).1 (P0 s).2.1 0 50
def eU (s:By) (c:CmD) (a e:Int):CmD×Int:=if e=0 then if a<s.length then (wu,6) else (c,0) else (wu,e)
def ak (s:By):CmD×Int:=
 if (ac s).2.2=0 then
  let t:=c_ s (ac s).1 (P0 s).1 (P0 s).2.1
  eU s (hdC s t.2.2) t.1 t.2.1
 else (wu,(ac s).2.2)
theorem wL (s:By): ∀(l:List Int) (w:Int),(∀k∈l,1<=k/\k<=8)->w≠0->(cE s l w).2.2=0->1<=(cE s l w).1/\(cE s l w).1<=8
 |[],w,_,h,h2=>absurd h2 h
 |k::r,w,hl,h,h2=>by
  unfold cE at h2⊢;by_cases c:(aO s 0 (ba k)).2=0
  ·rw [Q_ c];exact hl k (by simp)
  ·rw [Q8 c] at h2⊢;refine wL s r _ (fun j hj=>hl j (by simp [hj])) ?_ h2;split
   ·decide
   ·exact h
theorem kZ {s:By} (h:(ac s).2.2=0):1<=(ac s).1/\(ac s).1<=8:=wL s kinds 8 (by simp [kinds]) (by decide) h
theorem pK {s:By} {L:List Int} {i j:Int} {a e:Int} {l:List Int} (h:P0 s=aL s (L.drop i.toNat) (a,e,l)) (hj:L[i.toNat]? =some j) (hi:0<=i):
 P0 s=aL s (L.drop (i+1).toNat) ((am s a e (loF j) (hiF j)).2.1,(am s a e (loF j) (hiF j)).2.2,l.set j.toNat (am s a e (loF j) (hiF j)).1):=by
 obtain ⟨hl,e⟩:=List.getElem?_eq_some_iff.1 hj;rw [h,Rw hl,e,show (i+1).toNat=i.toNat+1 by omega];rfl
theorem so (s:By) (a e:Int):0<=(am s a e 0 50).1/\(am s a e 0 50).1<=50:=by
 unfold am;split
 ·split
  ·by_cases h:(aK s (aO s a [32]).1 0 50).2.2=0
   ·have:=(mw h).2.2.1;exact this
   ·rw [(H1 h).1];decide
  ·dsimp only;decide
 ·dsimp only;decide
theorem Pi {s:By} {i:Int} {a e:Int} {l:List Int} (h:P0 s=aL s ((an (ac s).1).drop i.toNat) (a,e,l)) (hi: ¬i<(an (ac s).1).length) (h0:0<=i):P0 s=(a,e,l):=by
 rw [h,List.drop_eq_nil_of_le (by omega)];rfl
theorem zz {s:By} (h: ¬(ac s).2.2=0):ak s=(wu,(ac s).2.2):=Q8 h
theorem dg {s:By} (h:(ac s).2.2=0) {t:Int×Int×List LnD} (ht:c_ s (ac s).1 (P0 s).1 (P0 s).2.1=t):ak s=eU s (hdC s t.2.2) t.1 t.2.1:=by
 subst ht;exact Q_ h
theorem Ew {s:By} {n:Nat} {i:Int} {a e:Int} {ls:List LnD} (h0:0<=i) (h:i<n):
 bG s (n-i.toNat) (a,e,ls)=bG s (n-(i+1).toNat) ((ae s (ae s (ae s (ae s a e).2.1 (ae s a e).2.2).2.1 (ae s (ae s a e).2.1 (ae s a e).2.2).2.2).2.1 (ae s (ae s (ae s a e).2.1 (ae s a e).2.2).2.1 (ae s (ae s a e).2.1 (ae s a e).2.2).2.2).2.2).2.1,
  (ae s (ae s (ae s (ae s a e).2.1 (ae s a e).2.2).2.1 (ae s (ae s a e).2.1 (ae s a e).2.2).2.2).2.1 (ae s (ae s (ae s a e).2.1 (ae s a e).2.2).2.1 (ae s (ae s a e).2.1 (ae s a e).2.2).2.2).2.2).2.2,
  ls++[((ae s a e).1,(ae s (ae s a e).2.1 (ae s a e).2.2).1,(ae s (ae s (ae s a e).2.1 (ae s a e).2.2).2.1 (ae s (ae s a e).2.1 (ae s a e).2.2).2.2).1,(ae s (ae s (ae s (ae s a e).2.1 (ae s a e).2.2).2.1 (ae s (ae s a e).2.1 (ae s a e).2.2).2.2).2.1 (ae s (ae s (ae s a e).2.1 (ae s a e).2.2).2.1 (ae s (ae s a e).2.1 (ae s a e).2.2).2.2).2.2).1)]):=by
 rw [show n-i.toNat=(n-(i+1).toNat)+1 by omega];rfl
theorem pL {s:By} {i a e:Int} {ls:List LnD} (h7:(ac s).1=7) (gt:bG s (N0 s).1.toNat ((N0 s).2.1,(N0 s).2.2,[])=bG s ((N0 s).1.toNat-i.toNat) (a,e,ls)) (hlt: ¬i<(N0 s).1) (g1:i<=(N0 s).1):
 c_ s (ac s).1 (P0 s).1 (P0 s).2.1=(a,e,ls):=by
 unfold c_;rw [Q_ h7];show bG s (N0 s).1.toNat ((N0 s).2.1,(N0 s).2.2,[])=_;rw [gt,show (N0 s).1.toNat-i.toNat=0 by omega];rfl
theorem ud {s:By} {a e:Int} {l:List Int} (h7: ¬(ac s).1=7) (h:P0 s=(a,e,l)):c_ s (ac s).1 (P0 s).1 (P0 s).2.1=(a,e,[]):=by
 unfold c_;rw [Q8 h7,h]
def zJ (s:By):Env where
 P:=Tryz.prog
 ty:=aJ
 specs:=ai [Mg]
 zspecs:=rJ [le]
 upd:=bJ [mA.upd,Ph.upd]
 frz:=fun|29=>true|_=>false
 sym:=fun|32=>true|49=>true|53=>true|_=>false
 heads:=fun
  |8=>some {slots:=[(36, .int .i64)],boxes:=[(26,[.str, .int .i64, .int .i64]),(9,[.int .i64, .int .i64, .int .i64, .int .i64, .int .i64, .int .i64, .int .i64, .int .i64])],keep:=[2],inv:=fun _ (x:Int×By×Int×Int×Int×Int×Int×Int×Int×Int×Int×Int×Unit)=>0<=x.1/\x.1<=(an (ac s).1).length/\x.2.1=s/\P0 s=aL s ((an (ac s).1).drop x.1.toNat) (x.2.2.1,x.2.2.2.1,[x.2.2.2.2.1,x.2.2.2.2.2.1,x.2.2.2.2.2.2.1,x.2.2.2.2.2.2.2.1,x.2.2.2.2.2.2.2.2.1,x.2.2.2.2.2.2.2.2.2.1,x.2.2.2.2.2.2.2.2.2.2.1,x.2.2.2.2.2.2.2.2.2.2.2.1]),measure:=fun _ (x:Int×By×Int×Int×Int×Int×Int×Int×Int×Int×Int×Int×Unit)=>((an (ac s).1).length-x.1).toNat}
  |17=>some {slots:=[(80, .int .i64)],boxes:=[(26,[.str, .int .i64, .int .i64]),(12,[.int .i64, .int .i64, .int .i64, .int .i64, .int .i64, .bool, .bool, .int .i64, .int .i64, .slc 9500 Ln])],keep:=[2,9],inv:=fun _ (x:Int×By×Int×Int×Int×Int×Int×Int×Int×Bool×Bool×Int×Int×List LnD×Unit)=>0<=x.1/\x.1<=(N0 s).1/\x.2.1=s/\(x.2.2.2.2.2.2.2.2.2.2.2.2.2.1.length:Int)=x.1/\bG s (N0 s).1.toNat ((N0 s).2.1,(N0 s).2.2,[])=bG s ((N0 s).1.toNat-x.1.toNat) (x.2.2.1,x.2.2.2.1,x.2.2.2.2.2.2.2.2.2.2.2.2.2.1)/\(x.2.2.2.2.1,x.2.2.2.2.2.1,x.2.2.2.2.2.2.1,x.2.2.2.2.2.2.2.1,x.2.2.2.2.2.2.2.2.1,x.2.2.2.2.2.2.2.2.2.1,x.2.2.2.2.2.2.2.2.2.2.1,(x.2.2.2.2.2.2.2.2.2.2.2.1,x.2.2.2.2.2.2.2.2.2.2.2.2.1),x.2.2.2.2.2.2.2.2.2.2.2.2.2.1)=hdC s x.2.2.2.2.2.2.2.2.2.2.2.2.2.1,measure:=fun _ (x:Int×By×Int×Int×Int×Int×Int×Int×Int×Bool×Bool×Int×Int×List LnD×Unit)=>((N0 s).1-x.1).toNat}
  |_=>none
abbrev zK:Ann:={slots:=bB 0 [.int .i64, .int .i64, .int .i64, .int .i64, .int .i64, .bool, .bool, .int .i64, .int .i64, .list .part Ln, .int .i64],boxes:=[],inv:=fun _ _=>True}
abbrev aq:_root_.Go.Vm.Obj:=Obj.box [V.int IntKind.i64 (0:Int),V.int IntKind.i64 (0:Int),V.int IntKind.i64 (0:Int),V.int IntKind.i64 (0:Int),V.int IntKind.i64 (0:Int),V.kb false,V.kb false,V.int IntKind.i64 (0:Int),V.int IntKind.i64 (0:Int),V.nils]
def nM (s:By):Prop:=
 List.length s<=(10000:Nat)/\((!decide ((ac s).2.2=0))=true->True/\((0:Int),(0:Int),(0:Int),(0:Int),(0:Int),false,false,(0:Int),(0:Int),[],(ac s).2.2,())=((ak s).1.1,(ak s).1.2.1,(ak s).1.2.2.1,(ak s).1.2.2.2.1,(ak s).1.2.2.2.2.1,(ak s).1.2.2.2.2.2.1,(ak s).1.2.2.2.2.2.2.1,(ak s).1.2.2.2.2.2.2.2.1.1,(ak s).1.2.2.2.2.2.2.2.1.2,(ak s).1.2.2.2.2.2.2.2.2,(ak s).2,()))/\((!decide ((ac s).2.2=0))=false->True/\(au ((ac s).1-(1:Int)))/\(0<=(ac s).1-(1:Int)/\(ac s).1-(1:Int)<(↑(8:Nat):Int))/\((some aq=some aq/\True)/\0<=(0:Int)/\0<=(↑(an (ac s).1).length:Int)/\s=s/\P0 s=aL s (List.drop (Int.toNat 0) (an (ac s).1)) ((ac s).2.1,(0:Int),[(0:Int),(0:Int),(0:Int),(0:Int),(0:Int),(0:Int),(0:Int),(0:Int)]))/\∀(x:Int×List UInt8×Int×Int×Int×Int×Int×Int×Int×Int×Int×Int×Unit),0<=x.1/\x.1<=(↑(an (ac s).1).length:Int)/\x.2.1=s/\P0 s=aL s (List.drop x.1.toNat (an (ac s).1)) (x.2.2.1,x.2.2.2.1,[x.2.2.2.2.1,x.2.2.2.2.2.1,x.2.2.2.2.2.2.1,x.2.2.2.2.2.2.2.1,x.2.2.2.2.2.2.2.2.1,x.2.2.2.2.2.2.2.2.2.1,x.2.2.2.2.2.2.2.2.2.2.1,x.2.2.2.2.2.2.2.2.2.2.2.1])->(ag (x.1<(↑([[(0:Int)],[(0:Int),(1:Int),(4:Int),(5:Int)],[(0:Int),(1:Int)],[(0:Int),(1:Int),(2:Int),(3:Int)],[(0:Int),(1:Int),(2:Int),(3:Int),(6:Int),(7:Int)],[(0:Int),(1:Int)],[(0:Int)],[(0:Int),(1:Int)]][((ac s).1-(1:Int)).toNat]?.getD []).length:Int))->(0<=x.1/\x.1<(↑([[(0:Int)],[(0:Int),(1:Int),(4:Int),(5:Int)],[(0:Int),(1:Int)],[(0:Int),(1:Int),(2:Int),(3:Int)],[(0:Int),(1:Int),(2:Int),(3:Int),(6:Int),(7:Int)],[(0:Int),(1:Int)],[(0:Int)],[(0:Int),(1:Int)]][((ac s).1-(1:Int)).toNat]?.getD []).length:Int))/\∀(x_1:Int),([[(0:Int)],[(0:Int),(1:Int),(4:Int),(5:Int)],[(0:Int),(1:Int)],[(0:Int),(1:Int),(2:Int),(3:Int)],[(0:Int),(1:Int),(2:Int),(3:Int),(6:Int),(7:Int)],[(0:Int),(1:Int)],[(0:Int)],[(0:Int),(1:Int)]][((ac s).1-(1:Int)).toNat]?.getD [])[x.1.toNat]? =some x_1->(aj (x_1=4)->(ag (x_1=5)->x.2.1.length<=(10000:Nat)/\(0<=x_1/\x_1<(↑(8:Nat):Int))/\(x_1=(↑(0:Nat):Int)->(au (x.1+1))/\(some aq=some aq/\True)/\(0<=x.1+1/\x.1+1<=(↑(an (ac s).1).length:Int)/\x.2.1=s/\P0 s=aL s (List.drop (x.1+1).toNat (an (ac s).1)) ((am x.2.1 x.2.2.1 x.2.2.2.1 0 1).2.1,(am x.2.1 x.2.2.1 x.2.2.2.1 0 1).2.2,[(am x.2.1 x.2.2.1 x.2.2.2.1 0 1).1,x.2.2.2.2.2.1,x.2.2.2.2.2.2.1,x.2.2.2.2.2.2.2.1,x.2.2.2.2.2.2.2.2.1,x.2.2.2.2.2.2.2.2.2.1,x.2.2.2.2.2.2.2.2.2.2.1,x.2.2.2.2.2.2.2.2.2.2.2.1]))/\((↑(an (ac s).1).length:Int)-(x.1+1)).toNat<((↑(an (ac s).1).length:Int)-x.1).toNat)/\(x_1=(↑(1:Nat):Int)->(au (x.1+1))/\(some aq=some aq/\True)/\(0<=x.1+1/\x.1+1<=(↑(an (ac s).1).length:Int)/\x.2.1=s/\P0 s=aL s (List.drop (x.1+1).toNat (an (ac s).1)) ((am x.2.1 x.2.2.1 x.2.2.2.1 0 1).2.1,(am x.2.1 x.2.2.1 x.2.2.2.1 0 1).2.2,[x.2.2.2.2.1,(am x.2.1 x.2.2.1 x.2.2.2.1 0 1).1,x.2.2.2.2.2.2.1,x.2.2.2.2.2.2.2.1,x.2.2.2.2.2.2.2.2.1,x.2.2.2.2.2.2.2.2.2.1,x.2.2.2.2.2.2.2.2.2.2.1,x.2.2.2.2.2.2.2.2.2.2.2.1]))/\((↑(an (ac s).1).length:Int)-(x.1+1)).toNat<((↑(an (ac s).1).length:Int)-x.1).toNat)/\(x_1=(↑(2:Nat):Int)->(au (x.1+1))/\(some aq=some aq/\True)/\(0<=x.1+1/\x.1+1<=(↑(an (ac s).1).length:Int)/\x.2.1=s/\P0 s=aL s (List.drop (x.1+1).toNat (an (ac s).1)) ((am x.2.1 x.2.2.1 x.2.2.2.1 0 1).2.1,(am x.2.1 x.2.2.1 x.2.2.2.1 0 1).2.2,[x.2.2.2.2.1,x.2.2.2.2.2.1,(am x.2.1 x.2.2.1 x.2.2.2.1 0 1).1,x.2.2.2.2.2.2.2.1,x.2.2.2.2.2.2.2.2.1,x.2.2.2.2.2.2.2.2.2.1,x.2.2.2.2.2.2.2.2.2.2.1,x.2.2.2.2.2.2.2.2.2.2.2.1]))/\((↑(an (ac s).1).length:Int)-(x.1+1)).toNat<((↑(an (ac s).1).length:Int)-x.1).toNat)/\(x_1=(↑(3:Nat):Int)->(au (x.1+1))/\(some aq=some aq/\True)/\(0<=x.1+1/\x.1+1<=(↑(an (ac s).1).length:Int)/\x.2.1=s/\P0 s=aL s (List.drop (x.1+1).toNat (an (ac s).1)) ((am x.2.1 x.2.2.1 x.2.2.2.1 0 1).2.1,(am x.2.1 x.2.2.1 x.2.2.2.1 0 1).2.2,[x.2.2.2.2.1,x.2.2.2.2.2.1,x.2.2.2.2.2.2.1,(am x.2.1 x.2.2.1 x.2.2.2.1 0 1).1,x.2.2.2.2.2.2.2.2.1,x.2.2.2.2.2.2.2.2.2.1,x.2.2.2.2.2.2.2.2.2.2.1,x.2.2.2.2.2.2.2.2.2.2.2.1]))/\((↑(an (ac s).1).length:Int)-(x.1+1)).toNat<((↑(an (ac s).1).length:Int)-x.1).toNat)/\(x_1=(↑(4:Nat):Int)->(au (x.1+1))/\(some aq=some aq/\True)/\(0<=x.1+1/\x.1+1<=(↑(an (ac s).1).length:Int)/\x.2.1=s/\P0 s=aL s (List.drop (x.1+1).toNat (an (ac s).1)) ((am x.2.1 x.2.2.1 x.2.2.2.1 0 1).2.1,(am x.2.1 x.2.2.1 x.2.2.2.1 0 1).2.2,[x.2.2.2.2.1,x.2.2.2.2.2.1,x.2.2.2.2.2.2.1,x.2.2.2.2.2.2.2.1,(am x.2.1 x.2.2.1 x.2.2.2.1 0 1).1,x.2.2.2.2.2.2.2.2.2.1,x.2.2.2.2.2.2.2.2.2.2.1,x.2.2.2.2.2.2.2.2.2.2.2.1]))/\((↑(an (ac s).1).length:Int)-(x.1+1)).toNat<((↑(an (ac s).1).length:Int)-x.1).toNat)/\(x_1=(↑(5:Nat):Int)->(au (x.1+1))/\(some aq=some aq/\True)/\(0<=x.1+1/\x.1+1<=(↑(an (ac s).1).length:Int)/\x.2.1=s/\P0 s=aL s (List.drop (x.1+1).toNat (an (ac s).1)) ((am x.2.1 x.2.2.1 x.2.2.2.1 0 1).2.1,(am x.2.1 x.2.2.1 x.2.2.2.1 0 1).2.2,[x.2.2.2.2.1,x.2.2.2.2.2.1,x.2.2.2.2.2.2.1,x.2.2.2.2.2.2.2.1,x.2.2.2.2.2.2.2.2.1,(am x.2.1 x.2.2.1 x.2.2.2.1 0 1).1,x.2.2.2.2.2.2.2.2.2.2.1,x.2.2.2.2.2.2.2.2.2.2.2.1]))/\((↑(an (ac s).1).length:Int)-(x.1+1)).toNat<((↑(an (ac s).1).length:Int)-x.1).toNat)/\(x_1=(↑(6:Nat):Int)->(au (x.1+1))/\(some aq=some aq/\True)/\(0<=x.1+1/\x.1+1<=(↑(an (ac s).1).length:Int)/\x.2.1=s/\P0 s=aL s (List.drop (x.1+1).toNat (an (ac s).1)) ((am x.2.1 x.2.2.1 x.2.2.2.1 0 1).2.1,(am x.2.1 x.2.2.1 x.2.2.2.1 0 1).2.2,[x.2.2.2.2.1,x.2.2.2.2.2.1,x.2.2.2.2.2.2.1,x.2.2.2.2.2.2.2.1,x.2.2.2.2.2.2.2.2.1,x.2.2.2.2.2.2.2.2.2.1,(am x.2.1 x.2.2.1 x.2.2.2.1 0 1).1,x.2.2.2.2.2.2.2.2.2.2.2.1]))/\((↑(an (ac s).1).length:Int)-(x.1+1)).toNat<((↑(an (ac s).1).length:Int)-x.1).toNat)/\(x_1=(↑(7:Nat):Int)->(au (x.1+1))/\(some aq=some aq/\True)/\(0<=x.1+1/\x.1+1<=(↑(an (ac s).1).length:Int)/\x.2.1=s/\P0 s=aL s (List.drop (x.1+1).toNat (an (ac s).1)) ((am x.2.1 x.2.2.1 x.2.2.2.1 0 1).2.1,(am x.2.1 x.2.2.1 x.2.2.2.1 0 1).2.2,[x.2.2.2.2.1,x.2.2.2.2.2.1,x.2.2.2.2.2.2.1,x.2.2.2.2.2.2.2.1,x.2.2.2.2.2.2.2.2.1,x.2.2.2.2.2.2.2.2.2.1,x.2.2.2.2.2.2.2.2.2.2.1,(am x.2.1 x.2.2.1 x.2.2.2.1 0 1).1]))/\((↑(an (ac s).1).length:Int)-(x.1+1)).toNat<((↑(an (ac s).1).length:Int)-x.1).toNat)/\True)/\(aj (x_1=5)->x.2.1.length<=(10000:Nat)/\(0<=x_1/\x_1<(↑(8:Nat):Int))/\(x_1=(↑(0:Nat):Int)->(au (x.1+1))/\(some aq=some aq/\True)/\(0<=x.1+1/\x.1+1<=(↑(an (ac s).1).length:Int)/\x.2.1=s/\P0 s=aL s (List.drop (x.1+1).toNat (an (ac s).1)) ((ae x.2.1 x.2.2.1 x.2.2.2.1).2.1,(ae x.2.1 x.2.2.1 x.2.2.2.1).2.2,[(ae x.2.1 x.2.2.1 x.2.2.2.1).1,x.2.2.2.2.2.1,x.2.2.2.2.2.2.1,x.2.2.2.2.2.2.2.1,x.2.2.2.2.2.2.2.2.1,x.2.2.2.2.2.2.2.2.2.1,x.2.2.2.2.2.2.2.2.2.2.1,x.2.2.2.2.2.2.2.2.2.2.2.1]))/\((↑(an (ac s).1).length:Int)-(x.1+1)).toNat<((↑(an (ac s).1).length:Int)-x.1).toNat)/\(x_1=(↑(1:Nat):Int)->(au (x.1+1))/\(some aq=some aq/\True)/\(0<=x.1+1/\x.1+1<=(↑(an (ac s).1).length:Int)/\x.2.1=s/\P0 s=aL s (List.drop (x.1+1).toNat (an (ac s).1)) ((ae x.2.1 x.2.2.1 x.2.2.2.1).2.1,(ae x.2.1 x.2.2.1 x.2.2.2.1).2.2,[x.2.2.2.2.1,(ae x.2.1 x.2.2.1 x.2.2.2.1).1,x.2.2.2.2.2.2.1,x.2.2.2.2.2.2.2.1,x.2.2.2.2.2.2.2.2.1,x.2.2.2.2.2.2.2.2.2.1,x.2.2.2.2.2.2.2.2.2.2.1,x.2.2.2.2.2.2.2.2.2.2.2.1]))/\((↑(an (ac s).1).length:Int)-(x.1+1)).toNat<((↑(an (ac s).1).length:Int)-x.1).toNat)/\(x_1=(↑(2:Nat):Int)->(au (x.1+1))/\(some aq=some aq/\True)/\(0<=x.1+1/\x.1+1<=(↑(an (ac s).1).length:Int)/\x.2.1=s/\P0 s=aL s (List.drop (x.1+1).toNat (an (ac s).1)) ((ae x.2.1 x.2.2.1 x.2.2.2.1).2.1,(ae x.2.1 x.2.2.1 x.2.2.2.1).2.2,[x.2.2.2.2.1,x.2.2.2.2.2.1,(ae x.2.1 x.2.2.1 x.2.2.2.1).1,x.2.2.2.2.2.2.2.1,x.2.2.2.2.2.2.2.2.1,x.2.2.2.2.2.2.2.2.2.1,x.2.2.2.2.2.2.2.2.2.2.1,x.2.2.2.2.2.2.2.2.2.2.2.1]))/\((↑(an (ac s).1).length:Int)-(x.1+1)).toNat<((↑(an (ac s).1).length:Int)-x.1).toNat)/\(x_1=(↑(3:Nat):Int)->(au (x.1+1))/\(some aq=some aq/\True)/\(0<=x.1+1/\x.1+1<=(↑(an (ac s).1).length:Int)/\x.2.1=s/\P0 s=aL s (List.drop (x.1+1).toNat (an (ac s).1)) ((ae x.2.1 x.2.2.1 x.2.2.2.1).2.1,(ae x.2.1 x.2.2.1 x.2.2.2.1).2.2,[x.2.2.2.2.1,x.2.2.2.2.2.1,x.2.2.2.2.2.2.1,(ae x.2.1 x.2.2.1 x.2.2.2.1).1,x.2.2.2.2.2.2.2.2.1,x.2.2.2.2.2.2.2.2.2.1,x.2.2.2.2.2.2.2.2.2.2.1,x.2.2.2.2.2.2.2.2.2.2.2.1]))/\((↑(an (ac s).1).length:Int)-(x.1+1)).toNat<((↑(an (ac s).1).length:Int)-x.1).toNat)/\(x_1=(↑(4:Nat):Int)->(au (x.1+1))/\(some aq=some aq/\True)/\(0<=x.1+1/\x.1+1<=(↑(an (ac s).1).length:Int)/\x.2.1=s/\P0 s=aL s (List.drop (x.1+1).toNat (an (ac s).1)) ((ae x.2.1 x.2.2.1 x.2.2.2.1).2.1,(ae x.2.1 x.2.2.1 x.2.2.2.1).2.2,[x.2.2.2.2.1,x.2.2.2.2.2.1,x.2.2.2.2.2.2.1,x.2.2.2.2.2.2.2.1,(ae x.2.1 x.2.2.1 x.2.2.2.1).1,x.2.2.2.2.2.2.2.2.2.1,x.2.2.2.2.2.2.2.2.2.2.1,x.2.2.2.2.2.2.2.2.2.2.2.1]))/\((↑(an (ac s).1).length:Int)-(x.1+1)).toNat<((↑(an (ac s).1).length:Int)-x.1).toNat)/\(x_1=(↑(5:Nat):Int)->(au (x.1+1))/\(some aq=some aq/\True)/\(0<=x.1+1/\x.1+1<=(↑(an (ac s).1).length:Int)/\x.2.1=s/\P0 s=aL s (List.drop (x.1+1).toNat (an (ac s).1)) ((ae x.2.1 x.2.2.1 x.2.2.2.1).2.1,(ae x.2.1 x.2.2.1 x.2.2.2.1).2.2,[x.2.2.2.2.1,x.2.2.2.2.2.1,x.2.2.2.2.2.2.1,x.2.2.2.2.2.2.2.1,x.2.2.2.2.2.2.2.2.1,(ae x.2.1 x.2.2.1 x.2.2.2.1).1,x.2.2.2.2.2.2.2.2.2.2.1,x.2.2.2.2.2.2.2.2.2.2.2.1]))/\((↑(an (ac s).1).length:Int)-(x.1+1)).toNat<((↑(an (ac s).1).length:Int)-x.1).toNat)/\(x_1=(↑(6:Nat):Int)->(au (x.1+1))/\(some aq=some aq/\True)/\(0<=x.1+1/\x.1+1<=(↑(an (ac s).1).length:Int)/\x.2.1=s/\P0 s=aL s (List.drop (x.1+1).toNat (an (ac s).1)) ((ae x.2.1 x.2.2.1 x.2.2.2.1).2.1,(ae x.2.1 x.2.2.1 x.2.2.2.1).2.2,[x.2.2.2.2.1,x.2.2.2.2.2.1,x.2.2.2.2.2.2.1,x.2.2.2.2.2.2.2.1,x.2.2.2.2.2.2.2.2.1,x.2.2.2.2.2.2.2.2.2.1,(ae x.2.1 x.2.2.1 x.2.2.2.1).1,x.2.2.2.2.2.2.2.2.2.2.2.1]))/\((↑(an (ac s).1).length:Int)-(x.1+1)).toNat<((↑(an (ac s).1).length:Int)-x.1).toNat)/\(x_1=(↑(7:Nat):Int)->(au (x.1+1))/\(some aq=some aq/\True)/\(0<=x.1+1/\x.1+1<=(↑(an (ac s).1).length:Int)/\x.2.1=s/\P0 s=aL s (List.drop (x.1+1).toNat (an (ac s).1)) ((ae x.2.1 x.2.2.1 x.2.2.2.1).2.1,(ae x.2.1 x.2.2.1 x.2.2.2.1).2.2,[x.2.2.2.2.1,x.2.2.2.2.2.1,x.2.2.2.2.2.2.1,x.2.2.2.2.2.2.2.1,x.2.2.2.2.2.2.2.2.1,x.2.2.2.2.2.2.2.2.2.1,x.2.2.2.2.2.2.2.2.2.2.1,(ae x.2.1 x.2.2.1 x.2.2.2.1).1]))/\((↑(an (ac s).1).length:Int)-(x.1+1)).toNat<((↑(an (ac s).1).length:Int)-x.1).toNat)/\True))/\(bu (x_1=4)->x.2.1.length<=(10000:Nat)/\(0<=x_1/\x_1<(↑(8:Nat):Int))/\(x_1=(↑(0:Nat):Int)->(au (x.1+1))/\(some aq=some aq/\True)/\(0<=x.1+1/\x.1+1<=(↑(an (ac s).1).length:Int)/\x.2.1=s/\P0 s=aL s (List.drop (x.1+1).toNat (an (ac s).1)) ((am x.2.1 x.2.2.1 x.2.2.2.1 0 1).2.1,(am x.2.1 x.2.2.1 x.2.2.2.1 0 1).2.2,[(am x.2.1 x.2.2.1 x.2.2.2.1 0 1).1,x.2.2.2.2.2.1,x.2.2.2.2.2.2.1,x.2.2.2.2.2.2.2.1,x.2.2.2.2.2.2.2.2.1,x.2.2.2.2.2.2.2.2.2.1,x.2.2.2.2.2.2.2.2.2.2.1,x.2.2.2.2.2.2.2.2.2.2.2.1]))/\((↑(an (ac s).1).length:Int)-(x.1+1)).toNat<((↑(an (ac s).1).length:Int)-x.1).toNat)/\(x_1=(↑(1:Nat):Int)->(au (x.1+1))/\(some aq=some aq/\True)/\(0<=x.1+1/\x.1+1<=(↑(an (ac s).1).length:Int)/\x.2.1=s/\P0 s=aL s (List.drop (x.1+1).toNat (an (ac s).1)) ((am x.2.1 x.2.2.1 x.2.2.2.1 0 1).2.1,(am x.2.1 x.2.2.1 x.2.2.2.1 0 1).2.2,[x.2.2.2.2.1,(am x.2.1 x.2.2.1 x.2.2.2.1 0 1).1,x.2.2.2.2.2.2.1,x.2.2.2.2.2.2.2.1,x.2.2.2.2.2.2.2.2.1,x.2.2.2.2.2.2.2.2.2.1,x.2.2.2.2.2.2.2.2.2.2.1,x.2.2.2.2.2.2.2.2.2.2.2.1]))/\((↑(an (ac s).1).length:Int)-(x.1+1)).toNat<((↑(an (ac s).1).length:Int)-x.1).toNat)/\(x_1=(↑(2:Nat):Int)->(au (x.1+1))/\(some aq=some aq/\True)/\(0<=x.1+1/\x.1+1<=(↑(an (ac s).1).length:Int)/\x.2.1=s/\P0 s=aL s (List.drop (x.1+1).toNat (an (ac s).1)) ((am x.2.1 x.2.2.1 x.2.2.2.1 0 1).2.1,(am x.2.1 x.2.2.1 x.2.2.2.1 0 1).2.2,[x.2.2.2.2.1,x.2.2.2.2.2.1,(am x.2.1 x.2.2.1 x.2.2.2.1 0 1).1,x.2.2.2.2.2.2.2.1,x.2.2.2.2.2.2.2.2.1,x.2.2.2.2.2.2.2.2.2.1,x.2.2.2.2.2.2.2.2.2.2.1,x.2.2.2.2.2.2.2.2.2.2.2.1]))/\((↑(an (ac s).1).length:Int)-(x.1+1)).toNat<((↑(an (ac s).1).length:Int)-x.1).toNat)/\(x_1=(↑(3:Nat):Int)->(au (x.1+1))/\(some aq=some aq/\True)/\(0<=x.1+1/\x.1+1<=(↑(an (ac s).1).length:Int)/\x.2.1=s/\P0 s=aL s (List.drop (x.1+1).toNat (an (ac s).1)) ((am x.2.1 x.2.2.1 x.2.2.2.1 0 1).2.1,(am x.2.1 x.2.2.1 x.2.2.2.1 0 1).2.2,[x.2.2.2.2.1,x.2.2.2.2.2.1,x.2.2.2.2.2.2.1,(am x.2.1 x.2.2.1 x.2.2.2.1 0 1).1,x.2.2.2.2.2.2.2.2.1,x.2.2.2.2.2.2.2.2.2.1,x.2.2.2.2.2.2.2.2.2.2.1,x.2.2.2.2.2.2.2.2.2.2.2.1]))/\((↑(an (ac s).1).length:Int)-(x.1+1)).toNat<((↑(an (ac s).1).length:Int)-x.1).toNat)/\(x_1=(↑(4:Nat):Int)->(au (x.1+1))/\(some aq=some aq/\True)/\(0<=x.1+1/\x.1+1<=(↑(an (ac s).1).length:Int)/\x.2.1=s/\P0 s=aL s (List.drop (x.1+1).toNat (an (ac s).1)) ((am x.2.1 x.2.2.1 x.2.2.2.1 0 1).2.1,(am x.2.1 x.2.2.1 x.2.2.2.1 0 1).2.2,[x.2.2.2.2.1,x.2.2.2.2.2.1,x.2.2.2.2.2.2.1,x.2.2.2.2.2.2.2.1,(am x.2.1 x.2.2.1 x.2.2.2.1 0 1).1,x.2.2.2.2.2.2.2.2.2.1,x.2.2.2.2.2.2.2.2.2.2.1,x.2.2.2.2.2.2.2.2.2.2.2.1]))/\((↑(an (ac s).1).length:Int)-(x.1+1)).toNat<((↑(an (ac s).1).length:Int)-x.1).toNat)/\(x_1=(↑(5:Nat):Int)->(au (x.1+1))/\(some aq=some aq/\True)/\(0<=x.1+1/\x.1+1<=(↑(an (ac s).1).length:Int)/\x.2.1=s/\P0 s=aL s (List.drop (x.1+1).toNat (an (ac s).1)) ((am x.2.1 x.2.2.1 x.2.2.2.1 0 1).2.1,(am x.2.1 x.2.2.1 x.2.2.2.1 0 1).2.2,[x.2.2.2.2.1,x.2.2.2.2.2.1,x.2.2.2.2.2.2.1,x.2.2.2.2.2.2.2.1,x.2.2.2.2.2.2.2.2.1,(am x.2.1 x.2.2.1 x.2.2.2.1 0 1).1,x.2.2.2.2.2.2.2.2.2.2.1,x.2.2.2.2.2.2.2.2.2.2.2.1]))/\((↑(an (ac s).1).length:Int)-(x.1+1)).toNat<((↑(an (ac s).1).length:Int)-x.1).toNat)/\(x_1=(↑(6:Nat):Int)->(au (x.1+1))/\(some aq=some aq/\True)/\(0<=x.1+1/\x.1+1<=(↑(an (ac s).1).length:Int)/\x.2.1=s/\P0 s=aL s (List.drop (x.1+1).toNat (an (ac s).1)) ((am x.2.1 x.2.2.1 x.2.2.2.1 0 1).2.1,(am x.2.1 x.2.2.1 x.2.2.2.1 0 1).2.2,[x.2.2.2.2.1,x.2.2.2.2.2.1,x.2.2.2.2.2.2.1,x.2.2.2.2.2.2.2.1,x.2.2.2.2.2.2.2.2.1,x.2.2.2.2.2.2.2.2.2.1,(am x.2.1 x.2.2.1 x.2.2.2.1 0 1).1,x.2.2.2.2.2.2.2.2.2.2.2.1]))/\((↑(an (ac s).1).length:Int)-(x.1+1)).toNat<((↑(an (ac s).1).length:Int)-x.1).toNat)/\(x_1=(↑(7:Nat):Int)->(au (x.1+1))/\(some aq=some aq/\True)/\(0<=x.1+1/\x.1+1<=(↑(an (ac s).1).length:Int)/\x.2.1=s/\P0 s=aL s (List.drop (x.1+1).toNat (an (ac s).1)) ((am x.2.1 x.2.2.1 x.2.2.2.1 0 1).2.1,(am x.2.1 x.2.2.1 x.2.2.2.1 0 1).2.2,[x.2.2.2.2.1,x.2.2.2.2.2.1,x.2.2.2.2.2.2.1,x.2.2.2.2.2.2.2.1,x.2.2.2.2.2.2.2.2.1,x.2.2.2.2.2.2.2.2.2.1,x.2.2.2.2.2.2.2.2.2.2.1,(am x.2.1 x.2.2.1 x.2.2.2.1 0 1).1]))/\((↑(an (ac s).1).length:Int)-(x.1+1)).toNat<((↑(an (ac s).1).length:Int)-x.1).toNat)/\True))/\(aj (x.1<(↑([[(0:Int)],[(0:Int),(1:Int),(4:Int),(5:Int)],[(0:Int),(1:Int)],[(0:Int),(1:Int),(2:Int),(3:Int)],[(0:Int),(1:Int),(2:Int),(3:Int),(6:Int),(7:Int)],[(0:Int),(1:Int)],[(0:Int)],[(0:Int),(1:Int)]][((ac s).1-(1:Int)).toNat]?.getD []).length:Int))->(ag ((ac s).1=7)->x.2.1.length<=(10000:Nat)/\((some aq=some aq/\some (Obj.box [V.int IntKind.i64 x.2.2.2.2.1,V.int IntKind.i64 x.2.2.2.2.2.1,V.int IntKind.i64 x.2.2.2.2.2.2.1,V.int IntKind.i64 x.2.2.2.2.2.2.2.1,V.int IntKind.i64 x.2.2.2.2.2.2.2.2.1,V.int IntKind.i64 x.2.2.2.2.2.2.2.2.2.1,V.int IntKind.i64 x.2.2.2.2.2.2.2.2.2.2.1,V.int IntKind.i64 x.2.2.2.2.2.2.2.2.2.2.2.1])=some (Obj.box [V.int IntKind.i64 x.2.2.2.2.1,V.int IntKind.i64 x.2.2.2.2.2.1,V.int IntKind.i64 x.2.2.2.2.2.2.1,V.int IntKind.i64 x.2.2.2.2.2.2.2.1,V.int IntKind.i64 x.2.2.2.2.2.2.2.2.1,V.int IntKind.i64 x.2.2.2.2.2.2.2.2.2.1,V.int IntKind.i64 x.2.2.2.2.2.2.2.2.2.2.1,V.int IntKind.i64 x.2.2.2.2.2.2.2.2.2.2.2.1])/\True)/\0<=(0:Int)/\0<=(N0 s).1/\x.2.1=s/\(↑(0:Nat):Int)=(0:Int)/\bG s (N0 s).1.toNat ((N0 s).2.1,(N0 s).2.2,[])=bG s ((N0 s).1.toNat-Int.toNat 0) ((am x.2.1 x.2.2.1 x.2.2.2.1 0 50).2.1,(am x.2.1 x.2.2.1 x.2.2.2.1 0 50).2.2,[])/\((ac s).1,x.2.2.2.2.1,x.2.2.2.2.2.1,x.2.2.2.2.2.2.1,x.2.2.2.2.2.2.2.1,decide (x.2.2.2.2.2.2.2.2.1=1),decide (x.2.2.2.2.2.2.2.2.2.1=1),(x.2.2.2.2.2.2.2.2.2.2.1,x.2.2.2.2.2.2.2.2.2.2.2.1),[])=hdC s [])/\∀(x_1:Int×List UInt8×Int×Int×Int×Int×Int×Int×Int×Bool×Bool×Int×Int×List (Int×Int×Int×Int)×Unit),0<=x_1.1/\x_1.1<=(N0 s).1/\x_1.2.1=s/\(↑x_1.2.2.2.2.2.2.2.2.2.2.2.2.2.1.length:Int)=x_1.1/\bG s (N0 s).1.toNat ((N0 s).2.1,(N0 s).2.2,[])=bG s ((N0 s).1.toNat-x_1.1.toNat) (x_1.2.2.1,x_1.2.2.2.1,x_1.2.2.2.2.2.2.2.2.2.2.2.2.2.1)/\(x_1.2.2.2.2.1,x_1.2.2.2.2.2.1,x_1.2.2.2.2.2.2.1,x_1.2.2.2.2.2.2.2.1,x_1.2.2.2.2.2.2.2.2.1,x_1.2.2.2.2.2.2.2.2.2.1,x_1.2.2.2.2.2.2.2.2.2.2.1,(x_1.2.2.2.2.2.2.2.2.2.2.2.1,x_1.2.2.2.2.2.2.2.2.2.2.2.2.1),x_1.2.2.2.2.2.2.2.2.2.2.2.2.2.1)=hdC s x_1.2.2.2.2.2.2.2.2.2.2.2.2.2.1->(ag (x_1.1<(am x.2.1 x.2.2.1 x.2.2.2.1 0 50).1)->x_1.2.1.length<=(10000:Nat)/\x_1.2.1.length<=(10000:Nat)/\x_1.2.1.length<=(10000:Nat)/\x_1.2.1.length<=(10000:Nat)/\((x_1.2.2.2.2.2.2.2.2.2.2.2.2.2.1.length+(1:Nat))*(32:Nat)<=(140737488355328:Nat)/\x_1.2.2.2.2.2.2.2.2.2.2.2.2.2.1.length+(1:Nat)<=(4611686018427387904:Nat))/\(au (x_1.1+1))/\(some aq=some aq/\some (Obj.box [V.int IntKind.i64 x.2.2.2.2.1,V.int IntKind.i64 x.2.2.2.2.2.1,V.int IntKind.i64 x.2.2.2.2.2.2.1,V.int IntKind.i64 x.2.2.2.2.2.2.2.1,V.int IntKind.i64 x.2.2.2.2.2.2.2.2.1,V.int IntKind.i64 x.2.2.2.2.2.2.2.2.2.1,V.int IntKind.i64 x.2.2.2.2.2.2.2.2.2.2.1,V.int IntKind.i64 x.2.2.2.2.2.2.2.2.2.2.2.1])=some (Obj.box [V.int IntKind.i64 x.2.2.2.2.1,V.int IntKind.i64 x.2.2.2.2.2.1,V.int IntKind.i64 x.2.2.2.2.2.2.1,V.int IntKind.i64 x.2.2.2.2.2.2.2.1,V.int IntKind.i64 x.2.2.2.2.2.2.2.2.1,V.int IntKind.i64 x.2.2.2.2.2.2.2.2.2.1,V.int IntKind.i64 x.2.2.2.2.2.2.2.2.2.2.1,V.int IntKind.i64 x.2.2.2.2.2.2.2.2.2.2.2.1])/\True)/\(0<=x_1.1+1/\x_1.1+1<=(N0 s).1/\x_1.2.1=s/\(↑(x_1.2.2.2.2.2.2.2.2.2.2.2.2.2.1++[((ae x_1.2.1 x_1.2.2.1 x_1.2.2.2.1).1,(ae x_1.2.1 (ae x_1.2.1 x_1.2.2.1 x_1.2.2.2.1).2.1 (ae x_1.2.1 x_1.2.2.1 x_1.2.2.2.1).2.2).1,(ae x_1.2.1 (ae x_1.2.1 (ae x_1.2.1 x_1.2.2.1 x_1.2.2.2.1).2.1 (ae x_1.2.1 x_1.2.2.1 x_1.2.2.2.1).2.2).2.1 (ae x_1.2.1 (ae x_1.2.1 x_1.2.2.1 x_1.2.2.2.1).2.1 (ae x_1.2.1 x_1.2.2.1 x_1.2.2.2.1).2.2).2.2).1,(ae x_1.2.1 (ae x_1.2.1 (ae x_1.2.1 (ae x_1.2.1 x_1.2.2.1 x_1.2.2.2.1).2.1 (ae x_1.2.1 x_1.2.2.1 x_1.2.2.2.1).2.2).2.1 (ae x_1.2.1 (ae x_1.2.1 x_1.2.2.1 x_1.2.2.2.1).2.1 (ae x_1.2.1 x_1.2.2.1 x_1.2.2.2.1).2.2).2.2).2.1 (ae x_1.2.1 (ae x_1.2.1 (ae x_1.2.1 x_1.2.2.1 x_1.2.2.2.1).2.1 (ae x_1.2.1 x_1.2.2.1 x_1.2.2.2.1).2.2).2.1 (ae x_1.2.1 (ae x_1.2.1 x_1.2.2.1 x_1.2.2.2.1).2.1 (ae x_1.2.1 x_1.2.2.1 x_1.2.2.2.1).2.2).2.2).2.2).1)]).length:Int)=x_1.1+1/\bG s (N0 s).1.toNat ((N0 s).2.1,(N0 s).2.2,[])=bG s ((N0 s).1.toNat-(x_1.1+1).toNat) ((ae x_1.2.1 (ae x_1.2.1 (ae x_1.2.1 (ae x_1.2.1 x_1.2.2.1 x_1.2.2.2.1).2.1 (ae x_1.2.1 x_1.2.2.1 x_1.2.2.2.1).2.2).2.1 (ae x_1.2.1 (ae x_1.2.1 x_1.2.2.1 x_1.2.2.2.1).2.1 (ae x_1.2.1 x_1.2.2.1 x_1.2.2.2.1).2.2).2.2).2.1 (ae x_1.2.1 (ae x_1.2.1 (ae x_1.2.1 x_1.2.2.1 x_1.2.2.2.1).2.1 (ae x_1.2.1 x_1.2.2.1 x_1.2.2.2.1).2.2).2.1 (ae x_1.2.1 (ae x_1.2.1 x_1.2.2.1 x_1.2.2.2.1).2.1 (ae x_1.2.1 x_1.2.2.1 x_1.2.2.2.1).2.2).2.2).2.2).2.1,(ae x_1.2.1 (ae x_1.2.1 (ae x_1.2.1 (ae x_1.2.1 x_1.2.2.1 x_1.2.2.2.1).2.1 (ae x_1.2.1 x_1.2.2.1 x_1.2.2.2.1).2.2).2.1 (ae x_1.2.1 (ae x_1.2.1 x_1.2.2.1 x_1.2.2.2.1).2.1 (ae x_1.2.1 x_1.2.2.1 x_1.2.2.2.1).2.2).2.2).2.1 (ae x_1.2.1 (ae x_1.2.1 (ae x_1.2.1 x_1.2.2.1 x_1.2.2.2.1).2.1 (ae x_1.2.1 x_1.2.2.1 x_1.2.2.2.1).2.2).2.1 (ae x_1.2.1 (ae x_1.2.1 x_1.2.2.1 x_1.2.2.2.1).2.1 (ae x_1.2.1 x_1.2.2.1 x_1.2.2.2.1).2.2).2.2).2.2).2.2,x_1.2.2.2.2.2.2.2.2.2.2.2.2.2.1++[((ae x_1.2.1 x_1.2.2.1 x_1.2.2.2.1).1,(ae x_1.2.1 (ae x_1.2.1 x_1.2.2.1 x_1.2.2.2.1).2.1 (ae x_1.2.1 x_1.2.2.1 x_1.2.2.2.1).2.2).1,(ae x_1.2.1 (ae x_1.2.1 (ae x_1.2.1 x_1.2.2.1 x_1.2.2.2.1).2.1 (ae x_1.2.1 x_1.2.2.1 x_1.2.2.2.1).2.2).2.1 (ae x_1.2.1 (ae x_1.2.1 x_1.2.2.1 x_1.2.2.2.1).2.1 (ae x_1.2.1 x_1.2.2.1 x_1.2.2.2.1).2.2).2.2).1,(ae x_1.2.1 (ae x_1.2.1 (ae x_1.2.1 (ae x_1.2.1 x_1.2.2.1 x_1.2.2.2.1).2.1 (ae x_1.2.1 x_1.2.2.1 x_1.2.2.2.1).2.2).2.1 (ae x_1.2.1 (ae x_1.2.1 x_1.2.2.1 x_1.2.2.2.1).2.1 (ae x_1.2.1 x_1.2.2.1 x_1.2.2.2.1).2.2).2.2).2.1 (ae x_1.2.1 (ae x_1.2.1 (ae x_1.2.1 x_1.2.2.1 x_1.2.2.2.1).2.1 (ae x_1.2.1 x_1.2.2.1 x_1.2.2.2.1).2.2).2.1 (ae x_1.2.1 (ae x_1.2.1 x_1.2.2.1 x_1.2.2.2.1).2.1 (ae x_1.2.1 x_1.2.2.1 x_1.2.2.2.1).2.2).2.2).2.2).1)])/\(x_1.2.2.2.2.1,x_1.2.2.2.2.2.1,x_1.2.2.2.2.2.2.1,x_1.2.2.2.2.2.2.2.1,x_1.2.2.2.2.2.2.2.2.1,x_1.2.2.2.2.2.2.2.2.2.1,x_1.2.2.2.2.2.2.2.2.2.2.1,(x_1.2.2.2.2.2.2.2.2.2.2.2.1,x_1.2.2.2.2.2.2.2.2.2.2.2.2.1),x_1.2.2.2.2.2.2.2.2.2.2.2.2.2.1++[((ae x_1.2.1 x_1.2.2.1 x_1.2.2.2.1).1,(ae x_1.2.1 (ae x_1.2.1 x_1.2.2.1 x_1.2.2.2.1).2.1 (ae x_1.2.1 x_1.2.2.1 x_1.2.2.2.1).2.2).1,(ae x_1.2.1 (ae x_1.2.1 (ae x_1.2.1 x_1.2.2.1 x_1.2.2.2.1).2.1 (ae x_1.2.1 x_1.2.2.1 x_1.2.2.2.1).2.2).2.1 (ae x_1.2.1 (ae x_1.2.1 x_1.2.2.1 x_1.2.2.2.1).2.1 (ae x_1.2.1 x_1.2.2.1 x_1.2.2.2.1).2.2).2.2).1,(ae x_1.2.1 (ae x_1.2.1 (ae x_1.2.1 (ae x_1.2.1 x_1.2.2.1 x_1.2.2.2.1).2.1 (ae x_1.2.1 x_1.2.2.1 x_1.2.2.2.1).2.2).2.1 (ae x_1.2.1 (ae x_1.2.1 x_1.2.2.1 x_1.2.2.2.1).2.1 (ae x_1.2.1 x_1.2.2.1 x_1.2.2.2.1).2.2).2.2).2.1 (ae x_1.2.1 (ae x_1.2.1 (ae x_1.2.1 x_1.2.2.1 x_1.2.2.2.1).2.1 (ae x_1.2.1 x_1.2.2.1 x_1.2.2.2.1).2.2).2.1 (ae x_1.2.1 (ae x_1.2.1 x_1.2.2.1 x_1.2.2.2.1).2.1 (ae x_1.2.1 x_1.2.2.1 x_1.2.2.2.1).2.2).2.2).2.2).1)])=hdC s (x_1.2.2.2.2.2.2.2.2.2.2.2.2.2.1++[((ae x_1.2.1 x_1.2.2.1 x_1.2.2.2.1).1,(ae x_1.2.1 (ae x_1.2.1 x_1.2.2.1 x_1.2.2.2.1).2.1 (ae x_1.2.1 x_1.2.2.1 x_1.2.2.2.1).2.2).1,(ae x_1.2.1 (ae x_1.2.1 (ae x_1.2.1 x_1.2.2.1 x_1.2.2.2.1).2.1 (ae x_1.2.1 x_1.2.2.1 x_1.2.2.2.1).2.2).2.1 (ae x_1.2.1 (ae x_1.2.1 x_1.2.2.1 x_1.2.2.2.1).2.1 (ae x_1.2.1 x_1.2.2.1 x_1.2.2.2.1).2.2).2.2).1,(ae x_1.2.1 (ae x_1.2.1 (ae x_1.2.1 (ae x_1.2.1 x_1.2.2.1 x_1.2.2.2.1).2.1 (ae x_1.2.1 x_1.2.2.1 x_1.2.2.2.1).2.2).2.1 (ae x_1.2.1 (ae x_1.2.1 x_1.2.2.1 x_1.2.2.2.1).2.1 (ae x_1.2.1 x_1.2.2.1 x_1.2.2.2.1).2.2).2.2).2.1 (ae x_1.2.1 (ae x_1.2.1 (ae x_1.2.1 x_1.2.2.1 x_1.2.2.2.1).2.1 (ae x_1.2.1 x_1.2.2.1 x_1.2.2.2.1).2.2).2.1 (ae x_1.2.1 (ae x_1.2.1 x_1.2.2.1 x_1.2.2.2.1).2.1 (ae x_1.2.1 x_1.2.2.1 x_1.2.2.2.1).2.2).2.2).2.2).1)]))/\((N0 s).1-(x_1.1+1)).toNat<((N0 s).1-x_1.1).toNat)/\(aj (x_1.1<(am x.2.1 x.2.2.1 x.2.2.2.1 0 50).1)->((!decide (x_1.2.2.2.1=0))=true->True/\((0:Int),(0:Int),(0:Int),(0:Int),(0:Int),false,false,(0:Int),(0:Int),[],x_1.2.2.2.1,())=((ak s).1.1,(ak s).1.2.1,(ak s).1.2.2.1,(ak s).1.2.2.2.1,(ak s).1.2.2.2.2.1,(ak s).1.2.2.2.2.2.1,(ak s).1.2.2.2.2.2.2.1,(ak s).1.2.2.2.2.2.2.2.1.1,(ak s).1.2.2.2.2.2.2.2.1.2,(ak s).1.2.2.2.2.2.2.2.2,(ak s).2,()))/\((!decide (x_1.2.2.2.1=0))=false->(ag (x_1.2.2.1<(↑(List.length s):Int))->True/\((0:Int),(0:Int),(0:Int),(0:Int),(0:Int),false,false,(0:Int),(0:Int),[],(6:Int),())=((ak s).1.1,(ak s).1.2.1,(ak s).1.2.2.1,(ak s).1.2.2.2.1,(ak s).1.2.2.2.2.1,(ak s).1.2.2.2.2.2.1,(ak s).1.2.2.2.2.2.2.1,(ak s).1.2.2.2.2.2.2.2.1.1,(ak s).1.2.2.2.2.2.2.2.1.2,(ak s).1.2.2.2.2.2.2.2.2,(ak s).2,()))/\(aj (x_1.2.2.1<(↑(List.length s):Int))->True/\(x_1.2.2.2.2.1,x_1.2.2.2.2.2.1,x_1.2.2.2.2.2.2.1,x_1.2.2.2.2.2.2.2.1,x_1.2.2.2.2.2.2.2.2.1,x_1.2.2.2.2.2.2.2.2.2.1,x_1.2.2.2.2.2.2.2.2.2.2.1,x_1.2.2.2.2.2.2.2.2.2.2.2.1,x_1.2.2.2.2.2.2.2.2.2.2.2.2.1,x_1.2.2.2.2.2.2.2.2.2.2.2.2.2.1,(0:Int),())=((ak s).1.1,(ak s).1.2.1,(ak s).1.2.2.1,(ak s).1.2.2.2.1,(ak s).1.2.2.2.2.1,(ak s).1.2.2.2.2.2.1,(ak s).1.2.2.2.2.2.2.1,(ak s).1.2.2.2.2.2.2.2.1.1,(ak s).1.2.2.2.2.2.2.2.1.2,(ak s).1.2.2.2.2.2.2.2.2,(ak s).2,())))))/\(aj ((ac s).1=7)->((!decide (x.2.2.2.1=0))=true->True/\((0:Int),(0:Int),(0:Int),(0:Int),(0:Int),false,false,(0:Int),(0:Int),[],x.2.2.2.1,())=((ak s).1.1,(ak s).1.2.1,(ak s).1.2.2.1,(ak s).1.2.2.2.1,(ak s).1.2.2.2.2.1,(ak s).1.2.2.2.2.2.1,(ak s).1.2.2.2.2.2.2.1,(ak s).1.2.2.2.2.2.2.2.1.1,(ak s).1.2.2.2.2.2.2.2.1.2,(ak s).1.2.2.2.2.2.2.2.2,(ak s).2,()))/\((!decide (x.2.2.2.1=0))=false->(ag (x.2.2.1<(↑(List.length s):Int))->True/\((0:Int),(0:Int),(0:Int),(0:Int),(0:Int),false,false,(0:Int),(0:Int),[],(6:Int),())=((ak s).1.1,(ak s).1.2.1,(ak s).1.2.2.1,(ak s).1.2.2.2.1,(ak s).1.2.2.2.2.1,(ak s).1.2.2.2.2.2.1,(ak s).1.2.2.2.2.2.2.1,(ak s).1.2.2.2.2.2.2.2.1.1,(ak s).1.2.2.2.2.2.2.2.1.2,(ak s).1.2.2.2.2.2.2.2.2,(ak s).2,()))/\(aj (x.2.2.1<(↑(List.length s):Int))->True/\((ac s).1,x.2.2.2.2.1,x.2.2.2.2.2.1,x.2.2.2.2.2.2.1,x.2.2.2.2.2.2.2.1,decide (x.2.2.2.2.2.2.2.2.1=1),decide (x.2.2.2.2.2.2.2.2.2.1=1),x.2.2.2.2.2.2.2.2.2.2.1,x.2.2.2.2.2.2.2.2.2.2.2.1,[],(0:Int),())=((ak s).1.1,(ak s).1.2.1,(ak s).1.2.2.1,(ak s).1.2.2.2.1,(ak s).1.2.2.2.2.1,(ak s).1.2.2.2.2.2.1,(ak s).1.2.2.2.2.2.2.1,(ak s).1.2.2.2.2.2.2.2.1.1,(ak s).1.2.2.2.2.2.2.2.1.2,(ak s).1.2.2.2.2.2.2.2.2,(ak s).2,()))))))
theorem wM (s:By) (h:s.length<=10000):nM s:=by
 unfold nM aj bu ag;have hp:([[(0:Int)],[0,1,4,5],[0,1],[0,1,2,3],[0,1,2,3,6,7],[0,1],[0],[0,1]][((ac s).1-1).toNat]?.getD [])=an (ac s).1:=rfl;simp only [Q7,Q6,Rb,Rd,Rl,Rg,hp];clear hp;have hpi: ∀{i:Nat} {x:Int},(an (ac s).1)[i]? =some x->0<=x/\x<8:=fun e=>lc (Rr e);have hpl:=fk (ac s).1;have hki:= @kZ s;have hn50:=so s (P0 s).1 (P0 s).2.1;repeat' (first
  |with_reducible apply And.intro
  |(intro (x:Int×List UInt8×Int×Int×Int×Int×Int×Int×Int×Int×Int×Int×Unit);obtain ⟨i,s',a,e,v0,v1,v2,v3,v4,v5,v6,v7,⟨⟩⟩:=x;rintro ⟨h0,h1,hs,hP⟩;dsimp only at h0 h1 hs hP⊢;subst hs)
  |(intro (x:Int×List UInt8×Int×Int×Int×Int×Int×Int×Int×Bool×Bool×Int×Int×List (Int×Int×Int×Int)×Unit);obtain ⟨i2,s',a2,e2,c0,c1,c2,c3,c4,c5,c6,c7,c8,ls,⟨⟩⟩:=x;rintro ⟨g0,g1,gs,gl,gt,gc⟩;dsimp only at g0 g1 gs gl gt gc⊢;subst gs)
  |intro _)
 all_goals try (first|trivial|rfl|omega)
 all_goals try (rename_i hj _ _ e;have:=pK hP hj h0;subst e;exact this)
 all_goals try (rename_i hj _ e;have:=pK hP hj h0;subst e;exact this)
 all_goals try (rename_i hj _ _;have:=hpi hj;omega)
 ·rename_i e;rw [zz e];rfl
 all_goals have hQ:=Pi hP (by assumption) h0
 all_goals try (have hN:N0 s'=am s' a e 0 50:=by unfold N0;rw [hQ])
 ·exact hn50.1
 ·rw [hN];rfl
 ·unfold hdC mkC;rw [hQ];rfl
 ·have:=hn50.2;unfold N0 at g1;omega
 ·have:=hn50.2;unfold N0 at g1;omega
 ·have:=hn50.2;unfold N0 at g1;omega
 ·rename_i hlt;rw [<-hN] at hlt;omega
 ·rw [Re,Rm];omega
 ·rename_i hlt;rw [<-hN] at hlt;rw [gt];exact Ew g0 (by omega)
 ·unfold hdC mkC at gc⊢;simp only [Prod.mk.injEq] at gc⊢;obtain ⟨q0,q1,q2,q3,q4,q5,q6,⟨q7,q8⟩,_⟩:=gc;exact ⟨q0,q1,q2,q3,q4,q5,q6,⟨q7,q8⟩,trivial⟩
 ·rename_i hlt;rw [<-hN] at hlt;omega
 ·rename_i k0 _ h7 hlt he;rw [<-hN] at hlt;rw [dg k0 (pL h7 gt hlt g1)];unfold eU;rw [Q8 he];rfl
 ·rename_i k0 _ h7 hlt he hr;rw [<-hN] at hlt;rw [dg k0 (pL h7 gt hlt g1)];unfold eU;rw [Q_ he,Q_ hr];rfl
 ·rename_i k0 _ h7 hlt he hr;rw [<-hN] at hlt;rw [dg k0 (pL h7 gt hlt g1)];unfold eU;rw [Q_ he,Q8 hr,<-gc]
 ·rename_i k0 _ h7 he;rw [dg k0 (ud h7 hQ)];unfold eU;rw [Q8 he];rfl
 ·rename_i k0 _ h7 he hr;rw [dg k0 (ud h7 hQ)];unfold eU;rw [Q_ he,Q_ hr];rfl
 ·rename_i k0 _ h7 he hr;rw [dg k0 (ud h7 hQ)];unfold eU;rw [Q_ he,Q8 hr];unfold hdC mkC;rw [hQ];rfl
set_option maxRecDepth 20000
def Ex:FSpec Tryz.prog:=mkG 29 (.c .s .z) (fun x=>(fun (s:By)=>(s.length<=10000,(.tuple [.agg [.int .i64 (ak s).1.1, .int .i64 (ak s).1.2.1, .int .i64 (ak s).1.2.2.1, .int .i64 (ak s).1.2.2.2.1, .int .i64 (ak s).1.2.2.2.2.1, .bool (ak s).1.2.2.2.2.2.1, .bool (ak s).1.2.2.2.2.2.2.1, .int .i64 (ak s).1.2.2.2.2.2.2.2.1.1, .int .i64 (ak s).1.2.2.2.2.2.2.2.1.2, .list .part Ln (ak s).1.2.2.2.2.2.2.2.2], .int .i64 (ak s).2]))) x.1) fun ⟨s,_⟩ h=>Pure.of_condG (E:=zJ s) (sh:=[some 10,none]) (ann:=zK) (x:=(fun (s:By)=>((ak s).1.1,(ak s).1.2.1,(ak s).1.2.2.1,(ak s).1.2.2.2.1,(ak s).1.2.2.2.2.1,(ak s).1.2.2.2.2.2.1,(ak s).1.2.2.2.2.2.2.1,(ak s).1.2.2.2.2.2.2.2.1.1,(ak s).1.2.2.2.2.2.2.2.1.2,(ak s).1.2.2.2.2.2.2.2.2,(ak s).2,())) s) (by kernel_rfl) (wM s h) rfl (fm rfl _ _ [] _ rfl rfl rfl rfl) mixed Tryz.func29
end Cm
end
section
namespace Cm
open Go.Vm
def oG:TypeId->Option Ty:=fun t=>if t=9 then some .str else aJ t
set_option maxRecDepth 20000
def Ey (k:Int):Env where
 P:=Tryz.prog
 ty:=oG
def pM (k:Int):Prop:=
 (au (k-(1:Int)))/\(0<=k-(1:Int)/\k-(1:Int)<(↑(8:Nat):Int))/\∀(x:List UInt8),[[(101:UInt8),(110:UInt8),(116:UInt8),(105:UInt8),(116:UInt8),(121:UInt8)],[(97:UInt8),(99:UInt8),(99:UInt8),(111:UInt8),(117:UInt8),(110:UInt8),(116:UInt8)],[(109:UInt8),(111:UInt8),(118:UInt8),(101:UInt8)],[(111:UInt8),(119:UInt8),(110:UInt8)],[(114:UInt8),(97:UInt8),(116:UInt8),(101:UInt8)],[(108:UInt8),(111:UInt8),(99:UInt8),(107:UInt8)],[(112:UInt8),(111:UInt8),(115:UInt8),(116:UInt8)],[(114:UInt8),(101:UInt8),(118:UInt8),(101:UInt8),(114:UInt8),(115:UInt8),(101:UInt8)]][(k-(1:Int)).toNat]? =some x->(x,())=(ba k,())
theorem zL (k:Int) (h:1<=k/\k<=8):pM k:=by
 unfold pM;repeat' (first|with_reducible apply And.intro|intro _)
 all_goals try (first|trivial|omega)
 rename_i x hx;have:CC[(k-1).toNat]? =some x:=hx;unfold ba;rw [this];rfl
def H2:FSpec Tryz.prog:=mkF 52 (.c .j .z) [.str] (fun x=>(fun (k:Int)=>(1<=k/\k<=8,ba k,())) x.1) fun ⟨k,_⟩ h=>av (E:=Ey k) (zL k h) (ab rfl [] [] rfl rfl) Tryz.func52
def bY (k:Int):Int:=(([1,2,2,4,4,2,1,2]:List Int)[(k-1).toNat]?).getD 0
def Ez (k:Int):Env:=ee
def pN (k:Int):Prop:=
 (au (k-(1:Int)))/\(0<=k-(1:Int)/\k-(1:Int)<(↑(8:Nat):Int))/\∀(x:Int),[(1:Int),(2:Int),(2:Int),(4:Int),(4:Int),(2:Int),(1:Int),(2:Int)][(k-(1:Int)).toNat]? =some x->(x,())=(bY k,())
theorem zM (k:Int) (h:1<=k/\k<=8):pN k:=by
 unfold pN;repeat' (first|with_reducible apply And.intro|intro _)
 all_goals try (first|trivial|omega)
 rename_i x hx;unfold bY;rw [hx];rfl
def wv:FSpec Tryz.prog:=mkF 66 (.c .j .z) [.int .i64] (fun x=>(fun (k:Int)=>(1<=k/\k<=8,bY k,())) x.1) fun ⟨k,_⟩ h=>av (E:=Ez k) (zM k h) (ab rfl [] [] rfl rfl) Tryz.func66
theorem pA {k:Int} (h1:1<=k) (h8:k<=8):k=1∨k=2∨k=3∨k=4∨k=5∨k=6∨k=7∨k=8:=by omega
theorem ia {k:Int} (h1:1<=k) (h8:k<=8):1<=bY k/\bY k<=4:=by
 rcases pA h1 h8 with rfl|rfl|rfl|rfl|rfl|rfl|rfl|rfl<;>decide
def Mk (c:CmD):Prop:=(∃i:Int,bY c.1<=i/\i<4/\a8 [c.2.1,c.2.2.1,c.2.2.2.1,c.2.2.2.2.1] i≠0)∨(c.1≠2/\(c.2.2.2.2.2.1=true∨c.2.2.2.2.2.2.1=true))∨(c.1≠5/\(c.2.2.2.2.2.2.2.1.1≠0∨c.2.2.2.2.2.2.2.1.2≠0))
theorem H3 (b:Bool):dh b=0↔b=false:=by cases b<;>simp [dh]
theorem Ml {n:Int} {P:Int->Prop} (h:1<=n) (h4:n<=4):(∃i:Int,n<=i/\i<4/\P i)↔(n<=1/\P 1)∨(n<=2/\P 2)∨(n<=3/\P 3):=by
 constructor
 ·rintro ⟨i,h1,h2,h3⟩;have:i=1∨i=2∨i=3:=by omega
  rcases this with rfl|rfl|rfl
  ·exact .inl ⟨h1,h3⟩
  ·exact .inr (.inl ⟨h1,h3⟩)
  ·exact .inr (.inr ⟨h1,h3⟩)
 ·rintro (⟨h1,h3⟩|⟨h1,h3⟩|⟨h1,h3⟩)
  ·exact ⟨1,h1,by decide,h3⟩
  ·exact ⟨2,h1,by decide,h3⟩
  ·exact ⟨3,h1,by decide,h3⟩
theorem CF {c:CmD} (h1:1<=c.1) (h8:c.1<=8):cq c=true↔Mk c:=by
 unfold Mk;have hn:=ia h1 h8;rw [Ml hn.1 hn.2];obtain ⟨k,a,b,c,d,s,p,⟨n,m⟩,l⟩:=c;dsimp only at h1 h8;have e:cq (k,a,b,c,d,s,p,(n,m),l)=true↔∃j:Nat,j<8/\dx (k,a,b,c,d,s,p,(n,m),l) j:=by
  unfold cq;rw [Sd];constructor
  ·rintro ⟨j,hj,hb⟩;exact ⟨j,RX.1 hj,Se hb⟩
  ·rintro ⟨j,hj,hb⟩;exact ⟨j,RX.2 hj,RB hb⟩
 have e8:(∃j:Nat,j<8/\dx (k,a,b,c,d,s,p,(n,m),l) j)↔dx (k,a,b,c,d,s,p,(n,m),l) 0∨dx (k,a,b,c,d,s,p,(n,m),l) 1∨dx (k,a,b,c,d,s,p,(n,m),l) 2∨dx (k,a,b,c,d,s,p,(n,m),l) 3∨dx (k,a,b,c,d,s,p,(n,m),l) 4∨dx (k,a,b,c,d,s,p,(n,m),l) 5∨dx (k,a,b,c,d,s,p,(n,m),l) 6∨dx (k,a,b,c,d,s,p,(n,m),l) 7:=by
  constructor
  ·rintro ⟨j,hj,hb⟩;have:j=0∨j=1∨j=2∨j=3∨j=4∨j=5∨j=6∨j=7:=by omega
   rcases this with rfl|rfl|rfl|rfl|rfl|rfl|rfl|rfl
   ·exact .inl hb
   ·exact .inr (.inl hb)
   ·exact .inr (.inr (.inl hb))
   ·exact .inr (.inr (.inr (.inl hb)))
   ·exact .inr (.inr (.inr (.inr (.inl hb))))
   ·exact .inr (.inr (.inr (.inr (.inr (.inl hb)))))
   ·exact .inr (.inr (.inr (.inr (.inr (.inr (.inl hb))))))
   ·exact .inr (.inr (.inr (.inr (.inr (.inr (.inr hb))))))
  ·rintro (h|h|h|h|h|h|h|h)
   ·exact ⟨0,by decide,h⟩
   ·exact ⟨1,by decide,h⟩
   ·exact ⟨2,by decide,h⟩
   ·exact ⟨3,by decide,h⟩
   ·exact ⟨4,by decide,h⟩
   ·exact ⟨5,by decide,h⟩
   ·exact ⟨6,by decide,h⟩
   ·exact ⟨7,by decide,h⟩
 rw [e,e8];rcases pA h1 h8 with rfl|rfl|rfl|rfl|rfl|rfl|rfl|rfl<;>cases s<;>cases p<;>simp [dx,a8,cR,an,wE,bY,H3,dh]<;>omega
theorem CG {c:CmD} (h1:1<=c.1) (h8:c.1<=8) (hl:(aB c).length<=50) (h:Mk c∨(c.1≠7/\0<(aB c).length)):ah c=2:=by
 unfold ah;rw [Q8 (by omega),Q8 (by omega)];by_cases h7:c.1≠7/\0<(aB c).length
 ·rw [Q_ h7]
 ·rw [Q8 h7,Q_ ((CF h1 h8).2 (h.resolve_right h7))]
theorem H4 {c:CmD} (h1:1<=c.1) (h8:c.1<=8) (hl:(aB c).length<=50) (h: ¬Mk c) (h7: ¬(c.1≠7/\0<(aB c).length)):ah c=0:=by
 unfold ah;rw [Q8 (by omega),Q8 (by omega),Q8 h7,Q8 (fun e=>h ((CF h1 h8).1 e))]
def kB (k a b c d:Int) (s p:Bool) (n m:Int) (l:List LnD):Env where
 P:=Tryz.prog
 ty:=aJ
 specs:=ai [wv]
 heads:=fun
  |7=>some {slots:=[(4, .int .i64)],boxes:=[],keep:=[1],inv:=fun _ (x:Int×Unit)=>bY k<=x.1/\x.1<=4/\∀i,bY k<=i->i<x.1->a8 [a,b,c,d] i=0,measure:=fun _ (x:Int×Unit)=>(4-x.1).toNat}
  |_=>none
abbrev f_ (k:Int) (a:Int) (b:Int) (c:Int) (d:Int) (s:Bool) (p:Bool) (n:Int) (m:Int) (l:List LnD):_root_.Go.Vm.Obj:=Obj.box [V.int IntKind.i64 k,V.int IntKind.i64 a,V.int IntKind.i64 b,V.int IntKind.i64 c,V.int IntKind.i64 d,V.bool s,V.bool p,V.int IntKind.i64 n,V.int IntKind.i64 m,V.list LK.tmp Ln l]
def eM (k:Int) (a:Int) (b:Int) (c:Int) (d:Int) (s:Bool) (p:Bool) (n:Int) (m:Int) (l:List LnD):Prop:=
 (aj (k<1)->(ag (8<k)->((25:Int),())=(ah (k,a,b,c,d,s,p,(n,m),l),()))/\(aj (8<k)->(ag ((50:Int)<(↑l.length:Int))->((30:Int),())=(ah (k,a,b,c,d,s,p,(n,m),l),()))/\(aj ((50:Int)<(↑l.length:Int))->(1<=k/\k<=8)/\((some (f_ k a b c d s p n m l)=some (f_ k a b c d s p n m l)/\True)/\bY k<=bY k/\bY k<=4/\∀(i:Int),bY k<=i->i<bY k->a8 [a,b,c,d] i=0)/\∀(x:Int×Unit),(bY k<=x.1/\x.1<=4/\∀(i:Int),bY k<=i->i<x.1->a8 [a,b,c,d] i=0)->(ag (x.1<4)->(0<=x.1/\x.1<(↑(4:Nat):Int))/\∀(x_1:Int),[a,b,c,d][x.1.toNat]? =some x_1->((!decide (x_1=0))=true->((2:Int),())=(ah (k,a,b,c,d,s,p,(n,m),l),()))/\((!decide (x_1=0))=false->(au (x.1+1))/\(some (f_ k a b c d s p n m l)=some (f_ k a b c d s p n m l)/\True)/\(bY k<=x.1+1/\x.1+1<=4/\∀(i:Int),bY k<=i->i<x.1+1->a8 [a,b,c,d] i=0)/\((4:Int)-(x.1+1)).toNat<((4:Int)-x.1).toNat))/\(aj (x.1<4)->((!decide (k=2))=true->(s=false->(p=false->((!decide (k=5))=true->((!decide (n=0))=false->((!decide (m=0))=false->((!decide (k=7))=true->(ag ((0:Int)<(↑l.length:Int))->((2:Int),())=(ah (k,a,b,c,d,s,p,(n,m),l),()))/\(aj ((0:Int)<(↑l.length:Int))->((0:Int),())=(ah (k,a,b,c,d,s,p,(n,m),l),())))/\((!decide (k=7))= !true->((0:Int),())=(ah (k,a,b,c,d,s,p,(n,m),l),())))/\((!decide (m=0))= !false->((2:Int),())=(ah (k,a,b,c,d,s,p,(n,m),l),())))/\((!decide (n=0))= !false->((2:Int),())=(ah (k,a,b,c,d,s,p,(n,m),l),())))/\((!decide (k=5))= !true->((!decide (k=7))=true->(ag ((0:Int)<(↑l.length:Int))->((2:Int),())=(ah (k,a,b,c,d,s,p,(n,m),l),()))/\(aj ((0:Int)<(↑l.length:Int))->((0:Int),())=(ah (k,a,b,c,d,s,p,(n,m),l),())))/\((!decide (k=7))= !true->((0:Int),())=(ah (k,a,b,c,d,s,p,(n,m),l),()))))/\(p= !false->((2:Int),())=(ah (k,a,b,c,d,s,p,(n,m),l),())))/\(s= !false->((2:Int),())=(ah (k,a,b,c,d,s,p,(n,m),l),())))/\((!decide (k=2))= !true->((!decide (k=5))=true->((!decide (n=0))=false->((!decide (m=0))=false->((!decide (k=7))=true->(ag ((0:Int)<(↑l.length:Int))->((2:Int),())=(ah (k,a,b,c,d,s,p,(n,m),l),()))/\(aj ((0:Int)<(↑l.length:Int))->((0:Int),())=(ah (k,a,b,c,d,s,p,(n,m),l),())))/\((!decide (k=7))= !true->((0:Int),())=(ah (k,a,b,c,d,s,p,(n,m),l),())))/\((!decide (m=0))= !false->((2:Int),())=(ah (k,a,b,c,d,s,p,(n,m),l),())))/\((!decide (n=0))= !false->((2:Int),())=(ah (k,a,b,c,d,s,p,(n,m),l),())))/\((!decide (k=5))= !true->((!decide (k=7))=true->(ag ((0:Int)<(↑l.length:Int))->((2:Int),())=(ah (k,a,b,c,d,s,p,(n,m),l),()))/\(aj ((0:Int)<(↑l.length:Int))->((0:Int),())=(ah (k,a,b,c,d,s,p,(n,m),l),())))/\((!decide (k=7))= !true->((0:Int),())=(ah (k,a,b,c,d,s,p,(n,m),l),()))))))))/\(bu (k<1)->((25:Int),())=(ah (k,a,b,c,d,s,p,(n,m),l),()))
theorem iX (k a b c d:Int) (s p:Bool) (n m:Int) (l:List LnD):eM k a b c d s p n m l:=by
 unfold eM aj bu ag;simp only [Q7,Q6,Rb,Rd,Rl,Rg];repeat' (first|with_reducible apply And.intro|intro _)
 all_goals try (first|trivial|rfl|omega)
 ·rw [show ah (k,a,b,c,d,s,p,(n,m),l)=25 from Q_ (by omega)]
 ·rw [show ah (k,a,b,c,d,s,p,(n,m),l)=30 from (Q8 (by simp only;omega)).trans (Q_ (by simp only [aB];omega))]
 ·exact (ia (by omega) (by omega)).2
 ·rename_i x hx _;have:=(ia (k:=k) (by omega) (by omega)).1;omega
 ·rename_i x hx _ y hy hy0;have h1:=(ia (k:=k) (by omega) (by omega)).1;rw [CG (c:=(k,a,b,c,d,s,p,(n,m),l)) (by dsimp only;omega) (by dsimp only;omega) (by simp only [aB];omega) (.inl (.inl ⟨x.1,hx.1,by assumption,by unfold a8;simp only;rw [hy];exact hy0⟩))]
 ·rename_i x hx _ _ _ _;have:=(ia (k:=k) (by omega) (by omega)).1;omega
 ·rename_i x hx _ y hy hy0 i i0 i1;have h1:=(ia (k:=k) (by omega) (by omega)).1;by_cases hi:i<x.1
  ·exact hx.2.2 i i0 hi
  ·have:i=x.1:=by omega
   subst this;unfold a8;rw [hy];exact hy0
 all_goals try (
  rw [CG (c:=(k,a,b,c,d,s,p,(n,m),l)) (by dsimp only;omega) (by dsimp only;omega) (by simp only [aB];omega) (by
   first
    |exact .inr ⟨by assumption,by simp only [aB];omega⟩
    |exact .inl (.inr (.inl ⟨by assumption, .inl (by assumption)⟩))
    |exact .inl (.inr (.inl ⟨by assumption, .inr (by assumption)⟩))
    |exact .inl (.inr (.inr ⟨by assumption, .inl (by assumption)⟩))
    |exact .inl (.inr (.inr ⟨by assumption, .inr (by assumption)⟩)))])
 iterate 4 (
  rw [H4 (c:=(k,a,b,c,d,s,p,(n,m),l)) (by dsimp only;omega) (by dsimp only;omega) (by simp only [aB];omega) (by
   obtain ⟨_,_,hz⟩:=‹bY k<=_/\(_:Int)<=4/\_›;rintro (⟨i,i0,i1,i2⟩|⟨q1,q2⟩|⟨q1,q2⟩)
   ·exact i2 (hz i i0 (by omega))
   ·simp_all
   ·simp_all) (by simp only [aB];omega)])
 ·rw [show ah (k,a,b,c,d,s,p,(n,m),l)=25 from Q_ (by simp only;omega)]
def mB:FSpec Tryz.prog:=mkF 51 (.c (.g (.c .j (.c .j (.c .j (.c .j (.c .j (.c .b (.c .b (.c .j (.c .j (.c (.l Ln) .z))))))))))) .z) [.int .i64] (fun x=>(fun (k a b c d:Int) (s p:Bool) (n m:Int) (l:List LnD)=>(True,ah (k,a,b,c,d,s,p,(n,m),l),())) x.1.1 x.1.2.1 x.1.2.2.1 x.1.2.2.2.1 x.1.2.2.2.2.1 x.1.2.2.2.2.2.1 x.1.2.2.2.2.2.2.1 x.1.2.2.2.2.2.2.2.1 x.1.2.2.2.2.2.2.2.2.1 x.1.2.2.2.2.2.2.2.2.2.1) fun ⟨⟨k,a,b,c,d,s,p,n,m,l,_⟩,_⟩ _=>av (E:=kB k a b c d s p n m l) (iX k a b c d s p n m l) (ab rfl _ [] rfl rfl) Tryz.func51
end Cm
end
section
namespace Cm
open Go.Vm
theorem Mm {c:CmD} (h:InC c) (h50:(aB c).length<=50): ∀n∈nH c,InI n:=by
 intro n hn;unfold nH at hn;rw [Rn] at hn;rcases hn with hn|hn
 ·obtain ⟨j,_,rfl⟩:=RS.1 hn;exact ub h j
 ·split at hn
  ·rcases Rp.1 hn with rfl|hn
   ·unfold InI;omega
   ·obtain ⟨x,hx,hn⟩:=List.mem_flatMap.1 hn;exact h.2 x hx n hn
  ·cases hn
set_option maxRecDepth 20000
def aI (s:By) (a lo hi:Int):Int×Int×Int:=am s a 0 lo hi
theorem EA {s:By} {a:Int} {w:By} (h: ¬(aO s a w).2=0):(aO s a w).1=0:=by
 unfold aO at h⊢;repeat' split
 all_goals first|rfl|(rename_i h1 h2;rw [Q8 h1,Q_ h2] at h;exact absurd rfl h)
def wN (s:By) (a lo hi:Int):Env where
 P:=Tryz.prog
 ty:=aJ
 specs:=ai [ue,CH]
def lf (s:By) (a:Int) (lo:Int) (hi:Int):Prop:=
 (List.length s<=(1000000:Nat)/\(1:Nat)<=(1000000:Nat))/\((!decide ((aO s a [(32:UInt8)]).2=0))=true->((0:Int),(0:Int),(aO s a [(32:UInt8)]).2,())=((aI s a lo hi).1,(aI s a lo hi).2.1,(aI s a lo hi).2.2,()))/\((!decide ((aO s a [(32:UInt8)]).2=0))=false->List.length s<=(10000:Nat)/\((aK s (aO s a [(32:UInt8)]).1 lo hi).1,(aK s (aO s a [(32:UInt8)]).1 lo hi).2.1,(aK s (aO s a [(32:UInt8)]).1 lo hi).2.2,())=((aI s a lo hi).1,(aI s a lo hi).2.1,(aI s a lo hi).2.2,()))
theorem uf (s:By) (a lo hi:Int) (h:s.length<=10000):lf s a lo hi:=by
 unfold lf aI am;simp only [Q7,Q6,Rb,Rd,Rl,Rg,if_true];repeat' (first|with_reducible apply And.intro|intro _)
 all_goals try (first|trivial|rfl|omega)
 ·rename_i e;rw [Q8 e,EA e]
 ·rename_i e;rw [Q_ e]
def kz:FSpec Tryz.prog:=mkF 67 (.c .s (.c .j (.c .j (.c .j .z)))) [.int .i64, .int .i64, .int .i64] (fun x=>(fun (s:By) (a lo hi:Int)=>(s.length<=10000,(aI s a lo hi).1,(aI s a lo hi).2.1,(aI s a lo hi).2.2,())) x.1 x.2.1 x.2.2.1 x.2.2.2.1) fun ⟨s,a,lo,hi,_⟩ h=>av (E:=wN s a lo hi) (uf s a lo hi h) (ab rfl _ [] rfl rfl) Tryz.func67
def az (s:By):Nat->Int->List Int->List Int×Int×Int
 |0,a,out=>(out,a,0)
 |n+1,a,out=>if (ae s a 0).2.2=0 then az s n (ae s a 0).2.1 (out++[(ae s a 0).1]) else ([],0,(ae s a 0).2.2)
def Mn (s:By) (a n:Int):Env where
 P:=Tryz.prog
 ty:=aJ
 specs:=ai [kz]
 heads:=fun
  |3=>some {slots:=[(1, .int .i64),(9, .slc 9000 I),(10, .int .i64)],boxes:=[],keep:=[],inv:=fun _ (x:Int×List Int×Int×Unit)=>0<=x.2.2.1/\x.2.2.1<=n/\(x.2.1.length:Int)=x.2.2.1/\az s n.toNat a []=az s (n.toNat-x.2.2.1.toNat) x.1 x.2.1,measure:=fun _ (x:Int×List Int×Int×Unit)=>(n-x.2.2.1).toNat}
  |_=>none
def wO (s:By) (a:Int) (n:Int):Prop:=
 (True/\0<=(0:Int)/\0<=n/\(↑(0:Nat):Int)=(0:Int)/\az s n.toNat a []=az s (n.toNat-Int.toNat 0) a [])/\∀(x:Int×List Int×Int×Unit),0<=x.2.2.1/\x.2.2.1<=n/\(↑x.2.1.length:Int)=x.2.2.1/\az s n.toNat a []=az s (n.toNat-x.2.2.1.toNat) x.1 x.2.1->(ag (x.2.2.1<n)->List.length s<=(10000:Nat)/\((!decide ((aI s x.1 (-9223372036854775808) 9223372036854775807).2.2=0))=true->([],(0:Int),(aI s x.1 (-9223372036854775808) 9223372036854775807).2.2,())=((az s n.toNat a []).1,(az s n.toNat a []).2.1,(az s n.toNat a []).2.2,()))/\((!decide ((aI s x.1 (-9223372036854775808) 9223372036854775807).2.2=0))=false->((x.2.1.length+(1:Nat))*(8:Nat)<=(140737488355328:Nat)/\x.2.1.length+(1:Nat)<=(4611686018427387904:Nat))/\(au (x.2.2.1+1))/\True/\(0<=x.2.2.1+1/\x.2.2.1+1<=n/\(↑(x.2.1++[(aI s x.1 (-9223372036854775808) 9223372036854775807).1]).length:Int)=x.2.2.1+1/\az s n.toNat a []=az s (n.toNat-(x.2.2.1+1).toNat) (aI s x.1 (-9223372036854775808) 9223372036854775807).2.1 (x.2.1++[(aI s x.1 (-9223372036854775808) 9223372036854775807).1]))/\(n-(x.2.2.1+1)).toNat<(n-x.2.2.1).toNat))/\(aj (x.2.2.1<n)->(x.2.1,x.1,(0:Int),())=((az s n.toNat a []).1,(az s n.toNat a []).2.1,(az s n.toNat a []).2.2,()))
theorem H5 (s:By) (a n:Int) (h:s.length<=10000/\0<=n/\n<=100):wO s a n:=by
 unfold wO aj ag;simp only [Q7,Q6,Rb,Rd,Rl,Rg];repeat' (first
  |with_reducible apply And.intro
  |(intro (x:Int×List Int×Int×Unit);obtain ⟨at1,o,i,⟨⟩⟩:=x;rintro ⟨h0,h1,hl,ho⟩;dsimp only at h0 h1 hl ho⊢)
  |intro _)
 all_goals try (first|trivial|rfl|omega)
 ·rename_i hi e;have e: ¬(ae s at1 0).2.2=0:=e;rw [ho,show n.toNat-i.toNat=(n.toNat-(i+1).toNat)+1 by omega];unfold az;rw [Q8 e];rfl
 ·rw [Re,Rm];omega
 ·rename_i hi e;have e:(ae s at1 0).2.2=0:=e;rw [ho,show n.toNat-i.toNat=(n.toNat-(i+1).toNat)+1 by omega];show az s ((n.toNat-(i+1).toNat)+1) at1 o=_;rw [az,Q_ e];rfl
 ·rw [ho,show n.toNat-i.toNat=0 by omega];rfl
def HI:FSpec Tryz.prog:=mkF 65 (.c .s (.c .j (.c .j .z))) [.slc 9001 I, .int .i64, .int .i64] (fun x=>(fun (s:By) (a n:Int)=>(s.length<=10000/\0<=n/\n<=100,(az s n.toNat a []).1,(az s n.toNat a []).2.1,(az s n.toNat a []).2.2,())) x.1 x.2.1 x.2.2.1) fun ⟨s,a,n,_⟩ h=>av (E:=Mn s a n) (H5 s a n h) (ab rfl _ [] rfl rfl) Tryz.func65
def pO (s:By):Env where
 P:=Tryz.prog
 ty:=aJ
 specs:=ai [ue,H2]
 heads:=fun
  |3=>some {slots:=[(5, .int .i64),(6, .int .i64)],boxes:=[],keep:=[],inv:=fun _ (x:Int×Int×Unit)=>1<=x.2.1/\x.2.1<=9/\ac s=cE s (kinds.drop (x.2.1-1).toNat) x.1,measure:=fun _ (x:Int×Int×Unit)=>(9-x.2.1).toNat}
  |_=>none
def gF (s:By):Prop:=
 (True/\(1:Int)<=(1:Int)/\(1:Int)<=(9:Int)/\ac s=cE s (List.drop ((1:Int)-(1:Int)).toNat kinds) 8)/\∀(x:Int×Int×Unit),1<=x.2.1/\x.2.1<=9/\ac s=cE s (List.drop (x.2.1-(1:Int)).toNat kinds) x.1->(ag (x.2.1<=8)->(1<=x.2.1/\x.2.1<=8)/\(List.length s<=(1000000:Nat)/\(ba x.2.1).length<=(1000000:Nat))/\(ag ((aO s 0 (ba x.2.1)).2=0)->(x.2.1,(aO s 0 (ba x.2.1)).1,(0:Int),())=((ac s).1,(ac s).2.1,(ac s).2.2,()))/\(aj ((aO s 0 (ba x.2.1)).2=0)->(ag ((aO s 0 (ba x.2.1)).2=4)->(au (x.2.1+1))/\True/\(1<=x.2.1+1/\x.2.1+1<=9/\ac s=cE s (List.drop (x.2.1+1-(1:Int)).toNat kinds) 4)/\((9:Int)-(x.2.1+1)).toNat<((9:Int)-x.2.1).toNat)/\(aj ((aO s 0 (ba x.2.1)).2=4)->(au (x.2.1+1))/\True/\(1<=x.2.1+1/\x.2.1+1<=9/\ac s=cE s (List.drop (x.2.1+1-(1:Int)).toNat kinds) x.1)/\((9:Int)-(x.2.1+1)).toNat<((9:Int)-x.2.1).toNat)))/\(aj (x.2.1<=8)->((0:Int),(0:Int),x.1,())=((ac s).1,(ac s).2.1,(ac s).2.2,()))
theorem mC (s:By) (h:s.length<=10000):gF s:=by
 unfold gF aj ag;simp only [Q7,Q6,Rb,Rd,Rl,Rg];have step: ∀(w k:Int),1<=k->k<9->ac s=cE s (kinds.drop (k-1).toNat) w->ac s=if (aO s 0 (ba k)).2=0 then (k,(aO s 0 (ba k)).1,0) else cE s (kinds.drop k.toNat) (if (aO s 0 (ba k)).2=4 then 4 else w):=fun w k h0 h1 hx=>by
  rw [hx,wI (by omega:(k-1).toNat<8),show (k-1).toNat+1=k.toNat by omega,show (((k-1).toNat:Nat):Int)+1=k by omega];rfl
 repeat' (first
  |with_reducible apply And.intro
  |(intro (x:Int×Int×Unit);obtain ⟨w,k,⟨⟩⟩:=x;rintro ⟨h0,h1,ho⟩;dsimp only at h0 h1 ho⊢;have hwl:=fo k;have hst:=step w k h0)
  |intro _)
 all_goals try (first|trivial|rfl|omega)
 ·rename_i k8 e;rw [hst (by omega) ho,Q_ e]
 ·rename_i k8 e e4;rw [hst (by omega) ho,Q8 e,Q_ e4,show (k+1-1).toNat=k.toNat by omega]
 ·rename_i k8 e e4;rw [hst (by omega) ho,Q8 e,Q8 e4,show (k+1-1).toNat=k.toNat by omega]
 ·rw [ho,show (k-1).toNat=8 by omega];rfl
def tS:FSpec Tryz.prog:=mkF 64 (.c .s .z) [.int .i64, .int .i64, .int .i64] (fun x=>(fun (s:By)=>(s.length<=10000,(ac s).1,(ac s).2.1,(ac s).2.2,())) x.1) fun ⟨s,_⟩ h=>av (E:=pO s) (mC s h) (ab rfl _ [] rfl rfl) Tryz.func64
def Pj (l:List Int):LnD:=(a8 l 0,a8 l 1,a8 l 2,a8 l 3)
def cM (s:By):Nat->Int->List LnD->List LnD×Int×Int
 |0,a,out=>(out,a,0)
 |n+1,a,out=>if (az s 4 a []).2.2=0 then cM s n (az s 4 a []).2.1 (out++[Pj (az s 4 a []).1]) else (out,(az s 4 a []).2.1,(az s 4 a []).2.2)
def aV (s:By) (a:Int):List LnD×Int×Int:=if (aI s a 0 50).2.2=0 then cM s (aI s a 0 50).1.toNat (aI s a 0 50).2.1 [] else ([],(aI s a 0 50).2.1,(aI s a 0 50).2.2)
theorem oR (s:By): ∀(n:Nat) (a:Int) (out:List Int),(az s n a out).2.2=0->(az s n a out).1.length=out.length+n
 |0,a,out,_=>rfl
 |n+1,a,out,h=>by
  unfold az at h⊢;by_cases e:(ae s a 0).2.2=0
  ·rw [Q_ e] at h⊢;rw [oR s n _ _ h,Re,Rm];omega
  ·rw [Q8 e] at h;exact absurd h e
def EB (s:By) (a:Int):Env where
 P:=Tryz.prog
 ty:=aJ
 specs:=ai [kz,HI]
 frz:=fun|33=>true|_=>false
 heads:=fun
  |4=>some {slots:=[(1, .int .i64),(8, .int .i64),(9, .slc 9000 Ln),(10, .int .i64)],boxes:=[],keep:=[],inv:=fun _ (x:Int×Int×List LnD×Int×Unit)=>0<=x.2.2.2.1/\x.2.2.2.1<=(aI s a 0 50).1/\(x.2.2.1.length:Int)<=x.2.2.2.1/\aV s a=(if x.2.1=0 then cM s ((aI s a 0 50).1.toNat-x.2.2.2.1.toNat) x.1 x.2.2.1 else (x.2.2.1,x.1,x.2.1)),measure:=fun _ (x:Int×Int×List LnD×Int×Unit)=>((aI s a 0 50).1-x.2.2.2.1).toNat}
  |_=>none
def pP (s:By) (a:Int):Prop:=
 List.length s<=(10000:Nat)/\(True/\0<=(0:Int)/\0<=(aI s a 0 50).1/\(↑(0:Nat):Int)<=(0:Int)/\aV s a=if (aI s a 0 50).2.2=0 then cM s ((aI s a 0 50).1.toNat-Int.toNat 0) (aI s a 0 50).2.1 [] else ([],(aI s a 0 50).2.1,(aI s a 0 50).2.2))/\∀(x:Int×Int×List (Int×Int×Int×Int)×Int×Unit),(0<=x.2.2.2.1/\x.2.2.2.1<=(aI s a 0 50).1/\x.2.2.1.length<=x.2.2.2.1/\aV s a=if x.2.1=0 then cM s ((aI s a 0 50).1.toNat-x.2.2.2.1.toNat) x.1 x.2.2.1 else (x.2.2.1,x.1,x.2.1))->(ag (x.2.2.2.1<(aI s a 0 50).1)->(ag (x.2.1=0)->(List.length s<=(10000:Nat)/\0<=(4:Int)/\(4:Int)<=(100:Int))/\(ag ((az s (Int.toNat 4) x.1 []).2.2=0)->(0<=(0:Int)/\(0:Int)<(↑(az s (Int.toNat 4) x.1 []).1.length:Int))/\∀(x_1:Int),(az s (Int.toNat 4) x.1 []).1[Int.toNat 0]? =some x_1->(0<=(1:Int)/\(1:Int)<(↑(az s (Int.toNat 4) x.1 []).1.length:Int))/\∀(x_2:Int),(az s (Int.toNat 4) x.1 []).1[Int.toNat 1]? =some x_2->(0<=(2:Int)/\(2:Int)<(↑(az s (Int.toNat 4) x.1 []).1.length:Int))/\∀(x_3:Int),(az s (Int.toNat 4) x.1 []).1[Int.toNat 2]? =some x_3->(0<=(3:Int)/\(3:Int)<(↑(az s (Int.toNat 4) x.1 []).1.length:Int))/\∀(x_4:Int),(az s (Int.toNat 4) x.1 []).1[Int.toNat 3]? =some x_4->((x.2.2.1.length+(1:Nat))*(32:Nat)<=(140737488355328:Nat)/\x.2.2.1.length+(1:Nat)<=(4611686018427387904:Nat))/\(au (x.2.2.2.1+1))/\True/\(0<=x.2.2.2.1+1/\x.2.2.2.1+1<=(aI s a 0 50).1/\(↑(x.2.2.1++[(x_1,x_2,x_3,x_4)]).length:Int)<=x.2.2.2.1+1/\aV s a=if (az s (Int.toNat 4) x.1 []).2.2=0 then cM s ((aI s a 0 50).1.toNat-(x.2.2.2.1+1).toNat) (az s (Int.toNat 4) x.1 []).2.1 (x.2.2.1++[(x_1,x_2,x_3,x_4)]) else (x.2.2.1++[(x_1,x_2,x_3,x_4)],(az s (Int.toNat 4) x.1 []).2.1,(az s (Int.toNat 4) x.1 []).2.2))/\((aI s a 0 50).1-(x.2.2.2.1+1)).toNat<((aI s a 0 50).1-x.2.2.2.1).toNat)/\(aj ((az s (Int.toNat 4) x.1 []).2.2=0)->(au (x.2.2.2.1+1))/\True/\(0<=x.2.2.2.1+1/\x.2.2.2.1+1<=(aI s a 0 50).1/\x.2.2.1.length<=x.2.2.2.1+1/\aV s a=if (az s (Int.toNat 4) x.1 []).2.2=0 then cM s ((aI s a 0 50).1.toNat-(x.2.2.2.1+1).toNat) (az s (Int.toNat 4) x.1 []).2.1 x.2.2.1 else (x.2.2.1,(az s (Int.toNat 4) x.1 []).2.1,(az s (Int.toNat 4) x.1 []).2.2))/\((aI s a 0 50).1-(x.2.2.2.1+1)).toNat<((aI s a 0 50).1-x.2.2.2.1).toNat))/\(aj (x.2.1=0)->(x.2.2.1,x.1,x.2.1,())=((aV s a).1,(aV s a).2.1,(aV s a).2.2,())))/\(aP (x.2.2.2.1<(aI s a 0 50).1)->(x.2.2.1,x.1,x.2.1,())=((aV s a).1,(aV s a).2.1,(aV s a).2.2,()))
theorem zN (s:By) (a:Int) (h:s.length<=10000):pP s a:=by
 unfold pP aj aP ag;simp only [Q7,Q6,Rb,Rd,Rl,Rg];have hn50:0<=(aI s a 0 50).1/\(aI s a 0 50).1<=50:=so s a 0;repeat' (first
  |with_reducible apply And.intro
  |(intro (x:Int×Int×List (Int×Int×Int×Int)×Int×Unit);obtain ⟨at1,e,o,i,⟨⟩⟩:=x;rintro ⟨h0,h1,hl,ho⟩;dsimp only at h0 h1 hl ho⊢)
  |intro _)
 all_goals try (first|trivial|rfl|omega)
 all_goals try (
  have h4:=oR s 4 at1 [] (by assumption)
  rw [RJ] at h4)
 ·show 0<((az s 4 at1 []).1.length:Int);omega
 ·show 1<((az s 4 at1 []).1.length:Int);omega
 ·show 2<((az s 4 at1 []).1.length:Int);omega
 ·show 3<((az s 4 at1 []).1.length:Int);omega
 ·rw [Re,Rm];omega
 ·rename_i hi e0 er v0 y0 v1 y1 v2 y2 v3 y3;rw [ho,Q_ e0,Q_ er,show (aI s a 0 50).1.toNat-i.toNat=((aI s a 0 50).1.toNat-(i+1).toNat)+1 by omega];have er:(az s 4 at1 []).2.2=0:=er;rw [cM,Q_ er];have:Pj (az s 4 at1 []).1=(v0,v1,v2,v3):=by
   unfold Pj a8;rw [show (az s 4 at1 []).1[Int.toNat 0]? =_ from y0,show (az s 4 at1 []).1[Int.toNat 1]? =_ from y1,show (az s 4 at1 []).1[Int.toNat 2]? =_ from y2,show (az s 4 at1 []).1[Int.toNat 3]? =_ from y3];rfl
  rw [this];rfl
 ·rename_i hi e0 er;rw [ho,Q_ e0,Q8 er,show (aI s a 0 50).1.toNat-i.toNat=((aI s a 0 50).1.toNat-(i+1).toNat)+1 by omega];have er: ¬(az s 4 at1 []).2.2=0:=er;rw [cM,Q8 er];rfl
 ·rename_i e0;rw [ho,Q8 e0]
 ·rw [ho,show (aI s a 0 50).1.toNat-i.toNat=0 by omega];by_cases e0:e=0
  ·rw [Q_ e0,e0];rfl
  ·rw [Q8 e0]
def HJ:FSpec Tryz.prog:=mkF 68 (.c .s (.c .j .z)) [.slc 9001 Ln, .int .i64, .int .i64] (fun x=>(fun (s:By) (a:Int)=>(s.length<=10000,(aV s a).1,(aV s a).2.1,(aV s a).2.2,())) x.1 x.2.1) fun ⟨s,a,_⟩ h=>av (E:=EB s a) (zN s a h) (ab rfl _ [] rfl rfl) Tryz.func68
end Cm
end
end
end Go.Proofs.YtabicbgeoiilmaaGreatDoor
