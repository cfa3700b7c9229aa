/-
  command: the document's text, and what it reads. The walk.
-/
import Derived.Test.YtabicbgeoiilmaaGreatDoorBuild2
section
namespace Go.Proofs.YtabicbgeoiilmaaGreatDoor.Cm
open Go.Vm
abbrev CmD:Type:=Int×Int×Int×Int×Int×Bool×Bool×(Int×Int)×List (Int×Int×Int×Int)
abbrev LnD:Type:=Int×Int×Int×Int
def bitF (b:Bool):Int:=if b then 1 else 0
noncomputable def env_bit (b:Bool):Env where
 P:=Tryz.prog
 ty:=tys0
def g_bit_vc (b:Bool):Prop:=
 (b=true->((1:Int),())=(bitF b,()))/\(b=false->((0:Int),())=(bitF b,()))
theorem g_bit_ok (b:Bool):g_bit_vc b:=by
 unfold g_bit_vc bitF;cases b<;>simp
set_option maxRecDepth 20000
noncomputable def sp_bit:FSpec Tryz.prog:=mkF 106 (.c .b .z) [.int .i64] (fun x=>(fun (b:Bool)=>(True,bitF b,())) x.1) fun ⟨b,_⟩ _=>Pure.of_cond (E:=env_bit b) (by kernel_rfl) (g_bit_ok b) (specs_ok rfl [] [] rfl rfl) mixed Tryz.func106
def sayF (l:List Int):List UInt8:=l.flatMap fun n=>32::Lib.itoa n
theorem sayF_next {l:List Int} {i:Nat} {n:Int} (h:l[i]? =some n):sayF (l.take (i+1))=sayF (l.take i)++([32]++Lib.itoa n):=by
 unfold sayF;rw [List.take_add_one,h];simp
theorem say_len {l:List Int} (h: ∀n∈l,InI n):(sayF l).length<=50*l.length:=by
 induction l with
 |nil=>simp [sayF]
 |cons a r ih=>
  have:=ih (fun n hn=>h n (by simp [hn]));have h2:=itoa_len (h a (by simp));have e:sayF (a::r)=(32::Lib.itoa a)++sayF r:=by simp [sayF]
  rw [e];simp only [List.length_append,List.length_cons];omega
noncomputable def env_put (l d:List Int):Env where
 P:=Tryz.prog
 ty:=tys0
 specs:=specsOf [sp_digitsOf]
 upd:=updsOf [so_write.upd]
 pins:=[9000]
 heads:=fun
  |1=>some {slots:=[(7, .int .i64)],boxes:=[(9000,[.own 9000 62, .slc 9001 B8])],keep:=[],inv:=fun _ (x:Int×Unit×List Int×Unit)=>0<=x.1/\x.1<=l.length/\x.2.2.1=d++byD (sayF (l.take x.1.toNat)),measure:=fun _ (x:Int×Unit×List Int×Unit)=>(l.length-x.1).toNat}
  |_=>none
abbrev ann_put:Ann:={slots:=numP 0 [],boxes:=[(9000,[.own 9000 62, .slc 9001 B8])],inv:=fun _ _=>True}
def g_put_vc (l:List Int) (d:List Int):Prop:=
 (True/\0<=(0:Int)/\0<=(↑l.length:Int)/\d=d++byD (sayF (List.take (Int.toNat (0:Int)) l)))/\∀(x:Int×Unit×List Int×Unit),0<=x.1/\x.1<=(↑l.length:Int)/\x.2.2.1=d++byD (sayF (List.take x.1.toNat l))->(decide (x.1<(↑l.length:Int))=true->(0<=x.1/\x.1<(↑l.length:Int))/\∀(x_1:Int),l[x.1.toNat]? =some x_1->InI x_1/\(1:Nat)+(Lib.itoa x_1).length<=(9223372036854775807:Nat)/\([(32:UInt8)]++Lib.itoa x_1).length+x.2.2.1.length<=(100000000:Nat)/\(-9223372036854775808<=x.1+1/\x.1+1<=9223372036854775807)/\True/\(0<=x.1+1/\x.1+1<=(↑l.length:Int)/\x.2.2.1++byD ([(32:UInt8)]++Lib.itoa x_1)=d++byD (sayF (List.take (x.1+1).toNat l)))/\((↑l.length:Int)-(x.1+1)).toNat<((↑l.length:Int)-x.1).toNat)/\(decide (x.1<(↑l.length:Int))=false->True/\((),x.2.2.1,())=((),d++byD (sayF l),()))
theorem g_put_eq (l d:List Int):CondO (env_put l d) Tryz.f83 [.list .tmp I l, .ptr 9000 0] [(9000, .box [.own 9000 62, .slc 9001 0 none]),(9001, .arr 0 (.int .u8) d)] [] ann_put ((),d++byD (sayF l),())=g_put_vc l d:=by kernel_rfl
theorem g_put_ok (l d:List Int) (h:(∀n∈l,InI n)/\l.length<=1000/\d.length<=1000000):g_put_vc l d:=by
 unfold g_put_vc;obtain ⟨hl,hn,hd⟩:=h;simp only [decide_eq_true_eq,decide_eq_false_iff_not];refine ⟨⟨trivial,by omega,by omega,by simp [sayF]⟩, ?_⟩;rintro ⟨i,⟨⟩,e,⟨⟩⟩ ⟨h0,h1,he⟩;dsimp only at h0 h1 he⊢;refine ⟨fun c=>⟨⟨h0,c⟩,fun n hx=> ?_⟩,fun c=>⟨trivial, ?_⟩⟩
 ·have hI:=hl n (List.mem_of_getElem? hx);have h2:=itoa_len hI;have h3:(sayF (l.take i.toNat)).length<=50*(l.take i.toNat).length:=say_len fun m hm=>hl m (List.mem_of_mem_take hm);have h4:(l.take i.toNat).length<=l.length:=List.length_take_le' _ _;have h5:e.length=d.length+(sayF (l.take i.toNat)).length:=by rw [he,List.length_append,byD_len]
  have h6:([(32:UInt8)]++Lib.itoa n).length=1+(Lib.itoa n).length:=by rw [List.length_append];rfl
  refine ⟨hI,by omega,by omega,by omega,trivial,⟨by omega,by omega, ?_⟩,by omega⟩;rw [show (i+1).toNat=i.toNat+1 by omega,sayF_next hx,he,byD_app (sayF _),List.append_assoc]
 ·rw [he,List.take_of_length_le (by omega)]
theorem put_upd (l d:List Int) (h:(∀n∈l,InI n)/\l.length<=1000/\d.length<=1000000):UpdC Tryz.prog 83 [.list .tmp I l, .ptr 9000 0] [(9000, .box [.own 9000 62, .slc 9001 0 none]),(9001, .arr 0 (.int .u8) d)] (.tuple []) [(9001, .arr 0 (.int .u8) (d++byD (sayF l))),(9000, .box [.own 9000 62, .slc 9001 0 none])]:=
 by have k:=UpdC.of_cond (g_put_eq l d) (g_put_ok l d h) (specs_ok rfl [sp_digitsOf] [so_write.upd] rfl rfl) mixed Tryz.func83;exact k
noncomputable def q_put (l d:List Int):Prop×V×Store:=((∀n∈l,InI n)/\l.length<=1000/\d.length<=1000000, .tuple [],[(9001, .arr 0 (.int .u8) (d++byD (sayF l))),(9000, .box [.own 9000 62, .slc 9001 0 none])])
noncomputable def so_put:OSpec Tryz.prog where
 f:=83
 run:=fun args σ=>match args,σ with
  |[v0, .ptr 9000 0],[(9000, .box [.own 9000 62, .slc 9001 0 none]),(9001, .arr 0 (.int .u8) d)]=>(asL I v0:Option (List Int)).bind fun l=>some (q_put l d)
  |_,_=>none
 ok:=fun args σ pre r σ' h hp=>by
  try dsimp only at h
  split at h
  ·rename_i v0 d;obtain ⟨l,h0,h⟩:=Option.bind_eq_some_iff.1 h;exact of_qo h hp fun h=>(put_upd l d h).weak (.cons (asL_weak h0) (.cons (.refl _) .nil))
  ·cases h
def wordL:List (List UInt8):=[[101,110,116,105,116,121],[97,99,99,111,117,110,116],[109,111,118,101],[111,119,110],[114,97,116,101],[108,111,99,107],[112,111,115,116],[114,101,118,101,114,115,101]]
def partL:List (List Int):=[[0],[0,1,4,5],[0,1],[0,1,2,3],[0,1,2,3,6,7],[0,1],[0],[0,1]]
def wordF (k:Int):List UInt8:=(wordL[(k-1).toNat]?).getD []
def partF (k:Int):List Int:=(partL[(k-1).toNat]?).getD []
abbrev fl (l:List Int):V:= .list .full I l
abbrev formsV:List V:=[.str [101,110,116,105,116,121],fl [0], .str [97,99,99,111,117,110,116],fl [0,1,4,5], .str [109,111,118,101],fl [0,1], .str [111,119,110],fl [0,1,2,3], .str [114,97,116,101],fl [0,1,2,3,6,7], .str [108,111,99,107],fl [0,1], .str [112,111,115,116],fl [0], .str [114,101,118,101,114,115,101],fl [0,1]]
noncomputable def env_forms:Env where
 P:=Tryz.prog
 ty:=tys0
 asRows:=fun|17=>true|_=>false
def g_forms_vc:Prop:=
 some (V.rows (2:Nat) [V.str [(101:UInt8),(110:UInt8),(116:UInt8),(105:UInt8),(116:UInt8),(121:UInt8)],V.list LK.full I [(0:Int)],V.str [(97:UInt8),(99:UInt8),(99:UInt8),(111:UInt8),(117:UInt8),(110:UInt8),(116:UInt8)],V.list LK.full I [(0:Int),(1:Int),(4:Int),(5:Int)],V.str [(109:UInt8),(111:UInt8),(118:UInt8),(101:UInt8)],V.list LK.full I [(0:Int),(1:Int)],V.str [(111:UInt8),(119:UInt8),(110:UInt8)],V.list LK.full I [(0:Int),(1:Int),(2:Int),(3:Int)],V.str [(114:UInt8),(97:UInt8),(116:UInt8),(101:UInt8)],V.list LK.full I [(0:Int),(1:Int),(2:Int),(3:Int),(6:Int),(7:Int)],V.str [(108:UInt8),(111:UInt8),(99:UInt8),(107:UInt8)],V.list LK.full I [(0:Int),(1:Int)],V.str [(112:UInt8),(111:UInt8),(115:UInt8),(116:UInt8)],V.list LK.full I [(0:Int)],V.str [(114:UInt8),(101:UInt8),(118:UInt8),(101:UInt8),(114:UInt8),(115:UInt8),(101:UInt8)],V.list LK.full I [(0:Int),(1:Int)]])=some (V.rows (2:Nat) [V.str [(101:UInt8),(110:UInt8),(116:UInt8),(105:UInt8),(116:UInt8),(121:UInt8)],V.list LK.full I [(0:Int)],V.str [(97:UInt8),(99:UInt8),(99:UInt8),(111:UInt8),(117:UInt8),(110:UInt8),(116:UInt8)],V.list LK.full I [(0:Int),(1:Int),(4:Int),(5:Int)],V.str [(109:UInt8),(111:UInt8),(118:UInt8),(101:UInt8)],V.list LK.full I [(0:Int),(1:Int)],V.str [(111:UInt8),(119:UInt8),(110:UInt8)],V.list LK.full I [(0:Int),(1:Int),(2:Int),(3:Int)],V.str [(114:UInt8),(97:UInt8),(116:UInt8),(101:UInt8)],V.list LK.full I [(0:Int),(1:Int),(2:Int),(3:Int),(6:Int),(7:Int)],V.str [(108:UInt8),(111:UInt8),(99:UInt8),(107:UInt8)],V.list LK.full I [(0:Int),(1:Int)],V.str [(112:UInt8),(111:UInt8),(115:UInt8),(116:UInt8)],V.list LK.full I [(0:Int)],V.str [(114:UInt8),(101:UInt8),(118:UInt8),(101:UInt8),(114:UInt8),(115:UInt8),(101:UInt8)],V.list LK.full I [(0:Int),(1:Int)]])
theorem g_forms_ok:g_forms_vc:=by
 exact rfl
noncomputable def sp_forms:ZSpec Tryz.prog:=mkZ 60 .z (fun x=>(True,(.rows 2 formsV))) fun _ _=>PureZ.of_cond (E:=env_forms) (by kernel_rfl) g_forms_ok (specs_ok rfl [] [] rfl rfl) mixed Tryz.func60
def allF (c:CmD):List Int:=[c.2.1,c.2.2.1,c.2.2.2.1,c.2.2.2.2.1,bitF c.2.2.2.2.2.1,bitF c.2.2.2.2.2.2.1,c.2.2.2.2.2.2.2.1.1,c.2.2.2.2.2.2.2.1.2]
noncomputable def env_said (k a b c d:Int) (s p:Bool) (n m:Int) (l:List LnD):Env where
 P:=Tryz.prog
 ty:=tys0
 specs:=specsOf [sp_bit]
 frz:=fun|13=>true|16=>true|_=>false
abbrev ann_said:Ann:={slots:=numP 0 [.int .i64, .int .i64, .int .i64, .int .i64, .int .i64, .int .i64, .int .i64, .int .i64],boxes:=[],inv:=fun _ _=>True}
def g_said_vc (k:Int) (a:Int) (b:Int) (c:Int) (d:Int) (s:Bool) (p:Bool) (n:Int) (m:Int) (l:List LnD):Prop:=
 True/\True/\True/\(a,b,c,d,bitF s,bitF p,n,m,())=(a,b,c,d,bitF s,bitF p,n,m,())
theorem g_said_ok (k a b c d:Int) (s p:Bool) (n m:Int) (l:List LnD) (h:True):g_said_vc k a b c d s p n m l:=⟨trivial,trivial,trivial,rfl⟩
noncomputable def sp_said:FSpec Tryz.prog:=mkG 82 (.c (.g (.c .j (.c .j (.c .j (.c .j (.c .j (.c .b (.c .b (.c .j (.c .j (.c (.l Ln) .z))))))))))) .z) (fun x=>(fun (k a b c d:Int) (s p:Bool) (n m:Int) (l:List LnD)=>(True,(.agg [.int .i64 a, .int .i64 b, .int .i64 c, .int .i64 d, .int .i64 (bitF s), .int .i64 (bitF p), .int .i64 n, .int .i64 m]))) x.1.1 x.1.2.1 x.1.2.2.1 x.1.2.2.2.1 x.1.2.2.2.2.1 x.1.2.2.2.2.2.1 x.1.2.2.2.2.2.2.1 x.1.2.2.2.2.2.2.2.1 x.1.2.2.2.2.2.2.2.2.1 x.1.2.2.2.2.2.2.2.2.2.1) fun ⟨⟨k,a,b,c,d,s,p,n,m,l,_⟩,_⟩ h=>Pure.of_condG (E:=env_said k a b c d s p n m l) (sh:=[some 8]) (ann:=ann_said) (x:=(fun (k a b c d:Int) (s p:Bool) (n m:Int) (l:List LnD)=>(a,b,c,d,bitF s,bitF p,n,m,())) k a b c d s p n m l) (by kernel_rfl) (g_said_ok k a b c d s p n m l h) rfl (specs_ok rfl _ [] rfl rfl) mixed Tryz.func82
end Go.Proofs.YtabicbgeoiilmaaGreatDoor.Cm
end
section
namespace Go.Proofs.YtabicbgeoiilmaaGreatDoor.Cm
open Go.Vm
def idxF (l:List Int) (x:Int):Int:=match l.findIdx? (· ==x) with
 |some i=>i
 |none=> -1
noncomputable def env_index (l:List Int) (x:Int):Env where
 P:=Tryz.prog
 ty:=tys0
 heads:=fun
  |2=>some {slots:=[(8, .int .i64)],boxes:=[],inv:=fun _ (y:Int×Unit)=>0<=y.1/\y.1<=l.length/\∀(j:Nat) z,(j:Int)<y.1->l[j]? =some z->z≠x,measure:=fun _ (y:Int×Unit)=>(l.length-y.1).toNat}
  |_=>none
def g_index_vc (l:List Int) (x:Int):Prop:=
 (True/\0<=(0:Int)/\0<=(↑l.length:Int)/\∀(j:Nat) (z:Int),(↑j:Int)<(0:Int)->l[j]? =some z->z≠x)/\∀(x_1:Int×Unit),(0<=x_1.1/\x_1.1<=(↑l.length:Int)/\∀(j:Nat) (z:Int),(↑j:Int)<x_1.1->l[j]? =some z->z≠x)->(decide (x_1.1<(↑l.length:Int))=true->(0<=x_1.1/\x_1.1<(↑l.length:Int))/\∀(x_2:Int),l[x_1.1.toNat]? =some x_2->(decide (x=x_2)=true->(x_1.1,())=(idxF l x,()))/\(decide (x=x_2)=false->(-9223372036854775808<=x_1.1+1/\x_1.1+1<=9223372036854775807)/\True/\(0<=x_1.1+1/\x_1.1+1<=(↑l.length:Int)/\∀(j:Nat) (z:Int),(↑j:Int)<x_1.1+1->l[j]? =some z->z≠x)/\((↑l.length:Int)-(x_1.1+1)).toNat<((↑l.length:Int)-x_1.1).toNat))/\(decide (x_1.1<(↑l.length:Int))=false->((-1:Int),())=(idxF l x,()))
theorem idxF_at {l:List Int} {x:Int} {i:Nat} (h:l[i]? =some x) (hb: ∀(j:Nat) z,(j:Int)<i->l[j]? =some z->z≠x):idxF l x=i:=by
 obtain ⟨hi,e⟩:=List.getElem?_eq_some_iff.1 h;unfold idxF;rw [List.findIdx?_eq_some_iff_getElem.2 ⟨hi,by simp [e],fun j hj=>by simpa using hb j _ (by omega) (List.getElem?_eq_getElem (by omega))⟩]
theorem idxF_no {l:List Int} {x:Int} (h: ∀(j:Nat) z,(j:Int)<l.length->l[j]? =some z->z≠x):idxF l x= -1:=by
 unfold idxF;rw [List.findIdx?_eq_none_iff.2 fun y hy=>by
  obtain ⟨j,hj,e⟩:=List.mem_iff_getElem.1 hy;simpa using h j y (by omega) (by rw [List.getElem?_eq_getElem hj,e])]
theorem idxF_mem (l:List Int) (x:Int):decide (0<=idxF l x)=decide (x∈l):=by
 unfold idxF;cases e:l.findIdx? (· ==x) with
 |none=>
  have:=List.findIdx?_eq_none_iff.1 e;have hn:x∉l:=fun k=>by simpa using this x k
  simp [hn]
 |some i=>
  obtain ⟨hi,h,_⟩:=List.findIdx?_eq_some_iff_getElem.1 e;have hx:x∈l:=by
   have:l[i]=x:=by simpa using h
   rw [<-this];exact List.getElem_mem _
  simp [hx]
theorem g_index_ok (l:List Int) (x:Int) (h:l.length<=1000000):g_index_vc l x:=by
 unfold g_index_vc;simp only [decide_eq_true_eq,decide_eq_false_iff_not];refine ⟨⟨trivial,by omega,by omega,fun j z hj=>absurd hj (by omega)⟩, ?_⟩;rintro ⟨i,⟨⟩⟩ ⟨h0,h1,hb⟩;dsimp only at h0 h1 hb⊢;refine ⟨fun c=>⟨⟨h0,c⟩,fun y hy=>⟨fun e=> ?_,fun e=>⟨⟨by omega,by omega⟩,trivial,⟨by omega,by omega,fun j z hj hz=> ?_⟩,by omega⟩⟩⟩,fun c=> ?_⟩
 ·subst e;rw [idxF_at hy fun j z hj=>hb j z (by omega)];congr 1;omega
 ·by_cases h2:(j:Int)<i
  ·exact hb j z h2 hz
  ·have:j=i.toNat:=by omega
   subst this;rw [hy] at hz;cases hz;exact fun k=>e k.symm
 ·rw [idxF_no fun j z hj=>hb j z (by omega)]
set_option maxRecDepth 20000
noncomputable def sp_index:FSpec Tryz.prog:=mkF 131 (.c (.l I) (.c .j .z)) [.int .i64] (fun x=>(fun (l:List Int) (x:Int)=>(l.length<=1000000,idxF l x,())) x.1 x.2.1) fun ⟨l,x,_⟩ h=>Pure.of_cond (E:=env_index l x) (by kernel_rfl) (g_index_ok l x h) (specs_ok rfl [] [] rfl rfl) mixed Tryz.func131
noncomputable def env_contains (l:List Int) (x:Int):Env where
 P:=Tryz.prog
 ty:=tys0
 specs:=specsOf [sp_index]
def g_contains_vc (l:List Int) (x:Int):Prop:=
 l.length<=(1000000:Nat)/\(decide (0<=idxF l x),())=(decide (x∈l),())
theorem g_contains_ok (l:List Int) (x:Int) (h:l.length<=1000000):g_contains_vc l x:=by
 unfold g_contains_vc;exact ⟨h,by rw [idxF_mem]⟩
noncomputable def sp_contains:FSpec Tryz.prog:=mkF 96 (.c (.l I) (.c .j .z)) [.bool] (fun x=>(fun (l:List Int) (x:Int)=>(l.length<=1000000,decide (x∈l),())) x.1 x.2.1) fun ⟨l,x,_⟩ h=>Pure.of_cond (E:=env_contains l x) (by kernel_rfl) (g_contains_ok l x h) (specs_ok rfl _ [] rfl rfl) mixed Tryz.func96
end Go.Proofs.YtabicbgeoiilmaaGreatDoor.Cm
end
section
namespace Go.Proofs.YtabicbgeoiilmaaGreatDoor.Cm
open Go.Vm
abbrev nthI (l:List Int) (i:Int):Int:=(l[i.toNat]?).getD 0
def badAt (c:CmD) (i:Int):Prop:=nthI (allF c) i≠0/\i∉partF c.1
instance (c:CmD) (i:Int):Decidable (badAt c i):=by unfold badAt;infer_instance
def badF (c:CmD):Bool:=(List.range 8).any fun j=>decide (badAt c j)
def linesF (c:CmD):List LnD:=c.2.2.2.2.2.2.2.2
def checkF (c:CmD):Int:=if c.1<1∨8<c.1 then 25 else if 50<(linesF c).length then 30 else if c.1≠7/\0<(linesF c).length then 2 else if badF c=true then 2 else 0
noncomputable def env_check (k a b c d:Int) (s p:Bool) (n m:Int) (l:List LnD):Env where
 P:=Tryz.prog
 ty:=tys0
 specs:=specsOf [sp_contains,sp_said]
 zspecs:=zsOf [sp_forms]
 frz:=fun|30=>true|_=>false
 sym:=fun|34=>true|42=>true|_=>false
 joins:=fun
  |7=>some {slots:=[],boxes:=[],keep:=[1],inv:=fun _ _=>1<=k/\k<=8/\l.length<=50/\(k=7∨l.length=0)}
  |_=>none
 heads:=fun
  |9=>some {slots:=[(39, .int .i64)],boxes:=[],keep:=[1],inv:=fun _ (x:Int×Unit)=>0<=x.1/\x.1<=8/\∀i,0<=i->i<x.1->¬badAt (k,a,b,c,d,s,p,(n,m),l) i,measure:=fun _ (x:Int×Unit)=>(8-x.1).toNat}
  |_=>none
abbrev bx_check_1 (k:Int) (a:Int) (b:Int) (c:Int) (d:Int) (s:Bool) (p:Bool) (n:Int) (m:Int) (l:List LnD):_root_.Go.Vm.Obj:=Obj.box [V.int IntKind.i64 k,V.int IntKind.i64 a,V.int IntKind.i64 b,V.int IntKind.i64 c,V.int IntKind.i64 d,V.bool s,V.bool p,V.int IntKind.i64 n,V.int IntKind.i64 m,V.list LK.tmp Ln l]
def g_check_vc (k:Int) (a:Int) (b:Int) (c:Int) (d:Int) (s:Bool) (p:Bool) (n:Int) (m:Int) (l:List LnD):Prop:=
 ((decide (k<(1:Int))=false->(decide ((8:Int)<k)=true->((25:Int),())=(checkF (k,a,b,c,d,s,p,(n,m),l),()))/\(decide ((8:Int)<k)=false->(decide ((50:Int)<(↑l.length:Int))=true->((30:Int),())=(checkF (k,a,b,c,d,s,p,(n,m),l),()))/\(decide ((50:Int)<(↑l.length:Int))=false->((!decide (k=(7:Int)))=true->(decide ((0:Int)<(↑l.length:Int))=true->((2:Int),())=(checkF (k,a,b,c,d,s,p,(n,m),l),()))/\(decide ((0:Int)<(↑l.length:Int))=false->(some (bx_check_1 k a b c d s p n m l)=some (bx_check_1 k a b c d s p n m l)/\True)/\(1:Int)<=k/\k<=(8:Int)/\l.length<=(50:Nat)/\(k=(7:Int)∨l.length=(0:Nat))))/\((!decide (k=(7:Int)))= !true->(some (bx_check_1 k a b c d s p n m l)=some (bx_check_1 k a b c d s p n m l)/\True)/\(1:Int)<=k/\k<=(8:Int)/\l.length<=(50:Nat)/\(k=(7:Int)∨l.length=(0:Nat))))))/\(decide (k<(1:Int))= !false->((25:Int),())=(checkF (k,a,b,c,d,s,p,(n,m),l),())))/\∀(x:Unit),(1:Int)<=k/\k<=(8:Int)/\l.length<=(50:Nat)/\(k=(7:Int)∨l.length=(0:Nat))->True/\(-9223372036854775808<=k-(1:Int)/\k-(1:Int)<=9223372036854775807)/\(0<=k-(1:Int)/\k-(1:Int)<(↑(8:Nat):Int))/\True/\((some (bx_check_1 k a b c d s p n m l)=some (bx_check_1 k a b c d s p n m l)/\True)/\0<=(0:Int)/\0<=(8:Int)/\∀(i:Int),0<=i->i<(0:Int)->¬badAt (k,a,b,c,d,s,p,(n,m),l) i)/\∀(x:Int×Unit),(0<=x.1/\x.1<=(8:Int)/\∀(i:Int),0<=i->i<x.1->¬badAt (k,a,b,c,d,s,p,(n,m),l) i)->(decide (x.1<(8:Int))=true->(0<=x.1/\x.1<(↑(8:Nat):Int))/\((!decide ([a,b,c,d,bitF s,bitF p,n,m][x.1.toNat]?.getD (0:Int)=(0:Int)))=true->([[(0:Int)],[(0:Int),(1:Int),(4:Int),(5:Int)],[(0:Int),(1:Int)],[(0:Int),(1:Int),(2:Int),(3:Int)],[(0:Int),(1:Int),(2:Int),(3:Int),(6:Int),(7:Int)],[(0:Int),(1:Int)],[(0:Int)],[(0:Int),(1:Int)]][(k-(1:Int)).toNat]?.getD []).length<=(1000000:Nat)/\((!decide (x.1∈[[(0:Int)],[(0:Int),(1:Int),(4:Int),(5:Int)],[(0:Int),(1:Int)],[(0:Int),(1:Int),(2:Int),(3:Int)],[(0:Int),(1:Int),(2:Int),(3:Int),(6:Int),(7:Int)],[(0:Int),(1:Int)],[(0:Int)],[(0:Int),(1:Int)]][(k-(1:Int)).toNat]?.getD []))=true->((2:Int),())=(checkF (k,a,b,c,d,s,p,(n,m),l),()))/\((!decide (x.1∈[[(0:Int)],[(0:Int),(1:Int),(4:Int),(5:Int)],[(0:Int),(1:Int)],[(0:Int),(1:Int),(2:Int),(3:Int)],[(0:Int),(1:Int),(2:Int),(3:Int),(6:Int),(7:Int)],[(0:Int),(1:Int)],[(0:Int)],[(0:Int),(1:Int)]][(k-(1:Int)).toNat]?.getD []))=false->(-9223372036854775808<=x.1+1/\x.1+1<=9223372036854775807)/\(some (bx_check_1 k a b c d s p n m l)=some (bx_check_1 k a b c d s p n m l)/\True)/\(0<=x.1+1/\x.1+1<=(8:Int)/\∀(i:Int),0<=i->i<x.1+1->¬badAt (k,a,b,c,d,s,p,(n,m),l) i)/\((8:Int)-(x.1+1)).toNat<((8:Int)-x.1).toNat))/\((!decide ([a,b,c,d,bitF s,bitF p,n,m][x.1.toNat]?.getD (0:Int)=(0:Int)))= !true->(-9223372036854775808<=x.1+1/\x.1+1<=9223372036854775807)/\(some (bx_check_1 k a b c d s p n m l)=some (bx_check_1 k a b c d s p n m l)/\True)/\(0<=x.1+1/\x.1+1<=(8:Int)/\∀(i:Int),0<=i->i<x.1+1->¬badAt (k,a,b,c,d,s,p,(n,m),l) i)/\((8:Int)-(x.1+1)).toNat<((8:Int)-x.1).toNat))/\(decide (x.1<(8:Int))=false->((0:Int),())=(checkF (k,a,b,c,d,s,p,(n,m),l),()))
theorem checkF_ok {c:CmD} (h1:1<=c.1) (h2:c.1<=8) (h3:(linesF c).length<=50) (h4:c.1=7∨(linesF c).length=0):checkF c=if badF c=true then 2 else 0:=by
 unfold checkF;rw [if_neg (by omega),if_neg (by omega),if_neg (by omega)]
theorem badF_true {c:CmD} {i:Int} (h0:0<=i) (h1:i<8) (h:badAt c i):badF c=true:=by
 unfold badF;rw [List.any_eq_true];exact ⟨i.toNat,List.mem_range.2 (by omega),by rw [show ((i.toNat:Nat):Int)=i by omega];exact decide_eq_true h⟩
theorem badF_false {c:CmD} (h: ∀i:Int,0<=i->i<8->¬badAt c i):badF c=false:=by
 unfold badF;rw [List.any_eq_false];intro j hj;simp at hj⊢;exact h j (by omega) (by omega)
theorem partF_len (k:Int):(partF k).length<=6:=by
 unfold partF partL;generalize (k-1).toNat=j;match j with
 |0|1|2|3|4|5|6|7=>decide
 |n+8=>simp
theorem g_check_ok (k a b c d:Int) (s p:Bool) (n m:Int) (l:List LnD):g_check_vc k a b c d s p n m l:=by
 unfold g_check_vc;have hp:([[(0:Int)],[0,1,4,5],[0,1],[0,1,2,3],[0,1,2,3,6,7],[0,1],[0],[0,1]][(k-1).toNat]?.getD [])=partF k:=rfl;simp only [decide_eq_true_eq,decide_eq_false_iff_not,Bool.not_eq_true',Bool.not_eq_false',Bool.not_true,Bool.not_false,hp];repeat' (first|apply And.intro|intro _)
 all_goals try (first|trivial|rfl|omega)
 ·rw [show checkF (k,a,b,c,d,s,p,(n,m),l)=25 from if_pos (by omega)]
 ·rw [show checkF (k,a,b,c,d,s,p,(n,m),l)=30 from (if_neg (by simp only;omega)).trans (if_pos (by simp only [linesF];omega))]
 ·rw [show checkF (k,a,b,c,d,s,p,(n,m),l)=2 from (if_neg (by simp only;omega)).trans ((if_neg (by simp only [linesF];omega)).trans (if_pos (by simp only [linesF];omega)))]
 ·rw [show checkF (k,a,b,c,d,s,p,(n,m),l)=25 from if_pos (by simp only;omega)]
 ·have:=partF_len k;omega
 ·rename_i h1 x h2 h3 h4 h5;rw [checkF_ok (c:=(k,a,b,c,d,s,p,(n,m),l)) h1.1 h1.2.1 h1.2.2.1 h1.2.2.2,if_pos (badF_true (c:=(k,a,b,c,d,s,p,(n,m),l)) h2.1 h3 ⟨h4,h5⟩)]
 ·rename_i x h2 h3 h4 h5 i i0 i1 hb;by_cases hi:i<x.fst
  ·exact h2.2.2 i i0 hi hb
  ·obtain rfl:i=x.fst:=by omega
   exact hb.2 h5
 ·rename_i x h2 h3 h4 i i0 i1 hb;by_cases hi:i<x.fst
  ·exact h2.2.2 i i0 hi hb
  ·obtain rfl:i=x.fst:=by omega
   exact hb.1 h4
 ·rename_i h1 x h2 h3;rw [checkF_ok (c:=(k,a,b,c,d,s,p,(n,m),l)) h1.1 h1.2.1 h1.2.2.1 h1.2.2.2,badF_false fun i i0 i1=>h2.2.2 i i0 (by omega)];rfl
set_option maxRecDepth 20000
noncomputable def sp_check:FSpec Tryz.prog:=mkF 78 (.c (.g (.c .j (.c .j (.c .j (.c .j (.c .j (.c .b (.c .b (.c .j (.c .j (.c (.l Ln) .z))))))))))) .z) [.int .i64] (fun x=>(fun (k a b c d:Int) (s p:Bool) (n m:Int) (l:List LnD)=>(True,checkF (k,a,b,c,d,s,p,(n,m),l),())) x.1.1 x.1.2.1 x.1.2.2.1 x.1.2.2.2.1 x.1.2.2.2.2.1 x.1.2.2.2.2.2.1 x.1.2.2.2.2.2.2.1 x.1.2.2.2.2.2.2.2.1 x.1.2.2.2.2.2.2.2.2.1 x.1.2.2.2.2.2.2.2.2.2.1) fun ⟨⟨k,a,b,c,d,s,p,n,m,l,_⟩,_⟩ _=>Pure.of_cond (E:=env_check k a b c d s p n m l) (by kernel_rfl) (g_check_ok k a b c d s p n m l) (specs_okz rfl _ [] [] _ rfl rfl rfl rfl) mixed Tryz.func78
end Go.Proofs.YtabicbgeoiilmaaGreatDoor.Cm
end
section
namespace Go.Proofs.YtabicbgeoiilmaaGreatDoor.Cm
open Go.Vm
def lnL (x:LnD):List Int:=[x.1,x.2.1,x.2.2.1,x.2.2.2]
def numsF (c:CmD):List Int:=(partF c.1).map (nthI (allF c))++if c.1=7 then ((linesF c).length:Int)::(linesF c).flatMap lnL else []
def textF (c:CmD):List UInt8:=wordF c.1++sayF (numsF c)
def printF (c:CmD):List UInt8×Int:=if checkF c=0 then (textF c,0) else ([],checkF c)
def InLn (x:LnD):Prop:= ∀n∈lnL x,InI n
def InC (c:CmD):Prop:=(∀n∈allF c,InI n)/\∀x∈linesF c,InLn x
theorem partF_in {k j:Int} (h:j∈partF k):0<=j/\j<8:=by
 unfold partF partL at h;generalize (k-1).toNat=i at h;match i,h with
 |0,h|1,h|2,h|3,h|4,h|5,h|6,h|7,h=>simp at h;omega
 |n+8,h=>simp at h
theorem wordF_len (k:Int):(wordF k).length<=7:=by
 unfold wordF wordL;generalize (k-1).toNat=j;match j with
 |0|1|2|3|4|5|6|7=>decide
 |n+8=>simp
theorem wordF_pos {k:Int} (h1:1<=k) (h2:k<=8):0<(wordF k).length:=by
 unfold wordF wordL;have:(k-1).toNat<8:=by omega
 generalize (k-1).toNat=j at this;match j with
 |0|1|2|3|4|5|6|7=>decide
 |n+8=>omega
theorem checkF_kind {c:CmD} (h:checkF c=0):1<=c.1/\c.1<=8/\(linesF c).length<=50:=by
 unfold checkF at h;split at h
 ·cases h
 ·split at h
  ·cases h
  ·omega
theorem nthI_in {c:CmD} (h:InC c) (j:Int):InI (nthI (allF c) j):=by
 unfold nthI;cases e:(allF c)[j.toNat]? with
 |none=>simp [InI]
 |some n=>exact h.1 n (List.mem_of_getElem? e)
theorem sayF_app (l m:List Int):sayF (l++m)=sayF l++sayF m:=by simp [sayF]
theorem put_step {k i x v:Int} {c:CmD} {e:List Int} (he:e=byD (wordF k++sayF (((partF k).map (nthI (allF c))).take i.toNat))) (hi:0<=i) (hx:(partF k)[i.toNat]? =some x) (hv:nthI (allF c) x=v):
 e++byD (sayF [v])=byD (wordF k++sayF (((partF k).map (nthI (allF c))).take (i+1).toNat)):=by
 rw [he,show (i+1).toNat=i.toNat+1 by omega,List.take_add_one,List.getElem?_map,hx];simp only [Option.map_some,Option.toList_some,hv,sayF_app,<-byD_app,List.append_assoc]
theorem put_len {k:Int} {c:CmD} {e:List Int} {i:Nat} (h:InC c) (he:e=byD (wordF k++sayF (((partF k).map (nthI (allF c))).take i))):e.length<=1000000:=by
 have h1:=wordF_len k;have h2:=partF_len k;have h3:(sayF (((partF k).map (nthI (allF c))).take i)).length<=50*(((partF k).map (nthI (allF c))).take i).length:=say_len fun n hn=>by
  obtain ⟨j,_,rfl⟩:=List.mem_map.1 (List.mem_of_mem_take hn);exact nthI_in h j
 have h4:(((partF k).map (nthI (allF c))).take i).length<=((partF k).map (nthI (allF c))).length:=List.length_take_le' _ _;rw [List.length_map] at h4;rw [he,byD_len,List.length_append];omega
theorem lines_len {l:List LnD} {i:Nat}:((l.take i).flatMap lnL).length<=4*l.length:=by
 have: ∀m:List LnD,(m.flatMap lnL).length=4*m.length:=fun m=>by
  induction m with
  |nil=>rfl
  |cons a r ih=>simp only [List.flatMap_cons,List.length_append,ih,lnL,List.length_cons,List.length_nil];omega
 rw [this];have:=List.length_take_le' i l;omega
theorem line_len {k:Int} {c:CmD} {l:List LnD} {e:List Int} {i:Nat} (h:InC c) (hl: ∀x∈l,InLn x) (h50:l.length<=50) (he:e=byD (wordF k++sayF ((partF k).map (nthI (allF c))++((l.length:Int)::(l.take i).flatMap lnL)))):e.length<=1000000:=by
 have h1:=wordF_len k;have h2:=partF_len k;have h3:(sayF ((partF k).map (nthI (allF c))++((l.length:Int)::(l.take i).flatMap lnL))).length<=50*((partF k).map (nthI (allF c))++((l.length:Int)::(l.take i).flatMap lnL)).length:=say_len fun n hn=>by
  simp only [List.mem_append,List.mem_cons,List.mem_flatMap] at hn;rcases hn with hn|rfl|⟨x,hx,hn⟩
  ·obtain ⟨j,_,rfl⟩:=List.mem_map.1 hn;exact nthI_in h j
  ·unfold InI;omega
  ·exact hl x (List.mem_of_mem_take hx) n hn
 have h4:=lines_len (l:=l) (i:=i);rw [List.length_append,List.length_cons,List.length_map] at h3;rw [he,byD_len,List.length_append];omega
theorem line_step {k i:Int} {c:CmD} {l:List LnD} {e:List Int} {x:LnD} (he:e=byD (wordF k++sayF ((partF k).map (nthI (allF c))++((l.length:Int)::(l.take i.toNat).flatMap lnL)))) (hi:0<=i) (hx:l[i.toNat]? =some x):
 e++byD (sayF (lnL x))=byD (wordF k++sayF ((partF k).map (nthI (allF c))++((l.length:Int)::(l.take (i+1).toNat).flatMap lnL))):=by
 rw [he,show (i+1).toNat=i.toNat+1 by omega,List.take_add_one,hx];simp only [Option.toList_some,List.flatMap_append,List.flatMap_cons,List.flatMap_nil,List.append_nil,<-List.cons_append,<-List.append_assoc,sayF_app,byD_app]
noncomputable def env_print (k a b c d:Int) (s p:Bool) (n m:Int) (l:List LnD):Env where
 P:=Tryz.prog
 ty:=tys0
 specs:=specsOf [sp_check,sp_said]
 zspecs:=zsOf [sp_forms]
 upd:=updsOf [so_write.upd,so_put.upd,so_bstr.upd]
 frz:=fun|18=>true|_=>false
 sym:=fun|22=>true|39=>true|_=>false
 own:=fun|7=>true|_=>false
 heads:=fun
  |10=>some {slots:=[(33, .int .i64)],boxes:=[(7,[.own 7 62, .slc 9000 B8])],keep:=[1,5,6],inv:=fun _ (x:Int×Unit×List Int×Unit)=>0<=x.1/\x.1<=(partF k).length/\x.2.2.1=byD (wordF k++sayF (((partF k).map (nthI (allF (k,a,b,c,d,s,p,(n,m),l)))).take x.1.toNat)),measure:=fun _ (x:Int×Unit×List Int×Unit)=>((partF k).length-x.1).toNat}
  |17=>some {slots:=[(56, .int .i64)],boxes:=[(7,[.own 7 62, .slc 9000 B8])],keep:=[1,5,6],inv:=fun _ (x:Int×Unit×List Int×Unit)=>0<=x.1/\x.1<=l.length/\x.2.2.1=byD (wordF k++sayF ((partF k).map (nthI (allF (k,a,b,c,d,s,p,(n,m),l)))++((l.length:Int)::(l.take x.1.toNat).flatMap lnL))),measure:=fun _ (x:Int×Unit×List Int×Unit)=>(l.length-x.1).toNat}
  |_=>none
abbrev bx_print_1 (k:Int):_root_.Go.Vm.Obj:=Obj.box [V.str ([[(101:UInt8),(110:UInt8),(116:UInt8),(105:UInt8),(116:UInt8),(121:UInt8)],[(97:UInt8),(99:UInt8),(99:UInt8),(111:UInt8),(117:UInt8),(110:UInt8),(116:UInt8)],[(109:UInt8),(111:UInt8),(118:UInt8),(101:UInt8)],[(111:UInt8),(119:UInt8),(110:UInt8)],[(114:UInt8),(97:UInt8),(116:UInt8),(101:UInt8)],[(108:UInt8),(111:UInt8),(99:UInt8),(107:UInt8)],[(112:UInt8),(111:UInt8),(115:UInt8),(116:UInt8)],[(114:UInt8),(101:UInt8),(118:UInt8),(101:UInt8),(114:UInt8),(115:UInt8),(101:UInt8)]][(k-(1:Int)).toNat]?.getD []),V.list LK.full (Ty.int IntKind.i64) ([[(0:Int)],[(0:Int),(1:Int),(4:Int),(5:Int)],[(0:Int),(1:Int)],[(0:Int),(1:Int),(2:Int),(3:Int)],[(0:Int),(1:Int),(2:Int),(3:Int),(6:Int),(7:Int)],[(0:Int),(1:Int)],[(0:Int)],[(0:Int),(1:Int)]][(k-(1:Int)).toNat]?.getD [])]
abbrev bx_print_2 (k:Int) (a:Int) (b:Int) (c:Int) (d:Int) (s:Bool) (p:Bool) (n:Int) (m:Int) (l:List LnD):_root_.Go.Vm.Obj:=Obj.box [V.int IntKind.i64 k,V.int IntKind.i64 a,V.int IntKind.i64 b,V.int IntKind.i64 c,V.int IntKind.i64 d,V.bool s,V.bool p,V.int IntKind.i64 n,V.int IntKind.i64 m,V.list LK.tmp Ln l]
abbrev bx_print_3 (a:Int) (b:Int) (c:Int) (d:Int) (s:Bool) (p:Bool) (n:Int) (m:Int):_root_.Go.Vm.Obj:=Obj.box [V.int IntKind.i64 a,V.int IntKind.i64 b,V.int IntKind.i64 c,V.int IntKind.i64 d,V.int IntKind.i64 (bitF s),V.int IntKind.i64 (bitF p),V.int IntKind.i64 n,V.int IntKind.i64 m]
def g_print_vc (k:Int) (a:Int) (b:Int) (c:Int) (d:Int) (s:Bool) (p:Bool) (n:Int) (m:Int) (l:List LnD):Prop:=
 True/\((!decide (checkF (k,a,b,c,d,s,p,(n,m),l)=(0:Int)))=true->([],checkF (k,a,b,c,d,s,p,(n,m),l),())=((printF (k,a,b,c,d,s,p,(n,m),l)).1,(printF (k,a,b,c,d,s,p,(n,m),l)).2,()))/\((!decide (checkF (k,a,b,c,d,s,p,(n,m),l)=(0:Int)))=false->True/\(-9223372036854775808<=k-(1:Int)/\k-(1:Int)<=9223372036854775807)/\(0<=k-(1:Int)/\k-(1:Int)<(↑(8:Nat):Int))/\True/\([[(101:UInt8),(110:UInt8),(116:UInt8),(105:UInt8),(116:UInt8),(121:UInt8)],[(97:UInt8),(99:UInt8),(99:UInt8),(111:UInt8),(117:UInt8),(110:UInt8),(116:UInt8)],[(109:UInt8),(111:UInt8),(118:UInt8),(101:UInt8)],[(111:UInt8),(119:UInt8),(110:UInt8)],[(114:UInt8),(97:UInt8),(116:UInt8),(101:UInt8)],[(108:UInt8),(111:UInt8),(99:UInt8),(107:UInt8)],[(112:UInt8),(111:UInt8),(115:UInt8),(116:UInt8)],[(114:UInt8),(101:UInt8),(118:UInt8),(101:UInt8),(114:UInt8),(115:UInt8),(101:UInt8)]][(k-(1:Int)).toNat]?.getD []).length<=(100000000:Nat)/\((some (bx_print_2 k a b c d s p n m l)=some (bx_print_2 k a b c d s p n m l)/\some (bx_print_1 k)=some (bx_print_1 k)/\some (bx_print_3 a b c d s p n m)=some (bx_print_3 a b c d s p n m)/\True)/\0<=(0:Int)/\0<=(↑(partF k).length:Int)/\byD ([[(101:UInt8),(110:UInt8),(116:UInt8),(105:UInt8),(116:UInt8),(121:UInt8)],[(97:UInt8),(99:UInt8),(99:UInt8),(111:UInt8),(117:UInt8),(110:UInt8),(116:UInt8)],[(109:UInt8),(111:UInt8),(118:UInt8),(101:UInt8)],[(111:UInt8),(119:UInt8),(110:UInt8)],[(114:UInt8),(97:UInt8),(116:UInt8),(101:UInt8)],[(108:UInt8),(111:UInt8),(99:UInt8),(107:UInt8)],[(112:UInt8),(111:UInt8),(115:UInt8),(116:UInt8)],[(114:UInt8),(101:UInt8),(118:UInt8),(101:UInt8),(114:UInt8),(115:UInt8),(101:UInt8)]][(k-(1:Int)).toNat]?.getD [])=byD (wordF k++sayF (List.take (Int.toNat (0:Int)) (List.map (nthI (allF (k,a,b,c,d,s,p,(n,m),l))) (partF k)))))/\∀(x:Int×Unit×List Int×Unit),0<=x.1/\x.1<=(↑(partF k).length:Int)/\x.2.2.1=byD (wordF k++sayF (List.take x.1.toNat (List.map (nthI (allF (k,a,b,c,d,s,p,(n,m),l))) (partF k))))->(decide (x.1<(↑([[(0:Int)],[(0:Int),(1:Int),(4:Int),(5:Int)],[(0:Int),(1:Int)],[(0:Int),(1:Int),(2:Int),(3:Int)],[(0:Int),(1:Int),(2:Int),(3:Int),(6:Int),(7:Int)],[(0:Int),(1:Int)],[(0:Int)],[(0:Int),(1:Int)]][(k-(1:Int)).toNat]?.getD []).length:Int))=true->(0<=x.1/\x.1<(↑([[(0:Int)],[(0:Int),(1:Int),(4:Int),(5:Int)],[(0:Int),(1:Int)],[(0:Int),(1:Int),(2:Int),(3:Int)],[(0:Int),(1:Int),(2:Int),(3:Int),(6:Int),(7:Int)],[(0:Int),(1:Int)],[(0:Int)],[(0:Int),(1:Int)]][(k-(1:Int)).toNat]?.getD []).length:Int))/\∀(x_1:Int),([[(0:Int)],[(0:Int),(1:Int),(4:Int),(5:Int)],[(0:Int),(1:Int)],[(0:Int),(1:Int),(2:Int),(3:Int)],[(0:Int),(1:Int),(2:Int),(3:Int),(6:Int),(7:Int)],[(0:Int),(1:Int)],[(0:Int)],[(0:Int),(1:Int)]][(k-(1:Int)).toNat]?.getD [])[x.1.toNat]? =some x_1->(0<=x_1/\x_1<(↑(8:Nat):Int))/\(x_1=(↑(0:Nat):Int)->((∀(n:Int),n∈[a]->InI n)/\(1:Nat)<=(1000:Nat)/\x.2.2.1.length<=(1000000:Nat))/\(-9223372036854775808<=x.1+1/\x.1+1<=9223372036854775807)/\(some (bx_print_2 k a b c d s p n m l)=some (bx_print_2 k a b c d s p n m l)/\some (bx_print_1 k)=some (bx_print_1 k)/\some (bx_print_3 a b c d s p n m)=some (bx_print_3 a b c d s p n m)/\True)/\(0<=x.1+1/\x.1+1<=(↑(partF k).length:Int)/\x.2.2.1++byD (sayF [a])=byD (wordF k++sayF (List.take (x.1+1).toNat (List.map (nthI (allF (k,a,b,c,d,s,p,(n,m),l))) (partF k)))))/\((↑(partF k).length:Int)-(x.1+1)).toNat<((↑(partF k).length:Int)-x.1).toNat)/\(x_1=(↑(1:Nat):Int)->((∀(n:Int),n∈[b]->InI n)/\(1:Nat)<=(1000:Nat)/\x.2.2.1.length<=(1000000:Nat))/\(-9223372036854775808<=x.1+1/\x.1+1<=9223372036854775807)/\(some (bx_print_2 k a b c d s p n m l)=some (bx_print_2 k a b c d s p n m l)/\some (bx_print_1 k)=some (bx_print_1 k)/\some (bx_print_3 a b c d s p n m)=some (bx_print_3 a b c d s p n m)/\True)/\(0<=x.1+1/\x.1+1<=(↑(partF k).length:Int)/\x.2.2.1++byD (sayF [b])=byD (wordF k++sayF (List.take (x.1+1).toNat (List.map (nthI (allF (k,a,b,c,d,s,p,(n,m),l))) (partF k)))))/\((↑(partF k).length:Int)-(x.1+1)).toNat<((↑(partF k).length:Int)-x.1).toNat)/\(x_1=(↑(2:Nat):Int)->((∀(n:Int),n∈[c]->InI n)/\(1:Nat)<=(1000:Nat)/\x.2.2.1.length<=(1000000:Nat))/\(-9223372036854775808<=x.1+1/\x.1+1<=9223372036854775807)/\(some (bx_print_2 k a b c d s p n m l)=some (bx_print_2 k a b c d s p n m l)/\some (bx_print_1 k)=some (bx_print_1 k)/\some (bx_print_3 a b c d s p n m)=some (bx_print_3 a b c d s p n m)/\True)/\(0<=x.1+1/\x.1+1<=(↑(partF k).length:Int)/\x.2.2.1++byD (sayF [c])=byD (wordF k++sayF (List.take (x.1+1).toNat (List.map (nthI (allF (k,a,b,c,d,s,p,(n,m),l))) (partF k)))))/\((↑(partF k).length:Int)-(x.1+1)).toNat<((↑(partF k).length:Int)-x.1).toNat)/\(x_1=(↑(3:Nat):Int)->((∀(n:Int),n∈[d]->InI n)/\(1:Nat)<=(1000:Nat)/\x.2.2.1.length<=(1000000:Nat))/\(-9223372036854775808<=x.1+1/\x.1+1<=9223372036854775807)/\(some (bx_print_2 k a b c d s p n m l)=some (bx_print_2 k a b c d s p n m l)/\some (bx_print_1 k)=some (bx_print_1 k)/\some (bx_print_3 a b c d s p n m)=some (bx_print_3 a b c d s p n m)/\True)/\(0<=x.1+1/\x.1+1<=(↑(partF k).length:Int)/\x.2.2.1++byD (sayF [d])=byD (wordF k++sayF (List.take (x.1+1).toNat (List.map (nthI (allF (k,a,b,c,d,s,p,(n,m),l))) (partF k)))))/\((↑(partF k).length:Int)-(x.1+1)).toNat<((↑(partF k).length:Int)-x.1).toNat)/\(x_1=(↑(4:Nat):Int)->((∀(n:Int),n∈[bitF s]->InI n)/\(1:Nat)<=(1000:Nat)/\x.2.2.1.length<=(1000000:Nat))/\(-9223372036854775808<=x.1+1/\x.1+1<=9223372036854775807)/\(some (bx_print_2 k a b c d s p n m l)=some (bx_print_2 k a b c d s p n m l)/\some (bx_print_1 k)=some (bx_print_1 k)/\some (bx_print_3 a b c d s p n m)=some (bx_print_3 a b c d s p n m)/\True)/\(0<=x.1+1/\x.1+1<=(↑(partF k).length:Int)/\x.2.2.1++byD (sayF [bitF s])=byD (wordF k++sayF (List.take (x.1+1).toNat (List.map (nthI (allF (k,a,b,c,d,s,p,(n,m),l))) (partF k)))))/\((↑(partF k).length:Int)-(x.1+1)).toNat<((↑(partF k).length:Int)-x.1).toNat)/\(x_1=(↑(5:Nat):Int)->((∀(n:Int),n∈[bitF p]->InI n)/\(1:Nat)<=(1000:Nat)/\x.2.2.1.length<=(1000000:Nat))/\(-9223372036854775808<=x.1+1/\x.1+1<=9223372036854775807)/\(some (bx_print_2 k a b c d s p n m l)=some (bx_print_2 k a b c d s p n m l)/\some (bx_print_1 k)=some (bx_print_1 k)/\some (bx_print_3 a b c d s p n m)=some (bx_print_3 a b c d s p n m)/\True)/\(0<=x.1+1/\x.1+1<=(↑(partF k).length:Int)/\x.2.2.1++byD (sayF [bitF p])=byD (wordF k++sayF (List.take (x.1+1).toNat (List.map (nthI (allF (k,a,b,c,d,s,p,(n,m),l))) (partF k)))))/\((↑(partF k).length:Int)-(x.1+1)).toNat<((↑(partF k).length:Int)-x.1).toNat)/\(x_1=(↑(6:Nat):Int)->((∀(n_1:Int),n_1∈[n]->InI n_1)/\(1:Nat)<=(1000:Nat)/\x.2.2.1.length<=(1000000:Nat))/\(-9223372036854775808<=x.1+1/\x.1+1<=9223372036854775807)/\(some (bx_print_2 k a b c d s p n m l)=some (bx_print_2 k a b c d s p n m l)/\some (bx_print_1 k)=some (bx_print_1 k)/\some (bx_print_3 a b c d s p n m)=some (bx_print_3 a b c d s p n m)/\True)/\(0<=x.1+1/\x.1+1<=(↑(partF k).length:Int)/\x.2.2.1++byD (sayF [n])=byD (wordF k++sayF (List.take (x.1+1).toNat (List.map (nthI (allF (k,a,b,c,d,s,p,(n,m),l))) (partF k)))))/\((↑(partF k).length:Int)-(x.1+1)).toNat<((↑(partF k).length:Int)-x.1).toNat)/\(x_1=(↑(7:Nat):Int)->((∀(n:Int),n∈[m]->InI n)/\(1:Nat)<=(1000:Nat)/\x.2.2.1.length<=(1000000:Nat))/\(-9223372036854775808<=x.1+1/\x.1+1<=9223372036854775807)/\(some (bx_print_2 k a b c d s p n m l)=some (bx_print_2 k a b c d s p n m l)/\some (bx_print_1 k)=some (bx_print_1 k)/\some (bx_print_3 a b c d s p n m)=some (bx_print_3 a b c d s p n m)/\True)/\(0<=x.1+1/\x.1+1<=(↑(partF k).length:Int)/\x.2.2.1++byD (sayF [m])=byD (wordF k++sayF (List.take (x.1+1).toNat (List.map (nthI (allF (k,a,b,c,d,s,p,(n,m),l))) (partF k)))))/\((↑(partF k).length:Int)-(x.1+1)).toNat<((↑(partF k).length:Int)-x.1).toNat)/\True)/\(decide (x.1<(↑([[(0:Int)],[(0:Int),(1:Int),(4:Int),(5:Int)],[(0:Int),(1:Int)],[(0:Int),(1:Int),(2:Int),(3:Int)],[(0:Int),(1:Int),(2:Int),(3:Int),(6:Int),(7:Int)],[(0:Int),(1:Int)],[(0:Int)],[(0:Int),(1:Int)]][(k-(1:Int)).toNat]?.getD []).length:Int))=false->(decide (k=(7:Int))=true->((∀(n:Int),n∈[(↑l.length:Int)]->InI n)/\(1:Nat)<=(1000:Nat)/\x.2.2.1.length<=(1000000:Nat))/\((some (bx_print_2 k a b c d s p n m l)=some (bx_print_2 k a b c d s p n m l)/\some (bx_print_1 k)=some (bx_print_1 k)/\some (bx_print_3 a b c d s p n m)=some (bx_print_3 a b c d s p n m)/\True)/\0<=(0:Int)/\0<=(↑l.length:Int)/\x.2.2.1++byD (sayF [(↑l.length:Int)])=byD (wordF k++sayF (List.map (nthI (allF (k,a,b,c,d,s,p,(n,m),l))) (partF k)++(↑l.length:Int)::List.flatMap lnL (List.take (Int.toNat (0:Int)) l))))/\∀(x:Int×Unit×List Int×Unit),0<=x.1/\x.1<=(↑l.length:Int)/\x.2.2.1=byD (wordF k++sayF (List.map (nthI (allF (k,a,b,c,d,s,p,(n,m),l))) (partF k)++(↑l.length:Int)::List.flatMap lnL (List.take x.1.toNat l)))->(decide (x.1<(↑l.length:Int))=true->(0<=x.1/\x.1<(↑l.length:Int))/\∀(x_1:Int×Int×Int×Int),l[x.1.toNat]? =some x_1->((∀(n:Int),n∈[x_1.1,x_1.2.1,x_1.2.2.1,x_1.2.2.2]->InI n)/\(4:Nat)<=(1000:Nat)/\x.2.2.1.length<=(1000000:Nat))/\(-9223372036854775808<=x.1+1/\x.1+1<=9223372036854775807)/\(some (bx_print_2 k a b c d s p n m l)=some (bx_print_2 k a b c d s p n m l)/\some (bx_print_1 k)=some (bx_print_1 k)/\some (bx_print_3 a b c d s p n m)=some (bx_print_3 a b c d s p n m)/\True)/\(0<=x.1+1/\x.1+1<=(↑l.length:Int)/\x.2.2.1++byD (sayF [x_1.1,x_1.2.1,x_1.2.2.1,x_1.2.2.2])=byD (wordF k++sayF (List.map (nthI (allF (k,a,b,c,d,s,p,(n,m),l))) (partF k)++(↑l.length:Int)::List.flatMap lnL (List.take (x.1+1).toNat l))))/\((↑l.length:Int)-(x.1+1)).toNat<((↑l.length:Int)-x.1).toNat)/\(decide (x.1<(↑l.length:Int))=false->((0:Nat)<x.2.2.1.length/\∀(z:Int),z∈x.2.2.1->0<=z/\z<=(255:Int))/\(List.map (fun z=>z.toNat.toUInt8) x.2.2.1,(0:Int),())=((printF (k,a,b,c,d,s,p,(n,m),l)).1,(printF (k,a,b,c,d,s,p,(n,m),l)).2,())))/\(decide (k=(7:Int))=false->((0:Nat)<x.2.2.1.length/\∀(z:Int),z∈x.2.2.1->0<=z/\z<=(255:Int))/\(List.map (fun z=>z.toNat.toUInt8) x.2.2.1,(0:Int),())=((printF (k,a,b,c,d,s,p,(n,m),l)).1,(printF (k,a,b,c,d,s,p,(n,m),l)).2,()))))
theorem g_print_ok (k a b c d:Int) (s p:Bool) (n m:Int) (l:List LnD) (h:InC (k,a,b,c,d,s,p,(n,m),l)):g_print_vc k a b c d s p n m l:=by
 unfold g_print_vc;have hp:([[(0:Int)],[0,1,4,5],[0,1],[0,1,2,3],[0,1,2,3,6,7],[0,1],[0],[0,1]][(k-1).toNat]?.getD [])=partF k:=rfl;have hw:([[(101:UInt8),110,116,105,116,121],[97,99,99,111,117,110,116],[109,111,118,101],[111,119,110],[114,97,116,101],[108,111,99,107],[112,111,115,116],[114,101,118,101,114,115,101]][(k-1).toNat]?.getD [])=wordF k:=rfl;simp only [decide_eq_true_eq,decide_eq_false_iff_not,Bool.not_eq_true',Bool.not_eq_false',Bool.not_true,Bool.not_false,hp,hw];clear hp hw;have hpi: ∀{i:Nat} {x:Int},(partF k)[i]? =some x->0<=x/\x<8:=fun e=>partF_in (List.mem_of_getElem? e);have hpl:=partF_len k;have hwl:=wordF_len k;have hall:InI a/\InI b/\InI c/\InI d/\InI (bitF s)/\InI (bitF p)/\InI n/\InI m:=by simpa [allF] using h.1
 obtain ⟨ha,hb,hc,hd,hs,hpp,hn,hm⟩:=hall;have h1: ∀{v:Int},InI v->∀n:Int,n∈[v]->InI n:=fun hv n hn=>by rw [List.mem_singleton.1 hn];exact hv
 have hK:checkF (k,a,b,c,d,s,p,(n,m),l)=0->1<=k/\k<=8/\l.length<=50:=fun e=>checkF_kind e;repeat' (first|with_reducible apply And.intro|intro _)
 all_goals try (first|trivial|rfl|omega)
 all_goals try (rename_i _ hx;first|exact h1 ha _ hx|exact h1 hb _ hx|exact h1 hc _ hx|exact h1 hd _ hx|exact h1 hs _ hx|exact h1 hpp _ hx|exact h1 hn _ hx|exact h1 hm _ hx)
 all_goals try (rename_i x hx _ _ hi hj;exact put_step hx.2.2 hx.1 hi (by rw [hj];rfl))
 all_goals try (rename_i x _ hx;have:=hpi hx;omega)
 all_goals try (rename_i x hx _ _ _ _;exact put_len h hx.2.2)
 ·rename_i e;unfold printF;rw [if_neg e]
 ·simp [sayF]
 ·rename_i e _ _ _ _ _ hx;have:=hK e;rw [List.mem_singleton.1 hx];unfold InI;omega
 ·rename_i hx _ _;exact put_len h hx.2.2
 ·rename_i x hx _ _;rw [hx.2.2,List.take_of_length_le (by rw [List.length_map];omega),<-byD_app,List.append_assoc,<-sayF_app];rfl
 ·rename_i hx _ hn;exact h.2 _ (List.mem_of_getElem? hx) _ hn
 ·rename_i e _ _ _ _ _ hx _ _ _;exact line_len h h.2 (hK e).2.2 hx.2.2
 ·rename_i x hx _ x1 hx1;exact line_step hx.2.2 hx.1 hx1
 ·rename_i e _ _ _ _ x hx _;rw [hx.2.2,byD_len,List.length_append];have:=wordF_pos (hK e).1 (hK e).2.1;omega
 ·rename_i hx _ z hz;rw [hx.2.2] at hz;exact (byD_in _ z hz).1
 ·rename_i hx _ z hz;rw [hx.2.2] at hz;exact (byD_in _ z hz).2
 ·rename_i e _ _ _ hk x hx _;have:=strOf_byD (textF (k,a,b,c,d,s,p,(n,m),l));unfold printF;rw [if_pos e,hx.2.2,List.take_of_length_le (l:=l) (by omega)];unfold strOf at this;rw [<-this];unfold textF numsF;simp only [if_pos hk];rfl
 ·rename_i e x hx _ _;rw [hx.2.2,byD_len,List.length_append];have:=wordF_pos (hK e).1 (hK e).2.1;omega
 ·rename_i hx _ _ z hz;rw [hx.2.2] at hz;exact (byD_in _ z hz).1
 ·rename_i hx _ _ z hz;rw [hx.2.2] at hz;exact (byD_in _ z hz).2
 ·rename_i e x hx _ hk;have:=strOf_byD (textF (k,a,b,c,d,s,p,(n,m),l));unfold printF;rw [if_pos e,hx.2.2,List.take_of_length_le (by rw [List.length_map];omega)];unfold strOf at this;rw [<-this];unfold textF numsF;simp only [if_neg hk,List.append_nil]
set_option maxRecDepth 20000
noncomputable def sp_print:FSpec Tryz.prog:=mkF 48 (.c (.g (.c .j (.c .j (.c .j (.c .j (.c .j (.c .b (.c .b (.c .j (.c .j (.c (.l Ln) .z))))))))))) .z) [.str, .int .i64] (fun x=>(fun (k a b c d:Int) (s p:Bool) (n m:Int) (l:List LnD)=>(InC (k,a,b,c,d,s,p,(n,m),l),(printF (k,a,b,c,d,s,p,(n,m),l)).1,(printF (k,a,b,c,d,s,p,(n,m),l)).2,())) x.1.1 x.1.2.1 x.1.2.2.1 x.1.2.2.2.1 x.1.2.2.2.2.1 x.1.2.2.2.2.2.1 x.1.2.2.2.2.2.2.1 x.1.2.2.2.2.2.2.2.1 x.1.2.2.2.2.2.2.2.2.1 x.1.2.2.2.2.2.2.2.2.2.1) fun ⟨⟨k,a,b,c,d,s,p,n,m,l,_⟩,_⟩ h=>Pure.of_cond (E:=env_print k a b c d s p n m l) (by kernel_rfl) (g_print_ok k a b c d s p n m l h) (specs_okz rfl _ _ [] _ rfl rfl rfl rfl) mixed Tryz.func48
end Go.Proofs.YtabicbgeoiilmaaGreatDoor.Cm
end
section
namespace Go.Proofs.YtabicbgeoiilmaaGreatDoor.Cm
open Go.Vm
def kindL (s:By):List Int->Int->Int×Int×Int
 |[],w=>(0,0,w)
 |k::r,w=>if (litF s 0 (wordF k)).2=0 then (k,(litF s 0 (wordF k)).1,0) else kindL s r (if (litF s 0 (wordF k)).2=4 then 4 else w)
def kinds:List Int:=[1,2,3,4,5,6,7,8]
def kindF (s:By):Int×Int×Int:=kindL s kinds 8
theorem kinds_at {i:Nat} (h:i<8):kinds.drop i=(i+1:Int)::kinds.drop (i+1):=by
 match i,h with
 |0,_|1,_|2,_|3,_|4,_|5,_|6,_|7,_=>rfl
noncomputable def env_word (s:By):Env where
 P:=Tryz.prog
 ty:=tys0
 specs:=specsOf [sp_lit]
 zspecs:=zsOf [sp_forms]
 frz:=fun|10=>true|_=>false
 sym:=fun|15=>true|_=>false
 heads:=fun
  |3=>some {slots:=[(5, .int .i64),(12, .int .i64)],boxes:=[],keep:=[],inv:=fun _ (x:Int×Int×Unit)=>0<=x.2.1/\x.2.1<=8/\kindF s=kindL s (kinds.drop x.2.1.toNat) x.1,measure:=fun _ (x:Int×Int×Unit)=>(8-x.2.1).toNat}
  |_=>none
def g_word_vc (s:By):Prop:=
 True/\(True/\0<=(0:Int)/\0<=(8:Int)/\kindF s=kindL s (List.drop (Int.toNat (0:Int)) kinds) (8:Int))/\∀(x:Int×Int×Unit),0<=x.2.1/\x.2.1<=(8:Int)/\kindF s=kindL s (List.drop x.2.1.toNat kinds) x.1->(decide (x.2.1<(↑(8:Nat):Int))=true->(0<=x.2.1/\x.2.1<(↑(8:Nat):Int))/\(List.length s<=(1000000:Nat)/\([[(101:UInt8),(110:UInt8),(116:UInt8),(105:UInt8),(116:UInt8),(121:UInt8)],[(97:UInt8),(99:UInt8),(99:UInt8),(111:UInt8),(117:UInt8),(110:UInt8),(116:UInt8)],[(109:UInt8),(111:UInt8),(118:UInt8),(101:UInt8)],[(111:UInt8),(119:UInt8),(110:UInt8)],[(114:UInt8),(97:UInt8),(116:UInt8),(101:UInt8)],[(108:UInt8),(111:UInt8),(99:UInt8),(107:UInt8)],[(112:UInt8),(111:UInt8),(115:UInt8),(116:UInt8)],[(114:UInt8),(101:UInt8),(118:UInt8),(101:UInt8),(114:UInt8),(115:UInt8),(101:UInt8)]][x.2.1.toNat]?.getD []).length<=(1000000:Nat))/\(decide ((litF s (0:Int) ([[(101:UInt8),(110:UInt8),(116:UInt8),(105:UInt8),(116:UInt8),(121:UInt8)],[(97:UInt8),(99:UInt8),(99:UInt8),(111:UInt8),(117:UInt8),(110:UInt8),(116:UInt8)],[(109:UInt8),(111:UInt8),(118:UInt8),(101:UInt8)],[(111:UInt8),(119:UInt8),(110:UInt8)],[(114:UInt8),(97:UInt8),(116:UInt8),(101:UInt8)],[(108:UInt8),(111:UInt8),(99:UInt8),(107:UInt8)],[(112:UInt8),(111:UInt8),(115:UInt8),(116:UInt8)],[(114:UInt8),(101:UInt8),(118:UInt8),(101:UInt8),(114:UInt8),(115:UInt8),(101:UInt8)]][x.2.1.toNat]?.getD [])).2=(0:Int))=true->(-9223372036854775808<=x.2.1+1/\x.2.1+1<=9223372036854775807)/\(x.2.1+1,(litF s (0:Int) ([[(101:UInt8),(110:UInt8),(116:UInt8),(105:UInt8),(116:UInt8),(121:UInt8)],[(97:UInt8),(99:UInt8),(99:UInt8),(111:UInt8),(117:UInt8),(110:UInt8),(116:UInt8)],[(109:UInt8),(111:UInt8),(118:UInt8),(101:UInt8)],[(111:UInt8),(119:UInt8),(110:UInt8)],[(114:UInt8),(97:UInt8),(116:UInt8),(101:UInt8)],[(108:UInt8),(111:UInt8),(99:UInt8),(107:UInt8)],[(112:UInt8),(111:UInt8),(115:UInt8),(116:UInt8)],[(114:UInt8),(101:UInt8),(118:UInt8),(101:UInt8),(114:UInt8),(115:UInt8),(101:UInt8)]][x.2.1.toNat]?.getD [])).1,(0:Int),())=((kindF s).1,(kindF s).2.1,(kindF s).2.2,()))/\(decide ((litF s (0:Int) ([[(101:UInt8),(110:UInt8),(116:UInt8),(105:UInt8),(116:UInt8),(121:UInt8)],[(97:UInt8),(99:UInt8),(99:UInt8),(111:UInt8),(117:UInt8),(110:UInt8),(116:UInt8)],[(109:UInt8),(111:UInt8),(118:UInt8),(101:UInt8)],[(111:UInt8),(119:UInt8),(110:UInt8)],[(114:UInt8),(97:UInt8),(116:UInt8),(101:UInt8)],[(108:UInt8),(111:UInt8),(99:UInt8),(107:UInt8)],[(112:UInt8),(111:UInt8),(115:UInt8),(116:UInt8)],[(114:UInt8),(101:UInt8),(118:UInt8),(101:UInt8),(114:UInt8),(115:UInt8),(101:UInt8)]][x.2.1.toNat]?.getD [])).2=(0:Int))=false->(decide ((litF s (0:Int) ([[(101:UInt8),(110:UInt8),(116:UInt8),(105:UInt8),(116:UInt8),(121:UInt8)],[(97:UInt8),(99:UInt8),(99:UInt8),(111:UInt8),(117:UInt8),(110:UInt8),(116:UInt8)],[(109:UInt8),(111:UInt8),(118:UInt8),(101:UInt8)],[(111:UInt8),(119:UInt8),(110:UInt8)],[(114:UInt8),(97:UInt8),(116:UInt8),(101:UInt8)],[(108:UInt8),(111:UInt8),(99:UInt8),(107:UInt8)],[(112:UInt8),(111:UInt8),(115:UInt8),(116:UInt8)],[(114:UInt8),(101:UInt8),(118:UInt8),(101:UInt8),(114:UInt8),(115:UInt8),(101:UInt8)]][x.2.1.toNat]?.getD [])).2=(4:Int))=true->(-9223372036854775808<=x.2.1+1/\x.2.1+1<=9223372036854775807)/\True/\(0<=x.2.1+1/\x.2.1+1<=(8:Int)/\kindF s=kindL s (List.drop (x.2.1+1).toNat kinds) (litF s (0:Int) ([[(101:UInt8),(110:UInt8),(116:UInt8),(105:UInt8),(116:UInt8),(121:UInt8)],[(97:UInt8),(99:UInt8),(99:UInt8),(111:UInt8),(117:UInt8),(110:UInt8),(116:UInt8)],[(109:UInt8),(111:UInt8),(118:UInt8),(101:UInt8)],[(111:UInt8),(119:UInt8),(110:UInt8)],[(114:UInt8),(97:UInt8),(116:UInt8),(101:UInt8)],[(108:UInt8),(111:UInt8),(99:UInt8),(107:UInt8)],[(112:UInt8),(111:UInt8),(115:UInt8),(116:UInt8)],[(114:UInt8),(101:UInt8),(118:UInt8),(101:UInt8),(114:UInt8),(115:UInt8),(101:UInt8)]][x.2.1.toNat]?.getD [])).2)/\((8:Int)-(x.2.1+1)).toNat<((8:Int)-x.2.1).toNat)/\(decide ((litF s (0:Int) ([[(101:UInt8),(110:UInt8),(116:UInt8),(105:UInt8),(116:UInt8),(121:UInt8)],[(97:UInt8),(99:UInt8),(99:UInt8),(111:UInt8),(117:UInt8),(110:UInt8),(116:UInt8)],[(109:UInt8),(111:UInt8),(118:UInt8),(101:UInt8)],[(111:UInt8),(119:UInt8),(110:UInt8)],[(114:UInt8),(97:UInt8),(116:UInt8),(101:UInt8)],[(108:UInt8),(111:UInt8),(99:UInt8),(107:UInt8)],[(112:UInt8),(111:UInt8),(115:UInt8),(116:UInt8)],[(114:UInt8),(101:UInt8),(118:UInt8),(101:UInt8),(114:UInt8),(115:UInt8),(101:UInt8)]][x.2.1.toNat]?.getD [])).2=(4:Int))=false->(-9223372036854775808<=x.2.1+1/\x.2.1+1<=9223372036854775807)/\True/\(0<=x.2.1+1/\x.2.1+1<=(8:Int)/\kindF s=kindL s (List.drop (x.2.1+1).toNat kinds) x.1)/\((8:Int)-(x.2.1+1)).toNat<((8:Int)-x.2.1).toNat)))/\(decide (x.2.1<(↑(8:Nat):Int))=false->((0:Int),(0:Int),x.1,())=((kindF s).1,(kindF s).2.1,(kindF s).2.2,()))
theorem g_word_ok (s:By) (h:s.length<=10000):g_word_vc s:=by
 unfold g_word_vc;have hw: ∀j:Int,([[(101:UInt8),110,116,105,116,121],[97,99,99,111,117,110,116],[109,111,118,101],[111,119,110],[114,97,116,101],[108,111,99,107],[112,111,115,116],[114,101,118,101,114,115,101]][j.toNat]?.getD [])=wordF (j+1):=fun j=>by
  unfold wordF;rw [Int.add_sub_cancel];rfl
 simp only [decide_eq_true_eq,decide_eq_false_iff_not,Bool.not_eq_true',Bool.not_eq_false',Bool.not_true,Bool.not_false,hw];have step: ∀x:Int×Int×Unit,0<=x.2.1->x.2.1<8->kindF s=kindL s (kinds.drop x.2.1.toNat) x.1->kindF s=if (litF s 0 (wordF (x.2.1+1))).2=0 then (x.2.1+1,(litF s 0 (wordF (x.2.1+1))).1,0) else kindL s (kinds.drop (x.2.1+1).toNat) (if (litF s 0 (wordF (x.2.1+1))).2=4 then 4 else x.1):=fun x h0 h1 hx=>by
  rw [hx,kinds_at (by omega:x.2.1.toNat<8),show (x.2.1+1).toNat=x.2.1.toNat+1 by omega,show ((x.2.1.toNat:Nat):Int)=x.2.1 by omega];rfl
 repeat' (first|with_reducible apply And.intro|intro _)
 all_goals try (first|trivial|rfl|omega)
 ·rename_i x _ _;have:=wordF_len (x.2.1+1);omega
 ·rename_i x hx h8 e;rw [step x hx.1 h8 hx.2.2,if_pos e]
 ·rename_i x hx h8 e e4;rw [step x hx.1 h8 hx.2.2,if_neg e,if_pos e4,e4]
 ·rename_i x hx h8 e e4;rw [step x hx.1 h8 hx.2.2,if_neg e,if_neg e4]
 ·rename_i x hx h8;have h8: ¬x.2.1<8:=h8;rw [hx.2.2,show x.2.1.toNat=8 by omega];rfl
set_option maxRecDepth 20000
noncomputable def sp_word:FSpec Tryz.prog:=mkF 58 (.c .s .z) [.int .i64, .int .i64, .int .i64] (fun x=>(fun (s:By)=>(s.length<=10000,(kindF s).1,(kindF s).2.1,(kindF s).2.2,())) x.1) fun ⟨s,_⟩ h=>Pure.of_cond (E:=env_word s) (by kernel_rfl) (g_word_ok s h) (specs_okz rfl _ [] [] _ rfl rfl rfl rfl) mixed Tryz.func58
def withinF (s:By) (a e lo hi:Int):Int×Int×Int:=
 if e=0 then if (litF s a [32]).2=0 then numF s (litF s a [32]).1 lo hi else (0,(litF s a [32]).1,(litF s a [32]).2) else (0,a,e)
noncomputable def env_within (s:By) (a e lo hi:Int):Env where
 P:=Tryz.prog
 ty:=tys0
 specs:=specsOf [sp_lit,sp_num]
 frz:=fun|24=>true|49=>true|_=>false
 pins:=[9000]
abbrev ann_within:Ann:={slots:=numP 0 [.int .i64],boxes:=[(9000,[.str, .int .i64, .int .i64])],inv:=fun _ _=>True}
def g_within_vc (s:By) (a:Int) (e:Int) (lo:Int) (hi:Int):Prop:=
 (decide (e=(0:Int))=true->(List.length s<=(1000000:Nat)/\(1:Nat)<=(1000000:Nat))/\(decide ((litF s a [(32:UInt8)]).2=(0:Int))=true->List.length s<=(10000:Nat)/\True/\((numF s (litF s a [(32:UInt8)]).1 lo hi).1,s,(numF s (litF s a [(32:UInt8)]).1 lo hi).2.1,(numF s (litF s a [(32:UInt8)]).1 lo hi).2.2,())=((withinF s a e lo hi).1,s,(withinF s a e lo hi).2.1,(withinF s a e lo hi).2.2,()))/\(decide ((litF s a [(32:UInt8)]).2=(0:Int))=false->True/\((0:Int),s,(litF s a [(32:UInt8)]).1,(litF s a [(32:UInt8)]).2,())=((withinF s a e lo hi).1,s,(withinF s a e lo hi).2.1,(withinF s a e lo hi).2.2,())))/\(decide (e=(0:Int))=false->(decide (e=(0:Int))=true->List.length s<=(10000:Nat)/\True/\((numF s a lo hi).1,s,(numF s a lo hi).2.1,(numF s a lo hi).2.2,())=((withinF s a e lo hi).1,s,(withinF s a e lo hi).2.1,(withinF s a e lo hi).2.2,()))/\(decide (e=(0:Int))=false->True/\((0:Int),s,a,e,())=((withinF s a e lo hi).1,s,(withinF s a e lo hi).2.1,(withinF s a e lo hi).2.2,())))
theorem g_within_eq (s:By) (a e lo hi:Int):CondO (env_within s a e lo hi) Tryz.f61 [.ptr 9000 0, .int .i64 lo, .int .i64 hi] [(9000, .box [.str s, .int .i64 a, .int .i64 e])] [none] ann_within ((withinF s a e lo hi).1,s,(withinF s a e lo hi).2.1,(withinF s a e lo hi).2.2,())=g_within_vc s a e lo hi:=by kernel_rfl
theorem g_within_ok (s:By) (a e lo hi:Int) (h:s.length<=10000):g_within_vc s a e lo hi:=by
 unfold g_within_vc withinF;simp only [decide_eq_true_eq,decide_eq_false_iff_not];repeat' (first|with_reducible apply And.intro|intro _)
 all_goals try (first|trivial|rfl|omega)
 ·rename_i e e1;rw [if_pos e,if_pos e1]
 ·rename_i e e1;rw [if_pos e,if_neg e1]
 ·rename_i e _;rw [if_neg e]
theorem within_upd (s:By) (a e lo hi:Int) (h:s.length<=10000):UpdC Tryz.prog 61 [.ptr 9000 0, .int .i64 lo, .int .i64 hi] [(9000, .box [.str s, .int .i64 a, .int .i64 e])] (.int .i64 (withinF s a e lo hi).1) [(9000, .box [.str s, .int .i64 (withinF s a e lo hi).2.1, .int .i64 (withinF s a e lo hi).2.2])]:=
 by have k:=UpdC.of_cond (g_within_eq s a e lo hi) (g_within_ok s a e lo hi h) (specs_ok rfl [sp_lit,sp_num] [] rfl rfl) mixed Tryz.func61;exact k
noncomputable def q_within (s:By) (a e lo hi:Int):Prop×V×Store:=(s.length<=10000, .int .i64 (withinF s a e lo hi).1,[(9000, .box [.str s, .int .i64 (withinF s a e lo hi).2.1, .int .i64 (withinF s a e lo hi).2.2])])
noncomputable def so_within:OSpec Tryz.prog where
 f:=61
 run:=fun args σ=>match args,σ with
  |[.ptr 9000 0, .int .i64 lo, .int .i64 hi],[(9000, .box [.str s, .int .i64 a, .int .i64 e])]=>some (q_within s a e lo hi)
  |_,_=>none
 ok:=fun args σ pre r σ' h hp=>by
  try dsimp only at h
  split at h
  ·rename_i lo hi s a e;exact of_qo h hp fun h=>(within_upd s a e lo hi h).weak (.cons (.refl _) (.cons (.refl _) (.cons (.refl _) .nil)))
  ·cases h
def anyF (s:By) (a e:Int):Int×Int×Int:=withinF s a e (-9223372036854775808) 9223372036854775807
noncomputable def env_any (s:By) (a e:Int):Env where
 P:=Tryz.prog
 ty:=tys0
 upd:=updsOf [so_within.upd]
 pins:=[9000]
abbrev ann_any:Ann:={slots:=numP 0 [.int .i64],boxes:=[(9000,[.str, .int .i64, .int .i64])],inv:=fun _ _=>True}
def g_any_vc (s:By) (a:Int) (e:Int):Prop:=
 List.length s<=(10000:Nat)/\True/\((withinF s a e (-9223372036854775808:Int) (9223372036854775807:Int)).1,s,(withinF s a e (-9223372036854775808:Int) (9223372036854775807:Int)).2.1,(withinF s a e (-9223372036854775808:Int) (9223372036854775807:Int)).2.2,())=((anyF s a e).1,s,(anyF s a e).2.1,(anyF s a e).2.2,())
theorem g_any_eq (s:By) (a e:Int):CondO (env_any s a e) Tryz.f59 [.ptr 9000 0] [(9000, .box [.str s, .int .i64 a, .int .i64 e])] [none] ann_any ((anyF s a e).1,s,(anyF s a e).2.1,(anyF s a e).2.2,())=g_any_vc s a e:=by kernel_rfl
theorem g_any_ok (s:By) (a e:Int) (h:s.length<=10000):g_any_vc s a e:=by
 unfold g_any_vc;exact ⟨h,trivial,rfl⟩
theorem any_upd (s:By) (a e:Int) (h:s.length<=10000):UpdC Tryz.prog 59 [.ptr 9000 0] [(9000, .box [.str s, .int .i64 a, .int .i64 e])] (.int .i64 (anyF s a e).1) [(9000, .box [.str s, .int .i64 (anyF s a e).2.1, .int .i64 (anyF s a e).2.2])]:=
 by have k:=UpdC.of_cond (g_any_eq s a e) (g_any_ok s a e h) (specs_ok rfl [] [so_within.upd] rfl rfl) mixed Tryz.func59;exact k
noncomputable def q_any (s:By) (a e:Int):Prop×V×Store:=(s.length<=10000, .int .i64 (anyF s a e).1,[(9000, .box [.str s, .int .i64 (anyF s a e).2.1, .int .i64 (anyF s a e).2.2])])
noncomputable def so_any:OSpec Tryz.prog where
 f:=59
 run:=fun args σ=>match args,σ with
  |[.ptr 9000 0],[(9000, .box [.str s, .int .i64 a, .int .i64 e])]=>some (q_any s a e)
  |_,_=>none
 ok:=fun args σ pre r σ' h hp=>by
  try dsimp only at h
  split at h
  ·rename_i s a e;exact of_qo h hp fun h=>(any_upd s a e h).weak (.cons (.refl _) .nil)
  ·cases h
end Go.Proofs.YtabicbgeoiilmaaGreatDoor.Cm
end
section
namespace Go.Proofs.YtabicbgeoiilmaaGreatDoor.Cm
open Go.Vm
def loF (j:Int):Int:=if j=4∨j=5 then 0 else -9223372036854775808
def hiF (j:Int):Int:=if j=4∨j=5 then 1 else 9223372036854775807
def partsGo (s:By):List Int->Int×Int×List Int->Int×Int×List Int
 |[],st=>st
 |j::r,st=>let x:=withinF s st.1 st.2.1 (loF j) (hiF j);partsGo s r (x.2.1,x.2.2,st.2.2.set j.toNat x.1)
def lineGo (s:By):Nat->Int×Int×List LnD->Int×Int×List LnD
 |0,st=>st
 |n+1,st=>
  let a:=anyF s st.1 st.2.1
  let b:=anyF s a.2.1 a.2.2
  let c:=anyF s b.2.1 b.2.2
  let d:=anyF s c.2.1 c.2.2
  lineGo s n (d.2.1,d.2.2,st.2.2++[(a.1,b.1,c.1,d.1)])
abbrev zeros:List Int:=[0,0,0,0,0,0,0,0]
def nilC:CmD:=(0,0,0,0,0,false,false,(0,0),[])
def mkC (k:Int) (l:List Int) (ls:List LnD):CmD:=(k,nthI l 0,nthI l 1,nthI l 2,nthI l 3,decide (nthI l 4=1),decide (nthI l 5=1),(nthI l 6,nthI l 7),ls)
def tailF (s:By) (k a e:Int):Int×Int×List LnD:=
 if k=7 then let x:=withinF s a e 0 50;lineGo s x.1.toNat (x.2.1,x.2.2,[]) else (a,e,[])
def P0 (s:By):Int×Int×List Int:=partsGo s (partF (kindF s).1) ((kindF s).2.1,0,zeros)
def hdC (s:By) (ls:List LnD):CmD:=mkC (kindF s).1 (P0 s).2.2 ls
def N0 (s:By):Int×Int×Int:=withinF s (P0 s).1 (P0 s).2.1 0 50
def restF (s:By) (c:CmD) (a e:Int):CmD×Int:=if e=0 then if a<s.length then (nilC,6) else (c,0) else (nilC,e)
def cparseF (s:By):CmD×Int:=
 if (kindF s).2.2=0 then
  let t:=tailF s (kindF s).1 (P0 s).1 (P0 s).2.1
  restF s (hdC s t.2.2) t.1 t.2.1
 else (nilC,(kindF s).2.2)
theorem kindL_in (s:By): ∀(l:List Int) (w:Int),(∀k∈l,1<=k/\k<=8)->w≠0->(kindL s l w).2.2=0->1<=(kindL s l w).1/\(kindL s l w).1<=8
 |[],w,_,h,h2=>absurd h2 h
 |k::r,w,hl,h,h2=>by
  unfold kindL at h2⊢;by_cases c:(litF s 0 (wordF k)).2=0
  ·rw [if_pos c];exact hl k (by simp)
  ·rw [if_neg c] at h2⊢;refine kindL_in s r _ (fun j hj=>hl j (by simp [hj])) ?_ h2;split
   ·decide
   ·exact h
theorem kindF_in {s:By} (h:(kindF s).2.2=0):1<=(kindF s).1/\(kindF s).1<=8:=kindL_in s kinds 8 (by simp [kinds]) (by decide) h
theorem parts_step {s:By} {L:List Int} {i j:Int} {a e:Int} {l:List Int} (h:P0 s=partsGo s (L.drop i.toNat) (a,e,l)) (hj:L[i.toNat]? =some j) (hi:0<=i):
 P0 s=partsGo s (L.drop (i+1).toNat) ((withinF s a e (loF j) (hiF j)).2.1,(withinF s a e (loF j) (hiF j)).2.2,l.set j.toNat (withinF s a e (loF j) (hiF j)).1):=by
 obtain ⟨hl,e⟩:=List.getElem?_eq_some_iff.1 hj;rw [h,List.drop_eq_getElem_cons hl,e,show (i+1).toNat=i.toNat+1 by omega];rfl
theorem within_in (s:By) (a e:Int):0<=(withinF s a e 0 50).1/\(withinF s a e 0 50).1<=50:=by
 unfold withinF;split
 ·split
  ·by_cases h:(numF s (litF s a [32]).1 0 50).2.2=0
   ·have:=(numF_zero h).2.2.1;exact this
   ·rw [(numF_err h).1];decide
  ·dsimp only;decide
 ·dsimp only;decide
theorem P0_end {s:By} {i:Int} {a e:Int} {l:List Int} (h:P0 s=partsGo s ((partF (kindF s).1).drop i.toNat) (a,e,l)) (hi: ¬i<(partF (kindF s).1).length) (h0:0<=i):P0 s=(a,e,l):=by
 rw [h,List.drop_eq_nil_of_le (by omega)];rfl
theorem cp_err {s:By} (h: ¬(kindF s).2.2=0):cparseF s=(nilC,(kindF s).2.2):=if_neg h
theorem cp_rest {s:By} (h:(kindF s).2.2=0) {t:Int×Int×List LnD} (ht:tailF s (kindF s).1 (P0 s).1 (P0 s).2.1=t):cparseF s=restF s (hdC s t.2.2) t.1 t.2.1:=by
 subst ht;exact if_pos h
theorem line_next {s:By} {n:Nat} {i:Int} {a e:Int} {ls:List LnD} (h0:0<=i) (h:i<n):
 lineGo s (n-i.toNat) (a,e,ls)=lineGo s (n-(i+1).toNat) ((anyF s (anyF s (anyF s (anyF s a e).2.1 (anyF s a e).2.2).2.1 (anyF s (anyF s a e).2.1 (anyF s a e).2.2).2.2).2.1 (anyF s (anyF s (anyF s a e).2.1 (anyF s a e).2.2).2.1 (anyF s (anyF s a e).2.1 (anyF s a e).2.2).2.2).2.2).2.1,
  (anyF s (anyF s (anyF s (anyF s a e).2.1 (anyF s a e).2.2).2.1 (anyF s (anyF s a e).2.1 (anyF s a e).2.2).2.2).2.1 (anyF s (anyF s (anyF s a e).2.1 (anyF s a e).2.2).2.1 (anyF s (anyF s a e).2.1 (anyF s a e).2.2).2.2).2.2).2.2,
  ls++[((anyF s a e).1,(anyF s (anyF s a e).2.1 (anyF s a e).2.2).1,(anyF s (anyF s (anyF s a e).2.1 (anyF s a e).2.2).2.1 (anyF s (anyF s a e).2.1 (anyF s a e).2.2).2.2).1,(anyF s (anyF s (anyF s (anyF s a e).2.1 (anyF s a e).2.2).2.1 (anyF s (anyF s a e).2.1 (anyF s a e).2.2).2.2).2.1 (anyF s (anyF s (anyF s a e).2.1 (anyF s a e).2.2).2.1 (anyF s (anyF s a e).2.1 (anyF s a e).2.2).2.2).2.2).1)]):=by
 rw [show n-i.toNat=(n-(i+1).toNat)+1 by omega];rfl
theorem tail_end {s:By} {i a e:Int} {ls:List LnD} (h7:(kindF s).1=7) (gt:lineGo s (N0 s).1.toNat ((N0 s).2.1,(N0 s).2.2,[])=lineGo s ((N0 s).1.toNat-i.toNat) (a,e,ls)) (hlt: ¬i<(N0 s).1) (g1:i<=(N0 s).1):
 tailF s (kindF s).1 (P0 s).1 (P0 s).2.1=(a,e,ls):=by
 unfold tailF;rw [if_pos h7];show lineGo s (N0 s).1.toNat ((N0 s).2.1,(N0 s).2.2,[])=_;rw [gt,show (N0 s).1.toNat-i.toNat=0 by omega];rfl
theorem tail_no {s:By} {a e:Int} {l:List Int} (h7: ¬(kindF s).1=7) (h:P0 s=(a,e,l)):tailF s (kindF s).1 (P0 s).1 (P0 s).2.1=(a,e,[]):=by
 unfold tailF;rw [if_neg h7,h]
noncomputable def env_cparse (s:By):Env where
 P:=Tryz.prog
 ty:=tys0
 specs:=specsOf [sp_word]
 zspecs:=zsOf [sp_forms]
 upd:=updsOf [so_within.upd,so_any.upd]
 frz:=fun|29=>true|_=>false
 sym:=fun|32=>true|49=>true|53=>true|_=>false
 heads:=fun
  |8=>some {slots:=[(36, .int .i64)],boxes:=[(26,[.str, .int .i64, .int .i64]),(9,[.int .i64, .int .i64, .int .i64, .int .i64, .int .i64, .int .i64, .int .i64, .int .i64])],keep:=[2],inv:=fun _ (x:Int×By×Int×Int×Int×Int×Int×Int×Int×Int×Int×Int×Unit)=>0<=x.1/\x.1<=(partF (kindF s).1).length/\x.2.1=s/\P0 s=partsGo s ((partF (kindF s).1).drop x.1.toNat) (x.2.2.1,x.2.2.2.1,[x.2.2.2.2.1,x.2.2.2.2.2.1,x.2.2.2.2.2.2.1,x.2.2.2.2.2.2.2.1,x.2.2.2.2.2.2.2.2.1,x.2.2.2.2.2.2.2.2.2.1,x.2.2.2.2.2.2.2.2.2.2.1,x.2.2.2.2.2.2.2.2.2.2.2.1]),measure:=fun _ (x:Int×By×Int×Int×Int×Int×Int×Int×Int×Int×Int×Int×Unit)=>((partF (kindF s).1).length-x.1).toNat}
  |17=>some {slots:=[(80, .int .i64)],boxes:=[(26,[.str, .int .i64, .int .i64]),(12,[.int .i64, .int .i64, .int .i64, .int .i64, .int .i64, .bool, .bool, .int .i64, .int .i64, .slc 9500 Ln])],keep:=[2,9],inv:=fun _ (x:Int×By×Int×Int×Int×Int×Int×Int×Int×Bool×Bool×Int×Int×List LnD×Unit)=>0<=x.1/\x.1<=(N0 s).1/\x.2.1=s/\(x.2.2.2.2.2.2.2.2.2.2.2.2.2.1.length:Int)=x.1/\lineGo s (N0 s).1.toNat ((N0 s).2.1,(N0 s).2.2,[])=lineGo s ((N0 s).1.toNat-x.1.toNat) (x.2.2.1,x.2.2.2.1,x.2.2.2.2.2.2.2.2.2.2.2.2.2.1)/\(x.2.2.2.2.1,x.2.2.2.2.2.1,x.2.2.2.2.2.2.1,x.2.2.2.2.2.2.2.1,x.2.2.2.2.2.2.2.2.1,x.2.2.2.2.2.2.2.2.2.1,x.2.2.2.2.2.2.2.2.2.2.1,(x.2.2.2.2.2.2.2.2.2.2.2.1,x.2.2.2.2.2.2.2.2.2.2.2.2.1),x.2.2.2.2.2.2.2.2.2.2.2.2.2.1)=hdC s x.2.2.2.2.2.2.2.2.2.2.2.2.2.1,measure:=fun _ (x:Int×By×Int×Int×Int×Int×Int×Int×Int×Bool×Bool×Int×Int×List LnD×Unit)=>((N0 s).1-x.1).toNat}
  |_=>none
abbrev ann_cparse:Ann:={slots:=numP 0 [.int .i64, .int .i64, .int .i64, .int .i64, .int .i64, .bool, .bool, .int .i64, .int .i64, .list .part Ln, .int .i64],boxes:=[],inv:=fun _ _=>True}
abbrev bx_cparse_1:_root_.Go.Vm.Obj:=Obj.box [V.int IntKind.i64 (0:Int),V.int IntKind.i64 (0:Int),V.int IntKind.i64 (0:Int),V.int IntKind.i64 (0:Int),V.int IntKind.i64 (0:Int),V.kb false,V.kb false,V.int IntKind.i64 (0:Int),V.int IntKind.i64 (0:Int),V.nils]
def g_cparse_vc (s:By):Prop:=
 List.length s<=(10000:Nat)/\((!decide ((kindF s).2.2=(0:Int)))=true->True/\((0:Int),(0:Int),(0:Int),(0:Int),(0:Int),false,false,(0:Int),(0:Int),[],(kindF s).2.2,())=((cparseF s).1.1,(cparseF s).1.2.1,(cparseF s).1.2.2.1,(cparseF s).1.2.2.2.1,(cparseF s).1.2.2.2.2.1,(cparseF s).1.2.2.2.2.2.1,(cparseF s).1.2.2.2.2.2.2.1,(cparseF s).1.2.2.2.2.2.2.2.1.1,(cparseF s).1.2.2.2.2.2.2.2.1.2,(cparseF s).1.2.2.2.2.2.2.2.2,(cparseF s).2,()))/\((!decide ((kindF s).2.2=(0:Int)))=false->True/\(-9223372036854775808<=(kindF s).1-(1:Int)/\(kindF s).1-(1:Int)<=9223372036854775807)/\(0<=(kindF s).1-(1:Int)/\(kindF s).1-(1:Int)<(↑(8:Nat):Int))/\((some bx_cparse_1=some bx_cparse_1/\True)/\0<=(0:Int)/\0<=(↑(partF (kindF s).1).length:Int)/\s=s/\P0 s=partsGo s (List.drop (Int.toNat (0:Int)) (partF (kindF s).1)) ((kindF s).2.1,(0:Int),[(0:Int),(0:Int),(0:Int),(0:Int),(0:Int),(0:Int),(0:Int),(0:Int)]))/\∀(x:Int×List UInt8×Int×Int×Int×Int×Int×Int×Int×Int×Int×Int×Unit),0<=x.1/\x.1<=(↑(partF (kindF s).1).length:Int)/\x.2.1=s/\P0 s=partsGo s (List.drop x.1.toNat (partF (kindF s).1)) (x.2.2.1,x.2.2.2.1,[x.2.2.2.2.1,x.2.2.2.2.2.1,x.2.2.2.2.2.2.1,x.2.2.2.2.2.2.2.1,x.2.2.2.2.2.2.2.2.1,x.2.2.2.2.2.2.2.2.2.1,x.2.2.2.2.2.2.2.2.2.2.1,x.2.2.2.2.2.2.2.2.2.2.2.1])->(decide (x.1<(↑([[(0:Int)],[(0:Int),(1:Int),(4:Int),(5:Int)],[(0:Int),(1:Int)],[(0:Int),(1:Int),(2:Int),(3:Int)],[(0:Int),(1:Int),(2:Int),(3:Int),(6:Int),(7:Int)],[(0:Int),(1:Int)],[(0:Int)],[(0:Int),(1:Int)]][((kindF s).1-(1:Int)).toNat]?.getD []).length:Int))=true->(0<=x.1/\x.1<(↑([[(0:Int)],[(0:Int),(1:Int),(4:Int),(5:Int)],[(0:Int),(1:Int)],[(0:Int),(1:Int),(2:Int),(3:Int)],[(0:Int),(1:Int),(2:Int),(3:Int),(6:Int),(7:Int)],[(0:Int),(1:Int)],[(0:Int)],[(0:Int),(1:Int)]][((kindF s).1-(1:Int)).toNat]?.getD []).length:Int))/\∀(x_1:Int),([[(0:Int)],[(0:Int),(1:Int),(4:Int),(5:Int)],[(0:Int),(1:Int)],[(0:Int),(1:Int),(2:Int),(3:Int)],[(0:Int),(1:Int),(2:Int),(3:Int),(6:Int),(7:Int)],[(0:Int),(1:Int)],[(0:Int)],[(0:Int),(1:Int)]][((kindF s).1-(1:Int)).toNat]?.getD [])[x.1.toNat]? =some x_1->(decide (x_1=(4:Int))=false->(decide (x_1=(5:Int))=true->x.2.1.length<=(10000:Nat)/\(0<=x_1/\x_1<(↑(8:Nat):Int))/\(x_1=(↑(0:Nat):Int)->(-9223372036854775808<=x.1+1/\x.1+1<=9223372036854775807)/\(some bx_cparse_1=some bx_cparse_1/\True)/\(0<=x.1+1/\x.1+1<=(↑(partF (kindF s).1).length:Int)/\x.2.1=s/\P0 s=partsGo s (List.drop (x.1+1).toNat (partF (kindF s).1)) ((withinF x.2.1 x.2.2.1 x.2.2.2.1 (0:Int) (1:Int)).2.1,(withinF x.2.1 x.2.2.1 x.2.2.2.1 (0:Int) (1:Int)).2.2,[(withinF x.2.1 x.2.2.1 x.2.2.2.1 (0:Int) (1:Int)).1,x.2.2.2.2.2.1,x.2.2.2.2.2.2.1,x.2.2.2.2.2.2.2.1,x.2.2.2.2.2.2.2.2.1,x.2.2.2.2.2.2.2.2.2.1,x.2.2.2.2.2.2.2.2.2.2.1,x.2.2.2.2.2.2.2.2.2.2.2.1]))/\((↑(partF (kindF s).1).length:Int)-(x.1+1)).toNat<((↑(partF (kindF s).1).length:Int)-x.1).toNat)/\(x_1=(↑(1:Nat):Int)->(-9223372036854775808<=x.1+1/\x.1+1<=9223372036854775807)/\(some bx_cparse_1=some bx_cparse_1/\True)/\(0<=x.1+1/\x.1+1<=(↑(partF (kindF s).1).length:Int)/\x.2.1=s/\P0 s=partsGo s (List.drop (x.1+1).toNat (partF (kindF s).1)) ((withinF x.2.1 x.2.2.1 x.2.2.2.1 (0:Int) (1:Int)).2.1,(withinF x.2.1 x.2.2.1 x.2.2.2.1 (0:Int) (1:Int)).2.2,[x.2.2.2.2.1,(withinF x.2.1 x.2.2.1 x.2.2.2.1 (0:Int) (1:Int)).1,x.2.2.2.2.2.2.1,x.2.2.2.2.2.2.2.1,x.2.2.2.2.2.2.2.2.1,x.2.2.2.2.2.2.2.2.2.1,x.2.2.2.2.2.2.2.2.2.2.1,x.2.2.2.2.2.2.2.2.2.2.2.1]))/\((↑(partF (kindF s).1).length:Int)-(x.1+1)).toNat<((↑(partF (kindF s).1).length:Int)-x.1).toNat)/\(x_1=(↑(2:Nat):Int)->(-9223372036854775808<=x.1+1/\x.1+1<=9223372036854775807)/\(some bx_cparse_1=some bx_cparse_1/\True)/\(0<=x.1+1/\x.1+1<=(↑(partF (kindF s).1).length:Int)/\x.2.1=s/\P0 s=partsGo s (List.drop (x.1+1).toNat (partF (kindF s).1)) ((withinF x.2.1 x.2.2.1 x.2.2.2.1 (0:Int) (1:Int)).2.1,(withinF x.2.1 x.2.2.1 x.2.2.2.1 (0:Int) (1:Int)).2.2,[x.2.2.2.2.1,x.2.2.2.2.2.1,(withinF x.2.1 x.2.2.1 x.2.2.2.1 (0:Int) (1:Int)).1,x.2.2.2.2.2.2.2.1,x.2.2.2.2.2.2.2.2.1,x.2.2.2.2.2.2.2.2.2.1,x.2.2.2.2.2.2.2.2.2.2.1,x.2.2.2.2.2.2.2.2.2.2.2.1]))/\((↑(partF (kindF s).1).length:Int)-(x.1+1)).toNat<((↑(partF (kindF s).1).length:Int)-x.1).toNat)/\(x_1=(↑(3:Nat):Int)->(-9223372036854775808<=x.1+1/\x.1+1<=9223372036854775807)/\(some bx_cparse_1=some bx_cparse_1/\True)/\(0<=x.1+1/\x.1+1<=(↑(partF (kindF s).1).length:Int)/\x.2.1=s/\P0 s=partsGo s (List.drop (x.1+1).toNat (partF (kindF s).1)) ((withinF x.2.1 x.2.2.1 x.2.2.2.1 (0:Int) (1:Int)).2.1,(withinF x.2.1 x.2.2.1 x.2.2.2.1 (0:Int) (1:Int)).2.2,[x.2.2.2.2.1,x.2.2.2.2.2.1,x.2.2.2.2.2.2.1,(withinF x.2.1 x.2.2.1 x.2.2.2.1 (0:Int) (1:Int)).1,x.2.2.2.2.2.2.2.2.1,x.2.2.2.2.2.2.2.2.2.1,x.2.2.2.2.2.2.2.2.2.2.1,x.2.2.2.2.2.2.2.2.2.2.2.1]))/\((↑(partF (kindF s).1).length:Int)-(x.1+1)).toNat<((↑(partF (kindF s).1).length:Int)-x.1).toNat)/\(x_1=(↑(4:Nat):Int)->(-9223372036854775808<=x.1+1/\x.1+1<=9223372036854775807)/\(some bx_cparse_1=some bx_cparse_1/\True)/\(0<=x.1+1/\x.1+1<=(↑(partF (kindF s).1).length:Int)/\x.2.1=s/\P0 s=partsGo s (List.drop (x.1+1).toNat (partF (kindF s).1)) ((withinF x.2.1 x.2.2.1 x.2.2.2.1 (0:Int) (1:Int)).2.1,(withinF x.2.1 x.2.2.1 x.2.2.2.1 (0:Int) (1:Int)).2.2,[x.2.2.2.2.1,x.2.2.2.2.2.1,x.2.2.2.2.2.2.1,x.2.2.2.2.2.2.2.1,(withinF x.2.1 x.2.2.1 x.2.2.2.1 (0:Int) (1:Int)).1,x.2.2.2.2.2.2.2.2.2.1,x.2.2.2.2.2.2.2.2.2.2.1,x.2.2.2.2.2.2.2.2.2.2.2.1]))/\((↑(partF (kindF s).1).length:Int)-(x.1+1)).toNat<((↑(partF (kindF s).1).length:Int)-x.1).toNat)/\(x_1=(↑(5:Nat):Int)->(-9223372036854775808<=x.1+1/\x.1+1<=9223372036854775807)/\(some bx_cparse_1=some bx_cparse_1/\True)/\(0<=x.1+1/\x.1+1<=(↑(partF (kindF s).1).length:Int)/\x.2.1=s/\P0 s=partsGo s (List.drop (x.1+1).toNat (partF (kindF s).1)) ((withinF x.2.1 x.2.2.1 x.2.2.2.1 (0:Int) (1:Int)).2.1,(withinF x.2.1 x.2.2.1 x.2.2.2.1 (0:Int) (1:Int)).2.2,[x.2.2.2.2.1,x.2.2.2.2.2.1,x.2.2.2.2.2.2.1,x.2.2.2.2.2.2.2.1,x.2.2.2.2.2.2.2.2.1,(withinF x.2.1 x.2.2.1 x.2.2.2.1 (0:Int) (1:Int)).1,x.2.2.2.2.2.2.2.2.2.2.1,x.2.2.2.2.2.2.2.2.2.2.2.1]))/\((↑(partF (kindF s).1).length:Int)-(x.1+1)).toNat<((↑(partF (kindF s).1).length:Int)-x.1).toNat)/\(x_1=(↑(6:Nat):Int)->(-9223372036854775808<=x.1+1/\x.1+1<=9223372036854775807)/\(some bx_cparse_1=some bx_cparse_1/\True)/\(0<=x.1+1/\x.1+1<=(↑(partF (kindF s).1).length:Int)/\x.2.1=s/\P0 s=partsGo s (List.drop (x.1+1).toNat (partF (kindF s).1)) ((withinF x.2.1 x.2.2.1 x.2.2.2.1 (0:Int) (1:Int)).2.1,(withinF x.2.1 x.2.2.1 x.2.2.2.1 (0:Int) (1:Int)).2.2,[x.2.2.2.2.1,x.2.2.2.2.2.1,x.2.2.2.2.2.2.1,x.2.2.2.2.2.2.2.1,x.2.2.2.2.2.2.2.2.1,x.2.2.2.2.2.2.2.2.2.1,(withinF x.2.1 x.2.2.1 x.2.2.2.1 (0:Int) (1:Int)).1,x.2.2.2.2.2.2.2.2.2.2.2.1]))/\((↑(partF (kindF s).1).length:Int)-(x.1+1)).toNat<((↑(partF (kindF s).1).length:Int)-x.1).toNat)/\(x_1=(↑(7:Nat):Int)->(-9223372036854775808<=x.1+1/\x.1+1<=9223372036854775807)/\(some bx_cparse_1=some bx_cparse_1/\True)/\(0<=x.1+1/\x.1+1<=(↑(partF (kindF s).1).length:Int)/\x.2.1=s/\P0 s=partsGo s (List.drop (x.1+1).toNat (partF (kindF s).1)) ((withinF x.2.1 x.2.2.1 x.2.2.2.1 (0:Int) (1:Int)).2.1,(withinF x.2.1 x.2.2.1 x.2.2.2.1 (0:Int) (1:Int)).2.2,[x.2.2.2.2.1,x.2.2.2.2.2.1,x.2.2.2.2.2.2.1,x.2.2.2.2.2.2.2.1,x.2.2.2.2.2.2.2.2.1,x.2.2.2.2.2.2.2.2.2.1,x.2.2.2.2.2.2.2.2.2.2.1,(withinF x.2.1 x.2.2.1 x.2.2.2.1 (0:Int) (1:Int)).1]))/\((↑(partF (kindF s).1).length:Int)-(x.1+1)).toNat<((↑(partF (kindF s).1).length:Int)-x.1).toNat)/\True)/\(decide (x_1=(5:Int))=false->x.2.1.length<=(10000:Nat)/\(0<=x_1/\x_1<(↑(8:Nat):Int))/\(x_1=(↑(0:Nat):Int)->(-9223372036854775808<=x.1+1/\x.1+1<=9223372036854775807)/\(some bx_cparse_1=some bx_cparse_1/\True)/\(0<=x.1+1/\x.1+1<=(↑(partF (kindF s).1).length:Int)/\x.2.1=s/\P0 s=partsGo s (List.drop (x.1+1).toNat (partF (kindF s).1)) ((anyF x.2.1 x.2.2.1 x.2.2.2.1).2.1,(anyF x.2.1 x.2.2.1 x.2.2.2.1).2.2,[(anyF x.2.1 x.2.2.1 x.2.2.2.1).1,x.2.2.2.2.2.1,x.2.2.2.2.2.2.1,x.2.2.2.2.2.2.2.1,x.2.2.2.2.2.2.2.2.1,x.2.2.2.2.2.2.2.2.2.1,x.2.2.2.2.2.2.2.2.2.2.1,x.2.2.2.2.2.2.2.2.2.2.2.1]))/\((↑(partF (kindF s).1).length:Int)-(x.1+1)).toNat<((↑(partF (kindF s).1).length:Int)-x.1).toNat)/\(x_1=(↑(1:Nat):Int)->(-9223372036854775808<=x.1+1/\x.1+1<=9223372036854775807)/\(some bx_cparse_1=some bx_cparse_1/\True)/\(0<=x.1+1/\x.1+1<=(↑(partF (kindF s).1).length:Int)/\x.2.1=s/\P0 s=partsGo s (List.drop (x.1+1).toNat (partF (kindF s).1)) ((anyF x.2.1 x.2.2.1 x.2.2.2.1).2.1,(anyF x.2.1 x.2.2.1 x.2.2.2.1).2.2,[x.2.2.2.2.1,(anyF x.2.1 x.2.2.1 x.2.2.2.1).1,x.2.2.2.2.2.2.1,x.2.2.2.2.2.2.2.1,x.2.2.2.2.2.2.2.2.1,x.2.2.2.2.2.2.2.2.2.1,x.2.2.2.2.2.2.2.2.2.2.1,x.2.2.2.2.2.2.2.2.2.2.2.1]))/\((↑(partF (kindF s).1).length:Int)-(x.1+1)).toNat<((↑(partF (kindF s).1).length:Int)-x.1).toNat)/\(x_1=(↑(2:Nat):Int)->(-9223372036854775808<=x.1+1/\x.1+1<=9223372036854775807)/\(some bx_cparse_1=some bx_cparse_1/\True)/\(0<=x.1+1/\x.1+1<=(↑(partF (kindF s).1).length:Int)/\x.2.1=s/\P0 s=partsGo s (List.drop (x.1+1).toNat (partF (kindF s).1)) ((anyF x.2.1 x.2.2.1 x.2.2.2.1).2.1,(anyF x.2.1 x.2.2.1 x.2.2.2.1).2.2,[x.2.2.2.2.1,x.2.2.2.2.2.1,(anyF x.2.1 x.2.2.1 x.2.2.2.1).1,x.2.2.2.2.2.2.2.1,x.2.2.2.2.2.2.2.2.1,x.2.2.2.2.2.2.2.2.2.1,x.2.2.2.2.2.2.2.2.2.2.1,x.2.2.2.2.2.2.2.2.2.2.2.1]))/\((↑(partF (kindF s).1).length:Int)-(x.1+1)).toNat<((↑(partF (kindF s).1).length:Int)-x.1).toNat)/\(x_1=(↑(3:Nat):Int)->(-9223372036854775808<=x.1+1/\x.1+1<=9223372036854775807)/\(some bx_cparse_1=some bx_cparse_1/\True)/\(0<=x.1+1/\x.1+1<=(↑(partF (kindF s).1).length:Int)/\x.2.1=s/\P0 s=partsGo s (List.drop (x.1+1).toNat (partF (kindF s).1)) ((anyF x.2.1 x.2.2.1 x.2.2.2.1).2.1,(anyF x.2.1 x.2.2.1 x.2.2.2.1).2.2,[x.2.2.2.2.1,x.2.2.2.2.2.1,x.2.2.2.2.2.2.1,(anyF x.2.1 x.2.2.1 x.2.2.2.1).1,x.2.2.2.2.2.2.2.2.1,x.2.2.2.2.2.2.2.2.2.1,x.2.2.2.2.2.2.2.2.2.2.1,x.2.2.2.2.2.2.2.2.2.2.2.1]))/\((↑(partF (kindF s).1).length:Int)-(x.1+1)).toNat<((↑(partF (kindF s).1).length:Int)-x.1).toNat)/\(x_1=(↑(4:Nat):Int)->(-9223372036854775808<=x.1+1/\x.1+1<=9223372036854775807)/\(some bx_cparse_1=some bx_cparse_1/\True)/\(0<=x.1+1/\x.1+1<=(↑(partF (kindF s).1).length:Int)/\x.2.1=s/\P0 s=partsGo s (List.drop (x.1+1).toNat (partF (kindF s).1)) ((anyF x.2.1 x.2.2.1 x.2.2.2.1).2.1,(anyF x.2.1 x.2.2.1 x.2.2.2.1).2.2,[x.2.2.2.2.1,x.2.2.2.2.2.1,x.2.2.2.2.2.2.1,x.2.2.2.2.2.2.2.1,(anyF x.2.1 x.2.2.1 x.2.2.2.1).1,x.2.2.2.2.2.2.2.2.2.1,x.2.2.2.2.2.2.2.2.2.2.1,x.2.2.2.2.2.2.2.2.2.2.2.1]))/\((↑(partF (kindF s).1).length:Int)-(x.1+1)).toNat<((↑(partF (kindF s).1).length:Int)-x.1).toNat)/\(x_1=(↑(5:Nat):Int)->(-9223372036854775808<=x.1+1/\x.1+1<=9223372036854775807)/\(some bx_cparse_1=some bx_cparse_1/\True)/\(0<=x.1+1/\x.1+1<=(↑(partF (kindF s).1).length:Int)/\x.2.1=s/\P0 s=partsGo s (List.drop (x.1+1).toNat (partF (kindF s).1)) ((anyF x.2.1 x.2.2.1 x.2.2.2.1).2.1,(anyF x.2.1 x.2.2.1 x.2.2.2.1).2.2,[x.2.2.2.2.1,x.2.2.2.2.2.1,x.2.2.2.2.2.2.1,x.2.2.2.2.2.2.2.1,x.2.2.2.2.2.2.2.2.1,(anyF x.2.1 x.2.2.1 x.2.2.2.1).1,x.2.2.2.2.2.2.2.2.2.2.1,x.2.2.2.2.2.2.2.2.2.2.2.1]))/\((↑(partF (kindF s).1).length:Int)-(x.1+1)).toNat<((↑(partF (kindF s).1).length:Int)-x.1).toNat)/\(x_1=(↑(6:Nat):Int)->(-9223372036854775808<=x.1+1/\x.1+1<=9223372036854775807)/\(some bx_cparse_1=some bx_cparse_1/\True)/\(0<=x.1+1/\x.1+1<=(↑(partF (kindF s).1).length:Int)/\x.2.1=s/\P0 s=partsGo s (List.drop (x.1+1).toNat (partF (kindF s).1)) ((anyF x.2.1 x.2.2.1 x.2.2.2.1).2.1,(anyF x.2.1 x.2.2.1 x.2.2.2.1).2.2,[x.2.2.2.2.1,x.2.2.2.2.2.1,x.2.2.2.2.2.2.1,x.2.2.2.2.2.2.2.1,x.2.2.2.2.2.2.2.2.1,x.2.2.2.2.2.2.2.2.2.1,(anyF x.2.1 x.2.2.1 x.2.2.2.1).1,x.2.2.2.2.2.2.2.2.2.2.2.1]))/\((↑(partF (kindF s).1).length:Int)-(x.1+1)).toNat<((↑(partF (kindF s).1).length:Int)-x.1).toNat)/\(x_1=(↑(7:Nat):Int)->(-9223372036854775808<=x.1+1/\x.1+1<=9223372036854775807)/\(some bx_cparse_1=some bx_cparse_1/\True)/\(0<=x.1+1/\x.1+1<=(↑(partF (kindF s).1).length:Int)/\x.2.1=s/\P0 s=partsGo s (List.drop (x.1+1).toNat (partF (kindF s).1)) ((anyF x.2.1 x.2.2.1 x.2.2.2.1).2.1,(anyF x.2.1 x.2.2.1 x.2.2.2.1).2.2,[x.2.2.2.2.1,x.2.2.2.2.2.1,x.2.2.2.2.2.2.1,x.2.2.2.2.2.2.2.1,x.2.2.2.2.2.2.2.2.1,x.2.2.2.2.2.2.2.2.2.1,x.2.2.2.2.2.2.2.2.2.2.1,(anyF x.2.1 x.2.2.1 x.2.2.2.1).1]))/\((↑(partF (kindF s).1).length:Int)-(x.1+1)).toNat<((↑(partF (kindF s).1).length:Int)-x.1).toNat)/\True))/\(decide (x_1=(4:Int))= !false->x.2.1.length<=(10000:Nat)/\(0<=x_1/\x_1<(↑(8:Nat):Int))/\(x_1=(↑(0:Nat):Int)->(-9223372036854775808<=x.1+1/\x.1+1<=9223372036854775807)/\(some bx_cparse_1=some bx_cparse_1/\True)/\(0<=x.1+1/\x.1+1<=(↑(partF (kindF s).1).length:Int)/\x.2.1=s/\P0 s=partsGo s (List.drop (x.1+1).toNat (partF (kindF s).1)) ((withinF x.2.1 x.2.2.1 x.2.2.2.1 (0:Int) (1:Int)).2.1,(withinF x.2.1 x.2.2.1 x.2.2.2.1 (0:Int) (1:Int)).2.2,[(withinF x.2.1 x.2.2.1 x.2.2.2.1 (0:Int) (1:Int)).1,x.2.2.2.2.2.1,x.2.2.2.2.2.2.1,x.2.2.2.2.2.2.2.1,x.2.2.2.2.2.2.2.2.1,x.2.2.2.2.2.2.2.2.2.1,x.2.2.2.2.2.2.2.2.2.2.1,x.2.2.2.2.2.2.2.2.2.2.2.1]))/\((↑(partF (kindF s).1).length:Int)-(x.1+1)).toNat<((↑(partF (kindF s).1).length:Int)-x.1).toNat)/\(x_1=(↑(1:Nat):Int)->(-9223372036854775808<=x.1+1/\x.1+1<=9223372036854775807)/\(some bx_cparse_1=some bx_cparse_1/\True)/\(0<=x.1+1/\x.1+1<=(↑(partF (kindF s).1).length:Int)/\x.2.1=s/\P0 s=partsGo s (List.drop (x.1+1).toNat (partF (kindF s).1)) ((withinF x.2.1 x.2.2.1 x.2.2.2.1 (0:Int) (1:Int)).2.1,(withinF x.2.1 x.2.2.1 x.2.2.2.1 (0:Int) (1:Int)).2.2,[x.2.2.2.2.1,(withinF x.2.1 x.2.2.1 x.2.2.2.1 (0:Int) (1:Int)).1,x.2.2.2.2.2.2.1,x.2.2.2.2.2.2.2.1,x.2.2.2.2.2.2.2.2.1,x.2.2.2.2.2.2.2.2.2.1,x.2.2.2.2.2.2.2.2.2.2.1,x.2.2.2.2.2.2.2.2.2.2.2.1]))/\((↑(partF (kindF s).1).length:Int)-(x.1+1)).toNat<((↑(partF (kindF s).1).length:Int)-x.1).toNat)/\(x_1=(↑(2:Nat):Int)->(-9223372036854775808<=x.1+1/\x.1+1<=9223372036854775807)/\(some bx_cparse_1=some bx_cparse_1/\True)/\(0<=x.1+1/\x.1+1<=(↑(partF (kindF s).1).length:Int)/\x.2.1=s/\P0 s=partsGo s (List.drop (x.1+1).toNat (partF (kindF s).1)) ((withinF x.2.1 x.2.2.1 x.2.2.2.1 (0:Int) (1:Int)).2.1,(withinF x.2.1 x.2.2.1 x.2.2.2.1 (0:Int) (1:Int)).2.2,[x.2.2.2.2.1,x.2.2.2.2.2.1,(withinF x.2.1 x.2.2.1 x.2.2.2.1 (0:Int) (1:Int)).1,x.2.2.2.2.2.2.2.1,x.2.2.2.2.2.2.2.2.1,x.2.2.2.2.2.2.2.2.2.1,x.2.2.2.2.2.2.2.2.2.2.1,x.2.2.2.2.2.2.2.2.2.2.2.1]))/\((↑(partF (kindF s).1).length:Int)-(x.1+1)).toNat<((↑(partF (kindF s).1).length:Int)-x.1).toNat)/\(x_1=(↑(3:Nat):Int)->(-9223372036854775808<=x.1+1/\x.1+1<=9223372036854775807)/\(some bx_cparse_1=some bx_cparse_1/\True)/\(0<=x.1+1/\x.1+1<=(↑(partF (kindF s).1).length:Int)/\x.2.1=s/\P0 s=partsGo s (List.drop (x.1+1).toNat (partF (kindF s).1)) ((withinF x.2.1 x.2.2.1 x.2.2.2.1 (0:Int) (1:Int)).2.1,(withinF x.2.1 x.2.2.1 x.2.2.2.1 (0:Int) (1:Int)).2.2,[x.2.2.2.2.1,x.2.2.2.2.2.1,x.2.2.2.2.2.2.1,(withinF x.2.1 x.2.2.1 x.2.2.2.1 (0:Int) (1:Int)).1,x.2.2.2.2.2.2.2.2.1,x.2.2.2.2.2.2.2.2.2.1,x.2.2.2.2.2.2.2.2.2.2.1,x.2.2.2.2.2.2.2.2.2.2.2.1]))/\((↑(partF (kindF s).1).length:Int)-(x.1+1)).toNat<((↑(partF (kindF s).1).length:Int)-x.1).toNat)/\(x_1=(↑(4:Nat):Int)->(-9223372036854775808<=x.1+1/\x.1+1<=9223372036854775807)/\(some bx_cparse_1=some bx_cparse_1/\True)/\(0<=x.1+1/\x.1+1<=(↑(partF (kindF s).1).length:Int)/\x.2.1=s/\P0 s=partsGo s (List.drop (x.1+1).toNat (partF (kindF s).1)) ((withinF x.2.1 x.2.2.1 x.2.2.2.1 (0:Int) (1:Int)).2.1,(withinF x.2.1 x.2.2.1 x.2.2.2.1 (0:Int) (1:Int)).2.2,[x.2.2.2.2.1,x.2.2.2.2.2.1,x.2.2.2.2.2.2.1,x.2.2.2.2.2.2.2.1,(withinF x.2.1 x.2.2.1 x.2.2.2.1 (0:Int) (1:Int)).1,x.2.2.2.2.2.2.2.2.2.1,x.2.2.2.2.2.2.2.2.2.2.1,x.2.2.2.2.2.2.2.2.2.2.2.1]))/\((↑(partF (kindF s).1).length:Int)-(x.1+1)).toNat<((↑(partF (kindF s).1).length:Int)-x.1).toNat)/\(x_1=(↑(5:Nat):Int)->(-9223372036854775808<=x.1+1/\x.1+1<=9223372036854775807)/\(some bx_cparse_1=some bx_cparse_1/\True)/\(0<=x.1+1/\x.1+1<=(↑(partF (kindF s).1).length:Int)/\x.2.1=s/\P0 s=partsGo s (List.drop (x.1+1).toNat (partF (kindF s).1)) ((withinF x.2.1 x.2.2.1 x.2.2.2.1 (0:Int) (1:Int)).2.1,(withinF x.2.1 x.2.2.1 x.2.2.2.1 (0:Int) (1:Int)).2.2,[x.2.2.2.2.1,x.2.2.2.2.2.1,x.2.2.2.2.2.2.1,x.2.2.2.2.2.2.2.1,x.2.2.2.2.2.2.2.2.1,(withinF x.2.1 x.2.2.1 x.2.2.2.1 (0:Int) (1:Int)).1,x.2.2.2.2.2.2.2.2.2.2.1,x.2.2.2.2.2.2.2.2.2.2.2.1]))/\((↑(partF (kindF s).1).length:Int)-(x.1+1)).toNat<((↑(partF (kindF s).1).length:Int)-x.1).toNat)/\(x_1=(↑(6:Nat):Int)->(-9223372036854775808<=x.1+1/\x.1+1<=9223372036854775807)/\(some bx_cparse_1=some bx_cparse_1/\True)/\(0<=x.1+1/\x.1+1<=(↑(partF (kindF s).1).length:Int)/\x.2.1=s/\P0 s=partsGo s (List.drop (x.1+1).toNat (partF (kindF s).1)) ((withinF x.2.1 x.2.2.1 x.2.2.2.1 (0:Int) (1:Int)).2.1,(withinF x.2.1 x.2.2.1 x.2.2.2.1 (0:Int) (1:Int)).2.2,[x.2.2.2.2.1,x.2.2.2.2.2.1,x.2.2.2.2.2.2.1,x.2.2.2.2.2.2.2.1,x.2.2.2.2.2.2.2.2.1,x.2.2.2.2.2.2.2.2.2.1,(withinF x.2.1 x.2.2.1 x.2.2.2.1 (0:Int) (1:Int)).1,x.2.2.2.2.2.2.2.2.2.2.2.1]))/\((↑(partF (kindF s).1).length:Int)-(x.1+1)).toNat<((↑(partF (kindF s).1).length:Int)-x.1).toNat)/\(x_1=(↑(7:Nat):Int)->(-9223372036854775808<=x.1+1/\x.1+1<=9223372036854775807)/\(some bx_cparse_1=some bx_cparse_1/\True)/\(0<=x.1+1/\x.1+1<=(↑(partF (kindF s).1).length:Int)/\x.2.1=s/\P0 s=partsGo s (List.drop (x.1+1).toNat (partF (kindF s).1)) ((withinF x.2.1 x.2.2.1 x.2.2.2.1 (0:Int) (1:Int)).2.1,(withinF x.2.1 x.2.2.1 x.2.2.2.1 (0:Int) (1:Int)).2.2,[x.2.2.2.2.1,x.2.2.2.2.2.1,x.2.2.2.2.2.2.1,x.2.2.2.2.2.2.2.1,x.2.2.2.2.2.2.2.2.1,x.2.2.2.2.2.2.2.2.2.1,x.2.2.2.2.2.2.2.2.2.2.1,(withinF x.2.1 x.2.2.1 x.2.2.2.1 (0:Int) (1:Int)).1]))/\((↑(partF (kindF s).1).length:Int)-(x.1+1)).toNat<((↑(partF (kindF s).1).length:Int)-x.1).toNat)/\True))/\(decide (x.1<(↑([[(0:Int)],[(0:Int),(1:Int),(4:Int),(5:Int)],[(0:Int),(1:Int)],[(0:Int),(1:Int),(2:Int),(3:Int)],[(0:Int),(1:Int),(2:Int),(3:Int),(6:Int),(7:Int)],[(0:Int),(1:Int)],[(0:Int)],[(0:Int),(1:Int)]][((kindF s).1-(1:Int)).toNat]?.getD []).length:Int))=false->(decide ((kindF s).1=(7:Int))=true->x.2.1.length<=(10000:Nat)/\((some bx_cparse_1=some bx_cparse_1/\some (Obj.box [V.int IntKind.i64 x.2.2.2.2.1,V.int IntKind.i64 x.2.2.2.2.2.1,V.int IntKind.i64 x.2.2.2.2.2.2.1,V.int IntKind.i64 x.2.2.2.2.2.2.2.1,V.int IntKind.i64 x.2.2.2.2.2.2.2.2.1,V.int IntKind.i64 x.2.2.2.2.2.2.2.2.2.1,V.int IntKind.i64 x.2.2.2.2.2.2.2.2.2.2.1,V.int IntKind.i64 x.2.2.2.2.2.2.2.2.2.2.2.1])=some (Obj.box [V.int IntKind.i64 x.2.2.2.2.1,V.int IntKind.i64 x.2.2.2.2.2.1,V.int IntKind.i64 x.2.2.2.2.2.2.1,V.int IntKind.i64 x.2.2.2.2.2.2.2.1,V.int IntKind.i64 x.2.2.2.2.2.2.2.2.1,V.int IntKind.i64 x.2.2.2.2.2.2.2.2.2.1,V.int IntKind.i64 x.2.2.2.2.2.2.2.2.2.2.1,V.int IntKind.i64 x.2.2.2.2.2.2.2.2.2.2.2.1])/\True)/\0<=(0:Int)/\0<=(N0 s).1/\x.2.1=s/\(↑(0:Nat):Int)=(0:Int)/\lineGo s (N0 s).1.toNat ((N0 s).2.1,(N0 s).2.2,[])=lineGo s ((N0 s).1.toNat-Int.toNat (0:Int)) ((withinF x.2.1 x.2.2.1 x.2.2.2.1 (0:Int) (50:Int)).2.1,(withinF x.2.1 x.2.2.1 x.2.2.2.1 (0:Int) (50:Int)).2.2,[])/\((kindF s).1,x.2.2.2.2.1,x.2.2.2.2.2.1,x.2.2.2.2.2.2.1,x.2.2.2.2.2.2.2.1,decide (x.2.2.2.2.2.2.2.2.1=(1:Int)),decide (x.2.2.2.2.2.2.2.2.2.1=(1:Int)),(x.2.2.2.2.2.2.2.2.2.2.1,x.2.2.2.2.2.2.2.2.2.2.2.1),[])=hdC s [])/\∀(x_1:Int×List UInt8×Int×Int×Int×Int×Int×Int×Int×Bool×Bool×Int×Int×List (Int×Int×Int×Int)×Unit),0<=x_1.1/\x_1.1<=(N0 s).1/\x_1.2.1=s/\(↑x_1.2.2.2.2.2.2.2.2.2.2.2.2.2.1.length:Int)=x_1.1/\lineGo s (N0 s).1.toNat ((N0 s).2.1,(N0 s).2.2,[])=lineGo s ((N0 s).1.toNat-x_1.1.toNat) (x_1.2.2.1,x_1.2.2.2.1,x_1.2.2.2.2.2.2.2.2.2.2.2.2.2.1)/\(x_1.2.2.2.2.1,x_1.2.2.2.2.2.1,x_1.2.2.2.2.2.2.1,x_1.2.2.2.2.2.2.2.1,x_1.2.2.2.2.2.2.2.2.1,x_1.2.2.2.2.2.2.2.2.2.1,x_1.2.2.2.2.2.2.2.2.2.2.1,(x_1.2.2.2.2.2.2.2.2.2.2.2.1,x_1.2.2.2.2.2.2.2.2.2.2.2.2.1),x_1.2.2.2.2.2.2.2.2.2.2.2.2.2.1)=hdC s x_1.2.2.2.2.2.2.2.2.2.2.2.2.2.1->(decide (x_1.1<(withinF x.2.1 x.2.2.1 x.2.2.2.1 (0:Int) (50:Int)).1)=true->x_1.2.1.length<=(10000:Nat)/\x_1.2.1.length<=(10000:Nat)/\x_1.2.1.length<=(10000:Nat)/\x_1.2.1.length<=(10000:Nat)/\((x_1.2.2.2.2.2.2.2.2.2.2.2.2.2.1.length+(1:Nat))*(32:Nat)<=(140737488355328:Nat)/\x_1.2.2.2.2.2.2.2.2.2.2.2.2.2.1.length+(1:Nat)<=(4611686018427387904:Nat))/\(-9223372036854775808<=x_1.1+1/\x_1.1+1<=9223372036854775807)/\(some bx_cparse_1=some bx_cparse_1/\some (Obj.box [V.int IntKind.i64 x.2.2.2.2.1,V.int IntKind.i64 x.2.2.2.2.2.1,V.int IntKind.i64 x.2.2.2.2.2.2.1,V.int IntKind.i64 x.2.2.2.2.2.2.2.1,V.int IntKind.i64 x.2.2.2.2.2.2.2.2.1,V.int IntKind.i64 x.2.2.2.2.2.2.2.2.2.1,V.int IntKind.i64 x.2.2.2.2.2.2.2.2.2.2.1,V.int IntKind.i64 x.2.2.2.2.2.2.2.2.2.2.2.1])=some (Obj.box [V.int IntKind.i64 x.2.2.2.2.1,V.int IntKind.i64 x.2.2.2.2.2.1,V.int IntKind.i64 x.2.2.2.2.2.2.1,V.int IntKind.i64 x.2.2.2.2.2.2.2.1,V.int IntKind.i64 x.2.2.2.2.2.2.2.2.1,V.int IntKind.i64 x.2.2.2.2.2.2.2.2.2.1,V.int IntKind.i64 x.2.2.2.2.2.2.2.2.2.2.1,V.int IntKind.i64 x.2.2.2.2.2.2.2.2.2.2.2.1])/\True)/\(0<=x_1.1+1/\x_1.1+1<=(N0 s).1/\x_1.2.1=s/\(↑(x_1.2.2.2.2.2.2.2.2.2.2.2.2.2.1++[((anyF x_1.2.1 x_1.2.2.1 x_1.2.2.2.1).1,(anyF x_1.2.1 (anyF x_1.2.1 x_1.2.2.1 x_1.2.2.2.1).2.1 (anyF x_1.2.1 x_1.2.2.1 x_1.2.2.2.1).2.2).1,(anyF x_1.2.1 (anyF x_1.2.1 (anyF x_1.2.1 x_1.2.2.1 x_1.2.2.2.1).2.1 (anyF x_1.2.1 x_1.2.2.1 x_1.2.2.2.1).2.2).2.1 (anyF x_1.2.1 (anyF x_1.2.1 x_1.2.2.1 x_1.2.2.2.1).2.1 (anyF x_1.2.1 x_1.2.2.1 x_1.2.2.2.1).2.2).2.2).1,(anyF x_1.2.1 (anyF x_1.2.1 (anyF x_1.2.1 (anyF x_1.2.1 x_1.2.2.1 x_1.2.2.2.1).2.1 (anyF x_1.2.1 x_1.2.2.1 x_1.2.2.2.1).2.2).2.1 (anyF x_1.2.1 (anyF x_1.2.1 x_1.2.2.1 x_1.2.2.2.1).2.1 (anyF x_1.2.1 x_1.2.2.1 x_1.2.2.2.1).2.2).2.2).2.1 (anyF x_1.2.1 (anyF x_1.2.1 (anyF x_1.2.1 x_1.2.2.1 x_1.2.2.2.1).2.1 (anyF x_1.2.1 x_1.2.2.1 x_1.2.2.2.1).2.2).2.1 (anyF x_1.2.1 (anyF x_1.2.1 x_1.2.2.1 x_1.2.2.2.1).2.1 (anyF x_1.2.1 x_1.2.2.1 x_1.2.2.2.1).2.2).2.2).2.2).1)]).length:Int)=x_1.1+1/\lineGo s (N0 s).1.toNat ((N0 s).2.1,(N0 s).2.2,[])=lineGo s ((N0 s).1.toNat-(x_1.1+1).toNat) ((anyF x_1.2.1 (anyF x_1.2.1 (anyF x_1.2.1 (anyF x_1.2.1 x_1.2.2.1 x_1.2.2.2.1).2.1 (anyF x_1.2.1 x_1.2.2.1 x_1.2.2.2.1).2.2).2.1 (anyF x_1.2.1 (anyF x_1.2.1 x_1.2.2.1 x_1.2.2.2.1).2.1 (anyF x_1.2.1 x_1.2.2.1 x_1.2.2.2.1).2.2).2.2).2.1 (anyF x_1.2.1 (anyF x_1.2.1 (anyF x_1.2.1 x_1.2.2.1 x_1.2.2.2.1).2.1 (anyF x_1.2.1 x_1.2.2.1 x_1.2.2.2.1).2.2).2.1 (anyF x_1.2.1 (anyF x_1.2.1 x_1.2.2.1 x_1.2.2.2.1).2.1 (anyF x_1.2.1 x_1.2.2.1 x_1.2.2.2.1).2.2).2.2).2.2).2.1,(anyF x_1.2.1 (anyF x_1.2.1 (anyF x_1.2.1 (anyF x_1.2.1 x_1.2.2.1 x_1.2.2.2.1).2.1 (anyF x_1.2.1 x_1.2.2.1 x_1.2.2.2.1).2.2).2.1 (anyF x_1.2.1 (anyF x_1.2.1 x_1.2.2.1 x_1.2.2.2.1).2.1 (anyF x_1.2.1 x_1.2.2.1 x_1.2.2.2.1).2.2).2.2).2.1 (anyF x_1.2.1 (anyF x_1.2.1 (anyF x_1.2.1 x_1.2.2.1 x_1.2.2.2.1).2.1 (anyF x_1.2.1 x_1.2.2.1 x_1.2.2.2.1).2.2).2.1 (anyF x_1.2.1 (anyF x_1.2.1 x_1.2.2.1 x_1.2.2.2.1).2.1 (anyF x_1.2.1 x_1.2.2.1 x_1.2.2.2.1).2.2).2.2).2.2).2.2,x_1.2.2.2.2.2.2.2.2.2.2.2.2.2.1++[((anyF x_1.2.1 x_1.2.2.1 x_1.2.2.2.1).1,(anyF x_1.2.1 (anyF x_1.2.1 x_1.2.2.1 x_1.2.2.2.1).2.1 (anyF x_1.2.1 x_1.2.2.1 x_1.2.2.2.1).2.2).1,(anyF x_1.2.1 (anyF x_1.2.1 (anyF x_1.2.1 x_1.2.2.1 x_1.2.2.2.1).2.1 (anyF x_1.2.1 x_1.2.2.1 x_1.2.2.2.1).2.2).2.1 (anyF x_1.2.1 (anyF x_1.2.1 x_1.2.2.1 x_1.2.2.2.1).2.1 (anyF x_1.2.1 x_1.2.2.1 x_1.2.2.2.1).2.2).2.2).1,(anyF x_1.2.1 (anyF x_1.2.1 (anyF x_1.2.1 (anyF x_1.2.1 x_1.2.2.1 x_1.2.2.2.1).2.1 (anyF x_1.2.1 x_1.2.2.1 x_1.2.2.2.1).2.2).2.1 (anyF x_1.2.1 (anyF x_1.2.1 x_1.2.2.1 x_1.2.2.2.1).2.1 (anyF x_1.2.1 x_1.2.2.1 x_1.2.2.2.1).2.2).2.2).2.1 (anyF x_1.2.1 (anyF x_1.2.1 (anyF x_1.2.1 x_1.2.2.1 x_1.2.2.2.1).2.1 (anyF x_1.2.1 x_1.2.2.1 x_1.2.2.2.1).2.2).2.1 (anyF x_1.2.1 (anyF x_1.2.1 x_1.2.2.1 x_1.2.2.2.1).2.1 (anyF x_1.2.1 x_1.2.2.1 x_1.2.2.2.1).2.2).2.2).2.2).1)])/\(x_1.2.2.2.2.1,x_1.2.2.2.2.2.1,x_1.2.2.2.2.2.2.1,x_1.2.2.2.2.2.2.2.1,x_1.2.2.2.2.2.2.2.2.1,x_1.2.2.2.2.2.2.2.2.2.1,x_1.2.2.2.2.2.2.2.2.2.2.1,(x_1.2.2.2.2.2.2.2.2.2.2.2.1,x_1.2.2.2.2.2.2.2.2.2.2.2.2.1),x_1.2.2.2.2.2.2.2.2.2.2.2.2.2.1++[((anyF x_1.2.1 x_1.2.2.1 x_1.2.2.2.1).1,(anyF x_1.2.1 (anyF x_1.2.1 x_1.2.2.1 x_1.2.2.2.1).2.1 (anyF x_1.2.1 x_1.2.2.1 x_1.2.2.2.1).2.2).1,(anyF x_1.2.1 (anyF x_1.2.1 (anyF x_1.2.1 x_1.2.2.1 x_1.2.2.2.1).2.1 (anyF x_1.2.1 x_1.2.2.1 x_1.2.2.2.1).2.2).2.1 (anyF x_1.2.1 (anyF x_1.2.1 x_1.2.2.1 x_1.2.2.2.1).2.1 (anyF x_1.2.1 x_1.2.2.1 x_1.2.2.2.1).2.2).2.2).1,(anyF x_1.2.1 (anyF x_1.2.1 (anyF x_1.2.1 (anyF x_1.2.1 x_1.2.2.1 x_1.2.2.2.1).2.1 (anyF x_1.2.1 x_1.2.2.1 x_1.2.2.2.1).2.2).2.1 (anyF x_1.2.1 (anyF x_1.2.1 x_1.2.2.1 x_1.2.2.2.1).2.1 (anyF x_1.2.1 x_1.2.2.1 x_1.2.2.2.1).2.2).2.2).2.1 (anyF x_1.2.1 (anyF x_1.2.1 (anyF x_1.2.1 x_1.2.2.1 x_1.2.2.2.1).2.1 (anyF x_1.2.1 x_1.2.2.1 x_1.2.2.2.1).2.2).2.1 (anyF x_1.2.1 (anyF x_1.2.1 x_1.2.2.1 x_1.2.2.2.1).2.1 (anyF x_1.2.1 x_1.2.2.1 x_1.2.2.2.1).2.2).2.2).2.2).1)])=hdC s (x_1.2.2.2.2.2.2.2.2.2.2.2.2.2.1++[((anyF x_1.2.1 x_1.2.2.1 x_1.2.2.2.1).1,(anyF x_1.2.1 (anyF x_1.2.1 x_1.2.2.1 x_1.2.2.2.1).2.1 (anyF x_1.2.1 x_1.2.2.1 x_1.2.2.2.1).2.2).1,(anyF x_1.2.1 (anyF x_1.2.1 (anyF x_1.2.1 x_1.2.2.1 x_1.2.2.2.1).2.1 (anyF x_1.2.1 x_1.2.2.1 x_1.2.2.2.1).2.2).2.1 (anyF x_1.2.1 (anyF x_1.2.1 x_1.2.2.1 x_1.2.2.2.1).2.1 (anyF x_1.2.1 x_1.2.2.1 x_1.2.2.2.1).2.2).2.2).1,(anyF x_1.2.1 (anyF x_1.2.1 (anyF x_1.2.1 (anyF x_1.2.1 x_1.2.2.1 x_1.2.2.2.1).2.1 (anyF x_1.2.1 x_1.2.2.1 x_1.2.2.2.1).2.2).2.1 (anyF x_1.2.1 (anyF x_1.2.1 x_1.2.2.1 x_1.2.2.2.1).2.1 (anyF x_1.2.1 x_1.2.2.1 x_1.2.2.2.1).2.2).2.2).2.1 (anyF x_1.2.1 (anyF x_1.2.1 (anyF x_1.2.1 x_1.2.2.1 x_1.2.2.2.1).2.1 (anyF x_1.2.1 x_1.2.2.1 x_1.2.2.2.1).2.2).2.1 (anyF x_1.2.1 (anyF x_1.2.1 x_1.2.2.1 x_1.2.2.2.1).2.1 (anyF x_1.2.1 x_1.2.2.1 x_1.2.2.2.1).2.2).2.2).2.2).1)]))/\((N0 s).1-(x_1.1+1)).toNat<((N0 s).1-x_1.1).toNat)/\(decide (x_1.1<(withinF x.2.1 x.2.2.1 x.2.2.2.1 (0:Int) (50:Int)).1)=false->((!decide (x_1.2.2.2.1=(0:Int)))=true->True/\((0:Int),(0:Int),(0:Int),(0:Int),(0:Int),false,false,(0:Int),(0:Int),[],x_1.2.2.2.1,())=((cparseF s).1.1,(cparseF s).1.2.1,(cparseF s).1.2.2.1,(cparseF s).1.2.2.2.1,(cparseF s).1.2.2.2.2.1,(cparseF s).1.2.2.2.2.2.1,(cparseF s).1.2.2.2.2.2.2.1,(cparseF s).1.2.2.2.2.2.2.2.1.1,(cparseF s).1.2.2.2.2.2.2.2.1.2,(cparseF s).1.2.2.2.2.2.2.2.2,(cparseF s).2,()))/\((!decide (x_1.2.2.2.1=(0:Int)))=false->(decide (x_1.2.2.1<(↑(List.length s):Int))=true->True/\((0:Int),(0:Int),(0:Int),(0:Int),(0:Int),false,false,(0:Int),(0:Int),[],(6:Int),())=((cparseF s).1.1,(cparseF s).1.2.1,(cparseF s).1.2.2.1,(cparseF s).1.2.2.2.1,(cparseF s).1.2.2.2.2.1,(cparseF s).1.2.2.2.2.2.1,(cparseF s).1.2.2.2.2.2.2.1,(cparseF s).1.2.2.2.2.2.2.2.1.1,(cparseF s).1.2.2.2.2.2.2.2.1.2,(cparseF s).1.2.2.2.2.2.2.2.2,(cparseF s).2,()))/\(decide (x_1.2.2.1<(↑(List.length s):Int))=false->True/\(x_1.2.2.2.2.1,x_1.2.2.2.2.2.1,x_1.2.2.2.2.2.2.1,x_1.2.2.2.2.2.2.2.1,x_1.2.2.2.2.2.2.2.2.1,x_1.2.2.2.2.2.2.2.2.2.1,x_1.2.2.2.2.2.2.2.2.2.2.1,x_1.2.2.2.2.2.2.2.2.2.2.2.1,x_1.2.2.2.2.2.2.2.2.2.2.2.2.1,x_1.2.2.2.2.2.2.2.2.2.2.2.2.2.1,(0:Int),())=((cparseF s).1.1,(cparseF s).1.2.1,(cparseF s).1.2.2.1,(cparseF s).1.2.2.2.1,(cparseF s).1.2.2.2.2.1,(cparseF s).1.2.2.2.2.2.1,(cparseF s).1.2.2.2.2.2.2.1,(cparseF s).1.2.2.2.2.2.2.2.1.1,(cparseF s).1.2.2.2.2.2.2.2.1.2,(cparseF s).1.2.2.2.2.2.2.2.2,(cparseF s).2,())))))/\(decide ((kindF s).1=(7:Int))=false->((!decide (x.2.2.2.1=(0:Int)))=true->True/\((0:Int),(0:Int),(0:Int),(0:Int),(0:Int),false,false,(0:Int),(0:Int),[],x.2.2.2.1,())=((cparseF s).1.1,(cparseF s).1.2.1,(cparseF s).1.2.2.1,(cparseF s).1.2.2.2.1,(cparseF s).1.2.2.2.2.1,(cparseF s).1.2.2.2.2.2.1,(cparseF s).1.2.2.2.2.2.2.1,(cparseF s).1.2.2.2.2.2.2.2.1.1,(cparseF s).1.2.2.2.2.2.2.2.1.2,(cparseF s).1.2.2.2.2.2.2.2.2,(cparseF s).2,()))/\((!decide (x.2.2.2.1=(0:Int)))=false->(decide (x.2.2.1<(↑(List.length s):Int))=true->True/\((0:Int),(0:Int),(0:Int),(0:Int),(0:Int),false,false,(0:Int),(0:Int),[],(6:Int),())=((cparseF s).1.1,(cparseF s).1.2.1,(cparseF s).1.2.2.1,(cparseF s).1.2.2.2.1,(cparseF s).1.2.2.2.2.1,(cparseF s).1.2.2.2.2.2.1,(cparseF s).1.2.2.2.2.2.2.1,(cparseF s).1.2.2.2.2.2.2.2.1.1,(cparseF s).1.2.2.2.2.2.2.2.1.2,(cparseF s).1.2.2.2.2.2.2.2.2,(cparseF s).2,()))/\(decide (x.2.2.1<(↑(List.length s):Int))=false->True/\((kindF s).1,x.2.2.2.2.1,x.2.2.2.2.2.1,x.2.2.2.2.2.2.1,x.2.2.2.2.2.2.2.1,decide (x.2.2.2.2.2.2.2.2.1=(1:Int)),decide (x.2.2.2.2.2.2.2.2.2.1=(1:Int)),x.2.2.2.2.2.2.2.2.2.2.1,x.2.2.2.2.2.2.2.2.2.2.2.1,[],(0:Int),())=((cparseF s).1.1,(cparseF s).1.2.1,(cparseF s).1.2.2.1,(cparseF s).1.2.2.2.1,(cparseF s).1.2.2.2.2.1,(cparseF s).1.2.2.2.2.2.1,(cparseF s).1.2.2.2.2.2.2.1,(cparseF s).1.2.2.2.2.2.2.2.1.1,(cparseF s).1.2.2.2.2.2.2.2.1.2,(cparseF s).1.2.2.2.2.2.2.2.2,(cparseF s).2,()))))))
theorem g_cparse_ok (s:By) (h:s.length<=10000):g_cparse_vc s:=by
 unfold g_cparse_vc;have hp:([[(0:Int)],[0,1,4,5],[0,1],[0,1,2,3],[0,1,2,3,6,7],[0,1],[0],[0,1]][((kindF s).1-1).toNat]?.getD [])=partF (kindF s).1:=rfl;simp only [decide_eq_true_eq,decide_eq_false_iff_not,Bool.not_eq_true',Bool.not_eq_false',Bool.not_true,Bool.not_false,hp];clear hp;have hpi: ∀{i:Nat} {x:Int},(partF (kindF s).1)[i]? =some x->0<=x/\x<8:=fun e=>partF_in (List.mem_of_getElem? e);have hpl:=partF_len (kindF s).1;have hki:= @kindF_in s;have hn50:=within_in s (P0 s).1 (P0 s).2.1;repeat' (first
  |with_reducible apply And.intro
  |(intro (x:Int×List UInt8×Int×Int×Int×Int×Int×Int×Int×Int×Int×Int×Unit);obtain ⟨i,s',a,e,v0,v1,v2,v3,v4,v5,v6,v7,⟨⟩⟩:=x;rintro ⟨h0,h1,hs,hP⟩;dsimp only at h0 h1 hs hP⊢;subst hs)
  |(intro (x:Int×List UInt8×Int×Int×Int×Int×Int×Int×Int×Bool×Bool×Int×Int×List (Int×Int×Int×Int)×Unit);obtain ⟨i2,s',a2,e2,c0,c1,c2,c3,c4,c5,c6,c7,c8,ls,⟨⟩⟩:=x;rintro ⟨g0,g1,gs,gl,gt,gc⟩;dsimp only at g0 g1 gs gl gt gc⊢;subst gs)
  |intro _)
 all_goals try (first|trivial|rfl|omega)
 all_goals try (rename_i hj _ _ e;have:=parts_step hP hj h0;subst e;exact this)
 all_goals try (rename_i hj _ e;have:=parts_step hP hj h0;subst e;exact this)
 all_goals try (rename_i hj _ _;have:=hpi hj;omega)
 ·rename_i e;rw [cp_err e];rfl
 all_goals have hQ:=P0_end hP (by assumption) h0
 all_goals try (have hN:N0 s'=withinF s' a e 0 50:=by unfold N0;rw [hQ])
 ·exact hn50.1
 ·rw [hN];rfl
 ·unfold hdC mkC;rw [hQ];rfl
 ·have:=hn50.2;unfold N0 at g1;omega
 ·have:=hn50.2;unfold N0 at g1;omega
 ·have:=hn50.2;unfold N0 at g1;omega
 ·rename_i hlt;rw [<-hN] at hlt;omega
 ·rw [List.length_append,List.length_singleton];omega
 ·rename_i hlt;rw [<-hN] at hlt;rw [gt];exact line_next g0 (by omega)
 ·unfold hdC mkC at gc⊢;simp only [Prod.mk.injEq] at gc⊢;obtain ⟨q0,q1,q2,q3,q4,q5,q6,⟨q7,q8⟩,_⟩:=gc;exact ⟨q0,q1,q2,q3,q4,q5,q6,⟨q7,q8⟩,trivial⟩
 ·rename_i hlt;rw [<-hN] at hlt;omega
 ·rename_i k0 _ h7 hlt he;rw [<-hN] at hlt;rw [cp_rest k0 (tail_end h7 gt hlt g1)];unfold restF;rw [if_neg he];rfl
 ·rename_i k0 _ h7 hlt he hr;rw [<-hN] at hlt;rw [cp_rest k0 (tail_end h7 gt hlt g1)];unfold restF;rw [if_pos he,if_pos hr];rfl
 ·rename_i k0 _ h7 hlt he hr;rw [<-hN] at hlt;rw [cp_rest k0 (tail_end h7 gt hlt g1)];unfold restF;rw [if_pos he,if_neg hr,<-gc]
 ·rename_i k0 _ h7 he;rw [cp_rest k0 (tail_no h7 hQ)];unfold restF;rw [if_neg he];rfl
 ·rename_i k0 _ h7 he hr;rw [cp_rest k0 (tail_no h7 hQ)];unfold restF;rw [if_pos he,if_pos hr];rfl
 ·rename_i k0 _ h7 he hr;rw [cp_rest k0 (tail_no h7 hQ)];unfold restF;rw [if_pos he,if_neg hr];unfold hdC mkC;rw [hQ];rfl
set_option maxRecDepth 20000
noncomputable def sp_cparse:FSpec Tryz.prog:=mkG 29 (.c .s .z) (fun x=>(fun (s:By)=>(s.length<=10000,(.tuple [.agg [.int .i64 (cparseF s).1.1, .int .i64 (cparseF s).1.2.1, .int .i64 (cparseF s).1.2.2.1, .int .i64 (cparseF s).1.2.2.2.1, .int .i64 (cparseF s).1.2.2.2.2.1, .bool (cparseF s).1.2.2.2.2.2.1, .bool (cparseF s).1.2.2.2.2.2.2.1, .int .i64 (cparseF s).1.2.2.2.2.2.2.2.1.1, .int .i64 (cparseF s).1.2.2.2.2.2.2.2.1.2, .list .part Ln (cparseF s).1.2.2.2.2.2.2.2.2], .int .i64 (cparseF s).2]))) x.1) fun ⟨s,_⟩ h=>Pure.of_condG (E:=env_cparse s) (sh:=[some 10,none]) (ann:=ann_cparse) (x:=(fun (s:By)=>((cparseF s).1.1,(cparseF s).1.2.1,(cparseF s).1.2.2.1,(cparseF s).1.2.2.2.1,(cparseF s).1.2.2.2.2.1,(cparseF s).1.2.2.2.2.2.1,(cparseF s).1.2.2.2.2.2.2.1,(cparseF s).1.2.2.2.2.2.2.2.1.1,(cparseF s).1.2.2.2.2.2.2.2.1.2,(cparseF s).1.2.2.2.2.2.2.2.2,(cparseF s).2,())) s) (by kernel_rfl) (g_cparse_ok s h) rfl (specs_okz rfl _ _ [] _ rfl rfl rfl rfl) mixed Tryz.func29
end Go.Proofs.YtabicbgeoiilmaaGreatDoor.Cm
end
section
namespace Go.Proofs.YtabicbgeoiilmaaGreatDoor.Cm
open Go.Vm
noncomputable def tys1:TypeId->Option Ty:=fun t=>if t=9 then some .str else tys0 t
noncomputable def env_rbit (b:Bool):Env where
 P:=Tryz.prog
 ty:=tys0
def g_rbit_vc (b:Bool):Prop:=
 (b=true->((1:Int),())=(bitF b,()))/\(b=false->((0:Int),())=(bitF b,()))
theorem g_rbit_ok (b:Bool):g_rbit_vc b:=by
 unfold g_rbit_vc bitF;cases b<;>simp
set_option maxRecDepth 20000
noncomputable def sp_rbit:FSpec Tryz.prog:=mkF 84 (.c .b .z) [.int .i64] (fun x=>(fun (b:Bool)=>(True,bitF b,())) x.1) fun ⟨b,_⟩ _=>Pure.of_cond (E:=env_rbit b) (by kernel_rfl) (g_rbit_ok b) (specs_ok rfl [] [] rfl rfl) mixed Tryz.func84
noncomputable def env_rword (k:Int):Env where
 P:=Tryz.prog
 ty:=tys1
def g_rword_vc (k:Int):Prop:=
 (-9223372036854775808<=k-(1:Int)/\k-(1:Int)<=9223372036854775807)/\(0<=k-(1:Int)/\k-(1:Int)<(↑(8:Nat):Int))/\∀(x:List UInt8),[[(101:UInt8),(110:UInt8),(116:UInt8),(105:UInt8),(116:UInt8),(121:UInt8)],[(97:UInt8),(99:UInt8),(99:UInt8),(111:UInt8),(117:UInt8),(110:UInt8),(116:UInt8)],[(109:UInt8),(111:UInt8),(118:UInt8),(101:UInt8)],[(111:UInt8),(119:UInt8),(110:UInt8)],[(114:UInt8),(97:UInt8),(116:UInt8),(101:UInt8)],[(108:UInt8),(111:UInt8),(99:UInt8),(107:UInt8)],[(112:UInt8),(111:UInt8),(115:UInt8),(116:UInt8)],[(114:UInt8),(101:UInt8),(118:UInt8),(101:UInt8),(114:UInt8),(115:UInt8),(101:UInt8)]][(k-(1:Int)).toNat]? =some x->(x,())=(wordF k,())
theorem g_rword_ok (k:Int) (h:1<=k/\k<=8):g_rword_vc k:=by
 unfold g_rword_vc;repeat' (first|with_reducible apply And.intro|intro _)
 all_goals try (first|trivial|omega)
 rename_i x hx;have:wordL[(k-1).toNat]? =some x:=hx;unfold wordF;rw [this];rfl
noncomputable def sp_rword:FSpec Tryz.prog:=mkF 52 (.c .j .z) [.str] (fun x=>(fun (k:Int)=>(1<=k/\k<=8,wordF k,())) x.1) fun ⟨k,_⟩ h=>Pure.of_cond (E:=env_rword k) (by kernel_rfl) (g_rword_ok k h) (specs_ok rfl [] [] rfl rfl) mixed Tryz.func52
def numN (k:Int):Int:=(([1,2,2,4,4,2,1,2]:List Int)[(k-1).toNat]?).getD 0
noncomputable def env_rnums (k:Int):Env where
 P:=Tryz.prog
 ty:=tys0
def g_rnums_vc (k:Int):Prop:=
 (-9223372036854775808<=k-(1:Int)/\k-(1:Int)<=9223372036854775807)/\(0<=k-(1:Int)/\k-(1:Int)<(↑(8:Nat):Int))/\∀(x:Int),[(1:Int),(2:Int),(2:Int),(4:Int),(4:Int),(2:Int),(1:Int),(2:Int)][(k-(1:Int)).toNat]? =some x->(x,())=(numN k,())
theorem g_rnums_ok (k:Int) (h:1<=k/\k<=8):g_rnums_vc k:=by
 unfold g_rnums_vc;repeat' (first|with_reducible apply And.intro|intro _)
 all_goals try (first|trivial|omega)
 rename_i x hx;unfold numN;rw [hx];rfl
noncomputable def sp_rnums:FSpec Tryz.prog:=mkF 66 (.c .j .z) [.int .i64] (fun x=>(fun (k:Int)=>(1<=k/\k<=8,numN k,())) x.1) fun ⟨k,_⟩ h=>Pure.of_cond (E:=env_rnums k) (by kernel_rfl) (g_rnums_ok k h) (specs_ok rfl [] [] rfl rfl) mixed Tryz.func66
theorem kinds_of {k:Int} (h1:1<=k) (h8:k<=8):k=1∨k=2∨k=3∨k=4∨k=5∨k=6∨k=7∨k=8:=by omega
theorem numN_in {k:Int} (h1:1<=k) (h8:k<=8):1<=numN k/\numN k<=4:=by
 rcases kinds_of h1 h8 with rfl|rfl|rfl|rfl|rfl|rfl|rfl|rfl<;>decide
def rhead (c:CmD):List Int:=[c.2.1,c.2.2.1,c.2.2.2.1,c.2.2.2.2.1].take (numN c.1).toNat
theorem nums_head {c:CmD} (h1:1<=c.1) (h8:c.1<=8):numsF c=rhead c++if c.1=2 then [bitF c.2.2.2.2.2.1,bitF c.2.2.2.2.2.2.1] else if c.1=5 then [c.2.2.2.2.2.2.2.1.1,c.2.2.2.2.2.2.2.1.2] else if c.1=7 then ((linesF c).length:Int)::(linesF c).flatMap lnL else []:=by
 obtain ⟨k,a,b,c,d,s,p,⟨n,m⟩,l⟩:=c;dsimp only at h1 h8;rcases kinds_of h1 h8 with rfl|rfl|rfl|rfl|rfl|rfl|rfl|rfl<;>rfl
noncomputable def env_rsaid (k a b c d:Int) (s p:Bool) (n m:Int) (l:List LnD):Env where
 P:=Tryz.prog
 ty:=tys0
 specs:=specsOf [sp_rbit,sp_rnums]
 asArr:=fun|16=>true|_=>false
 frz:=fun|29=>true|32=>true|_=>false
 heads:=fun
  |10=>some {slots:=[(4, .slc 9000 I),(5, .int .i64),(16, .any),(22, .any),(50, .any),(55, .any)],boxes:=[],keep:=[1],inv:=fun _ (x:List Int×Int×Unit×Unit×Unit×Unit×Unit)=>k=7/\0<=x.2.1/\x.2.1<=l.length/\x.1=a::(l.length:Int)::(l.take x.2.1.toNat).flatMap lnL,measure:=fun _ (x:List Int×Int×Unit×Unit×Unit×Unit×Unit)=>(l.length-x.2.1).toNat}
  |_=>none
abbrev bx_rsaid_1 (k:Int) (a:Int) (b:Int) (c:Int) (d:Int) (s:Bool) (p:Bool) (n:Int) (m:Int) (l:List LnD):_root_.Go.Vm.Obj:=Obj.box [V.int IntKind.i64 k,V.int IntKind.i64 a,V.int IntKind.i64 b,V.int IntKind.i64 c,V.int IntKind.i64 d,V.bool s,V.bool p,V.int IntKind.i64 n,V.int IntKind.i64 m,V.list LK.tmp Ln l]
def g_rsaid_vc (k:Int) (a:Int) (b:Int) (c:Int) (d:Int) (s:Bool) (p:Bool) (n:Int) (m:Int) (l:List LnD):Prop:=
 ((1:Int)<=k/\k<=(8:Int))/\(0<=numN k/\numN k<=(↑(4:Nat):Int))/\(((0:Nat)+(List.take (numN k).toNat [a,b,c,d]).length)*(8:Nat)<=(140737488355328:Nat)/\(0:Nat)+(List.take (numN k).toNat [a,b,c,d]).length<=(4611686018427387904:Nat))/\(decide (k=(2:Int))=true->True/\True/\(((List.take (numN k).toNat [a,b,c,d]).length+(2:Nat))*(8:Nat)<=(140737488355328:Nat)/\(List.take (numN k).toNat [a,b,c,d]).length+(2:Nat)<=(4611686018427387904:Nat))/\(decide (k=(5:Int))=true->(((List.take (numN k).toNat [a,b,c,d]++[bitF s,bitF p]).length+(2:Nat))*(8:Nat)<=(140737488355328:Nat)/\(List.take (numN k).toNat [a,b,c,d]++[bitF s,bitF p]).length+(2:Nat)<=(4611686018427387904:Nat))/\(decide (k=(7:Int))=true->(((List.take (numN k).toNat [a,b,c,d]++[bitF s,bitF p]++[n,m]).length+(1:Nat))*(8:Nat)<=(140737488355328:Nat)/\(List.take (numN k).toNat [a,b,c,d]++[bitF s,bitF p]++[n,m]).length+(1:Nat)<=(4611686018427387904:Nat))/\False/\∀(x:List Int×Int×Unit×Unit×Unit×Unit×Unit),k=(7:Int)/\0<=x.2.1/\x.2.1<=(↑l.length:Int)/\x.1=a::(↑l.length:Int)::List.flatMap lnL (List.take x.2.1.toNat l)->(decide (x.2.1<(↑l.length:Int))=true->(0<=x.2.1/\x.2.1<(↑l.length:Int))/\∀(x_1:Int×Int×Int×Int),l[x.2.1.toNat]? =some x_1->((x.1.length+(4:Nat))*(8:Nat)<=(140737488355328:Nat)/\x.1.length+(4:Nat)<=(4611686018427387904:Nat))/\(-9223372036854775808<=x.2.1+1/\x.2.1+1<=9223372036854775807)/\False)/\(decide (x.2.1<(↑l.length:Int))=false->(x.1,())=(numsF (k,a,b,c,d,s,p,(n,m),l),())))/\(decide (k=(7:Int))=false->(List.take (numN k).toNat [a,b,c,d]++[bitF s,bitF p]++[n,m],())=(numsF (k,a,b,c,d,s,p,(n,m),l),())))/\(decide (k=(5:Int))=false->(decide (k=(7:Int))=true->(((List.take (numN k).toNat [a,b,c,d]++[bitF s,bitF p]).length+(1:Nat))*(8:Nat)<=(140737488355328:Nat)/\(List.take (numN k).toNat [a,b,c,d]++[bitF s,bitF p]).length+(1:Nat)<=(4611686018427387904:Nat))/\False/\∀(x:List Int×Int×Unit×Unit×Unit×Unit×Unit),k=(7:Int)/\0<=x.2.1/\x.2.1<=(↑l.length:Int)/\x.1=a::(↑l.length:Int)::List.flatMap lnL (List.take x.2.1.toNat l)->(decide (x.2.1<(↑l.length:Int))=true->(0<=x.2.1/\x.2.1<(↑l.length:Int))/\∀(x_1:Int×Int×Int×Int),l[x.2.1.toNat]? =some x_1->((x.1.length+(4:Nat))*(8:Nat)<=(140737488355328:Nat)/\x.1.length+(4:Nat)<=(4611686018427387904:Nat))/\(-9223372036854775808<=x.2.1+1/\x.2.1+1<=9223372036854775807)/\False)/\(decide (x.2.1<(↑l.length:Int))=false->(x.1,())=(numsF (k,a,b,c,d,s,p,(n,m),l),())))/\(decide (k=(7:Int))=false->(List.take (numN k).toNat [a,b,c,d]++[bitF s,bitF p],())=(numsF (k,a,b,c,d,s,p,(n,m),l),()))))/\(decide (k=(2:Int))=false->(decide (k=(5:Int))=true->(((List.take (numN k).toNat [a,b,c,d]).length+(2:Nat))*(8:Nat)<=(140737488355328:Nat)/\(List.take (numN k).toNat [a,b,c,d]).length+(2:Nat)<=(4611686018427387904:Nat))/\(decide (k=(7:Int))=true->(((List.take (numN k).toNat [a,b,c,d]++[n,m]).length+(1:Nat))*(8:Nat)<=(140737488355328:Nat)/\(List.take (numN k).toNat [a,b,c,d]++[n,m]).length+(1:Nat)<=(4611686018427387904:Nat))/\False/\∀(x:List Int×Int×Unit×Unit×Unit×Unit×Unit),k=(7:Int)/\0<=x.2.1/\x.2.1<=(↑l.length:Int)/\x.1=a::(↑l.length:Int)::List.flatMap lnL (List.take x.2.1.toNat l)->(decide (x.2.1<(↑l.length:Int))=true->(0<=x.2.1/\x.2.1<(↑l.length:Int))/\∀(x_1:Int×Int×Int×Int),l[x.2.1.toNat]? =some x_1->((x.1.length+(4:Nat))*(8:Nat)<=(140737488355328:Nat)/\x.1.length+(4:Nat)<=(4611686018427387904:Nat))/\(-9223372036854775808<=x.2.1+1/\x.2.1+1<=9223372036854775807)/\False)/\(decide (x.2.1<(↑l.length:Int))=false->(x.1,())=(numsF (k,a,b,c,d,s,p,(n,m),l),())))/\(decide (k=(7:Int))=false->(List.take (numN k).toNat [a,b,c,d]++[n,m],())=(numsF (k,a,b,c,d,s,p,(n,m),l),())))/\(decide (k=(5:Int))=false->(decide (k=(7:Int))=true->(((List.take (numN k).toNat [a,b,c,d]).length+(1:Nat))*(8:Nat)<=(140737488355328:Nat)/\(List.take (numN k).toNat [a,b,c,d]).length+(1:Nat)<=(4611686018427387904:Nat))/\((some (bx_rsaid_1 k a b c d s p n m l)=some (bx_rsaid_1 k a b c d s p n m l)/\True)/\k=(7:Int)/\0<=(0:Int)/\0<=(↑l.length:Int)/\List.take (numN k).toNat [a,b,c,d]++[(↑l.length:Int)]=a::(↑l.length:Int)::List.flatMap lnL (List.take (Int.toNat (0:Int)) l))/\∀(x:List Int×Int×Unit×Unit×Unit×Unit×Unit),k=(7:Int)/\0<=x.2.1/\x.2.1<=(↑l.length:Int)/\x.1=a::(↑l.length:Int)::List.flatMap lnL (List.take x.2.1.toNat l)->(decide (x.2.1<(↑l.length:Int))=true->(0<=x.2.1/\x.2.1<(↑l.length:Int))/\∀(x_1:Int×Int×Int×Int),l[x.2.1.toNat]? =some x_1->((x.1.length+(4:Nat))*(8:Nat)<=(140737488355328:Nat)/\x.1.length+(4:Nat)<=(4611686018427387904:Nat))/\(-9223372036854775808<=x.2.1+1/\x.2.1+1<=9223372036854775807)/\(some (bx_rsaid_1 k a b c d s p n m l)=some (bx_rsaid_1 k a b c d s p n m l)/\True)/\(k=(7:Int)/\0<=x.2.1+1/\x.2.1+1<=(↑l.length:Int)/\x.1++[x_1.1,x_1.2.1,x_1.2.2.1,x_1.2.2.2]=a::(↑l.length:Int)::List.flatMap lnL (List.take (x.2.1+1).toNat l))/\((↑l.length:Int)-(x.2.1+1)).toNat<((↑l.length:Int)-x.2.1).toNat)/\(decide (x.2.1<(↑l.length:Int))=false->(x.1,())=(numsF (k,a,b,c,d,s,p,(n,m),l),())))/\(decide (k=(7:Int))=false->(List.take (numN k).toNat [a,b,c,d],())=(numsF (k,a,b,c,d,s,p,(n,m),l),()))))
theorem nums_two {c:CmD} (h:c.1=2):numsF c=rhead c++[bitF c.2.2.2.2.2.1,bitF c.2.2.2.2.2.2.1]:=by
 rw [nums_head (by omega) (by omega),if_pos h]
theorem nums_five {c:CmD} (h:c.1=5):numsF c=rhead c++[c.2.2.2.2.2.2.2.1.1,c.2.2.2.2.2.2.2.1.2]:=by
 rw [nums_head (by omega) (by omega),if_neg (by omega),if_pos h]
theorem nums_else {c:CmD} (h1:1<=c.1) (h8:c.1<=8) (h2:c.1≠2) (h5:c.1≠5) (h7:c.1≠7):numsF c=rhead c:=by
 rw [nums_head h1 h8,if_neg h2,if_neg h5,if_neg h7,List.append_nil]
theorem nums_seven {c:CmD} (h:c.1=7):numsF c=rhead c++((linesF c).length:Int)::(linesF c).flatMap lnL:=by
 rw [nums_head (by omega) (by omega),if_neg (by omega),if_neg (by omega),if_pos h]
theorem g_rsaid_ok (k a b c d:Int) (s p:Bool) (n m:Int) (l:List LnD) (h:1<=k/\k<=8/\l.length<=50):g_rsaid_vc k a b c d s p n m l:=by
 unfold g_rsaid_vc;have hn:=numN_in h.1 h.2.1;have hh:([a,b,c,d].take (numN k).toNat).length<=4:=by rw [List.length_take];simp;omega
 have hlen: ∀j:Nat,(a::(l.length:Int)::(l.take j).flatMap lnL).length<=210:=fun j=>by
  have:=lines_len (l:=l) (i:=j);simp only [List.length_cons];omega
 simp only [decide_eq_true_eq,decide_eq_false_iff_not,Bool.not_eq_true',Bool.not_eq_false',Bool.not_true,Bool.not_false];repeat' (first
  |with_reducible apply And.intro
  |(intro (x:List Int×Int×Unit×Unit×Unit×Unit×Unit);obtain ⟨o,i,⟨⟩,⟨⟩,⟨⟩,⟨⟩,⟨⟩⟩:=x;rintro ⟨h7,h0,h1,ho⟩;dsimp only at h0 h1 ho⊢;have hol:=hlen i.toNat;rw [<-ho] at hol)
  |intro _)
 all_goals try (first|trivial|rfl|omega)
 ·rename_i h2 _ _;rw [nums_two h2];rfl
 ·rename_i h5 _;rw [nums_five h5];rfl
 ·rename_i h7;subst h7;rfl
 ·rename_i hx;rw [ho,show (i+1).toNat=i.toNat+1 by omega,List.take_add_one,hx];simp [lnL]
 ·rename_i h7 hi;subst h7;rw [nums_seven rfl,ho,List.take_of_length_le (by omega)];rfl
 ·rename_i h2 h5 h7;rw [nums_else h.1 h.2.1 h2 h5 h7];rfl
noncomputable def sp_rsaid:FSpec Tryz.prog:=mkF 53 (.c (.g (.c .j (.c .j (.c .j (.c .j (.c .j (.c .b (.c .b (.c .j (.c .j (.c (.l Ln) .z))))))))))) .z) [.slc 9001 I] (fun x=>(fun (k a b c d:Int) (s p:Bool) (n m:Int) (l:List LnD)=>(1<=k/\k<=8/\l.length<=50,numsF (k,a,b,c,d,s,p,(n,m),l),())) x.1.1 x.1.2.1 x.1.2.2.1 x.1.2.2.2.1 x.1.2.2.2.2.1 x.1.2.2.2.2.2.1 x.1.2.2.2.2.2.2.1 x.1.2.2.2.2.2.2.2.1 x.1.2.2.2.2.2.2.2.2.1 x.1.2.2.2.2.2.2.2.2.2.1) fun ⟨⟨k,a,b,c,d,s,p,n,m,l,_⟩,_⟩ h=>Pure.of_cond (E:=env_rsaid k a b c d s p n m l) (by kernel_rfl) (g_rsaid_ok k a b c d s p n m l h) (specs_ok rfl _ [] rfl rfl) mixed Tryz.func53
def rbad (c:CmD):Prop:=(∃i:Int,numN c.1<=i/\i<4/\nthI [c.2.1,c.2.2.1,c.2.2.2.1,c.2.2.2.2.1] i≠0)∨(c.1≠2/\(c.2.2.2.2.2.1=true∨c.2.2.2.2.2.2.1=true))∨(c.1≠5/\(c.2.2.2.2.2.2.2.1.1≠0∨c.2.2.2.2.2.2.2.1.2≠0))
theorem bit_zero (b:Bool):bitF b=0↔b=false:=by cases b<;>simp [bitF]
theorem ex_four {n:Int} {P:Int->Prop} (h:1<=n) (h4:n<=4):(∃i:Int,n<=i/\i<4/\P i)↔(n<=1/\P 1)∨(n<=2/\P 2)∨(n<=3/\P 3):=by
 constructor
 ·rintro ⟨i,h1,h2,h3⟩;have:i=1∨i=2∨i=3:=by omega
  rcases this with rfl|rfl|rfl
  ·exact .inl ⟨h1,h3⟩
  ·exact .inr (.inl ⟨h1,h3⟩)
  ·exact .inr (.inr ⟨h1,h3⟩)
 ·rintro (⟨h1,h3⟩|⟨h1,h3⟩|⟨h1,h3⟩)
  ·exact ⟨1,h1,by decide,h3⟩
  ·exact ⟨2,h1,by decide,h3⟩
  ·exact ⟨3,h1,by decide,h3⟩
theorem bad_iff {c:CmD} (h1:1<=c.1) (h8:c.1<=8):badF c=true↔rbad c:=by
 unfold rbad;have hn:=numN_in h1 h8;rw [ex_four hn.1 hn.2];obtain ⟨k,a,b,c,d,s,p,⟨n,m⟩,l⟩:=c;dsimp only at h1 h8;have e:badF (k,a,b,c,d,s,p,(n,m),l)=true↔∃j:Nat,j<8/\badAt (k,a,b,c,d,s,p,(n,m),l) j:=by
  unfold badF;rw [List.any_eq_true];constructor
  ·rintro ⟨j,hj,hb⟩;exact ⟨j,List.mem_range.1 hj,of_decide_eq_true hb⟩
  ·rintro ⟨j,hj,hb⟩;exact ⟨j,List.mem_range.2 hj,decide_eq_true hb⟩
 have e8:(∃j:Nat,j<8/\badAt (k,a,b,c,d,s,p,(n,m),l) j)↔badAt (k,a,b,c,d,s,p,(n,m),l) 0∨badAt (k,a,b,c,d,s,p,(n,m),l) 1∨badAt (k,a,b,c,d,s,p,(n,m),l) 2∨badAt (k,a,b,c,d,s,p,(n,m),l) 3∨badAt (k,a,b,c,d,s,p,(n,m),l) 4∨badAt (k,a,b,c,d,s,p,(n,m),l) 5∨badAt (k,a,b,c,d,s,p,(n,m),l) 6∨badAt (k,a,b,c,d,s,p,(n,m),l) 7:=by
  constructor
  ·rintro ⟨j,hj,hb⟩;have:j=0∨j=1∨j=2∨j=3∨j=4∨j=5∨j=6∨j=7:=by omega
   rcases this with rfl|rfl|rfl|rfl|rfl|rfl|rfl|rfl
   ·exact .inl hb
   ·exact .inr (.inl hb)
   ·exact .inr (.inr (.inl hb))
   ·exact .inr (.inr (.inr (.inl hb)))
   ·exact .inr (.inr (.inr (.inr (.inl hb))))
   ·exact .inr (.inr (.inr (.inr (.inr (.inl hb)))))
   ·exact .inr (.inr (.inr (.inr (.inr (.inr (.inl hb))))))
   ·exact .inr (.inr (.inr (.inr (.inr (.inr (.inr hb))))))
  ·rintro (h|h|h|h|h|h|h|h)
   ·exact ⟨0,by decide,h⟩
   ·exact ⟨1,by decide,h⟩
   ·exact ⟨2,by decide,h⟩
   ·exact ⟨3,by decide,h⟩
   ·exact ⟨4,by decide,h⟩
   ·exact ⟨5,by decide,h⟩
   ·exact ⟨6,by decide,h⟩
   ·exact ⟨7,by decide,h⟩
 rw [e,e8];rcases kinds_of h1 h8 with rfl|rfl|rfl|rfl|rfl|rfl|rfl|rfl<;>cases s<;>cases p<;>simp [badAt,nthI,allF,partF,partL,numN,bit_zero,bitF]<;>omega
theorem chk_two {c:CmD} (h1:1<=c.1) (h8:c.1<=8) (hl:(linesF c).length<=50) (h:rbad c∨(c.1≠7/\0<(linesF c).length)):checkF c=2:=by
 unfold checkF;rw [if_neg (by omega),if_neg (by omega)];by_cases h7:c.1≠7/\0<(linesF c).length
 ·rw [if_pos h7]
 ·rw [if_neg h7,if_pos ((bad_iff h1 h8).2 (h.resolve_right h7))]
theorem chk_zero {c:CmD} (h1:1<=c.1) (h8:c.1<=8) (hl:(linesF c).length<=50) (h: ¬rbad c) (h7: ¬(c.1≠7/\0<(linesF c).length)):checkF c=0:=by
 unfold checkF;rw [if_neg (by omega),if_neg (by omega),if_neg h7,if_neg (fun e=>h ((bad_iff h1 h8).1 e))]
noncomputable def env_rcheck (k a b c d:Int) (s p:Bool) (n m:Int) (l:List LnD):Env where
 P:=Tryz.prog
 ty:=tys0
 specs:=specsOf [sp_rnums]
 heads:=fun
  |7=>some {slots:=[(4, .int .i64)],boxes:=[],keep:=[1],inv:=fun _ (x:Int×Unit)=>numN k<=x.1/\x.1<=4/\∀i,numN k<=i->i<x.1->nthI [a,b,c,d] i=0,measure:=fun _ (x:Int×Unit)=>(4-x.1).toNat}
  |_=>none
abbrev bx_rcheck_1 (k:Int) (a:Int) (b:Int) (c:Int) (d:Int) (s:Bool) (p:Bool) (n:Int) (m:Int) (l:List LnD):_root_.Go.Vm.Obj:=Obj.box [V.int IntKind.i64 k,V.int IntKind.i64 a,V.int IntKind.i64 b,V.int IntKind.i64 c,V.int IntKind.i64 d,V.bool s,V.bool p,V.int IntKind.i64 n,V.int IntKind.i64 m,V.list LK.tmp Ln l]
def g_rcheck_vc (k:Int) (a:Int) (b:Int) (c:Int) (d:Int) (s:Bool) (p:Bool) (n:Int) (m:Int) (l:List LnD):Prop:=
 (decide (k<(1:Int))=false->(decide ((8:Int)<k)=true->((25:Int),())=(checkF (k,a,b,c,d,s,p,(n,m),l),()))/\(decide ((8:Int)<k)=false->(decide ((50:Int)<(↑l.length:Int))=true->((30:Int),())=(checkF (k,a,b,c,d,s,p,(n,m),l),()))/\(decide ((50:Int)<(↑l.length:Int))=false->((1:Int)<=k/\k<=(8:Int))/\((some (bx_rcheck_1 k a b c d s p n m l)=some (bx_rcheck_1 k a b c d s p n m l)/\True)/\numN k<=numN k/\numN k<=(4:Int)/\∀(i:Int),numN k<=i->i<numN k->nthI [a,b,c,d] i=(0:Int))/\∀(x:Int×Unit),(numN k<=x.1/\x.1<=(4:Int)/\∀(i:Int),numN k<=i->i<x.1->nthI [a,b,c,d] i=(0:Int))->(decide (x.1<(4:Int))=true->(0<=x.1/\x.1<(↑(4:Nat):Int))/\∀(x_1:Int),[a,b,c,d][x.1.toNat]? =some x_1->((!decide (x_1=(0:Int)))=true->((2:Int),())=(checkF (k,a,b,c,d,s,p,(n,m),l),()))/\((!decide (x_1=(0:Int)))=false->(-9223372036854775808<=x.1+1/\x.1+1<=9223372036854775807)/\(some (bx_rcheck_1 k a b c d s p n m l)=some (bx_rcheck_1 k a b c d s p n m l)/\True)/\(numN k<=x.1+1/\x.1+1<=(4:Int)/\∀(i:Int),numN k<=i->i<x.1+1->nthI [a,b,c,d] i=(0:Int))/\((4:Int)-(x.1+1)).toNat<((4:Int)-x.1).toNat))/\(decide (x.1<(4:Int))=false->((!decide (k=(2:Int)))=true->(s=false->(p=false->((!decide (k=(5:Int)))=true->((!decide (n=(0:Int)))=false->((!decide (m=(0:Int)))=false->((!decide (k=(7:Int)))=true->(decide ((0:Int)<(↑l.length:Int))=true->((2:Int),())=(checkF (k,a,b,c,d,s,p,(n,m),l),()))/\(decide ((0:Int)<(↑l.length:Int))=false->((0:Int),())=(checkF (k,a,b,c,d,s,p,(n,m),l),())))/\((!decide (k=(7:Int)))= !true->((0:Int),())=(checkF (k,a,b,c,d,s,p,(n,m),l),())))/\((!decide (m=(0:Int)))= !false->((2:Int),())=(checkF (k,a,b,c,d,s,p,(n,m),l),())))/\((!decide (n=(0:Int)))= !false->((2:Int),())=(checkF (k,a,b,c,d,s,p,(n,m),l),())))/\((!decide (k=(5:Int)))= !true->((!decide (k=(7:Int)))=true->(decide ((0:Int)<(↑l.length:Int))=true->((2:Int),())=(checkF (k,a,b,c,d,s,p,(n,m),l),()))/\(decide ((0:Int)<(↑l.length:Int))=false->((0:Int),())=(checkF (k,a,b,c,d,s,p,(n,m),l),())))/\((!decide (k=(7:Int)))= !true->((0:Int),())=(checkF (k,a,b,c,d,s,p,(n,m),l),()))))/\(p= !false->((2:Int),())=(checkF (k,a,b,c,d,s,p,(n,m),l),())))/\(s= !false->((2:Int),())=(checkF (k,a,b,c,d,s,p,(n,m),l),())))/\((!decide (k=(2:Int)))= !true->((!decide (k=(5:Int)))=true->((!decide (n=(0:Int)))=false->((!decide (m=(0:Int)))=false->((!decide (k=(7:Int)))=true->(decide ((0:Int)<(↑l.length:Int))=true->((2:Int),())=(checkF (k,a,b,c,d,s,p,(n,m),l),()))/\(decide ((0:Int)<(↑l.length:Int))=false->((0:Int),())=(checkF (k,a,b,c,d,s,p,(n,m),l),())))/\((!decide (k=(7:Int)))= !true->((0:Int),())=(checkF (k,a,b,c,d,s,p,(n,m),l),())))/\((!decide (m=(0:Int)))= !false->((2:Int),())=(checkF (k,a,b,c,d,s,p,(n,m),l),())))/\((!decide (n=(0:Int)))= !false->((2:Int),())=(checkF (k,a,b,c,d,s,p,(n,m),l),())))/\((!decide (k=(5:Int)))= !true->((!decide (k=(7:Int)))=true->(decide ((0:Int)<(↑l.length:Int))=true->((2:Int),())=(checkF (k,a,b,c,d,s,p,(n,m),l),()))/\(decide ((0:Int)<(↑l.length:Int))=false->((0:Int),())=(checkF (k,a,b,c,d,s,p,(n,m),l),())))/\((!decide (k=(7:Int)))= !true->((0:Int),())=(checkF (k,a,b,c,d,s,p,(n,m),l),()))))))))/\(decide (k<(1:Int))= !false->((25:Int),())=(checkF (k,a,b,c,d,s,p,(n,m),l),()))
theorem g_rcheck_ok (k a b c d:Int) (s p:Bool) (n m:Int) (l:List LnD):g_rcheck_vc k a b c d s p n m l:=by
 unfold g_rcheck_vc;simp only [decide_eq_true_eq,decide_eq_false_iff_not,Bool.not_eq_true',Bool.not_eq_false',Bool.not_true,Bool.not_false];repeat' (first|with_reducible apply And.intro|intro _)
 all_goals try (first|trivial|rfl|omega)
 ·rw [show checkF (k,a,b,c,d,s,p,(n,m),l)=25 from if_pos (by omega)]
 ·rw [show checkF (k,a,b,c,d,s,p,(n,m),l)=30 from (if_neg (by simp only;omega)).trans (if_pos (by simp only [linesF];omega))]
 ·exact (numN_in (by omega) (by omega)).2
 ·rename_i x hx _;have:=(numN_in (k:=k) (by omega) (by omega)).1;omega
 ·rename_i x hx _ y hy hy0;have h1:=(numN_in (k:=k) (by omega) (by omega)).1;rw [chk_two (c:=(k,a,b,c,d,s,p,(n,m),l)) (by dsimp only;omega) (by dsimp only;omega) (by simp only [linesF];omega) (.inl (.inl ⟨x.1,hx.1,by assumption,by unfold nthI;simp only;rw [hy];exact hy0⟩))]
 ·rename_i x hx _ _ _ _;have:=(numN_in (k:=k) (by omega) (by omega)).1;omega
 ·rename_i x hx _ y hy hy0 i i0 i1;have h1:=(numN_in (k:=k) (by omega) (by omega)).1;by_cases hi:i<x.1
  ·exact hx.2.2 i i0 hi
  ·have:i=x.1:=by omega
   subst this;unfold nthI;rw [hy];exact hy0
 all_goals try (
  rw [chk_two (c:=(k,a,b,c,d,s,p,(n,m),l)) (by dsimp only;omega) (by dsimp only;omega) (by simp only [linesF];omega) (by
   first
    |exact .inr ⟨by assumption,by simp only [linesF];omega⟩
    |exact .inl (.inr (.inl ⟨by assumption, .inl (by assumption)⟩))
    |exact .inl (.inr (.inl ⟨by assumption, .inr (by assumption)⟩))
    |exact .inl (.inr (.inr ⟨by assumption, .inl (by assumption)⟩))
    |exact .inl (.inr (.inr ⟨by assumption, .inr (by assumption)⟩)))])
 iterate 4 (
  rw [chk_zero (c:=(k,a,b,c,d,s,p,(n,m),l)) (by dsimp only;omega) (by dsimp only;omega) (by simp only [linesF];omega) (by
   obtain ⟨_,_,hz⟩:=‹numN k<=_/\(_:Int)<=4/\_›;rintro (⟨i,i0,i1,i2⟩|⟨q1,q2⟩|⟨q1,q2⟩)
   ·exact i2 (hz i i0 (by omega))
   ·simp_all
   ·simp_all) (by simp only [linesF];omega)])
 ·rw [show checkF (k,a,b,c,d,s,p,(n,m),l)=25 from if_pos (by simp only;omega)]
noncomputable def sp_rcheck:FSpec Tryz.prog:=mkF 51 (.c (.g (.c .j (.c .j (.c .j (.c .j (.c .j (.c .b (.c .b (.c .j (.c .j (.c (.l Ln) .z))))))))))) .z) [.int .i64] (fun x=>(fun (k a b c d:Int) (s p:Bool) (n m:Int) (l:List LnD)=>(True,checkF (k,a,b,c,d,s,p,(n,m),l),())) x.1.1 x.1.2.1 x.1.2.2.1 x.1.2.2.2.1 x.1.2.2.2.2.1 x.1.2.2.2.2.2.1 x.1.2.2.2.2.2.2.1 x.1.2.2.2.2.2.2.2.1 x.1.2.2.2.2.2.2.2.2.1 x.1.2.2.2.2.2.2.2.2.2.1) fun ⟨⟨k,a,b,c,d,s,p,n,m,l,_⟩,_⟩ _=>Pure.of_cond (E:=env_rcheck k a b c d s p n m l) (by kernel_rfl) (g_rcheck_ok k a b c d s p n m l) (specs_ok rfl _ [] rfl rfl) mixed Tryz.func51
end Go.Proofs.YtabicbgeoiilmaaGreatDoor.Cm
end
section
namespace Go.Proofs.YtabicbgeoiilmaaGreatDoor.Cm
open Go.Vm
theorem nums_in {c:CmD} (h:InC c) (h50:(linesF c).length<=50): ∀n∈numsF c,InI n:=by
 intro n hn;unfold numsF at hn;rw [List.mem_append] at hn;rcases hn with hn|hn
 ·obtain ⟨j,_,rfl⟩:=List.mem_map.1 hn;exact nthI_in h j
 ·split at hn
  ·rcases List.mem_cons.1 hn with rfl|hn
   ·unfold InI;omega
   ·obtain ⟨x,hx,hn⟩:=List.mem_flatMap.1 hn;exact h.2 x hx n hn
  ·cases hn
theorem nums_len {c:CmD} (h50:(linesF c).length<=50):(numsF c).length<=300:=by
 unfold numsF;have h1:=partF_len c.1;have h2:=lines_len (l:=linesF c) (i:=(linesF c).length);rw [List.take_length] at h2;rw [List.length_append,List.length_map];split
 ·rw [List.length_cons];omega
 ·simp only [List.length_nil];omega
noncomputable def env_rprint (k a b c d:Int) (s p:Bool) (n m:Int) (l:List LnD):Env where
 P:=Tryz.prog
 ty:=tys0
 specs:=specsOf [sp_rcheck,sp_rword,sp_rsaid,sp_rdigitsOf]
 frz:=fun|17=>true|_=>false
 heads:=fun
  |7=>some {slots:=[(5, .str),(7, .int .i64)],boxes:=[],keep:=[1],inv:=fun _ (x:By×Int×Unit)=>0<=x.2.1/\x.2.1<=(numsF (k,a,b,c,d,s,p,(n,m),l)).length/\x.1=wordF k++sayF ((numsF (k,a,b,c,d,s,p,(n,m),l)).take x.2.1.toNat),measure:=fun _ (x:By×Int×Unit)=>((numsF (k,a,b,c,d,s,p,(n,m),l)).length-x.2.1).toNat}
  |_=>none
abbrev bx_rprint_1 (k:Int) (a:Int) (b:Int) (c:Int) (d:Int) (s:Bool) (p:Bool) (n:Int) (m:Int) (l:List LnD):_root_.Go.Vm.Obj:=Obj.box [V.int IntKind.i64 k,V.int IntKind.i64 a,V.int IntKind.i64 b,V.int IntKind.i64 c,V.int IntKind.i64 d,V.bool s,V.bool p,V.int IntKind.i64 n,V.int IntKind.i64 m,V.list LK.tmp Ln l]
def g_rprint_vc (k:Int) (a:Int) (b:Int) (c:Int) (d:Int) (s:Bool) (p:Bool) (n:Int) (m:Int) (l:List LnD):Prop:=
 True/\((!decide (checkF (k,a,b,c,d,s,p,(n,m),l)=(0:Int)))=true->([],checkF (k,a,b,c,d,s,p,(n,m),l),())=((printF (k,a,b,c,d,s,p,(n,m),l)).1,(printF (k,a,b,c,d,s,p,(n,m),l)).2,()))/\((!decide (checkF (k,a,b,c,d,s,p,(n,m),l)=(0:Int)))=false->((1:Int)<=k/\k<=(8:Int))/\((1:Int)<=k/\k<=(8:Int)/\l.length<=(50:Nat))/\((some (bx_rprint_1 k a b c d s p n m l)=some (bx_rprint_1 k a b c d s p n m l)/\True)/\0<=(0:Int)/\0<=(↑(numsF (k,a,b,c,d,s,p,(n,m),l)).length:Int)/\wordF k=wordF k++sayF (List.take (Int.toNat (0:Int)) (numsF (k,a,b,c,d,s,p,(n,m),l))))/\∀(x:List UInt8×Int×Unit),0<=x.2.1/\x.2.1<=(↑(numsF (k,a,b,c,d,s,p,(n,m),l)).length:Int)/\x.1=wordF k++sayF (List.take x.2.1.toNat (numsF (k,a,b,c,d,s,p,(n,m),l)))->(decide (x.2.1<(↑(numsF (k,a,b,c,d,s,p,(n,m),l)).length:Int))=true->x.1.length+(1:Nat)<=(9223372036854775807:Nat)/\(0<=x.2.1/\x.2.1<(↑(numsF (k,a,b,c,d,s,p,(n,m),l)).length:Int))/\∀(x_1:Int),(numsF (k,a,b,c,d,s,p,(n,m),l))[x.2.1.toNat]? =some x_1->InI x_1/\(x.1++[(32:UInt8)]).length+(Lib.itoa x_1).length<=(9223372036854775807:Nat)/\(-9223372036854775808<=x.2.1+1/\x.2.1+1<=9223372036854775807)/\(some (bx_rprint_1 k a b c d s p n m l)=some (bx_rprint_1 k a b c d s p n m l)/\True)/\(0<=x.2.1+1/\x.2.1+1<=(↑(numsF (k,a,b,c,d,s,p,(n,m),l)).length:Int)/\x.1++[(32:UInt8)]++Lib.itoa x_1=wordF k++sayF (List.take (x.2.1+1).toNat (numsF (k,a,b,c,d,s,p,(n,m),l))))/\((↑(numsF (k,a,b,c,d,s,p,(n,m),l)).length:Int)-(x.2.1+1)).toNat<((↑(numsF (k,a,b,c,d,s,p,(n,m),l)).length:Int)-x.2.1).toNat)/\(decide (x.2.1<(↑(numsF (k,a,b,c,d,s,p,(n,m),l)).length:Int))=false->(x.1,(0:Int),())=((printF (k,a,b,c,d,s,p,(n,m),l)).1,(printF (k,a,b,c,d,s,p,(n,m),l)).2,())))
theorem g_rprint_ok (k a b c d:Int) (s p:Bool) (n m:Int) (l:List LnD) (h:InC (k,a,b,c,d,s,p,(n,m),l)):g_rprint_vc k a b c d s p n m l:=by
 unfold g_rprint_vc;simp only [decide_eq_true_eq,decide_eq_false_iff_not,Bool.not_eq_true',Bool.not_eq_false',Bool.not_true,Bool.not_false];have hK:checkF (k,a,b,c,d,s,p,(n,m),l)=0->1<=k/\k<=8/\l.length<=50:=fun e=>checkF_kind e;have hsl:l.length<=50->∀i:Nat,(wordF k++sayF ((numsF (k,a,b,c,d,s,p,(n,m),l)).take i)).length<=1000000:=fun h5 i=>by
  have h1:=wordF_len k;have h2:=say_len (l:=(numsF (k,a,b,c,d,s,p,(n,m),l)).take i) fun n hn=>nums_in h h5 n (List.mem_of_mem_take hn);have h3:=nums_len (c:=(k,a,b,c,d,s,p,(n,m),l)) h5;have h4:=List.length_take_le' i (numsF (k,a,b,c,d,s,p,(n,m),l));rw [List.length_append];omega
 repeat' (first
  |with_reducible apply And.intro
  |(intro (x:List UInt8×Int×Unit);obtain ⟨o,i,⟨⟩⟩:=x;rintro ⟨h0,h1,ho⟩;dsimp only at h0 h1 ho⊢)
  |intro _)
 all_goals try (first|trivial|rfl|omega)
 ·rename_i e;unfold printF;rw [if_neg e]
 ·simp [sayF]
 ·rename_i e _;have:=hsl (hK e).2.2 i.toNat;rw [<-ho] at this;omega
 ·rename_i e _ x hx;exact nums_in h (hK e).2.2 x (List.mem_of_getElem? hx)
 ·rename_i e _ x hx;have h1:=hsl (hK e).2.2 i.toNat;rw [<-ho] at h1;have h2:=itoa_len (nums_in h (hK e).2.2 x (List.mem_of_getElem? hx));rw [List.length_append];simp only [List.length_singleton];omega
 ·rename_i e _ _ _;have:=nums_len (c:=(k,a,b,c,d,s,p,(n,m),l)) (hK e).2.2;omega
 ·rename_i hx;rw [ho,show (i+1).toNat=i.toNat+1 by omega,sayF_next hx];simp only [List.append_assoc]
 ·rename_i e hi;unfold printF;rw [if_pos e,ho,List.take_of_length_le (by omega)];rfl
set_option maxRecDepth 20000
noncomputable def sp_rprint:FSpec Tryz.prog:=mkF 26 (.c (.g (.c .j (.c .j (.c .j (.c .j (.c .j (.c .b (.c .b (.c .j (.c .j (.c (.l Ln) .z))))))))))) .z) [.str, .int .i64] (fun x=>(fun (k a b c d:Int) (s p:Bool) (n m:Int) (l:List LnD)=>(InC (k,a,b,c,d,s,p,(n,m),l),(printF (k,a,b,c,d,s,p,(n,m),l)).1,(printF (k,a,b,c,d,s,p,(n,m),l)).2,())) x.1.1 x.1.2.1 x.1.2.2.1 x.1.2.2.2.1 x.1.2.2.2.2.1 x.1.2.2.2.2.2.1 x.1.2.2.2.2.2.2.1 x.1.2.2.2.2.2.2.2.1 x.1.2.2.2.2.2.2.2.2.1 x.1.2.2.2.2.2.2.2.2.2.1) fun ⟨⟨k,a,b,c,d,s,p,n,m,l,_⟩,_⟩ h=>Pure.of_cond (E:=env_rprint k a b c d s p n m l) (by kernel_rfl) (g_rprint_ok k a b c d s p n m l h) (specs_ok rfl _ [] rfl rfl) mixed Tryz.func26
end Go.Proofs.YtabicbgeoiilmaaGreatDoor.Cm
end
