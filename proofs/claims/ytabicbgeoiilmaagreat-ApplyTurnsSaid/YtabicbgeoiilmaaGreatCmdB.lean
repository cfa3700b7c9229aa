/-
  command: may a command be? As the document has it.
-/
import Derived.Test.YtabicbgeoiilmaaGreatBks8
section
namespace Go.Proofs.YtabicbgeoiilmaaGreat.Cmd
open Go.Vm
abbrev CmD:Type:=Int×Int×Int×Int×Int×Bool×Bool×(Int×Int)×List (Int×Int×Int×Int)
abbrev LnD:Type:=Int×Int×Int×Int
def bitF (b:Bool):Int:=if b then 1 else 0
noncomputable def env_bit (b:Bool):Env where
 P:=Tryz.prog
 ty:=tys0
def g_bit_vc (b:Bool):Prop:=
 (b=true->((1:Int),())=(bitF b,()))/\(b=false->((0:Int),())=(bitF b,()))
theorem g_bit_eq (b:Bool):Cond (env_bit b) Tryz.f136 [.bool b] [.int .i64] (bitF b,())=g_bit_vc b:=by kernel_rfl
theorem g_bit_ok (b:Bool):g_bit_vc b:=by
 unfold g_bit_vc bitF;cases b<;>simp
set_option maxRecDepth 20000
theorem bit_pure (b:Bool):Pure Tryz.prog 136 [.bool b] (.int .i64 (bitF b)):=
 by have k:=Pure.of_cond (g_bit_eq b) (g_bit_ok b) (specs_ok rfl [] [] rfl rfl) mixed Tryz.func136;exact k
noncomputable def q_bit (b:Bool):Prop×V:=(True,(.int .i64 (bitF b)))
noncomputable def sp_bit:FSpec Tryz.prog where
 f:=136
 run:=fun
  |[v0]=>(boolOf v0).bind fun b=>some (q_bit b)
  |_=>none
 ok:=fun args pre r h hp=>by
  split at h
  ·rename_i v0;obtain ⟨b,h0,h⟩:=Option.bind_eq_some_iff.1 h;exact of_q h hp fun h=>(bit_pure b).weak (.cons (boolOf_weak h0) .nil)
  ·cases h
def partL:List (List Int):=[[0],[0,1,4,5],[0,1],[0,1,2,3],[0,1,2,3,6,7],[0,1],[0],[0,1]]
def partF (k:Int):List Int:=(partL[(k-1).toNat]?).getD []
abbrev fl (l:List Int):V:= .list .full I l
abbrev formsV:List V:=[.str [101,110,116,105,116,121],fl [0], .str [97,99,99,111,117,110,116],fl [0,1,4,5], .str [109,111,118,101],fl [0,1], .str [111,119,110],fl [0,1,2,3], .str [114,97,116,101],fl [0,1,2,3,6,7], .str [108,111,99,107],fl [0,1], .str [112,111,115,116],fl [0], .str [114,101,118,101,114,115,101],fl [0,1]]
noncomputable def env_forms:Env where
 P:=Tryz.prog
 ty:=tys0
 asRows:=fun|17=>true|_=>false
def g_forms_vc:Prop:=
 some (V.rows (2:Nat) [V.str [(101:UInt8),(110:UInt8),(116:UInt8),(105:UInt8),(116:UInt8),(121:UInt8)],V.list LK.full I [(0:Int)],V.str [(97:UInt8),(99:UInt8),(99:UInt8),(111:UInt8),(117:UInt8),(110:UInt8),(116:UInt8)],V.list LK.full I [(0:Int),(1:Int),(4:Int),(5:Int)],V.str [(109:UInt8),(111:UInt8),(118:UInt8),(101:UInt8)],V.list LK.full I [(0:Int),(1:Int)],V.str [(111:UInt8),(119:UInt8),(110:UInt8)],V.list LK.full I [(0:Int),(1:Int),(2:Int),(3:Int)],V.str [(114:UInt8),(97:UInt8),(116:UInt8),(101:UInt8)],V.list LK.full I [(0:Int),(1:Int),(2:Int),(3:Int),(6:Int),(7:Int)],V.str [(108:UInt8),(111:UInt8),(99:UInt8),(107:UInt8)],V.list LK.full I [(0:Int),(1:Int)],V.str [(112:UInt8),(111:UInt8),(115:UInt8),(116:UInt8)],V.list LK.full I [(0:Int)],V.str [(114:UInt8),(101:UInt8),(118:UInt8),(101:UInt8),(114:UInt8),(115:UInt8),(101:UInt8)],V.list LK.full I [(0:Int),(1:Int)]])=some (V.rows (2:Nat) [V.str [(101:UInt8),(110:UInt8),(116:UInt8),(105:UInt8),(116:UInt8),(121:UInt8)],V.list LK.full I [(0:Int)],V.str [(97:UInt8),(99:UInt8),(99:UInt8),(111:UInt8),(117:UInt8),(110:UInt8),(116:UInt8)],V.list LK.full I [(0:Int),(1:Int),(4:Int),(5:Int)],V.str [(109:UInt8),(111:UInt8),(118:UInt8),(101:UInt8)],V.list LK.full I [(0:Int),(1:Int)],V.str [(111:UInt8),(119:UInt8),(110:UInt8)],V.list LK.full I [(0:Int),(1:Int),(2:Int),(3:Int)],V.str [(114:UInt8),(97:UInt8),(116:UInt8),(101:UInt8)],V.list LK.full I [(0:Int),(1:Int),(2:Int),(3:Int),(6:Int),(7:Int)],V.str [(108:UInt8),(111:UInt8),(99:UInt8),(107:UInt8)],V.list LK.full I [(0:Int),(1:Int)],V.str [(112:UInt8),(111:UInt8),(115:UInt8),(116:UInt8)],V.list LK.full I [(0:Int)],V.str [(114:UInt8),(101:UInt8),(118:UInt8),(101:UInt8),(114:UInt8),(115:UInt8),(101:UInt8)],V.list LK.full I [(0:Int),(1:Int)]])
theorem g_forms_eq:CondZ (env_forms) Tryz.f75 [] (.rows 2 formsV)=g_forms_vc:=by kernel_rfl
theorem g_forms_ok:g_forms_vc:=by
 exact rfl
theorem forms_pure:PureZ Tryz.prog 75 [] (.rows 2 formsV):=
 by have k:=PureZ.of_cond (g_forms_eq) (g_forms_ok) (specs_ok rfl [] [] rfl rfl) mixed Tryz.func75;exact k
noncomputable def q_forms:Prop×V:=(True,(.rows 2 formsV))
noncomputable def sp_forms:ZSpec Tryz.prog where
 f:=75
 run:=fun
  |[]=>some (q_forms)
  |_=>none
 ok:=fun args pre r h hp=>by
  split at h
  ·skip;exact of_q h hp fun h=>(forms_pure).weak .nil
  ·cases h
def allF (c:CmD):List Int:=[c.2.1,c.2.2.1,c.2.2.2.1,c.2.2.2.2.1,bitF c.2.2.2.2.2.1,bitF c.2.2.2.2.2.2.1,c.2.2.2.2.2.2.2.1.1,c.2.2.2.2.2.2.2.1.2]
noncomputable def env_said (k a b c d:Int) (s p:Bool) (n m:Int) (l:List LnD):Env where
 P:=Tryz.prog
 ty:=tys0
 specs:=specsOf [sp_bit]
 frz:=fun|13=>true|16=>true|_=>false
abbrev ann_said:Ann:={slots:=numP 0 [.int .i64, .int .i64, .int .i64, .int .i64, .int .i64, .int .i64, .int .i64, .int .i64],boxes:=[],inv:=fun _ _=>True}
def g_said_vc (k:Int) (a:Int) (b:Int) (c:Int) (d:Int) (s:Bool) (p:Bool) (n:Int) (m:Int) (l:List LnD):Prop:=
 True/\True/\True/\(a,b,c,d,bitF s,bitF p,n,m,())=(a,b,c,d,bitF s,bitF p,n,m,())
theorem g_said_eq (k a b c d:Int) (s p:Bool) (n m:Int) (l:List LnD):CondG (env_said k a b c d s p n m l) Tryz.f76 [.agg [.int .i64 k, .int .i64 a, .int .i64 b, .int .i64 c, .int .i64 d, .bool s, .bool p, .int .i64 n, .int .i64 m, .list .tmp LnT l]] [some 8] ann_said (a,b,c,d,bitF s,bitF p,n,m,())=g_said_vc k a b c d s p n m l:=by kernel_rfl
theorem g_said_ok (k a b c d:Int) (s p:Bool) (n m:Int) (l:List LnD) (h:True):g_said_vc k a b c d s p n m l:=⟨trivial,trivial,trivial,rfl⟩
theorem said_pure (k a b c d:Int) (s p:Bool) (n m:Int) (l:List LnD) (h:True):Pure Tryz.prog 76 [.agg [.int .i64 k, .int .i64 a, .int .i64 b, .int .i64 c, .int .i64 d, .bool s, .bool p, .int .i64 n, .int .i64 m, .list .tmp LnT l]] (.agg [.int .i64 a, .int .i64 b, .int .i64 c, .int .i64 d, .int .i64 (bitF s), .int .i64 (bitF p), .int .i64 n, .int .i64 m]):=
 by have k:=Pure.of_condG (r:=(.agg [.int .i64 a, .int .i64 b, .int .i64 c, .int .i64 d, .int .i64 (bitF s), .int .i64 (bitF p), .int .i64 n, .int .i64 m])) (g_said_eq k a b c d s p n m l) (g_said_ok k a b c d s p n m l h) rfl (specs_ok rfl [sp_bit] [] rfl rfl) mixed Tryz.func76;exact k
noncomputable def q_said (k a b c d:Int) (s p:Bool) (n m:Int) (l:List LnD):Prop×V:=(True,(.agg [.int .i64 a, .int .i64 b, .int .i64 c, .int .i64 d, .int .i64 (bitF s), .int .i64 (bitF p), .int .i64 n, .int .i64 m]))
noncomputable def sp_said:FSpec Tryz.prog where
 f:=76
 run:=fun
  |[.agg [.int .i64 k, .int .i64 a, .int .i64 b, .int .i64 c, .int .i64 d,v0_5,v0_6, .int .i64 n, .int .i64 m,v0_9]]=>(boolOf v0_5).bind fun s=>(boolOf v0_6).bind fun p=>(asL LnT v0_9:Option (List LnD)).bind fun l=>some (q_said k a b c d s p n m l)
  |_=>none
 ok:=fun args pre r h hp=>by
  split at h
  ·rename_i k a b c d v0_5 v0_6 n m v0_9;obtain ⟨s,h0_5,h⟩:=Option.bind_eq_some_iff.1 h;obtain ⟨p,h0_6,h⟩:=Option.bind_eq_some_iff.1 h;obtain ⟨l,h0_9,h⟩:=Option.bind_eq_some_iff.1 h;exact of_q h hp fun h=>(said_pure k a b c d s p n m l h).weak (.cons (Weak.agg (.cons (.refl _) (.cons (.refl _) (.cons (.refl _) (.cons (.refl _) (.cons (.refl _) (.cons (boolOf_weak h0_5) (.cons (boolOf_weak h0_6) (.cons (.refl _) (.cons (.refl _) (.cons (asL_weak h0_9) .nil))))))))))) .nil)
  ·cases h
def idxF (l:List Int) (x:Int):Int:=match l.findIdx? (· ==x) with
 |some i=>i
 |none=> -1
noncomputable def env_index (l:List Int) (x:Int):Env where
 P:=Tryz.prog
 ty:=tys0
 heads:=fun
  |2=>some {slots:=[(8, .int .i64)],boxes:=[],inv:=fun _ (y:Int×Unit)=>0<=y.1/\y.1<=l.length/\∀(j:Nat) z,(j:Int)<y.1->l[j]? =some z->z≠x,measure:=fun _ (y:Int×Unit)=>(l.length-y.1).toNat}
  |_=>none
def g_index_vc (l:List Int) (x:Int):Prop:=
 (True/\0<=(0:Int)/\0<=(↑l.length:Int)/\∀(j:Nat) (z:Int),(↑j:Int)<(0:Int)->l[j]? =some z->z≠x)/\∀(x_1:Int×Unit),(0<=x_1.1/\x_1.1<=(↑l.length:Int)/\∀(j:Nat) (z:Int),(↑j:Int)<x_1.1->l[j]? =some z->z≠x)->(decide (x_1.1<(↑l.length:Int))=true->(0<=x_1.1/\x_1.1<(↑l.length:Int))/\∀(x_2:Int),l[x_1.1.toNat]? =some x_2->(decide (x=x_2)=true->(x_1.1,())=(idxF l x,()))/\(decide (x=x_2)=false->(-9223372036854775808<=x_1.1+1/\x_1.1+1<=9223372036854775807)/\True/\(0<=x_1.1+1/\x_1.1+1<=(↑l.length:Int)/\∀(j:Nat) (z:Int),(↑j:Int)<x_1.1+1->l[j]? =some z->z≠x)/\((↑l.length:Int)-(x_1.1+1)).toNat<((↑l.length:Int)-x_1.1).toNat))/\(decide (x_1.1<(↑l.length:Int))=false->((-1:Int),())=(idxF l x,()))
theorem g_index_eq (l:List Int) (x:Int):Cond (env_index l x) Tryz.f137 [.list .tmp I l, .int .i64 x] [.int .i64] (idxF l x,())=g_index_vc l x:=by kernel_rfl
theorem idxF_at {l:List Int} {x:Int} {i:Nat} (h:l[i]? =some x) (hb: ∀(j:Nat) z,(j:Int)<i->l[j]? =some z->z≠x):idxF l x=i:=by
 obtain ⟨hi,e⟩:=List.getElem?_eq_some_iff.1 h;unfold idxF;rw [List.findIdx?_eq_some_iff_getElem.2 ⟨hi,by simp [e],fun j hj=>by simpa using hb j _ (by omega) (List.getElem?_eq_getElem (by omega))⟩]
theorem idxF_no {l:List Int} {x:Int} (h: ∀(j:Nat) z,(j:Int)<l.length->l[j]? =some z->z≠x):idxF l x= -1:=by
 unfold idxF;rw [List.findIdx?_eq_none_iff.2 fun y hy=>by
  obtain ⟨j,hj,e⟩:=List.mem_iff_getElem.1 hy;simpa using h j y (by omega) (by rw [List.getElem?_eq_getElem hj,e])]
theorem idxF_mem (l:List Int) (x:Int):decide (0<=idxF l x)=decide (x∈l):=by
 unfold idxF;cases e:l.findIdx? (· ==x) with
 |none=>
  have:=List.findIdx?_eq_none_iff.1 e;have hn:x∉l:=fun k=>by simpa using this x k
  simp [hn]
 |some i=>
  obtain ⟨hi,h,_⟩:=List.findIdx?_eq_some_iff_getElem.1 e;have hx:x∈l:=by
   have:l[i]=x:=by simpa using h
   rw [<-this];exact List.getElem_mem _
  simp [hx]
theorem g_index_ok (l:List Int) (x:Int) (h:l.length<=1000000):g_index_vc l x:=by
 unfold g_index_vc;simp only [decide_eq_true_eq,decide_eq_false_iff_not];refine ⟨⟨trivial,by omega,by omega,fun j z hj=>absurd hj (by omega)⟩, ?_⟩;rintro ⟨i,⟨⟩⟩ ⟨h0,h1,hb⟩;dsimp only at h0 h1 hb⊢;refine ⟨fun c=>⟨⟨h0,c⟩,fun y hy=>⟨fun e=> ?_,fun e=>⟨⟨by omega,by omega⟩,trivial,⟨by omega,by omega,fun j z hj hz=> ?_⟩,by omega⟩⟩⟩,fun c=> ?_⟩
 ·subst e;rw [idxF_at hy fun j z hj=>hb j z (by omega)];congr 1;omega
 ·by_cases h2:(j:Int)<i
  ·exact hb j z h2 hz
  ·have:j=i.toNat:=by omega
   subst this;rw [hy] at hz;cases hz;exact fun k=>e k.symm
 ·rw [idxF_no fun j z hj=>hb j z (by omega)]
theorem index_pure (l:List Int) (x:Int) (h:l.length<=1000000):Pure Tryz.prog 137 [.list .tmp I l, .int .i64 x] (.int .i64 (idxF l x)):=
 by have k:=Pure.of_cond (g_index_eq l x) (g_index_ok l x h) (specs_ok rfl [] [] rfl rfl) mixed Tryz.func137;exact k
noncomputable def q_index (l:List Int) (x:Int):Prop×V:=(l.length<=1000000,(.int .i64 (idxF l x)))
noncomputable def sp_index:FSpec Tryz.prog where
 f:=137
 run:=fun
  |[v0, .int .i64 x]=>(asL I v0:Option (List Int)).bind fun l=>some (q_index l x)
  |_=>none
 ok:=fun args pre r h hp=>by
  split at h
  ·rename_i v0 x;obtain ⟨l,h0,h⟩:=Option.bind_eq_some_iff.1 h;exact of_q h hp fun h=>(index_pure l x h).weak (.cons (asL_weak h0) (.cons (.refl _) .nil))
  ·cases h
noncomputable def env_contains (l:List Int) (x:Int):Env where
 P:=Tryz.prog
 ty:=tys0
 specs:=specsOf [sp_index]
def g_contains_vc (l:List Int) (x:Int):Prop:=
 l.length<=(1000000:Nat)/\(decide (0<=idxF l x),())=(decide (x∈l),())
theorem g_contains_eq (l:List Int) (x:Int):Cond (env_contains l x) Tryz.f77 [.list .tmp I l, .int .i64 x] [.bool] (decide (x∈l),())=g_contains_vc l x:=by kernel_rfl
theorem g_contains_ok (l:List Int) (x:Int) (h:l.length<=1000000):g_contains_vc l x:=by
 unfold g_contains_vc;exact ⟨h,by rw [idxF_mem]⟩
theorem contains_pure (l:List Int) (x:Int) (h:l.length<=1000000):Pure Tryz.prog 77 [.list .tmp I l, .int .i64 x] (.bool (decide (x∈l))):=
 by have k:=Pure.of_cond (g_contains_eq l x) (g_contains_ok l x h) (specs_ok rfl [sp_index] [] rfl rfl) mixed Tryz.func77;exact k
noncomputable def q_contains (l:List Int) (x:Int):Prop×V:=(l.length<=1000000,(.bool (decide (x∈l))))
noncomputable def sp_contains:FSpec Tryz.prog where
 f:=77
 run:=fun
  |[v0, .int .i64 x]=>(asL I v0:Option (List Int)).bind fun l=>some (q_contains l x)
  |_=>none
 ok:=fun args pre r h hp=>by
  split at h
  ·rename_i v0 x;obtain ⟨l,h0,h⟩:=Option.bind_eq_some_iff.1 h;exact of_q h hp fun h=>(contains_pure l x h).weak (.cons (asL_weak h0) (.cons (.refl _) .nil))
  ·cases h
abbrev nthI (l:List Int) (i:Int):Int:=(l[i.toNat]?).getD 0
def badAt (c:CmD) (i:Int):Prop:=nthI (allF c) i≠0/\i∉partF c.1
instance (c:CmD) (i:Int):Decidable (badAt c i):=by unfold badAt;infer_instance
def badF (c:CmD):Bool:=(List.range 8).any fun j=>decide (badAt c j)
def linesF (c:CmD):List LnD:=c.2.2.2.2.2.2.2.2
def checkF (c:CmD):Int:=if c.1<1∨8<c.1 then 25 else if 50<(linesF c).length then 30 else if c.1≠7/\0<(linesF c).length then 2 else if badF c=true then 2 else 0
noncomputable def env_check (k a b c d:Int) (s p:Bool) (n m:Int) (l:List LnD):Env where
 P:=Tryz.prog
 ty:=tys0
 specs:=specsOf [sp_contains,sp_said]
 zspecs:=zsOf [sp_forms]
 frz:=fun|30=>true|_=>false
 sym:=fun|34=>true|42=>true|_=>false
 joins:=fun
  |7=>some {slots:=[],boxes:=[],keep:=[1],inv:=fun _ _=>1<=k/\k<=8/\l.length<=50/\(k=7∨l.length=0)}
  |_=>none
 heads:=fun
  |9=>some {slots:=[(39, .int .i64)],boxes:=[],keep:=[1],inv:=fun _ (x:Int×Unit)=>0<=x.1/\x.1<=8/\∀i,0<=i->i<x.1->¬badAt (k,a,b,c,d,s,p,(n,m),l) i,measure:=fun _ (x:Int×Unit)=>(8-x.1).toNat}
  |_=>none
abbrev bx_check_1 (k:Int) (a:Int) (b:Int) (c:Int) (d:Int) (s:Bool) (p:Bool) (n:Int) (m:Int) (l:List LnD):_root_.Go.Vm.Obj:=Obj.box [V.int IntKind.i64 k,V.int IntKind.i64 a,V.int IntKind.i64 b,V.int IntKind.i64 c,V.int IntKind.i64 d,V.bool s,V.bool p,V.int IntKind.i64 n,V.int IntKind.i64 m,V.list LK.tmp LnT l]
def g_check_vc (k:Int) (a:Int) (b:Int) (c:Int) (d:Int) (s:Bool) (p:Bool) (n:Int) (m:Int) (l:List LnD):Prop:=
 ((decide (k<(1:Int))=false->(decide ((8:Int)<k)=true->((25:Int),())=(checkF (k,a,b,c,d,s,p,(n,m),l),()))/\(decide ((8:Int)<k)=false->(decide ((50:Int)<(↑l.length:Int))=true->((30:Int),())=(checkF (k,a,b,c,d,s,p,(n,m),l),()))/\(decide ((50:Int)<(↑l.length:Int))=false->((!decide (k=(7:Int)))=true->(decide ((0:Int)<(↑l.length:Int))=true->((2:Int),())=(checkF (k,a,b,c,d,s,p,(n,m),l),()))/\(decide ((0:Int)<(↑l.length:Int))=false->(some (bx_check_1 k a b c d s p n m l)=some (bx_check_1 k a b c d s p n m l)/\True)/\(1:Int)<=k/\k<=(8:Int)/\l.length<=(50:Nat)/\(k=(7:Int)∨l.length=(0:Nat))))/\((!decide (k=(7:Int)))= !true->(some (bx_check_1 k a b c d s p n m l)=some (bx_check_1 k a b c d s p n m l)/\True)/\(1:Int)<=k/\k<=(8:Int)/\l.length<=(50:Nat)/\(k=(7:Int)∨l.length=(0:Nat))))))/\(decide (k<(1:Int))= !false->((25:Int),())=(checkF (k,a,b,c,d,s,p,(n,m),l),())))/\∀(x:Unit),(1:Int)<=k/\k<=(8:Int)/\l.length<=(50:Nat)/\(k=(7:Int)∨l.length=(0:Nat))->True/\(-9223372036854775808<=k-(1:Int)/\k-(1:Int)<=9223372036854775807)/\(0<=k-(1:Int)/\k-(1:Int)<(↑(8:Nat):Int))/\True/\((some (bx_check_1 k a b c d s p n m l)=some (bx_check_1 k a b c d s p n m l)/\True)/\0<=(0:Int)/\0<=(8:Int)/\∀(i:Int),0<=i->i<(0:Int)->¬badAt (k,a,b,c,d,s,p,(n,m),l) i)/\∀(x:Int×Unit),(0<=x.1/\x.1<=(8:Int)/\∀(i:Int),0<=i->i<x.1->¬badAt (k,a,b,c,d,s,p,(n,m),l) i)->(decide (x.1<(8:Int))=true->(0<=x.1/\x.1<(↑(8:Nat):Int))/\((!decide ([a,b,c,d,bitF s,bitF p,n,m][x.1.toNat]?.getD (0:Int)=(0:Int)))=true->([[(0:Int)],[(0:Int),(1:Int),(4:Int),(5:Int)],[(0:Int),(1:Int)],[(0:Int),(1:Int),(2:Int),(3:Int)],[(0:Int),(1:Int),(2:Int),(3:Int),(6:Int),(7:Int)],[(0:Int),(1:Int)],[(0:Int)],[(0:Int),(1:Int)]][(k-(1:Int)).toNat]?.getD []).length<=(1000000:Nat)/\((!decide (x.1∈[[(0:Int)],[(0:Int),(1:Int),(4:Int),(5:Int)],[(0:Int),(1:Int)],[(0:Int),(1:Int),(2:Int),(3:Int)],[(0:Int),(1:Int),(2:Int),(3:Int),(6:Int),(7:Int)],[(0:Int),(1:Int)],[(0:Int)],[(0:Int),(1:Int)]][(k-(1:Int)).toNat]?.getD []))=true->((2:Int),())=(checkF (k,a,b,c,d,s,p,(n,m),l),()))/\((!decide (x.1∈[[(0:Int)],[(0:Int),(1:Int),(4:Int),(5:Int)],[(0:Int),(1:Int)],[(0:Int),(1:Int),(2:Int),(3:Int)],[(0:Int),(1:Int),(2:Int),(3:Int),(6:Int),(7:Int)],[(0:Int),(1:Int)],[(0:Int)],[(0:Int),(1:Int)]][(k-(1:Int)).toNat]?.getD []))=false->(-9223372036854775808<=x.1+1/\x.1+1<=9223372036854775807)/\(some (bx_check_1 k a b c d s p n m l)=some (bx_check_1 k a b c d s p n m l)/\True)/\(0<=x.1+1/\x.1+1<=(8:Int)/\∀(i:Int),0<=i->i<x.1+1->¬badAt (k,a,b,c,d,s,p,(n,m),l) i)/\((8:Int)-(x.1+1)).toNat<((8:Int)-x.1).toNat))/\((!decide ([a,b,c,d,bitF s,bitF p,n,m][x.1.toNat]?.getD (0:Int)=(0:Int)))= !true->(-9223372036854775808<=x.1+1/\x.1+1<=9223372036854775807)/\(some (bx_check_1 k a b c d s p n m l)=some (bx_check_1 k a b c d s p n m l)/\True)/\(0<=x.1+1/\x.1+1<=(8:Int)/\∀(i:Int),0<=i->i<x.1+1->¬badAt (k,a,b,c,d,s,p,(n,m),l) i)/\((8:Int)-(x.1+1)).toNat<((8:Int)-x.1).toNat))/\(decide (x.1<(8:Int))=false->((0:Int),())=(checkF (k,a,b,c,d,s,p,(n,m),l),()))
theorem g_check_eq (k a b c d:Int) (s p:Bool) (n m:Int) (l:List LnD):Cond (env_check k a b c d s p n m l) Tryz.f33 [.agg [.int .i64 k, .int .i64 a, .int .i64 b, .int .i64 c, .int .i64 d, .bool s, .bool p, .int .i64 n, .int .i64 m, .list .tmp LnT l]] [.int .i64] (checkF (k,a,b,c,d,s,p,(n,m),l),())=g_check_vc k a b c d s p n m l:=by kernel_rfl
theorem checkF_ok {c:CmD} (h1:1<=c.1) (h2:c.1<=8) (h3:(linesF c).length<=50) (h4:c.1=7∨(linesF c).length=0):checkF c=if badF c=true then 2 else 0:=by
 unfold checkF;rw [if_neg (by omega),if_neg (by omega),if_neg (by omega)]
theorem badF_true {c:CmD} {i:Int} (h0:0<=i) (h1:i<8) (h:badAt c i):badF c=true:=by
 unfold badF;rw [List.any_eq_true];exact ⟨i.toNat,List.mem_range.2 (by omega),by rw [show ((i.toNat:Nat):Int)=i by omega];exact decide_eq_true h⟩
theorem badF_false {c:CmD} (h: ∀i:Int,0<=i->i<8->¬badAt c i):badF c=false:=by
 unfold badF;rw [List.any_eq_false];intro j hj;simp at hj⊢;exact h j (by omega) (by omega)
theorem partF_len (k:Int):(partF k).length<=6:=by
 unfold partF partL;generalize (k-1).toNat=j;match j with
 |0|1|2|3|4|5|6|7=>decide
 |n+8=>simp
theorem g_check_ok (k a b c d:Int) (s p:Bool) (n m:Int) (l:List LnD):g_check_vc k a b c d s p n m l:=by
 unfold g_check_vc;have hp:([[(0:Int)],[0,1,4,5],[0,1],[0,1,2,3],[0,1,2,3,6,7],[0,1],[0],[0,1]][(k-1).toNat]?.getD [])=partF k:=rfl;simp only [decide_eq_true_eq,decide_eq_false_iff_not,Bool.not_eq_true',Bool.not_eq_false',Bool.not_true,Bool.not_false,hp];repeat' (first|apply And.intro|intro _)
 all_goals try (first|trivial|rfl|omega)
 ·rw [show checkF (k,a,b,c,d,s,p,(n,m),l)=25 from if_pos (by omega)]
 ·rw [show checkF (k,a,b,c,d,s,p,(n,m),l)=30 from (if_neg (by simp only;omega)).trans (if_pos (by simp only [linesF];omega))]
 ·rw [show checkF (k,a,b,c,d,s,p,(n,m),l)=2 from (if_neg (by simp only;omega)).trans ((if_neg (by simp only [linesF];omega)).trans (if_pos (by simp only [linesF];omega)))]
 ·rw [show checkF (k,a,b,c,d,s,p,(n,m),l)=25 from if_pos (by simp only;omega)]
 ·have:=partF_len k;omega
 ·rename_i h1 x h2 h3 h4 h5;rw [checkF_ok (c:=(k,a,b,c,d,s,p,(n,m),l)) h1.1 h1.2.1 h1.2.2.1 h1.2.2.2,if_pos (badF_true (c:=(k,a,b,c,d,s,p,(n,m),l)) h2.1 h3 ⟨h4,h5⟩)]
 ·rename_i x h2 h3 h4 h5 i i0 i1 hb;by_cases hi:i<x.fst
  ·exact h2.2.2 i i0 hi hb
  ·obtain rfl:i=x.fst:=by omega
   exact hb.2 h5
 ·rename_i x h2 h3 h4 i i0 i1 hb;by_cases hi:i<x.fst
  ·exact h2.2.2 i i0 hi hb
  ·obtain rfl:i=x.fst:=by omega
   exact hb.1 h4
 ·rename_i h1 x h2 h3;rw [checkF_ok (c:=(k,a,b,c,d,s,p,(n,m),l)) h1.1 h1.2.1 h1.2.2.1 h1.2.2.2,badF_false fun i i0 i1=>h2.2.2 i i0 (by omega)];rfl
theorem check_pure (k a b c d:Int) (s p:Bool) (n m:Int) (l:List LnD):Pure Tryz.prog 33 [.agg [.int .i64 k, .int .i64 a, .int .i64 b, .int .i64 c, .int .i64 d, .bool s, .bool p, .int .i64 n, .int .i64 m, .list .tmp LnT l]] (.int .i64 (checkF (k,a,b,c,d,s,p,(n,m),l))):=
 by have k:=Pure.of_cond (g_check_eq k a b c d s p n m l) (g_check_ok k a b c d s p n m l) (specs_okz rfl [sp_contains,sp_said] [] [] [sp_forms] rfl rfl rfl rfl) mixed Tryz.func33;exact k
noncomputable def q_check (k a b c d:Int) (s p:Bool) (n m:Int) (l:List LnD):Prop×V:=(True,(.int .i64 (checkF (k,a,b,c,d,s,p,(n,m),l))))
noncomputable def sp_check:FSpec Tryz.prog where
 f:=33
 run:=fun
  |[.agg [.int .i64 k, .int .i64 a, .int .i64 b, .int .i64 c, .int .i64 d,v0_5,v0_6, .int .i64 n, .int .i64 m,v0_9]]=>(boolOf v0_5).bind fun s=>(boolOf v0_6).bind fun p=>(asL LnT v0_9:Option (List LnD)).bind fun l=>some (q_check k a b c d s p n m l)
  |_=>none
 ok:=fun args pre r h hp=>by
  split at h
  ·rename_i k a b c d v0_5 v0_6 n m v0_9;obtain ⟨s,h0_5,h⟩:=Option.bind_eq_some_iff.1 h;obtain ⟨p,h0_6,h⟩:=Option.bind_eq_some_iff.1 h;obtain ⟨l,h0_9,h⟩:=Option.bind_eq_some_iff.1 h;exact of_q h hp fun h=>(check_pure k a b c d s p n m l).weak (.cons (Weak.agg (.cons (.refl _) (.cons (.refl _) (.cons (.refl _) (.cons (.refl _) (.cons (.refl _) (.cons (boolOf_weak h0_5) (.cons (boolOf_weak h0_6) (.cons (.refl _) (.cons (.refl _) (.cons (asL_weak h0_9) .nil))))))))))) .nil)
  ·cases h
end Go.Proofs.YtabicbgeoiilmaaGreat.Cmd
end
section
namespace Go.Proofs.YtabicbgeoiilmaaGreat.Cmd
open Go.Vm
set_option maxRecDepth 20000
end Go.Proofs.YtabicbgeoiilmaaGreat.Cmd
end
