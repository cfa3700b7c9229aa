/-
  The document's Encode, Decode: the walks.
-/
import Derived.Test.YtabicbgeoiilmaaGreatDoorDry1
namespace Go.Proofs.YtabicbgeoiilmaaGreatDoor.Dry
open Go.Vm
set_option maxRecDepth 20000
def fstF (L:List Cm.CmD):List UInt8:=bodyF (L.map Cm.printF)
theorem texts_pre {L:List Cm.CmD}: ∀i,i<=L.length->(∀c∈L.take i,(Cm.printF c).2=0)->textsL L=(L.take i).map Cm.printF++textsL (L.drop i)
 |0,_,_=>rfl
 |i+1,hi,h=>by
  have hx:L[i]? =some L[i]:=List.getElem?_eq_getElem (by omega);rw [List.take_add_one,hx] at h⊢;rw [texts_pre i (by omega) (fun c hc=>h c (List.mem_append_left _ hc)),texts_next hx,if_pos (h _ (List.mem_append_right _ (by simp))),List.map_append,List.append_assoc];rfl
theorem find_pre {T:List Cm.CmD} (h: ∀c∈T,(Cm.printF c).2=0):(T.map Cm.printF).find? badX=none:=by
 rw [List.find?_eq_none];intro x hx;obtain ⟨c,hc,rfl⟩:=List.mem_map.1 hx;unfold badX;rw [h c hc];decide
theorem enc_bad {L:List Cm.CmD} {i:Nat} {c:Cm.CmD} (hL:L.length<=10000) (hx:L[i]? =some c) (h: ∀d∈L.take i,(Cm.printF d).2=0) (hc: ¬(Cm.printF c).2=0):encodeF L=([],(Cm.printF c).2):=by
 have hi:=(List.getElem?_eq_some_iff.1 hx).1;unfold encodeF;rw [if_neg (by omega),texts_pre i (by omega) h,texts_next hx,List.find?_append,find_pre h,Option.none_or,List.find?_cons_of_pos (by unfold badX;exact decide_eq_true hc)]
theorem enc_good {L:List Cm.CmD} (hL:L.length<=10000) (h: ∀d∈L,(Cm.printF d).2=0):encodeF L=if 1000000<(headF L++fstF L).length then ([],3) else (headF L++fstF L,0):=by
 have e:textsL L=L.map Cm.printF:=by
  have:=texts_pre L.length (Nat.le_refl _) (by rw [List.take_length];exact h);rw [this,List.take_length,List.drop_length];exact List.append_nil _
 unfold encodeF;rw [if_neg (by omega),e,find_pre h];rfl
theorem fst_next {L:List Cm.CmD} {i:Nat} {c:Cm.CmD} (hx:L[i]? =some c):fstF (L.take (i+1))=fstF (L.take i)++((Cm.printF c).1++[10]):=by
 unfold fstF;rw [List.take_add_one,hx];simp [bodyF]
theorem fst_len {L:List Cm.CmD} (h: ∀c∈L,Cm.InC c):(fstF L).length<=9001*L.length:=by
 have:=body_len (T:=L.map Cm.printF) (fun x hx=>by
  obtain ⟨c,hc,rfl⟩:=List.mem_map.1 hx;exact print_len (h c hc))
 rwa [List.length_map] at this
noncomputable def env_rencode (L:List Cm.CmD):Env where
 P:=Tryz.prog
 ty:=tys1
 specs:=specsOf [sp_rdigitsOf,Cm.sp_rprint]
 heads:=fun|5=>some {slots:=[(5, .int .i64),(4, .str)],boxes:=[],inv:=fun _ (x:Int×By×Unit)=>0<=x.1/\x.1<=L.length/\L.length<=10000/\x.2.1=headF L++fstF (L.take x.1.toNat)/\∀c∈L.take x.1.toNat,(Cm.printF c).2=0,measure:=fun _ (x:Int×By×Unit)=>(L.length-x.1).toNat}|_=>none
def g_rencode_vc (L:List Cm.CmD):Prop:=
 (decide ((10000:Int)<(↑L.length:Int))=true->([],(3:Int),())=((encodeF L).1,(encodeF L).2,()))/\(decide ((10000:Int)<(↑L.length:Int))=false->InI (↑L.length:Int)/\(4:Nat)+(Lib.itoa (↑L.length:Int)).length<=(9223372036854775807:Nat)/\([(108:UInt8),(111:UInt8),(103:UInt8),(32:UInt8)]++Lib.itoa (↑L.length:Int)).length+(1:Nat)<=(9223372036854775807:Nat)/\(True/\0<=(0:Int)/\0<=(↑L.length:Int)/\L.length<=(10000:Nat)/\[(108:UInt8),(111:UInt8),(103:UInt8),(32:UInt8)]++Lib.itoa (↑L.length:Int)++[(10:UInt8)]=headF L++fstF (List.take (Int.toNat (0:Int)) L)/\∀(c:Int×Int×Int×Int×Int×Bool×Bool×(Int×Int)×List (Int×Int×Int×Int)),c∈List.take (Int.toNat (0:Int)) L->(Cm.printF c).2=(0:Int))/\∀(x:Int×List UInt8×Unit),(0<=x.1/\x.1<=(↑L.length:Int)/\L.length<=(10000:Nat)/\x.2.1=headF L++fstF (List.take x.1.toNat L)/\∀(c:Int×Int×Int×Int×Int×Bool×Bool×(Int×Int)×List (Int×Int×Int×Int)),c∈List.take x.1.toNat L->(Cm.printF c).2=(0:Int))->(decide (x.1<(↑L.length:Int))=true->(0<=x.1/\x.1<(↑L.length:Int))/\∀(x_1:Int×Int×Int×Int×Int×Bool×Bool×(Int×Int)×List (Int×Int×Int×Int)),L[x.1.toNat]? =some x_1->Cm.InC x_1/\((!decide ((Cm.printF x_1).2=(0:Int)))=true->([],(Cm.printF x_1).2,())=((encodeF L).1,(encodeF L).2,()))/\((!decide ((Cm.printF x_1).2=(0:Int)))=false->x.2.1.length+(Cm.printF x_1).1.length<=(9223372036854775807:Nat)/\(x.2.1++(Cm.printF x_1).1).length+(1:Nat)<=(9223372036854775807:Nat)/\(-9223372036854775808<=x.1+1/\x.1+1<=9223372036854775807)/\True/\(0<=x.1+1/\x.1+1<=(↑L.length:Int)/\L.length<=(10000:Nat)/\x.2.1++(Cm.printF x_1).1++[(10:UInt8)]=headF L++fstF (List.take (x.1+1).toNat L)/\∀(c:Int×Int×Int×Int×Int×Bool×Bool×(Int×Int)×List (Int×Int×Int×Int)),c∈List.take (x.1+1).toNat L->(Cm.printF c).2=(0:Int))/\((↑L.length:Int)-(x.1+1)).toNat<((↑L.length:Int)-x.1).toNat))/\(decide (x.1<(↑L.length:Int))=false->(decide ((1000000:Int)<(↑x.2.1.length:Int))=true->([],(3:Int),())=((encodeF L).1,(encodeF L).2,()))/\(decide ((1000000:Int)<(↑x.2.1.length:Int))=false->(x.2.1,(0:Int),())=((encodeF L).1,(encodeF L).2,()))))
theorem g_rencode_ok (L:List Cm.CmD) (h: ∀c∈L,Cm.InC c):g_rencode_vc L:=by
 unfold g_rencode_vc;simp only [decide_eq_true_eq,decide_eq_false_iff_not,Bool.not_eq_true',Bool.not_eq_false',Bool.not_true,Bool.not_false];have e: ∀r,encodeF L=r->(r.1,r.2,())=((encodeF L).1,(encodeF L).2,()):=fun r h=>by rw [h]
 refine ⟨fun c=>e _ (if_pos (by omega)),fun c=> ?_⟩;have hL:L.length<=10000:=by omega
 have hLi:InI (L.length:Int):=⟨by omega,by omega⟩
 have hil:=itoa_len hLi;refine ⟨hLi,by omega,by simp only [List.length_append,List.length_cons,List.length_nil];omega,⟨trivial,by omega,by omega,hL,by simp [headF,logW,fstF,bodyF],fun c hc=>by simp at hc⟩, ?_⟩;rintro ⟨i,t,⟨⟩⟩ ⟨i0,i1, -,ht,hok⟩;dsimp only at i0 i1 ht hok⊢;have hb:=fst_len (L:=L.take i.toNat) (fun c hc=>h c (List.mem_of_mem_take hc));have hb2:(L.take i.toNat).length<=10000:=Nat.le_trans (List.length_take_le _ _) (by omega);have htl:t.length<=90100000:=by
  rw [ht];simp only [headF,logW,List.length_append,List.length_cons,List.length_nil];omega
 refine ⟨fun g=>⟨⟨i0,g⟩,fun x hx=>⟨h x (List.mem_of_getElem? hx),fun a=>e _ (enc_bad hL hx hok a),fun a=> ?_⟩⟩,fun g=> ?_⟩
 ·have hp:=print_len (h x (List.mem_of_getElem? hx));have hp:(Cm.printF (x.1,x.2.1,x.2.2.1,x.2.2.2.1,x.2.2.2.2.1,x.2.2.2.2.2.1,x.2.2.2.2.2.2.1,(x.2.2.2.2.2.2.2.1.1,x.2.2.2.2.2.2.2.1.2),x.2.2.2.2.2.2.2.2)).1.length<=9000:=hp;refine ⟨by omega,by rw [List.length_append];omega,⟨by omega,by omega⟩,trivial,⟨by omega,by omega,hL, ?_,fun c hc=> ?_⟩,by omega⟩
  ·rw [show (i+1).toNat=i.toNat+1 by omega,fst_next hx,ht,List.append_assoc,List.append_assoc]
  ·rw [show (i+1).toNat=i.toNat+1 by omega,List.take_add_one,hx] at hc;rcases List.mem_append.1 hc with hc|hc
   ·exact hok c hc
   ·have:c=x:=by simpa using hc
    rw [this];exact a
 ·rw [List.take_of_length_le (by omega)] at ht hok;have hg:=enc_good hL hok;rw [<-ht] at hg;exact ⟨fun b=>e _ (hg.trans (if_pos (by omega))),fun b=>e _ (hg.trans (if_neg (by omega)))⟩
noncomputable def sp_rencode:FSpec Tryz.prog:=mkF 10 (.c (.l Cm) .z) [.str, .int .i64] (fun x=>(fun (L:List Cm.CmD)=>(∀c∈L,Cm.InC c,(encodeF L).1,(encodeF L).2,())) x.1) fun ⟨L,_⟩ h=>Pure.of_cond (E:=env_rencode L) (by kernel_rfl) (g_rencode_ok L h) (specs_ok rfl _ [] rfl rfl) mixed Tryz.func10
open Classical in
noncomputable def sameL (l m:List Cm.CmD):Bool:=decide (l=m)
def fewC (l:List Cm.CmD):Bool:=decide (l.length<=40)&& !l.any fun c=>decide (60<(Cm.linesF c).length)
noncomputable def env_few (l:List Cm.CmD):Env where
 P:=Tryz.prog
 ty:=tys1
 heads:=fun|4=>some {slots:=[(3, .int .i64)],boxes:=[],inv:=fun _ (x:Int×Unit)=>0<=x.1/\x.1<=l.length/\l.length<=40/\(l.take x.1.toNat).any (fun c=>decide (60<(Cm.linesF c).length))=false,measure:=fun _ (x:Int×Unit)=>(l.length-x.1).toNat}|_=>none
def g_few_vc (l:List Cm.CmD):Prop:=
 (decide ((40:Int)<(↑l.length:Int))=true->(false,())=(fewC l,()))/\(decide ((40:Int)<(↑l.length:Int))=false->(True/\0<=(0:Int)/\0<=(↑l.length:Int)/\l.length<=(40:Nat)/\((List.take (Int.toNat (0:Int)) l).any fun c=>decide ((60:Nat)<(Cm.linesF c).length))=false)/\∀(x:Int×Unit),0<=x.1/\x.1<=(↑l.length:Int)/\l.length<=(40:Nat)/\((List.take x.1.toNat l).any fun c=>decide ((60:Nat)<(Cm.linesF c).length))=false->(decide (x.1<(↑l.length:Int))=true->(0<=x.1/\x.1<(↑l.length:Int))/\∀(x_1:Int×Int×Int×Int×Int×Bool×Bool×(Int×Int)×List (Int×Int×Int×Int)),l[x.1.toNat]? =some x_1->(decide ((60:Int)<(↑x_1.2.2.2.2.2.2.2.2.length:Int))=true->(false,())=(fewC l,()))/\(decide ((60:Int)<(↑x_1.2.2.2.2.2.2.2.2.length:Int))=false->(-9223372036854775808<=x.1+1/\x.1+1<=9223372036854775807)/\True/\(0<=x.1+1/\x.1+1<=(↑l.length:Int)/\l.length<=(40:Nat)/\((List.take (x.1+1).toNat l).any fun c=>decide ((60:Nat)<(Cm.linesF c).length))=false)/\((↑l.length:Int)-(x.1+1)).toNat<((↑l.length:Int)-x.1).toNat))/\(decide (x.1<(↑l.length:Int))=false->(true,())=(fewC l,())))
theorem g_few_ok (l:List Cm.CmD) (h:l.length<=9223372036854775807):g_few_vc l:=by
 unfold g_few_vc fewC;simp only [decide_eq_true_eq,decide_eq_false_iff_not,Bool.not_eq_true',Bool.not_eq_false',Bool.not_true,Bool.not_false];refine ⟨fun c=>by rw [decide_eq_false (by omega)];rfl,fun c=>⟨⟨trivial,by omega,by omega,by omega,rfl⟩, ?_⟩⟩;rintro ⟨i,⟨⟩⟩ ⟨i0,i1,i2,ht⟩;dsimp only at i0 i1 ht⊢;refine ⟨fun g=>⟨⟨i0,g⟩,fun x hx=>⟨fun a=> ?_,fun a=>⟨by omega,trivial,⟨by omega,by omega,i2, ?_⟩,by omega⟩⟩⟩,fun g=> ?_⟩
 ·rw [show (l.any fun c=>decide (60<(Cm.linesF c).length))=true from List.any_eq_true.2 ⟨x,List.mem_of_getElem? hx,decide_eq_true (by unfold Cm.linesF;omega)⟩,Bool.not_true,Bool.and_false]
 ·rw [show (i+1).toNat=i.toNat+1 by omega,List.take_add_one,hx,List.any_append,ht];simp only [Option.toList_some,List.any_cons,List.any_nil,Bool.or_false,Bool.false_or];exact decide_eq_false (by unfold Cm.linesF;omega)
 ·rw [List.take_of_length_le (by omega)] at ht;rw [ht,decide_eq_true i2];rfl
noncomputable def sp_few:FSpec Tryz.prog:=mkF 7 (.c (.l Cm) .z) [.bool] (fun x=>(fun (l:List Cm.CmD)=>(l.length<=9223372036854775807,fewC l,())) x.1) fun ⟨l,_⟩ h=>Pure.of_cond (E:=env_few l) (by kernel_rfl) (g_few_ok l h) (specs_ok rfl [] [] rfl rfl) mixed Tryz.func7
end Go.Proofs.YtabicbgeoiilmaaGreatDoor.Dry
