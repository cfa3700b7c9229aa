/-
  The document's Encode, Decode: the walks.
-/
import Derived.Test.YtabicbgeoiilmaaGreatDoorDry1
namespace Go.Proofs.YtabicbgeoiilmaaGreatDoor.Dry
open Go.Vm
theorem num_zero {s:By} {a lo hi:Int} (h: ¬(numF s a lo hi).2.2=0):(numF s a lo hi).1=0:=by
 unfold numF at h⊢;split
 ·rfl
 ·rename_i c1;rw [if_neg c1] at h;split
  ·rfl
  ·rename_i c2;rw [if_neg c2] at h;split
   ·rfl
   ·rename_i c3;rw [if_neg c3] at h;split
    ·rename_i c4;rw [if_pos c4] at h;exact absurd rfl h
    ·rfl
noncomputable def env_rfirst (s:By):Env where
 P:=Tryz.prog
 ty:=tys0
 specs:=specsOf [sp_rlit,sp_rnum]
def g_rfirst_vc (s:By):Prop:=
 (List.length s<=(1000000:Nat)/\(4:Nat)<=(1000000:Nat))/\((!decide ((litF s (0:Int) [(108:UInt8),(111:UInt8),(103:UInt8),(32:UInt8)]).2=(0:Int)))=true->((0:Int),(litF s (0:Int) [(108:UInt8),(111:UInt8),(103:UInt8),(32:UInt8)]).2,())=((firstF s).1,(firstF s).2,()))/\((!decide ((litF s (0:Int) [(108:UInt8),(111:UInt8),(103:UInt8),(32:UInt8)]).2=(0:Int)))=false->List.length s<=(10000:Nat)/\(decide ((numF s (litF s (0:Int) [(108:UInt8),(111:UInt8),(103:UInt8),(32:UInt8)]).1 (0:Int) (10000:Int)).2.2=(0:Int))=true->(decide ((numF s (litF s (0:Int) [(108:UInt8),(111:UInt8),(103:UInt8),(32:UInt8)]).1 (0:Int) (10000:Int)).2.1<(↑(List.length s):Int))=true->((0:Int),(6:Int),())=((firstF s).1,(firstF s).2,()))/\(decide ((numF s (litF s (0:Int) [(108:UInt8),(111:UInt8),(103:UInt8),(32:UInt8)]).1 (0:Int) (10000:Int)).2.1<(↑(List.length s):Int))=false->((numF s (litF s (0:Int) [(108:UInt8),(111:UInt8),(103:UInt8),(32:UInt8)]).1 (0:Int) (10000:Int)).1,(numF s (litF s (0:Int) [(108:UInt8),(111:UInt8),(103:UInt8),(32:UInt8)]).1 (0:Int) (10000:Int)).2.2,())=((firstF s).1,(firstF s).2,())))/\(decide ((numF s (litF s (0:Int) [(108:UInt8),(111:UInt8),(103:UInt8),(32:UInt8)]).1 (0:Int) (10000:Int)).2.2=(0:Int))= !true->((numF s (litF s (0:Int) [(108:UInt8),(111:UInt8),(103:UInt8),(32:UInt8)]).1 (0:Int) (10000:Int)).1,(numF s (litF s (0:Int) [(108:UInt8),(111:UInt8),(103:UInt8),(32:UInt8)]).1 (0:Int) (10000:Int)).2.2,())=((firstF s).1,(firstF s).2,())))
theorem g_rfirst_ok (s:By) (h:s.length<=10000):g_rfirst_vc s:=by
 unfold g_rfirst_vc;simp only [decide_eq_true_eq,decide_eq_false_iff_not,Bool.not_eq_true',Bool.not_eq_false',Bool.not_true,Bool.not_false];have e: ∀r,firstF s=r->(r.1,r.2,())=((firstF s).1,(firstF s).2,()):=fun r h=>by rw [h]
 refine ⟨⟨by omega,by decide⟩,fun c=>e _ (if_pos c),fun c=>⟨h,fun d=>⟨fun f=>e (0,6) ?_,fun f=> ?_⟩,fun d=> ?_⟩⟩
 ·exact (if_neg (fun k=>k c)).trans ((if_neg (fun k=>k d)).trans (if_pos f))
 ·have d':(numF s (litF s 0 logW).1 0 10000).2.2=0:=d;rw [d'];exact e ((numF s (litF s 0 logW).1 0 10000).1,0) ((if_neg (fun k=>k c)).trans ((if_neg (fun k=>k d)).trans (if_neg f)))
 ·rw [num_zero d];exact e (0,(numF s (litF s 0 logW).1 0 10000).2.2) ((if_neg (fun k=>k c)).trans (if_pos d))
set_option maxRecDepth 20000
noncomputable def sp_rfirst:FSpec Tryz.prog:=mkF 31 (.c .s .z) [.int .i64, .int .i64] (fun x=>(fun (s:By)=>(s.length<=10000,(firstF s).1,(firstF s).2,())) x.1) fun ⟨s,_⟩ h=>Pure.of_cond (E:=env_rfirst s) (by kernel_rfl) (g_rfirst_ok s h) (specs_ok rfl _ [] rfl rfl) mixed Tryz.func31
noncomputable def env_rdecode (s:By):Env where
 P:=Tryz.prog
 ty:=tys1
 specs:=specsOf [sp_rline,sp_rfirst,Cm.sp_rparse]
 heads:=fun|11=>some {slots:=[(9, .slc 9000 Cm),(6, .int .i64),(10, .int .i64)],boxes:=[],drop:=[5,7,11,12,13,14,40,41,42,43,44,45,46,47,48,49,50,51,52,53,54,55,56,57,58,59,60,61,62,63,64],inv:=fun _ (x:List Cm.CmD×Int×Int×Unit)=>x.2.2.1=x.1.length+1/\x.1.length<=(firstF (lineF s 0).1).1.toNat/\decodeF s=decGo s ((firstF (lineF s 0).1).1.toNat-x.1.length) x.2.1 x.1,measure:=fun _ (x:List Cm.CmD×Int×Int×Unit)=>(firstF (lineF s 0).1).1.toNat-x.1.length}|_=>none
def g_rdecode_vc (s:By):Prop:=
 (decide ((1000000:Int)<(↑(List.length s):Int))=true->([],(0:Int),(3:Int),())=((decodeF s).1,(decodeF s).2.1,(decodeF s).2.2,()))/\(decide ((1000000:Int)<(↑(List.length s):Int))=false->List.length s<=(1000000:Nat)/\((!decide ((lineF s (0:Int)).2.2=(0:Int)))=true->([],(0:Int),(lineF s (0:Int)).2.2,())=((decodeF s).1,(decodeF s).2.1,(decodeF s).2.2,()))/\((!decide ((lineF s (0:Int)).2.2=(0:Int)))=false->List.length (lineF s (0:Int)).1<=(10000:Nat)/\((!decide ((firstF (lineF s (0:Int)).1).2=(0:Int)))=true->([],(0:Int),(firstF (lineF s (0:Int)).1).2,())=((decodeF s).1,(decodeF s).2.1,(decodeF s).2.2,()))/\((!decide ((firstF (lineF s (0:Int)).1).2=(0:Int)))=false->(True/\(1:Int)=(↑(0:Nat):Int)+1/\(0:Nat)<=(firstF (lineF s (0:Int)).1).1.toNat/\decodeF s=decGo s ((firstF (lineF s (0:Int)).1).1.toNat-(0:Nat)) (lineF s (0:Int)).2.1 [])/\∀(x:List (Int×Int×Int×Int×Int×Bool×Bool×(Int×Int)×List (Int×Int×Int×Int))×Int×Int×Unit),x.2.2.1=(↑x.1.length:Int)+1/\x.1.length<=(firstF (lineF s (0:Int)).1).1.toNat/\decodeF s=decGo s ((firstF (lineF s (0:Int)).1).1.toNat-x.1.length) x.2.1 x.1->(decide (x.2.2.1<=(firstF (lineF s (0:Int)).1).1)=true->List.length s<=(1000000:Nat)/\((!decide ((lineF s x.2.1).2.2=(0:Int)))=true->([],x.2.2.1,(lineF s x.2.1).2.2,())=((decodeF s).1,(decodeF s).2.1,(decodeF s).2.2,()))/\((!decide ((lineF s x.2.1).2.2=(0:Int)))=false->List.length (lineF s x.2.1).1<=(10000:Nat)/\((!decide ((Cm.rparseF (lineF s x.2.1).1).2=(0:Int)))=true->([],x.2.2.1,(Cm.rparseF (lineF s x.2.1).1).2,())=((decodeF s).1,(decodeF s).2.1,(decodeF s).2.2,()))/\((!decide ((Cm.rparseF (lineF s x.2.1).1).2=(0:Int)))=false->((x.1.length+(1:Nat))*(88:Nat)<=(140737488355328:Nat)/\x.1.length+(1:Nat)<=(4611686018427387904:Nat))/\(-9223372036854775808<=x.2.2.1+1/\x.2.2.1+1<=9223372036854775807)/\True/\(x.2.2.1+1=(↑(x.1++[(Cm.rparseF (lineF s x.2.1).1).1]).length:Int)+1/\(x.1++[(Cm.rparseF (lineF s x.2.1).1).1]).length<=(firstF (lineF s (0:Int)).1).1.toNat/\decodeF s=decGo s ((firstF (lineF s (0:Int)).1).1.toNat-(x.1++[(Cm.rparseF (lineF s x.2.1).1).1]).length) (lineF s x.2.1).2.1 (x.1++[(Cm.rparseF (lineF s x.2.1).1).1]))/\(firstF (lineF s (0:Int)).1).1.toNat-(x.1++[(Cm.rparseF (lineF s x.2.1).1).1]).length<(firstF (lineF s (0:Int)).1).1.toNat-x.1.length)))/\(decide (x.2.2.1<=(firstF (lineF s (0:Int)).1).1)=false->(decide (x.2.1<(↑(List.length s):Int))=true->(-9223372036854775808<=(firstF (lineF s (0:Int)).1).1+1/\(firstF (lineF s (0:Int)).1).1+1<=9223372036854775807)/\([],(firstF (lineF s (0:Int)).1).1+1,(6:Int),())=((decodeF s).1,(decodeF s).2.1,(decodeF s).2.2,()))/\(decide (x.2.1<(↑(List.length s):Int))=false->(x.1,(firstF (lineF s (0:Int)).1).1,(0:Int),())=((decodeF s).1,(decodeF s).2.1,(decodeF s).2.2,()))))))
theorem g_rdecode_ok (s:By) (h:LnOk s):g_rdecode_vc s:=by
 unfold g_rdecode_vc;simp only [decide_eq_true_eq,decide_eq_false_iff_not,Bool.not_eq_true',Bool.not_eq_false',Bool.not_true,Bool.not_false,Cm.rparse_eq];have e: ∀r,decodeF s=r->(r.1,r.2.1,r.2.2,())=((decodeF s).1,(decodeF s).2.1,(decodeF s).2.2,()):=fun r h=>by rw [h]
 refine ⟨fun c=>e _ (if_pos (by omega)),fun c=> ?_⟩;have hl:s.length<=1000000:=by omega
 have c': ¬1000000<s.length:=by omega
 refine ⟨hl,fun d=>e _ ((if_neg c').trans (if_pos d)),fun d=>⟨h 0,fun f=>e _ ((if_neg c').trans ((if_neg (fun k=>k d)).trans (if_pos f))),fun f=> ?_⟩⟩;obtain ⟨f1,f2⟩:=first_in f;have hd:decodeF s=decGo s (firstF (lineF s 0).1).1.toNat (lineF s 0).2.1 []:=(if_neg c').trans ((if_neg (fun k=>k d)).trans (if_neg (fun k=>k f)));generalize (firstF (lineF s 0).1).1=n at*;refine ⟨⟨trivial,rfl,Nat.zero_le _,hd⟩, ?_⟩;rintro ⟨l,a,i,⟨⟩⟩ ⟨h0,h1,h2⟩;dsimp only at h0 h1 h2⊢;subst h0;refine ⟨fun g2=> ?_,fun g2=> ?_⟩
 ·obtain ⟨k,hk⟩: ∃k,n.toNat-l.length=k+1:=⟨n.toNat-l.length-1,by omega⟩
  have hx:=h2;rw [hk,decGo] at hx;refine ⟨hl,fun a1=>e _ (hx.trans (if_pos a1)),fun a1=>⟨h _,fun b=>e _ (hx.trans ((if_neg (fun k=>k a1)).trans (if_pos b))),fun b=>⟨⟨by omega,by omega⟩,by omega,trivial,⟨by rw [List.length_append,List.length_singleton];omega,by rw [List.length_append,List.length_singleton];omega, ?_⟩,by rw [List.length_append,List.length_singleton];omega⟩⟩⟩;rw [List.length_append,List.length_singleton,show n.toNat-(l.length+1)=k by omega];exact hx.trans ((if_neg (fun k=>k a1)).trans (if_neg (fun k=>k b)))
 ·have hx:=h2;rw [show n.toNat-l.length=0 by omega] at hx;rw [show n=(l.length:Int) by omega];exact ⟨fun b=>⟨by omega,e _ (hx.trans (if_pos b))⟩,fun b=>e _ (hx.trans (if_neg b))⟩
noncomputable def sp_rdecode:FSpec Tryz.prog:=mkF 12 (.c .s .z) [.slc 9001 Cm, .int .i64, .int .i64] (fun x=>(fun (s:By)=>(LnOk s,(decodeF s).1,(decodeF s).2.1,(decodeF s).2.2,())) x.1) fun ⟨s,_⟩ h=>Pure.of_cond (E:=env_rdecode s) (by kernel_rfl) (g_rdecode_ok s h) (specs_ok rfl _ [] rfl rfl) mixed Tryz.func12
open Classical in
noncomputable def sameL (l m:List Cm.CmD):Bool:=decide (l=m)
theorem sameL_yes {l m:List Cm.CmD} (h:l=m):sameL l m=true:=by
 unfold sameL;exact @decide_eq_true _ (_) h
theorem sameL_no {l m:List Cm.CmD} (h: ¬l=m):sameL l m=false:=by
 unfold sameL;exact @decide_eq_false _ (_) h
noncomputable def env_sameAll (l m:List Cm.CmD):Env where
 P:=Tryz.prog
 ty:=tys1
 specs:=specsOf [Cm.sp_csame]
 frz:=fun|25=>true|_=>false
 heads:=fun|4=>some {slots:=[(5, .int .i64)],boxes:=[],inv:=fun _ (x:Int×Unit)=>0<=x.1/\x.1<=l.length/\l.take x.1.toNat=m.take x.1.toNat,measure:=fun _ (x:Int×Unit)=>(l.length-x.1).toNat}|_=>none
def g_sameAll_vc (l:List Cm.CmD) (m:List Cm.CmD):Prop:=
 ((!decide ((↑l.length:Int)=(↑m.length:Int)))=true->(false,())=(sameL l m,()))/\((!decide ((↑l.length:Int)=(↑m.length:Int)))=false->(True/\0<=(0:Int)/\0<=(↑l.length:Int)/\List.take (Int.toNat (0:Int)) l=List.take (Int.toNat (0:Int)) m)/\∀(x:Int×Unit),0<=x.1/\x.1<=(↑l.length:Int)/\List.take x.1.toNat l=List.take x.1.toNat m->(decide (x.1<(↑l.length:Int))=true->(0<=x.1/\x.1<(↑l.length:Int))/\∀(x_1:Int×Int×Int×Int×Int×Bool×Bool×(Int×Int)×List (Int×Int×Int×Int)),l[x.1.toNat]? =some x_1->(0<=x.1/\x.1<(↑m.length:Int))/\∀(x_2:Int×Int×Int×Int×Int×Bool×Bool×(Int×Int)×List (Int×Int×Int×Int)),m[x.1.toNat]? =some x_2->x_1.2.2.2.2.2.2.2.2.length<=(1000000000:Nat)/\((!Cm.sameC x_1 x_2)=true->(false,())=(sameL l m,()))/\((!Cm.sameC x_1 x_2)=false->(-9223372036854775808<=x.1+1/\x.1+1<=9223372036854775807)/\True/\(0<=x.1+1/\x.1+1<=(↑l.length:Int)/\List.take (x.1+1).toNat l=List.take (x.1+1).toNat m)/\((↑l.length:Int)-(x.1+1)).toNat<((↑l.length:Int)-x.1).toNat))/\(decide (x.1<(↑l.length:Int))=false->(true,())=(sameL l m,())))
theorem g_sameAll_ok (l m:List Cm.CmD) (h:l.length<=1000000/\∀c∈l,(Cm.linesF c).length<=1000000000):g_sameAll_vc l m:=by
 unfold g_sameAll_vc;simp only [decide_eq_true_eq,decide_eq_false_iff_not,Bool.not_eq_true',Bool.not_eq_false',Bool.not_true,Bool.not_false];refine ⟨fun c=>by rw [sameL_no (fun e=>c (by rw [e]))],fun c=>⟨⟨trivial,by omega,by omega,rfl⟩, ?_⟩⟩;rintro ⟨i,⟨⟩⟩ ⟨i0,i1,ht⟩;dsimp only at i0 i1 ht⊢;refine ⟨fun g=>⟨⟨i0,g⟩,fun x hx=>⟨⟨i0,by omega⟩,fun y hy=>⟨h.2 x (List.mem_of_getElem? hx),fun a=> ?_,fun a=>⟨by omega,trivial,⟨by omega,by omega, ?_⟩,by omega⟩⟩⟩⟩,fun g=> ?_⟩
 ·rw [sameL_no];intro e;subst e;rw [hx] at hy;cases hy;have:Cm.sameC x x=true:=(Cm.sameC_iff x x).2 rfl;exact absurd (this.symm.trans a) (by decide)
 ·have a:x=y:=(Cm.sameC_iff x y).1 a;subst a;rw [show (i+1).toNat=i.toNat+1 by omega,List.take_add_one,List.take_add_one,hx,hy,ht]
 ·rw [List.take_of_length_le (by omega),List.take_of_length_le (by omega)] at ht;rw [sameL_yes ht]
noncomputable def sp_sameAll:FSpec Tryz.prog:=mkF 13 (.c (.l Cm) (.c (.l Cm) .z)) [.bool] (fun x=>(fun (l m:List Cm.CmD)=>(l.length<=1000000/\∀c∈l,(Cm.linesF c).length<=1000000000,sameL l m,())) x.1 x.2.1) fun ⟨l,m,_⟩ h=>Pure.of_cond (E:=env_sameAll l m) (by kernel_rfl) (g_sameAll_ok l m h) (specs_ok rfl _ [] rfl rfl) mixed Tryz.func13
end Go.Proofs.YtabicbgeoiilmaaGreatDoor.Dry
