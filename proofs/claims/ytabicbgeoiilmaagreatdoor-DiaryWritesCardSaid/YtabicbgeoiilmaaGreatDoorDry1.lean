/-
  diary.Decode: the walk.
-/
import Derived.Test.YtabicbgeoiilmaaGreatDoorEnc3
namespace Go.Proofs.YtabicbgeoiilmaaGreatDoor.Dry
open Go.Vm
noncomputable def tys1:TypeId->Option Ty:=fun|57=>some Cm|i=>tys0 i
def firstF (s:By):Int×Int:=
 if (litF s 0 logW).2≠0 then (0,(litF s 0 logW).2) else if (numF s (litF s 0 logW).1 0 10000).2.2≠0 then (0,(numF s (litF s 0 logW).1 0 10000).2.2)
 else if (numF s (litF s 0 logW).1 0 10000).2.1<s.length then (0,6) else ((numF s (litF s 0 logW).1 0 10000).1,0)
noncomputable def env_first (s:By):Env where
 P:=Tryz.prog
 ty:=tys0
 specs:=specsOf [sp_lit,sp_num]
def g_first_vc (s:By):Prop:=
 (List.length s<=(1000000:Nat)/\(4:Nat)<=(1000000:Nat))/\((!decide ((litF s (0:Int) [(108:UInt8),(111:UInt8),(103:UInt8),(32:UInt8)]).2=(0:Int)))=true->((0:Int),(litF s (0:Int) [(108:UInt8),(111:UInt8),(103:UInt8),(32:UInt8)]).2,())=((firstF s).1,(firstF s).2,()))/\((!decide ((litF s (0:Int) [(108:UInt8),(111:UInt8),(103:UInt8),(32:UInt8)]).2=(0:Int)))=false->List.length s<=(10000:Nat)/\((!decide ((numF s (litF s (0:Int) [(108:UInt8),(111:UInt8),(103:UInt8),(32:UInt8)]).1 (0:Int) (10000:Int)).2.2=(0:Int)))=true->((0:Int),(numF s (litF s (0:Int) [(108:UInt8),(111:UInt8),(103:UInt8),(32:UInt8)]).1 (0:Int) (10000:Int)).2.2,())=((firstF s).1,(firstF s).2,()))/\((!decide ((numF s (litF s (0:Int) [(108:UInt8),(111:UInt8),(103:UInt8),(32:UInt8)]).1 (0:Int) (10000:Int)).2.2=(0:Int)))=false->(decide ((numF s (litF s (0:Int) [(108:UInt8),(111:UInt8),(103:UInt8),(32:UInt8)]).1 (0:Int) (10000:Int)).2.1<(↑(List.length s):Int))=true->((0:Int),(6:Int),())=((firstF s).1,(firstF s).2,()))/\(decide ((numF s (litF s (0:Int) [(108:UInt8),(111:UInt8),(103:UInt8),(32:UInt8)]).1 (0:Int) (10000:Int)).2.1<(↑(List.length s):Int))=false->((numF s (litF s (0:Int) [(108:UInt8),(111:UInt8),(103:UInt8),(32:UInt8)]).1 (0:Int) (10000:Int)).1,(0:Int),())=((firstF s).1,(firstF s).2,()))))
theorem g_first_ok (s:By) (h:s.length<=10000):g_first_vc s:=by
 unfold g_first_vc;simp only [decide_eq_true_eq,decide_eq_false_iff_not,Bool.not_eq_true',Bool.not_eq_false',Bool.not_true,Bool.not_false];have e: ∀r,firstF s=r->(r.1,r.2,())=((firstF s).1,(firstF s).2,()):=fun r h=>by rw [h]
 refine ⟨⟨by omega,by decide⟩,fun c=>e _ (if_pos c),fun c=>⟨h,fun d=>e _ ((if_neg (fun k=>k c)).trans (if_pos d)),fun d=>⟨fun f=>e (0,6) ?_,fun f=>e ((numF s (litF s 0 logW).1 0 10000).1,0) ?_⟩⟩⟩
 ·exact (if_neg (fun k=>k c)).trans ((if_neg (fun k=>k d)).trans (if_pos f))
 ·exact (if_neg (fun k=>k c)).trans ((if_neg (fun k=>k d)).trans (if_neg f))
set_option maxRecDepth 20000
noncomputable def sp_first:FSpec Tryz.prog:=mkF 28 (.c .s .z) [.int .i64, .int .i64] (fun x=>(fun (s:By)=>(s.length<=10000,(firstF s).1,(firstF s).2,())) x.1) fun ⟨s,_⟩ h=>Pure.of_cond (E:=env_first s) (by kernel_rfl) (g_first_ok s h) (specs_ok rfl _ [] rfl rfl) mixed Tryz.func28
theorem num_in {s:By} {a lo hi:Int} (h:(numF s a lo hi).2.2=0):lo<=(numF s a lo hi).1/\(numF s a lo hi).1<=hi:=by
 unfold numF at h⊢;split at h
 ·cases h
 ·rename_i c1;rw [if_neg c1];split at h
  ·cases h
  ·rename_i c2;rw [if_neg c2];split at h
   ·cases h
   ·rename_i c3;rw [if_neg c3];split at h
    ·rename_i c4;rw [if_pos c4];unfold inR at c4;simp only [Bool.and_eq_true,decide_eq_true_eq] at c4;omega
    ·cases h
theorem first_in {s:By} (h:(firstF s).2=0):0<=(firstF s).1/\(firstF s).1<=10000:=by
 unfold firstF at h⊢;split at h
 ·rename_i c;exact absurd h c
 ·rename_i c1;rw [if_neg c1];split at h
  ·rename_i c;exact absurd h c
  ·rename_i c2;rw [if_neg c2];split at h
   ·cases h
   ·rename_i c3;rw [if_neg c3];exact num_in (Decidable.not_not.1 c2)
def decGo (s:By):Nat->Int->List Cm.CmD->List Cm.CmD×Int×Int
 |0,a,l=>if a<s.length then ([],l.length+1,6) else (l,l.length,0)
 |k+1,a,l=>if (lineF s a).2.2≠0 then ([],l.length+1,(lineF s a).2.2) else if (Cm.cparseF (lineF s a).1).2≠0 then ([],l.length+1,(Cm.cparseF (lineF s a).1).2)
  else decGo s k (lineF s a).2.1 (l++[(Cm.cparseF (lineF s a).1).1])
def decodeF (s:By):List Cm.CmD×Int×Int:=
 if 1000000<s.length then ([],0,3) else if (lineF s 0).2.2≠0 then ([],0,(lineF s 0).2.2) else if (firstF (lineF s 0).1).2≠0 then ([],0,(firstF (lineF s 0).1).2)
 else decGo s (firstF (lineF s 0).1).1.toNat (lineF s 0).2.1 []
def LnOk (s:By):Prop:= ∀a,(lineF s a).1.length<=10000
noncomputable def env_decode (s:By):Env where
 P:=Tryz.prog
 ty:=tys1
 specs:=specsOf [sp_line,sp_first,Cm.sp_cparse]
 joins:=fun|2000000=>some {slots:=[(2, .slc 9000 Cm),(6, .int .i64)],boxes:=[],drop:=[8,58,60,61,59,43,30,54,5,34,35,36,37,38,39,40,41,42,44,45,46,47,48,49,50,51,52,53,55,56,57],inv:=fun _ (x:List Cm.CmD×Int×Unit)=>x.1.length<=(firstF (lineF s 0).1).1.toNat/\decodeF s=decGo s ((firstF (lineF s 0).1).1.toNat-x.1.length) x.2.1 x.1,measure:=fun _ (x:List Cm.CmD×Int×Unit)=>(firstF (lineF s 0).1).1.toNat-x.1.length}|_=>none
def g_decode_vc (s:By):Prop:=
 (decide ((1000000:Int)<(↑(List.length s):Int))=true->([],(0:Int),(3:Int),())=((decodeF s).1,(decodeF s).2.1,(decodeF s).2.2,()))/\(decide ((1000000:Int)<(↑(List.length s):Int))=false->List.length s<=(1000000:Nat)/\((!decide ((lineF s (0:Int)).2.2=(0:Int)))=true->([],(0:Int),(lineF s (0:Int)).2.2,())=((decodeF s).1,(decodeF s).2.1,(decodeF s).2.2,()))/\((!decide ((lineF s (0:Int)).2.2=(0:Int)))=false->List.length (lineF s (0:Int)).1<=(10000:Nat)/\((!decide ((firstF (lineF s (0:Int)).1).2=(0:Int)))=true->([],(0:Int),(firstF (lineF s (0:Int)).1).2,())=((decodeF s).1,(decodeF s).2.1,(decodeF s).2.2,()))/\((!decide ((firstF (lineF s (0:Int)).1).2=(0:Int)))=false->(decide ((0:Int)<(firstF (lineF s (0:Int)).1).1)=true->List.length s<=(1000000:Nat)/\((!decide ((lineF s (lineF s (0:Int)).2.1).2.2=(0:Int)))=true->(-9223372036854775808<=(0:Int)+1/\(0:Int)+1<=9223372036854775807)/\([],(0:Int)+1,(lineF s (lineF s (0:Int)).2.1).2.2,())=((decodeF s).1,(decodeF s).2.1,(decodeF s).2.2,()))/\((!decide ((lineF s (lineF s (0:Int)).2.1).2.2=(0:Int)))=false->List.length (lineF s (lineF s (0:Int)).2.1).1<=(10000:Nat)/\((!decide ((Cm.cparseF (lineF s (lineF s (0:Int)).2.1).1).2=(0:Int)))=true->(-9223372036854775808<=(0:Int)+1/\(0:Int)+1<=9223372036854775807)/\([],(0:Int)+1,(Cm.cparseF (lineF s (lineF s (0:Int)).2.1).1).2,())=((decodeF s).1,(decodeF s).2.1,(decodeF s).2.2,()))/\((!decide ((Cm.cparseF (lineF s (lineF s (0:Int)).2.1).1).2=(0:Int)))=false->((1:Nat)*(88:Nat)<=(140737488355328:Nat)/\(1:Nat)<=(4611686018427387904:Nat))/\(0:Nat)=(0:Nat)/\(True/\(1:Nat)<=(firstF (lineF s (0:Int)).1).1.toNat/\decodeF s=decGo s ((firstF (lineF s (0:Int)).1).1.toNat-(1:Nat)) (lineF s (lineF s (0:Int)).2.1).2.1 [(Cm.cparseF (lineF s (lineF s (0:Int)).2.1).1).1])/\∀(x:List (Int×Int×Int×Int×Int×Bool×Bool×(Int×Int)×List (Int×Int×Int×Int))×Int×Unit),x.1.length<=(firstF (lineF s (0:Int)).1).1.toNat/\decodeF s=decGo s ((firstF (lineF s (0:Int)).1).1.toNat-x.1.length) x.2.1 x.1->(decide ((↑x.1.length:Int)<(firstF (lineF s (0:Int)).1).1)=true->List.length s<=(1000000:Nat)/\((!decide ((lineF s x.2.1).2.2=(0:Int)))=true->(-9223372036854775808<=(↑x.1.length:Int)+1/\(↑x.1.length:Int)+1<=9223372036854775807)/\([],(↑x.1.length:Int)+1,(lineF s x.2.1).2.2,())=((decodeF s).1,(decodeF s).2.1,(decodeF s).2.2,()))/\((!decide ((lineF s x.2.1).2.2=(0:Int)))=false->List.length (lineF s x.2.1).1<=(10000:Nat)/\((!decide ((Cm.cparseF (lineF s x.2.1).1).2=(0:Int)))=true->(-9223372036854775808<=(↑x.1.length:Int)+1/\(↑x.1.length:Int)+1<=9223372036854775807)/\([],(↑x.1.length:Int)+1,(Cm.cparseF (lineF s x.2.1).1).2,())=((decodeF s).1,(decodeF s).2.1,(decodeF s).2.2,()))/\((!decide ((Cm.cparseF (lineF s x.2.1).1).2=(0:Int)))=false->((x.1.length+(1:Nat))*(88:Nat)<=(140737488355328:Nat)/\x.1.length+(1:Nat)<=(4611686018427387904:Nat))/\(0:Nat)=(0:Nat)/\True/\((x.1++[(Cm.cparseF (lineF s x.2.1).1).1]).length<=(firstF (lineF s (0:Int)).1).1.toNat/\decodeF s=decGo s ((firstF (lineF s (0:Int)).1).1.toNat-(x.1++[(Cm.cparseF (lineF s x.2.1).1).1]).length) (lineF s x.2.1).2.1 (x.1++[(Cm.cparseF (lineF s x.2.1).1).1]))/\(firstF (lineF s (0:Int)).1).1.toNat-(x.1++[(Cm.cparseF (lineF s x.2.1).1).1]).length<(firstF (lineF s (0:Int)).1).1.toNat-x.1.length)))/\(decide ((↑x.1.length:Int)<(firstF (lineF s (0:Int)).1).1)=false->(decide (x.2.1<(↑(List.length s):Int))=true->(-9223372036854775808<=(firstF (lineF s (0:Int)).1).1+1/\(firstF (lineF s (0:Int)).1).1+1<=9223372036854775807)/\([],(firstF (lineF s (0:Int)).1).1+1,(6:Int),())=((decodeF s).1,(decodeF s).2.1,(decodeF s).2.2,()))/\(decide (x.2.1<(↑(List.length s):Int))=false->(x.1,(firstF (lineF s (0:Int)).1).1,(0:Int),())=((decodeF s).1,(decodeF s).2.1,(decodeF s).2.2,()))))))/\(decide ((0:Int)<(firstF (lineF s (0:Int)).1).1)=false->(decide ((lineF s (0:Int)).2.1<(↑(List.length s):Int))=true->(-9223372036854775808<=(firstF (lineF s (0:Int)).1).1+1/\(firstF (lineF s (0:Int)).1).1+1<=9223372036854775807)/\([],(firstF (lineF s (0:Int)).1).1+1,(6:Int),())=((decodeF s).1,(decodeF s).2.1,(decodeF s).2.2,()))/\(decide ((lineF s (0:Int)).2.1<(↑(List.length s):Int))=false->([],(firstF (lineF s (0:Int)).1).1,(0:Int),())=((decodeF s).1,(decodeF s).2.1,(decodeF s).2.2,()))))))
theorem g_decode_ok (s:By) (h:LnOk s):g_decode_vc s:=by
 unfold g_decode_vc;simp only [decide_eq_true_eq,decide_eq_false_iff_not,Bool.not_eq_true',Bool.not_eq_false',Bool.not_true,Bool.not_false];have e: ∀r,decodeF s=r->(r.1,r.2.1,r.2.2,())=((decodeF s).1,(decodeF s).2.1,(decodeF s).2.2,()):=fun r h=>by rw [h]
 refine ⟨fun c=>e _ (if_pos (by omega)),fun c=> ?_⟩;have hl:s.length<=1000000:=by omega
 have c': ¬1000000<s.length:=by omega
 refine ⟨hl,fun d=>e _ ((if_neg c').trans (if_pos d)),fun d=>⟨h 0,fun f=>e _ ((if_neg c').trans ((if_neg (fun k=>k d)).trans (if_pos f))),fun f=> ?_⟩⟩;obtain ⟨f1,f2⟩:=first_in f;have hd:decodeF s=decGo s (firstF (lineF s 0).1).1.toNat (lineF s 0).2.1 []:=(if_neg c').trans ((if_neg (fun k=>k d)).trans (if_neg (fun k=>k f)));generalize (firstF (lineF s 0).1).1=n at*;have stop: ∀(l:List Cm.CmD) (a:Int),l.length<=n.toNat->decodeF s=decGo s (n.toNat-l.length) a l->¬(l.length:Int)<n->decodeF s=if a<s.length then ([],(l.length:Int)+1,6) else (l,(l.length:Int),0):=fun l a h1 h2 h3=>by
  rw [h2,show n.toNat-l.length=0 by omega];rfl
 have next: ∀(l:List Cm.CmD) (a:Int),decodeF s=decGo s (n.toNat-l.length) a l->(l.length:Int)<n->decodeF s=if (lineF s a).2.2≠0 then ([],(l.length:Int)+1,(lineF s a).2.2) else if (Cm.cparseF (lineF s a).1).2≠0 then ([],(l.length:Int)+1,(Cm.cparseF (lineF s a).1).2)
  else decGo s (n.toNat-(l++[(Cm.cparseF (lineF s a).1).1]).length) (lineF s a).2.1 (l++[(Cm.cparseF (lineF s a).1).1]):=fun l a h2 h3=>by
  obtain ⟨k,hk⟩: ∃k,n.toNat-l.length=k+1:=⟨n.toNat-l.length-1,by omega⟩
  rw [h2,hk,decGo,List.length_append,List.length_singleton,show n.toNat-(l.length+1)=k by omega]
 refine ⟨fun g=> ?_,fun g=> ?_⟩
 ·have hx:=next [] (lineF s 0).2.1 hd (by simpa using g)
  refine ⟨hl,fun a=>⟨by omega,e _ (hx.trans (if_pos a))⟩,fun a=>⟨h _,fun b=>⟨by omega,e _ (hx.trans ((if_neg (fun k=>k a)).trans (if_pos b)))⟩,fun b=>⟨⟨by omega,by omega⟩,trivial,⟨trivial,by omega, ?_⟩, ?_⟩⟩⟩
  ·exact hx.trans ((if_neg (fun k=>k a)).trans (if_neg (fun k=>k b)))
  ·clear hx;rintro ⟨l,a2,⟨⟩⟩ ⟨h1,h2⟩;dsimp only at h1 h2⊢;refine ⟨fun g2=>⟨hl,fun a=>⟨by omega, ?_⟩,fun a=>⟨h _,fun b=>⟨by omega, ?_⟩,fun b=>⟨⟨by omega,by omega⟩,trivial,trivial,⟨by rw [List.length_append,List.length_singleton];omega, ?_⟩,by rw [List.length_append,List.length_singleton];omega⟩⟩⟩,fun g2=>⟨fun b=>⟨by omega, ?_⟩,fun b=> ?_⟩⟩
   ·exact e _ ((next l a2 h2 g2).trans (if_pos a))
   ·exact e _ ((next l a2 h2 g2).trans ((if_neg (fun k=>k a)).trans (if_pos b)))
   ·exact (next l a2 h2 g2).trans ((if_neg (fun k=>k a)).trans (if_neg (fun k=>k b)))
   ·rw [show n=(l.length:Int) by omega];exact e _ ((stop l a2 h1 h2 g2).trans (if_pos b))
   ·rw [show n=(l.length:Int) by omega];exact e _ ((stop l a2 h1 h2 g2).trans (if_neg b))
 ·have hn:n=0:=by omega
  subst hn;exact ⟨fun b=>⟨by omega,e _ (hd.trans (if_pos b))⟩,fun b=>e _ (hd.trans (if_neg b))⟩
noncomputable def sp_decode:FSpec Tryz.prog:=mkF 11 (.c .s .z) [.slc 9001 Cm, .int .i64, .int .i64] (fun x=>(fun (s:By)=>(LnOk s,(decodeF s).1,(decodeF s).2.1,(decodeF s).2.2,())) x.1) fun ⟨s,_⟩ h=>Pure.of_cond (E:=env_decode s) (by kernel_rfl) (g_decode_ok s h) (specs_ok rfl _ [] rfl rfl) mixed Tryz.func11
end Go.Proofs.YtabicbgeoiilmaaGreatDoor.Dry
