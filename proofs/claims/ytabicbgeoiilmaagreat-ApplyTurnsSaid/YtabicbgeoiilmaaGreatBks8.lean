/-
  Books that are new; some; a copy.
-/
import Derived.Test.YtabicbgeoiilmaaGreatStk8
set_option linter.unusedVariables false
section
namespace Go.Proofs.YtabicbgeoiilmaaGreat.Bks
open Go.Vm
set_option maxRecDepth 20000
def entryF (n k:Int) (ls:List Int) (A:List En) (x:En):Int:=
 if (Ent.checkF x.1 x.2.2 n k).2=0 then (if placedF ls x.2.2=0 then turnedF A x.2.1 x.2.2 else placedF ls x.2.2) else (Ent.checkF x.1 x.2.2 n k).2
theorem entry_1 {n k:Int} {ls:List Int} {A:List En} {x:En} (h:(Ent.checkF x.1 x.2.2 n k).2≠0):entryF n k ls A x=(Ent.checkF x.1 x.2.2 n k).2:=by unfold entryF;rw [if_neg h]
theorem entry_2 {n k:Int} {ls:List Int} {A:List En} {x:En} (h:(Ent.checkF x.1 x.2.2 n k).2=0) (g:placedF ls x.2.2≠0):entryF n k ls A x=placedF ls x.2.2:=by unfold entryF;rw [if_pos h,if_neg g]
theorem entry_3 {n k:Int} {ls:List Int} {A:List En} {x:En} (h:(Ent.checkF x.1 x.2.2 n k).2=0) (g:placedF ls x.2.2=0):entryF n k ls A x=turnedF A x.2.1 x.2.2:=by unfold entryF;rw [if_pos h,if_pos g]
theorem any_hit {α:Type} {p:α->Bool} {l:List α} {i:Int} {x:α} (hx:l[i.toNat]? =some x) (h:p x=true):(l.drop i.toNat).any p=true:=by
 obtain ⟨h1,h2⟩:=List.getElem?_eq_some_iff.1 hx;rw [List.drop_eq_getElem_cons h1,h2,List.any_cons,h,Bool.true_or]
theorem any_miss {α:Type} {p:α->Bool} {l:List α} {i:Int} {x:α} (h0:0<=i) (hx:l[i.toNat]? =some x) (h:p x=false):(l.drop i.toNat).any p=(l.drop (i+1).toNat).any p:=by
 obtain ⟨h1,h2⟩:=List.getElem?_eq_some_iff.1 hx;rw [List.drop_eq_getElem_cons h1,h2,List.any_cons,h,Bool.false_or,show (i+1).toNat=i.toNat+1 by omega]
theorem any_end {α:Type} {p:α->Bool} {l:List α} {i:Int} (h: ¬i<(l.length:Int)):(l.drop i.toNat).any p=false:=by
 rw [List.drop_of_length_le (by omega)];rfl
theorem th_any (p:Int->Bool) (a:Int): ∀(f:Nat) (i:Int),(Acc.thGo p f i).any (eqP a)=(decide (i<=a/\a<i+f)&&p a)
 |0,i=>by
  rw [decide_eq_false (by omega)];rfl
 |f+1,i=>by
  rw [Acc.thGo];by_cases c:i=a
  ·subst c;rw [decide_eq_true (by omega),Bool.true_and];split
   ·rename_i h;rw [List.any_cons,h,show eqP i i=true by simp [eqP],Bool.true_or]
   ·rename_i h;rw [th_any p i f (i+1),decide_eq_false (by omega)];simpa using h
  ·have e:(decide (i<=a/\a<i+((f+1:Nat):Int)))=decide (i+1<=a/\a<i+1+f):=decide_eq_decide.2 (by omega);rw [e];split
   ·rw [List.any_cons,show eqP a i=false by unfold eqP;rw [decide_eq_false (fun h=>c h.symm)],Bool.false_or,th_any p a f (i+1)]
   ·rw [th_any p a f (i+1)]
theorem inn_leaf (A:List Acc.AcD) (x:Ln):innP (Acc.thoseF (Acc.leafF A) A.length) x= !Acc.leafF A x.2.1:=by
 unfold innP Acc.thoseF;rw [th_any];congr 1;rw [show decide (1<=x.2.1/\x.2.1<1+(A.length:Int))=decide (Acc.isIn A x.2.1) from decide_eq_decide.2 (by unfold Acc.isIn;omega)];unfold Acc.leafF;rw [<-Bool.and_assoc,Bool.and_self]
def entGo (n k:Int) (ls:List Int) (N:List En):Nat->Int->Option (Int×Int)
 |0,_=>none
 |f+1,i=>match N[i.toNat]? with
  |none=>none
  |some x=>if entryF n k ls (N.take i.toNat) x=0 then entGo n k ls N f (i+1) else some (i,entryF n k ls (N.take i.toNat) x)
theorem ent_next {n k:Int} {ls:List Int} {N:List En} {f:Nat} {i:Int} {x:En} (hf:0<f) (hx:N[i.toNat]? =some x):entGo n k ls N f i=if entryF n k ls (N.take i.toNat) x=0 then entGo n k ls N (f-1) (i+1) else some (i,entryF n k ls (N.take i.toNat) x):=by
 obtain ⟨g,rfl⟩: ∃g,f=g+1:=⟨f-1,by omega⟩
 rw [entGo,hx];rfl
def endE (o:Option (Int×Int)) (z:Int):Int×Int:=match o with
 |none=>(z,0)
 |some r=>r
def allF (N:List En) (n k:Int) (ls:List Int):Int×Int:=if 2000<(N.length:Int) then (0,3) else endE (entGo n k ls N N.length 0) N.length
def Sm (E:List Int) (A:List Acc.AcD) (S:List Ln) (R:List Rts.Rt) (K:List Lck.Lk) (N:List En):Prop:=E.length<=1000000/\A.length<=1000000/\S.length<=1000000/\R.length<=1000000/\K.length<=1000000/\N.length<=1000000/\InE N
noncomputable def env_all (E:List Int) (A:List Acc.AcD) (S:List Ln) (R:List Rts.Rt) (K:List Lck.Lk) (N:List En):Env where
 P:=Tryz.prog
 ty:=tys0
 specs:=specsOf [Acc.sp_leaves,Ent.sp_check,sp_placed,sp_turned]
 frz:=fun|17=>true|53=>true|_=>false
 heads:=fun|5=>some {slots:=[(21, .int .i64)],boxes:=[],keep:=[1],inv:=fun _ (x:Int×Unit)=>0<=x.1/\x.1<=N.length/\entGo E.length A.length (Acc.thoseF (Acc.leafF A) A.length) N N.length 0=entGo E.length A.length (Acc.thoseF (Acc.leafF A) A.length) N (N.length-x.1.toNat) x.1,measure:=fun _ (x:Int×Unit)=>(N.length-x.1).toNat}|_=>none
abbrev bx_all_1 (E:List Int) (A:List Acc.AcD) (S:List Ln) (R:List Rts.Rt) (K:List Lck.Lk) (N:List En):_root_.Go.Vm.Obj:=Obj.box [V.list LK.tmp I E,V.list LK.tmp AcT A,V.list LK.tmp LnT S,V.list LK.tmp RTy R,V.list LK.tmp Vl K,V.list LK.tmp EnT N]
def g_all_vc (E:List Int) (A:List Acc.AcD) (S:List Ln) (R:List Rts.Rt) (K:List Lck.Lk) (N:List En):Prop:=
 (decide ((2000:Int)<(↑N.length:Int))=true->((0:Int),(3:Int),())=((allF N (↑E.length:Int) (↑A.length:Int) (Acc.thoseF (Acc.leafF A) A.length)).1,(allF N (↑E.length:Int) (↑A.length:Int) (Acc.thoseF (Acc.leafF A) A.length)).2,()))/\(decide ((2000:Int)<(↑N.length:Int))=false->A.length<=(1000000000:Nat)/\((some (bx_all_1 E A S R K N)=some (bx_all_1 E A S R K N)/\True)/\0<=(0:Int)/\0<=(↑N.length:Int)/\entGo (↑E.length:Int) (↑A.length:Int) (Acc.thoseF (Acc.leafF A) A.length) N N.length (0:Int)=entGo (↑E.length:Int) (↑A.length:Int) (Acc.thoseF (Acc.leafF A) A.length) N (N.length-Int.toNat (0:Int)) (0:Int))/\∀(x:Int×Unit),0<=x.1/\x.1<=(↑N.length:Int)/\entGo (↑E.length:Int) (↑A.length:Int) (Acc.thoseF (Acc.leafF A) A.length) N N.length (0:Int)=entGo (↑E.length:Int) (↑A.length:Int) (Acc.thoseF (Acc.leafF A) A.length) N (N.length-x.1.toNat) x.1->(decide (x.1<(↑N.length:Int))=true->(0<=x.1/\x.1<(↑N.length:Int))/\∀(x_1:Int×Int×List (Int×Int×Int×Int)),N[x.1.toNat]? =some x_1->(Ent.InL x_1.2.2/\x_1.2.2.length<=(1000:Nat))/\((!decide ((Ent.checkF x_1.1 x_1.2.2 (↑E.length:Int) (↑A.length:Int)).2=(0:Int)))=true->(x.1,(Ent.checkF x_1.1 x_1.2.2 (↑E.length:Int) (↑A.length:Int)).2,())=((allF N (↑E.length:Int) (↑A.length:Int) (Acc.thoseF (Acc.leafF A) A.length)).1,(allF N (↑E.length:Int) (↑A.length:Int) (Acc.thoseF (Acc.leafF A) A.length)).2,()))/\((!decide ((Ent.checkF x_1.1 x_1.2.2 (↑E.length:Int) (↑A.length:Int)).2=(0:Int)))=false->(x_1.2.2.length<=(1000000000:Nat)/\(Acc.thoseF (Acc.leafF A) A.length).length<=(1000000000:Nat))/\((!decide (placedF (Acc.thoseF (Acc.leafF A) A.length) x_1.2.2=(0:Int)))=true->(x.1,placedF (Acc.thoseF (Acc.leafF A) A.length) x_1.2.2,())=((allF N (↑E.length:Int) (↑A.length:Int) (Acc.thoseF (Acc.leafF A) A.length)).1,(allF N (↑E.length:Int) (↑A.length:Int) (Acc.thoseF (Acc.leafF A) A.length)).2,()))/\((!decide (placedF (Acc.thoseF (Acc.leafF A) A.length) x_1.2.2=(0:Int)))=false->(0<=x.1/\x.1<=(↑N.length:Int))/\((List.take x.1.toNat N).length<=(1000000000:Nat)/\InE (List.take x.1.toNat N)/\x_1.2.2.length<=(1000000000:Nat))/\((!decide (turnedF (List.take x.1.toNat N) x_1.2.1 x_1.2.2=(0:Int)))=true->(x.1,turnedF (List.take x.1.toNat N) x_1.2.1 x_1.2.2,())=((allF N (↑E.length:Int) (↑A.length:Int) (Acc.thoseF (Acc.leafF A) A.length)).1,(allF N (↑E.length:Int) (↑A.length:Int) (Acc.thoseF (Acc.leafF A) A.length)).2,()))/\((!decide (turnedF (List.take x.1.toNat N) x_1.2.1 x_1.2.2=(0:Int)))=false->(-9223372036854775808<=x.1+1/\x.1+1<=9223372036854775807)/\(some (bx_all_1 E A S R K N)=some (bx_all_1 E A S R K N)/\True)/\(0<=x.1+1/\x.1+1<=(↑N.length:Int)/\entGo (↑E.length:Int) (↑A.length:Int) (Acc.thoseF (Acc.leafF A) A.length) N N.length (0:Int)=entGo (↑E.length:Int) (↑A.length:Int) (Acc.thoseF (Acc.leafF A) A.length) N (N.length-(x.1+1).toNat) (x.1+1))/\((↑N.length:Int)-(x.1+1)).toNat<((↑N.length:Int)-x.1).toNat))))/\(decide (x.1<(↑N.length:Int))=false->((↑N.length:Int),(0:Int),())=((allF N (↑E.length:Int) (↑A.length:Int) (Acc.thoseF (Acc.leafF A) A.length)).1,(allF N (↑E.length:Int) (↑A.length:Int) (Acc.thoseF (Acc.leafF A) A.length)).2,())))
theorem g_all_eq (E:List Int) (A:List Acc.AcD) (S:List Ln) (R:List Rts.Rt) (K:List Lck.Lk) (N:List En):Cond (env_all E A S R K N) Tryz.f57 [.agg [.list .tmp I E, .list .tmp AcT A, .list .tmp LnT S, .list .tmp RTy R, .list .tmp Vl K, .list .tmp EnT N]] [.int .i64, .int .i64] ((allF N E.length A.length (Acc.thoseF (Acc.leafF A) A.length)).1,(allF N E.length A.length (Acc.thoseF (Acc.leafF A) A.length)).2,())=g_all_vc E A S R K N:=by kernel_rfl
theorem g_all_ok (E:List Int) (A:List Acc.AcD) (S:List Ln) (R:List Rts.Rt) (K:List Lck.Lk) (N:List En) (h:Sm E A S R K N):g_all_vc E A S R K N:=by
 obtain ⟨l1,l2,l3,l4,l5,l6,hi⟩:=h;unfold g_all_vc allF;simp only [decide_eq_true_eq,decide_eq_false_iff_not,Bool.not_false,Bool.not_true,Bool.not_eq_true',Bool.not_eq_false'];have hlen:(Acc.thoseF (Acc.leafF A) A.length).length<=1000000000:=by
  have:=Acc.th_len (Acc.leafF A) A.length 1;unfold Acc.thoseF;omega
 generalize Acc.thoseF (Acc.leafF A) A.length=ls at*;refine ⟨fun c=>by rw [if_pos c],fun c=> ?_⟩;simp only [if_neg c];refine ⟨by omega,⟨⟨trivial,trivial⟩,by omega,by omega,by rw [show N.length-Int.toNat 0=N.length by omega]⟩, ?_⟩;rintro ⟨i,⟨⟩⟩ ⟨h0,h1,hb⟩;dsimp only at h0 h1 hb⊢;refine ⟨fun d=>⟨⟨h0,d⟩,fun x hx=> ?_⟩,fun d=> ?_⟩
 ·obtain ⟨x1,x2⟩:=ine_at hi hx;refine ⟨⟨x1,x2⟩,fun k=> ?_,fun k=>⟨⟨by omega,hlen⟩,fun m=> ?_,fun m=>⟨by omega,⟨by rw [List.length_take];omega,ine_take hi,by omega⟩,fun o=> ?_,fun o=>⟨by omega,⟨trivial,trivial⟩,⟨by omega,by omega, ?_⟩,by omega⟩⟩⟩⟩
  ·rw [hb,ent_next (by omega) hx,entry_1 k,if_neg k];rfl
  ·rw [hb,ent_next (by omega) hx,entry_2 k m,if_neg m];rfl
  ·rw [hb,ent_next (by omega) hx,entry_3 k m,if_neg o];rfl
  ·rw [hb,ent_next (by omega) hx,entry_3 k m,if_pos o,show N.length-(i+1).toNat=N.length-i.toNat-1 by omega]
 ·rw [hb,show N.length-i.toNat=0 by omega];rfl
theorem all_pure (E:List Int) (A:List Acc.AcD) (S:List Ln) (R:List Rts.Rt) (K:List Lck.Lk) (N:List En) (h:Sm E A S R K N):Pure Tryz.prog 57 [.agg [.list .tmp I E, .list .tmp AcT A, .list .tmp LnT S, .list .tmp RTy R, .list .tmp Vl K, .list .tmp EnT N]] (.tuple [.int .i64 (allF N E.length A.length (Acc.thoseF (Acc.leafF A) A.length)).1, .int .i64 (allF N E.length A.length (Acc.thoseF (Acc.leafF A) A.length)).2]):=
 by have k:=Pure.of_cond (g_all_eq E A S R K N) (g_all_ok E A S R K N h) (specs_ok rfl [Acc.sp_leaves,Ent.sp_check,sp_placed,sp_turned] [] rfl rfl) mixed Tryz.func57;exact k
noncomputable def q_all (E:List Int) (A:List Acc.AcD) (S:List Ln) (R:List Rts.Rt) (K:List Lck.Lk) (N:List En):Prop×V:=(Sm E A S R K N,(.tuple [.int .i64 (allF N E.length A.length (Acc.thoseF (Acc.leafF A) A.length)).1, .int .i64 (allF N E.length A.length (Acc.thoseF (Acc.leafF A) A.length)).2]))
noncomputable def sp_all:FSpec Tryz.prog where
 f:=57
 run:=fun
  |[.agg [v0_0,v0_1,v0_2,v0_3,v0_4,v0_5]]=>(asL I v0_0:Option (List Int)).bind fun E=>(asL AcT v0_1:Option (List Acc.AcD)).bind fun A=>(asL LnT v0_2:Option (List Ln)).bind fun S=>(asL RTy v0_3:Option (List Rts.Rt)).bind fun R=>(asL Vl v0_4:Option (List Lck.Lk)).bind fun K=>(asL EnT v0_5:Option (List En)).bind fun N=>some (q_all E A S R K N)
  |_=>none
 ok:=fun args pre r h hp=>by
  split at h
  ·rename_i v0_0 v0_1 v0_2 v0_3 v0_4 v0_5;obtain ⟨E,h0_0,h⟩:=Option.bind_eq_some_iff.1 h;obtain ⟨A,h0_1,h⟩:=Option.bind_eq_some_iff.1 h;obtain ⟨S,h0_2,h⟩:=Option.bind_eq_some_iff.1 h;obtain ⟨R,h0_3,h⟩:=Option.bind_eq_some_iff.1 h;obtain ⟨K,h0_4,h⟩:=Option.bind_eq_some_iff.1 h;obtain ⟨N,h0_5,h⟩:=Option.bind_eq_some_iff.1 h;exact of_q h hp fun h=>(all_pure E A S R K N h).weak (.cons (Weak.agg (.cons (asL_weak h0_0) (.cons (asL_weak h0_1) (.cons (asL_weak h0_2) (.cons (asL_weak h0_3) (.cons (asL_weak h0_4) (.cons (asL_weak h0_5) .nil))))))) .nil)
  ·cases h
end Go.Proofs.YtabicbgeoiilmaaGreat.Bks
end
section
namespace Go.Proofs.YtabicbgeoiilmaaGreat.Bks
open Go.Vm
noncomputable def env_ck1 (E:List Int) (A:List Acc.AcD) (S:List Ln) (R:List Rts.Rt) (K:List Lck.Lk) (N:List En):Env where
 P:=Tryz.prog
 ty:=tys0
 specs:=specsOf [Cur.sp_check]
def g_ck1_vc (E:List Int) (A:List Acc.AcD) (S:List Ln) (R:List Rts.Rt) (K:List Lck.Lk) (N:List En):Prop:=
 E.length<=(1000000000:Nat)/\((Cur.checkF E).1,(Cur.checkF E).2,())=((Cur.checkF E).1,(Cur.checkF E).2,())
theorem g_ck1_eq (E:List Int) (A:List Acc.AcD) (S:List Ln) (R:List Rts.Rt) (K:List Lck.Lk) (N:List En):Cond (env_ck1 E A S R K N) Tryz.f46 [.fptr [.list .tmp I E, .list .tmp AcT A, .list .tmp LnT S, .list .tmp RTy R, .list .tmp Vl K, .list .tmp EnT N]] [.int .i64, .int .i64] ((Cur.checkF E).1,(Cur.checkF E).2,())=g_ck1_vc E A S R K N:=by kernel_rfl
theorem g_ck1_ok (E:List Int) (A:List Acc.AcD) (S:List Ln) (R:List Rts.Rt) (K:List Lck.Lk) (N:List En) (h:Sm E A S R K N):g_ck1_vc E A S R K N:=by
 unfold g_ck1_vc;obtain ⟨l1,l2,l3,l4,l5,l6,hi⟩:=h;exact ⟨by omega,rfl⟩
set_option maxRecDepth 20000
theorem ck1_pure (E:List Int) (A:List Acc.AcD) (S:List Ln) (R:List Rts.Rt) (K:List Lck.Lk) (N:List En) (h:Sm E A S R K N):Pure Tryz.prog 46 [.fptr [.list .tmp I E, .list .tmp AcT A, .list .tmp LnT S, .list .tmp RTy R, .list .tmp Vl K, .list .tmp EnT N]] (.tuple [.int .i64 (Cur.checkF E).1, .int .i64 (Cur.checkF E).2]):=
 by have k:=Pure.of_cond (g_ck1_eq E A S R K N) (g_ck1_ok E A S R K N h) (specs_ok rfl [Cur.sp_check] [] rfl rfl) mixed Tryz.func46;exact k
noncomputable def q_ck1 (E:List Int) (A:List Acc.AcD) (S:List Ln) (R:List Rts.Rt) (K:List Lck.Lk) (N:List En):Prop×V:=(Sm E A S R K N,(.tuple [.int .i64 (Cur.checkF E).1, .int .i64 (Cur.checkF E).2]))
noncomputable def sp_ck1:FSpec Tryz.prog where
 f:=46
 run:=fun
  |[.fptr [v0_0,v0_1,v0_2,v0_3,v0_4,v0_5]]=>(asL I v0_0:Option (List Int)).bind fun E=>(asL AcT v0_1:Option (List Acc.AcD)).bind fun A=>(asL LnT v0_2:Option (List Ln)).bind fun S=>(asL RTy v0_3:Option (List Rts.Rt)).bind fun R=>(asL Vl v0_4:Option (List Lck.Lk)).bind fun K=>(asL EnT v0_5:Option (List En)).bind fun N=>some (q_ck1 E A S R K N)
  |_=>none
 ok:=fun args pre r h hp=>by
  split at h
  ·rename_i v0_0 v0_1 v0_2 v0_3 v0_4 v0_5;obtain ⟨E,h0_0,h⟩:=Option.bind_eq_some_iff.1 h;obtain ⟨A,h0_1,h⟩:=Option.bind_eq_some_iff.1 h;obtain ⟨S,h0_2,h⟩:=Option.bind_eq_some_iff.1 h;obtain ⟨R,h0_3,h⟩:=Option.bind_eq_some_iff.1 h;obtain ⟨K,h0_4,h⟩:=Option.bind_eq_some_iff.1 h;obtain ⟨N,h0_5,h⟩:=Option.bind_eq_some_iff.1 h;exact of_q h hp fun h=>(ck1_pure E A S R K N h).weak (.cons (weak_fptr (.cons (asL_weak h0_0) (.cons (asL_weak h0_1) (.cons (asL_weak h0_2) (.cons (asL_weak h0_3) (.cons (asL_weak h0_4) (.cons (asL_weak h0_5) .nil))))))) .nil)
  ·cases h
noncomputable def env_ck2 (E:List Int) (A:List Acc.AcD) (S:List Ln) (R:List Rts.Rt) (K:List Lck.Lk) (N:List En):Env where
 P:=Tryz.prog
 ty:=tys0
 specs:=specsOf [Acc.sp_check]
def g_ck2_vc (E:List Int) (A:List Acc.AcD) (S:List Ln) (R:List Rts.Rt) (K:List Lck.Lk) (N:List En):Prop:=
 A.length<=(1000000000:Nat)/\((Acc.checkF A).1,(Acc.checkF A).2,())=((Acc.checkF A).1,(Acc.checkF A).2,())
theorem g_ck2_eq (E:List Int) (A:List Acc.AcD) (S:List Ln) (R:List Rts.Rt) (K:List Lck.Lk) (N:List En):Cond (env_ck2 E A S R K N) Tryz.f48 [.fptr [.list .tmp I E, .list .tmp AcT A, .list .tmp LnT S, .list .tmp RTy R, .list .tmp Vl K, .list .tmp EnT N]] [.int .i64, .int .i64] ((Acc.checkF A).1,(Acc.checkF A).2,())=g_ck2_vc E A S R K N:=by kernel_rfl
theorem g_ck2_ok (E:List Int) (A:List Acc.AcD) (S:List Ln) (R:List Rts.Rt) (K:List Lck.Lk) (N:List En) (h:Sm E A S R K N):g_ck2_vc E A S R K N:=by
 unfold g_ck2_vc;obtain ⟨l1,l2,l3,l4,l5,l6,hi⟩:=h;exact ⟨by omega,rfl⟩
theorem ck2_pure (E:List Int) (A:List Acc.AcD) (S:List Ln) (R:List Rts.Rt) (K:List Lck.Lk) (N:List En) (h:Sm E A S R K N):Pure Tryz.prog 48 [.fptr [.list .tmp I E, .list .tmp AcT A, .list .tmp LnT S, .list .tmp RTy R, .list .tmp Vl K, .list .tmp EnT N]] (.tuple [.int .i64 (Acc.checkF A).1, .int .i64 (Acc.checkF A).2]):=
 by have k:=Pure.of_cond (g_ck2_eq E A S R K N) (g_ck2_ok E A S R K N h) (specs_ok rfl [Acc.sp_check] [] rfl rfl) mixed Tryz.func48;exact k
noncomputable def q_ck2 (E:List Int) (A:List Acc.AcD) (S:List Ln) (R:List Rts.Rt) (K:List Lck.Lk) (N:List En):Prop×V:=(Sm E A S R K N,(.tuple [.int .i64 (Acc.checkF A).1, .int .i64 (Acc.checkF A).2]))
noncomputable def sp_ck2:FSpec Tryz.prog where
 f:=48
 run:=fun
  |[.fptr [v0_0,v0_1,v0_2,v0_3,v0_4,v0_5]]=>(asL I v0_0:Option (List Int)).bind fun E=>(asL AcT v0_1:Option (List Acc.AcD)).bind fun A=>(asL LnT v0_2:Option (List Ln)).bind fun S=>(asL RTy v0_3:Option (List Rts.Rt)).bind fun R=>(asL Vl v0_4:Option (List Lck.Lk)).bind fun K=>(asL EnT v0_5:Option (List En)).bind fun N=>some (q_ck2 E A S R K N)
  |_=>none
 ok:=fun args pre r h hp=>by
  split at h
  ·rename_i v0_0 v0_1 v0_2 v0_3 v0_4 v0_5;obtain ⟨E,h0_0,h⟩:=Option.bind_eq_some_iff.1 h;obtain ⟨A,h0_1,h⟩:=Option.bind_eq_some_iff.1 h;obtain ⟨S,h0_2,h⟩:=Option.bind_eq_some_iff.1 h;obtain ⟨R,h0_3,h⟩:=Option.bind_eq_some_iff.1 h;obtain ⟨K,h0_4,h⟩:=Option.bind_eq_some_iff.1 h;obtain ⟨N,h0_5,h⟩:=Option.bind_eq_some_iff.1 h;exact of_q h hp fun h=>(ck2_pure E A S R K N h).weak (.cons (weak_fptr (.cons (asL_weak h0_0) (.cons (asL_weak h0_1) (.cons (asL_weak h0_2) (.cons (asL_weak h0_3) (.cons (asL_weak h0_4) (.cons (asL_weak h0_5) .nil))))))) .nil)
  ·cases h
noncomputable def env_ck3 (E:List Int) (A:List Acc.AcD) (S:List Ln) (R:List Rts.Rt) (K:List Lck.Lk) (N:List En) (n:Int):Env where
 P:=Tryz.prog
 ty:=tys0
 specs:=specsOf [Stk.sp_check]
def g_ck3_vc (E:List Int) (A:List Acc.AcD) (S:List Ln) (R:List Rts.Rt) (K:List Lck.Lk) (N:List En) (n:Int):Prop:=
 S.length<=(1000000000:Nat)/\((Stk.checkF S n).1,(Stk.checkF S n).2,())=((Stk.checkF S n).1,(Stk.checkF S n).2,())
theorem g_ck3_eq (E:List Int) (A:List Acc.AcD) (S:List Ln) (R:List Rts.Rt) (K:List Lck.Lk) (N:List En) (n:Int):Cond (env_ck3 E A S R K N n) Tryz.f50 [.fptr [.list .tmp I E, .list .tmp AcT A, .list .tmp LnT S, .list .tmp RTy R, .list .tmp Vl K, .list .tmp EnT N], .fptr [.int .i64 n]] [.int .i64, .int .i64] ((Stk.checkF S n).1,(Stk.checkF S n).2,())=g_ck3_vc E A S R K N n:=by kernel_rfl
theorem g_ck3_ok (E:List Int) (A:List Acc.AcD) (S:List Ln) (R:List Rts.Rt) (K:List Lck.Lk) (N:List En) (n:Int) (h:Sm E A S R K N):g_ck3_vc E A S R K N n:=by
 unfold g_ck3_vc;obtain ⟨l1,l2,l3,l4,l5,l6,hi⟩:=h;exact ⟨by omega,rfl⟩
theorem ck3_pure (E:List Int) (A:List Acc.AcD) (S:List Ln) (R:List Rts.Rt) (K:List Lck.Lk) (N:List En) (n:Int) (h:Sm E A S R K N):Pure Tryz.prog 50 [.fptr [.list .tmp I E, .list .tmp AcT A, .list .tmp LnT S, .list .tmp RTy R, .list .tmp Vl K, .list .tmp EnT N], .fptr [.int .i64 n]] (.tuple [.int .i64 (Stk.checkF S n).1, .int .i64 (Stk.checkF S n).2]):=
 by have k:=Pure.of_cond (g_ck3_eq E A S R K N n) (g_ck3_ok E A S R K N n h) (specs_ok rfl [Stk.sp_check] [] rfl rfl) mixed Tryz.func50;exact k
noncomputable def q_ck3 (E:List Int) (A:List Acc.AcD) (S:List Ln) (R:List Rts.Rt) (K:List Lck.Lk) (N:List En) (n:Int):Prop×V:=(Sm E A S R K N,(.tuple [.int .i64 (Stk.checkF S n).1, .int .i64 (Stk.checkF S n).2]))
noncomputable def sp_ck3:FSpec Tryz.prog where
 f:=50
 run:=fun
  |[.fptr [v0_0,v0_1,v0_2,v0_3,v0_4,v0_5], .fptr [.int .i64 n]]=>(asL I v0_0:Option (List Int)).bind fun E=>(asL AcT v0_1:Option (List Acc.AcD)).bind fun A=>(asL LnT v0_2:Option (List Ln)).bind fun S=>(asL RTy v0_3:Option (List Rts.Rt)).bind fun R=>(asL Vl v0_4:Option (List Lck.Lk)).bind fun K=>(asL EnT v0_5:Option (List En)).bind fun N=>some (q_ck3 E A S R K N n)
  |_=>none
 ok:=fun args pre r h hp=>by
  split at h
  ·rename_i v0_0 v0_1 v0_2 v0_3 v0_4 v0_5 n;obtain ⟨E,h0_0,h⟩:=Option.bind_eq_some_iff.1 h;obtain ⟨A,h0_1,h⟩:=Option.bind_eq_some_iff.1 h;obtain ⟨S,h0_2,h⟩:=Option.bind_eq_some_iff.1 h;obtain ⟨R,h0_3,h⟩:=Option.bind_eq_some_iff.1 h;obtain ⟨K,h0_4,h⟩:=Option.bind_eq_some_iff.1 h;obtain ⟨N,h0_5,h⟩:=Option.bind_eq_some_iff.1 h;exact of_q h hp fun h=>(ck3_pure E A S R K N n h).weak (.cons (weak_fptr (.cons (asL_weak h0_0) (.cons (asL_weak h0_1) (.cons (asL_weak h0_2) (.cons (asL_weak h0_3) (.cons (asL_weak h0_4) (.cons (asL_weak h0_5) .nil))))))) (.cons (.refl _) .nil))
  ·cases h
noncomputable def env_ck4 (E:List Int) (A:List Acc.AcD) (S:List Ln) (R:List Rts.Rt) (K:List Lck.Lk) (N:List En):Env where
 P:=Tryz.prog
 ty:=tys0
 specs:=specsOf [Rts.sp_check]
def g_ck4_vc (E:List Int) (A:List Acc.AcD) (S:List Ln) (R:List Rts.Rt) (K:List Lck.Lk) (N:List En):Prop:=
 True/\((Rts.checkF R).1,(Rts.checkF R).2,())=((Rts.checkF R).1,(Rts.checkF R).2,())
theorem g_ck4_eq (E:List Int) (A:List Acc.AcD) (S:List Ln) (R:List Rts.Rt) (K:List Lck.Lk) (N:List En):Cond (env_ck4 E A S R K N) Tryz.f52 [.fptr [.list .tmp I E, .list .tmp AcT A, .list .tmp LnT S, .list .tmp RTy R, .list .tmp Vl K, .list .tmp EnT N]] [.int .i64, .int .i64] ((Rts.checkF R).1,(Rts.checkF R).2,())=g_ck4_vc E A S R K N:=by kernel_rfl
theorem g_ck4_ok (E:List Int) (A:List Acc.AcD) (S:List Ln) (R:List Rts.Rt) (K:List Lck.Lk) (N:List En) (h:Sm E A S R K N):g_ck4_vc E A S R K N:=by
 unfold g_ck4_vc;exact ⟨trivial,rfl⟩
theorem ck4_pure (E:List Int) (A:List Acc.AcD) (S:List Ln) (R:List Rts.Rt) (K:List Lck.Lk) (N:List En) (h:Sm E A S R K N):Pure Tryz.prog 52 [.fptr [.list .tmp I E, .list .tmp AcT A, .list .tmp LnT S, .list .tmp RTy R, .list .tmp Vl K, .list .tmp EnT N]] (.tuple [.int .i64 (Rts.checkF R).1, .int .i64 (Rts.checkF R).2]):=
 by have k:=Pure.of_cond (g_ck4_eq E A S R K N) (g_ck4_ok E A S R K N h) (specs_ok rfl [Rts.sp_check] [] rfl rfl) mixed Tryz.func52;exact k
noncomputable def q_ck4 (E:List Int) (A:List Acc.AcD) (S:List Ln) (R:List Rts.Rt) (K:List Lck.Lk) (N:List En):Prop×V:=(Sm E A S R K N,(.tuple [.int .i64 (Rts.checkF R).1, .int .i64 (Rts.checkF R).2]))
noncomputable def sp_ck4:FSpec Tryz.prog where
 f:=52
 run:=fun
  |[.fptr [v0_0,v0_1,v0_2,v0_3,v0_4,v0_5]]=>(asL I v0_0:Option (List Int)).bind fun E=>(asL AcT v0_1:Option (List Acc.AcD)).bind fun A=>(asL LnT v0_2:Option (List Ln)).bind fun S=>(asL RTy v0_3:Option (List Rts.Rt)).bind fun R=>(asL Vl v0_4:Option (List Lck.Lk)).bind fun K=>(asL EnT v0_5:Option (List En)).bind fun N=>some (q_ck4 E A S R K N)
  |_=>none
 ok:=fun args pre r h hp=>by
  split at h
  ·rename_i v0_0 v0_1 v0_2 v0_3 v0_4 v0_5;obtain ⟨E,h0_0,h⟩:=Option.bind_eq_some_iff.1 h;obtain ⟨A,h0_1,h⟩:=Option.bind_eq_some_iff.1 h;obtain ⟨S,h0_2,h⟩:=Option.bind_eq_some_iff.1 h;obtain ⟨R,h0_3,h⟩:=Option.bind_eq_some_iff.1 h;obtain ⟨K,h0_4,h⟩:=Option.bind_eq_some_iff.1 h;obtain ⟨N,h0_5,h⟩:=Option.bind_eq_some_iff.1 h;exact of_q h hp fun h=>(ck4_pure E A S R K N h).weak (.cons (weak_fptr (.cons (asL_weak h0_0) (.cons (asL_weak h0_1) (.cons (asL_weak h0_2) (.cons (asL_weak h0_3) (.cons (asL_weak h0_4) (.cons (asL_weak h0_5) .nil))))))) .nil)
  ·cases h
noncomputable def env_ck5 (E:List Int) (A:List Acc.AcD) (S:List Ln) (R:List Rts.Rt) (K:List Lck.Lk) (N:List En) (n:Int):Env where
 P:=Tryz.prog
 ty:=tys0
 specs:=specsOf [Lck.sp_check]
def g_ck5_vc (E:List Int) (A:List Acc.AcD) (S:List Ln) (R:List Rts.Rt) (K:List Lck.Lk) (N:List En) (n:Int):Prop:=
 K.length<=(1000000000:Nat)/\((Lck.checkF K n).1,(Lck.checkF K n).2,())=((Lck.checkF K n).1,(Lck.checkF K n).2,())
theorem g_ck5_eq (E:List Int) (A:List Acc.AcD) (S:List Ln) (R:List Rts.Rt) (K:List Lck.Lk) (N:List En) (n:Int):Cond (env_ck5 E A S R K N n) Tryz.f54 [.fptr [.list .tmp I E, .list .tmp AcT A, .list .tmp LnT S, .list .tmp RTy R, .list .tmp Vl K, .list .tmp EnT N], .fptr [.int .i64 n]] [.int .i64, .int .i64] ((Lck.checkF K n).1,(Lck.checkF K n).2,())=g_ck5_vc E A S R K N n:=by kernel_rfl
theorem g_ck5_ok (E:List Int) (A:List Acc.AcD) (S:List Ln) (R:List Rts.Rt) (K:List Lck.Lk) (N:List En) (n:Int) (h:Sm E A S R K N):g_ck5_vc E A S R K N n:=by
 unfold g_ck5_vc;obtain ⟨l1,l2,l3,l4,l5,l6,hi⟩:=h;exact ⟨by omega,rfl⟩
theorem ck5_pure (E:List Int) (A:List Acc.AcD) (S:List Ln) (R:List Rts.Rt) (K:List Lck.Lk) (N:List En) (n:Int) (h:Sm E A S R K N):Pure Tryz.prog 54 [.fptr [.list .tmp I E, .list .tmp AcT A, .list .tmp LnT S, .list .tmp RTy R, .list .tmp Vl K, .list .tmp EnT N], .fptr [.int .i64 n]] (.tuple [.int .i64 (Lck.checkF K n).1, .int .i64 (Lck.checkF K n).2]):=
 by have k:=Pure.of_cond (g_ck5_eq E A S R K N n) (g_ck5_ok E A S R K N n h) (specs_ok rfl [Lck.sp_check] [] rfl rfl) mixed Tryz.func54;exact k
noncomputable def q_ck5 (E:List Int) (A:List Acc.AcD) (S:List Ln) (R:List Rts.Rt) (K:List Lck.Lk) (N:List En) (n:Int):Prop×V:=(Sm E A S R K N,(.tuple [.int .i64 (Lck.checkF K n).1, .int .i64 (Lck.checkF K n).2]))
noncomputable def sp_ck5:FSpec Tryz.prog where
 f:=54
 run:=fun
  |[.fptr [v0_0,v0_1,v0_2,v0_3,v0_4,v0_5], .fptr [.int .i64 n]]=>(asL I v0_0:Option (List Int)).bind fun E=>(asL AcT v0_1:Option (List Acc.AcD)).bind fun A=>(asL LnT v0_2:Option (List Ln)).bind fun S=>(asL RTy v0_3:Option (List Rts.Rt)).bind fun R=>(asL Vl v0_4:Option (List Lck.Lk)).bind fun K=>(asL EnT v0_5:Option (List En)).bind fun N=>some (q_ck5 E A S R K N n)
  |_=>none
 ok:=fun args pre r h hp=>by
  split at h
  ·rename_i v0_0 v0_1 v0_2 v0_3 v0_4 v0_5 n;obtain ⟨E,h0_0,h⟩:=Option.bind_eq_some_iff.1 h;obtain ⟨A,h0_1,h⟩:=Option.bind_eq_some_iff.1 h;obtain ⟨S,h0_2,h⟩:=Option.bind_eq_some_iff.1 h;obtain ⟨R,h0_3,h⟩:=Option.bind_eq_some_iff.1 h;obtain ⟨K,h0_4,h⟩:=Option.bind_eq_some_iff.1 h;obtain ⟨N,h0_5,h⟩:=Option.bind_eq_some_iff.1 h;exact of_q h hp fun h=>(ck5_pure E A S R K N n h).weak (.cons (weak_fptr (.cons (asL_weak h0_0) (.cons (asL_weak h0_1) (.cons (asL_weak h0_2) (.cons (asL_weak h0_3) (.cons (asL_weak h0_4) (.cons (asL_weak h0_5) .nil))))))) (.cons (.refl _) .nil))
  ·cases h
noncomputable def env_ck6 (E:List Int) (A:List Acc.AcD) (S:List Ln) (R:List Rts.Rt) (K:List Lck.Lk) (N:List En):Env where
 P:=Tryz.prog
 ty:=tys0
 specs:=specsOf [sp_all]
def g_ck6_vc (E:List Int) (A:List Acc.AcD) (S:List Ln) (R:List Rts.Rt) (K:List Lck.Lk) (N:List En):Prop:=
 Sm E A S R K N/\((allF N (↑E.length:Int) (↑A.length:Int) (Acc.thoseF (Acc.leafF A) A.length)).1,(allF N (↑E.length:Int) (↑A.length:Int) (Acc.thoseF (Acc.leafF A) A.length)).2,())=((allF N (↑E.length:Int) (↑A.length:Int) (Acc.thoseF (Acc.leafF A) A.length)).1,(allF N (↑E.length:Int) (↑A.length:Int) (Acc.thoseF (Acc.leafF A) A.length)).2,())
theorem g_ck6_eq (E:List Int) (A:List Acc.AcD) (S:List Ln) (R:List Rts.Rt) (K:List Lck.Lk) (N:List En):Cond (env_ck6 E A S R K N) Tryz.f56 [.fptr [.list .tmp I E, .list .tmp AcT A, .list .tmp LnT S, .list .tmp RTy R, .list .tmp Vl K, .list .tmp EnT N]] [.int .i64, .int .i64] ((allF N E.length A.length (Acc.thoseF (Acc.leafF A) A.length)).1,(allF N E.length A.length (Acc.thoseF (Acc.leafF A) A.length)).2,())=g_ck6_vc E A S R K N:=by kernel_rfl
theorem g_ck6_ok (E:List Int) (A:List Acc.AcD) (S:List Ln) (R:List Rts.Rt) (K:List Lck.Lk) (N:List En) (h:Sm E A S R K N):g_ck6_vc E A S R K N:=by
 unfold g_ck6_vc;exact ⟨h,rfl⟩
theorem ck6_pure (E:List Int) (A:List Acc.AcD) (S:List Ln) (R:List Rts.Rt) (K:List Lck.Lk) (N:List En) (h:Sm E A S R K N):Pure Tryz.prog 56 [.fptr [.list .tmp I E, .list .tmp AcT A, .list .tmp LnT S, .list .tmp RTy R, .list .tmp Vl K, .list .tmp EnT N]] (.tuple [.int .i64 (allF N E.length A.length (Acc.thoseF (Acc.leafF A) A.length)).1, .int .i64 (allF N E.length A.length (Acc.thoseF (Acc.leafF A) A.length)).2]):=
 by have k:=Pure.of_cond (g_ck6_eq E A S R K N) (g_ck6_ok E A S R K N h) (specs_ok rfl [sp_all] [] rfl rfl) mixed Tryz.func56;exact k
noncomputable def q_ck6 (E:List Int) (A:List Acc.AcD) (S:List Ln) (R:List Rts.Rt) (K:List Lck.Lk) (N:List En):Prop×V:=(Sm E A S R K N,(.tuple [.int .i64 (allF N E.length A.length (Acc.thoseF (Acc.leafF A) A.length)).1, .int .i64 (allF N E.length A.length (Acc.thoseF (Acc.leafF A) A.length)).2]))
noncomputable def sp_ck6:FSpec Tryz.prog where
 f:=56
 run:=fun
  |[.fptr [v0_0,v0_1,v0_2,v0_3,v0_4,v0_5]]=>(asL I v0_0:Option (List Int)).bind fun E=>(asL AcT v0_1:Option (List Acc.AcD)).bind fun A=>(asL LnT v0_2:Option (List Ln)).bind fun S=>(asL RTy v0_3:Option (List Rts.Rt)).bind fun R=>(asL Vl v0_4:Option (List Lck.Lk)).bind fun K=>(asL EnT v0_5:Option (List En)).bind fun N=>some (q_ck6 E A S R K N)
  |_=>none
 ok:=fun args pre r h hp=>by
  split at h
  ·rename_i v0_0 v0_1 v0_2 v0_3 v0_4 v0_5;obtain ⟨E,h0_0,h⟩:=Option.bind_eq_some_iff.1 h;obtain ⟨A,h0_1,h⟩:=Option.bind_eq_some_iff.1 h;obtain ⟨S,h0_2,h⟩:=Option.bind_eq_some_iff.1 h;obtain ⟨R,h0_3,h⟩:=Option.bind_eq_some_iff.1 h;obtain ⟨K,h0_4,h⟩:=Option.bind_eq_some_iff.1 h;obtain ⟨N,h0_5,h⟩:=Option.bind_eq_some_iff.1 h;exact of_q h hp fun h=>(ck6_pure E A S R K N h).weak (.cons (weak_fptr (.cons (asL_weak h0_0) (.cons (asL_weak h0_1) (.cons (asL_weak h0_2) (.cons (asL_weak h0_3) (.cons (asL_weak h0_4) (.cons (asL_weak h0_5) .nil))))))) .nil)
  ·cases h
def stepF (p:Int) (c:Int×Int) (r:Int×Int×Int):Int×Int×Int:=if c.2=0 then r else (p,c.1,c.2)
theorem step_0 {p:Int} {c:Int×Int} {r:Int×Int×Int} (h:c.2=0):stepF p c r=r:=by unfold stepF;rw [if_pos h]
theorem step_1 {p:Int} {c:Int×Int} {r:Int×Int×Int} (h:c.2≠0):stepF p c r=(p,c.1,c.2):=by unfold stepF;rw [if_neg h]
def checkF (E:List Int) (A:List Acc.AcD) (S:List Ln) (R:List Rts.Rt) (K:List Lck.Lk) (N:List En):Int×Int×Int:=stepF 1 (Cur.checkF E) (stepF 2 (Acc.checkF A) (stepF 3 (Stk.checkF S E.length) (stepF 4 (Rts.checkF R) (stepF 5 (Lck.checkF K E.length) (stepF 6 (allF N E.length A.length (Acc.thoseF (Acc.leafF A) A.length)) (0,0,0))))))
def restF (E:List Int) (A:List Acc.AcD) (S:List Ln) (R:List Rts.Rt) (K:List Lck.Lk) (N:List En) (i:Int):Int×Int×Int:=
 if i=0 then checkF E A S R K N else if i=1 then stepF 2 (Acc.checkF A) (stepF 3 (Stk.checkF S E.length) (stepF 4 (Rts.checkF R) (stepF 5 (Lck.checkF K E.length) (stepF 6 (allF N E.length A.length (Acc.thoseF (Acc.leafF A) A.length)) (0,0,0)))))
 else if i=2 then stepF 3 (Stk.checkF S E.length) (stepF 4 (Rts.checkF R) (stepF 5 (Lck.checkF K E.length) (stepF 6 (allF N E.length A.length (Acc.thoseF (Acc.leafF A) A.length)) (0,0,0))))
 else if i=3 then stepF 4 (Rts.checkF R) (stepF 5 (Lck.checkF K E.length) (stepF 6 (allF N E.length A.length (Acc.thoseF (Acc.leafF A) A.length)) (0,0,0)))
 else if i=4 then stepF 5 (Lck.checkF K E.length) (stepF 6 (allF N E.length A.length (Acc.thoseF (Acc.leafF A) A.length)) (0,0,0))
 else if i=5 then stepF 6 (allF N E.length A.length (Acc.thoseF (Acc.leafF A) A.length)) (0,0,0)
 else (0,0,0)
end Go.Proofs.YtabicbgeoiilmaaGreat.Bks
end
section
namespace Go.Proofs.YtabicbgeoiilmaaGreat.Bks
open Go.Vm
set_option maxRecDepth 20000
end Go.Proofs.YtabicbgeoiilmaaGreat.Bks
end
section
namespace Go.Proofs.YtabicbgeoiilmaaGreat.Bks
open Go.Vm
noncomputable def env_check (E:List Int) (A:List Acc.AcD) (S:List Ln) (R:List Rts.Rt) (K:List Lck.Lk) (N:List En):Env where
 P:=Tryz.prog
 ty:=tys0
 specs:=specsOf [sp_ck1,sp_ck2,sp_ck3,sp_ck4,sp_ck5,sp_ck6]
 asRows:=fun|25=>true|_=>false
 heads:=fun|3=>some {slots:=[(27, .int .i64)],boxes:=[],keep:=[1,5],inv:=fun _ (x:Int×Unit)=>0<=x.1/\x.1<=6/\checkF E A S R K N=restF E A S R K N x.1,measure:=fun _ (x:Int×Unit)=>(6-x.1).toNat}|_=>none
abbrev bx_check_1 (E:List Int) (A:List Acc.AcD) (S:List Ln) (R:List Rts.Rt) (K:List Lck.Lk) (N:List En):_root_.Go.Vm.Obj:=Obj.box [V.list LK.tmp I E,V.list LK.tmp AcT A,V.list LK.tmp LnT S,V.list LK.tmp RTy R,V.list LK.tmp Vl K,V.list LK.tmp EnT N]
def g_check_vc (E:List Int) (A:List Acc.AcD) (S:List Ln) (R:List Rts.Rt) (K:List Lck.Lk) (N:List En):Prop:=
 ((some (bx_check_1 E A S R K N)=some (bx_check_1 E A S R K N)/\some (Obj.box [V.int IntKind.i64 (↑E.length:Int)])=some (Obj.box [V.int IntKind.i64 (↑E.length:Int)])/\True)/\0<=(0:Int)/\0<=(6:Int)/\checkF E A S R K N=restF E A S R K N (0:Int))/\∀(x:Int×Unit),0<=x.1/\x.1<=(6:Int)/\checkF E A S R K N=restF E A S R K N x.1->(decide (x.1<(↑(6:Nat):Int))=true->(0<=x.1/\x.1<(↑(6:Nat):Int))/\(x.1=(↑(0:Nat):Int)->Sm E A S R K N/\((!decide ((Cur.checkF E).2=(0:Int)))=true->((1:Int),(Cur.checkF E).1,(Cur.checkF E).2,())=((checkF E A S R K N).1,(checkF E A S R K N).2.1,(checkF E A S R K N).2.2,()))/\((!decide ((Cur.checkF E).2=(0:Int)))=false->(-9223372036854775808<=x.1+1/\x.1+1<=9223372036854775807)/\(some (bx_check_1 E A S R K N)=some (bx_check_1 E A S R K N)/\some (Obj.box [V.int IntKind.i64 (↑E.length:Int)])=some (Obj.box [V.int IntKind.i64 (↑E.length:Int)])/\True)/\(0<=x.1+1/\x.1+1<=(6:Int)/\checkF E A S R K N=restF E A S R K N (x.1+1))/\((6:Int)-(x.1+1)).toNat<((6:Int)-x.1).toNat))/\(x.1=(↑(1:Nat):Int)->Sm E A S R K N/\((!decide ((Acc.checkF A).2=(0:Int)))=true->((2:Int),(Acc.checkF A).1,(Acc.checkF A).2,())=((checkF E A S R K N).1,(checkF E A S R K N).2.1,(checkF E A S R K N).2.2,()))/\((!decide ((Acc.checkF A).2=(0:Int)))=false->(-9223372036854775808<=x.1+1/\x.1+1<=9223372036854775807)/\(some (bx_check_1 E A S R K N)=some (bx_check_1 E A S R K N)/\some (Obj.box [V.int IntKind.i64 (↑E.length:Int)])=some (Obj.box [V.int IntKind.i64 (↑E.length:Int)])/\True)/\(0<=x.1+1/\x.1+1<=(6:Int)/\checkF E A S R K N=restF E A S R K N (x.1+1))/\((6:Int)-(x.1+1)).toNat<((6:Int)-x.1).toNat))/\(x.1=(↑(2:Nat):Int)->Sm E A S R K N/\((!decide ((Stk.checkF S (↑E.length:Int)).2=(0:Int)))=true->((3:Int),(Stk.checkF S (↑E.length:Int)).1,(Stk.checkF S (↑E.length:Int)).2,())=((checkF E A S R K N).1,(checkF E A S R K N).2.1,(checkF E A S R K N).2.2,()))/\((!decide ((Stk.checkF S (↑E.length:Int)).2=(0:Int)))=false->(-9223372036854775808<=x.1+1/\x.1+1<=9223372036854775807)/\(some (bx_check_1 E A S R K N)=some (bx_check_1 E A S R K N)/\some (Obj.box [V.int IntKind.i64 (↑E.length:Int)])=some (Obj.box [V.int IntKind.i64 (↑E.length:Int)])/\True)/\(0<=x.1+1/\x.1+1<=(6:Int)/\checkF E A S R K N=restF E A S R K N (x.1+1))/\((6:Int)-(x.1+1)).toNat<((6:Int)-x.1).toNat))/\(x.1=(↑(3:Nat):Int)->Sm E A S R K N/\((!decide ((Rts.checkF R).2=(0:Int)))=true->((4:Int),(Rts.checkF R).1,(Rts.checkF R).2,())=((checkF E A S R K N).1,(checkF E A S R K N).2.1,(checkF E A S R K N).2.2,()))/\((!decide ((Rts.checkF R).2=(0:Int)))=false->(-9223372036854775808<=x.1+1/\x.1+1<=9223372036854775807)/\(some (bx_check_1 E A S R K N)=some (bx_check_1 E A S R K N)/\some (Obj.box [V.int IntKind.i64 (↑E.length:Int)])=some (Obj.box [V.int IntKind.i64 (↑E.length:Int)])/\True)/\(0<=x.1+1/\x.1+1<=(6:Int)/\checkF E A S R K N=restF E A S R K N (x.1+1))/\((6:Int)-(x.1+1)).toNat<((6:Int)-x.1).toNat))/\(x.1=(↑(4:Nat):Int)->Sm E A S R K N/\((!decide ((Lck.checkF K (↑E.length:Int)).2=(0:Int)))=true->((5:Int),(Lck.checkF K (↑E.length:Int)).1,(Lck.checkF K (↑E.length:Int)).2,())=((checkF E A S R K N).1,(checkF E A S R K N).2.1,(checkF E A S R K N).2.2,()))/\((!decide ((Lck.checkF K (↑E.length:Int)).2=(0:Int)))=false->(-9223372036854775808<=x.1+1/\x.1+1<=9223372036854775807)/\(some (bx_check_1 E A S R K N)=some (bx_check_1 E A S R K N)/\some (Obj.box [V.int IntKind.i64 (↑E.length:Int)])=some (Obj.box [V.int IntKind.i64 (↑E.length:Int)])/\True)/\(0<=x.1+1/\x.1+1<=(6:Int)/\checkF E A S R K N=restF E A S R K N (x.1+1))/\((6:Int)-(x.1+1)).toNat<((6:Int)-x.1).toNat))/\(x.1=(↑(5:Nat):Int)->Sm E A S R K N/\((!decide ((allF N (↑E.length:Int) (↑A.length:Int) (Acc.thoseF (Acc.leafF A) A.length)).2=(0:Int)))=true->((6:Int),(allF N (↑E.length:Int) (↑A.length:Int) (Acc.thoseF (Acc.leafF A) A.length)).1,(allF N (↑E.length:Int) (↑A.length:Int) (Acc.thoseF (Acc.leafF A) A.length)).2,())=((checkF E A S R K N).1,(checkF E A S R K N).2.1,(checkF E A S R K N).2.2,()))/\((!decide ((allF N (↑E.length:Int) (↑A.length:Int) (Acc.thoseF (Acc.leafF A) A.length)).2=(0:Int)))=false->(-9223372036854775808<=x.1+1/\x.1+1<=9223372036854775807)/\(some (bx_check_1 E A S R K N)=some (bx_check_1 E A S R K N)/\some (Obj.box [V.int IntKind.i64 (↑E.length:Int)])=some (Obj.box [V.int IntKind.i64 (↑E.length:Int)])/\True)/\(0<=x.1+1/\x.1+1<=(6:Int)/\checkF E A S R K N=restF E A S R K N (x.1+1))/\((6:Int)-(x.1+1)).toNat<((6:Int)-x.1).toNat))/\True)/\(decide (x.1<(↑(6:Nat):Int))=false->((0:Int),(0:Int),(0:Int),())=((checkF E A S R K N).1,(checkF E A S R K N).2.1,(checkF E A S R K N).2.2,()))
theorem g_check_eq (E:List Int) (A:List Acc.AcD) (S:List Ln) (R:List Rts.Rt) (K:List Lck.Lk) (N:List En):Cond (env_check E A S R K N) Tryz.f15 [.agg [.list .tmp I E, .list .tmp AcT A, .list .tmp LnT S, .list .tmp RTy R, .list .tmp Vl K, .list .tmp EnT N]] [.int .i64, .int .i64, .int .i64] ((checkF E A S R K N).1,(checkF E A S R K N).2.1,(checkF E A S R K N).2.2,())=g_check_vc E A S R K N:=by kernel_rfl
theorem rest_0 (E:List Int) (A:List Acc.AcD) (S:List Ln) (R:List Rts.Rt) (K:List Lck.Lk) (N:List En):restF E A S R K N 0=stepF 1 (Cur.checkF E) (restF E A S R K N 1):=by simp [restF,checkF]
theorem rest_1 (E:List Int) (A:List Acc.AcD) (S:List Ln) (R:List Rts.Rt) (K:List Lck.Lk) (N:List En):restF E A S R K N 1=stepF 2 (Acc.checkF A) (restF E A S R K N 2):=by simp [restF,checkF]
theorem rest_2 (E:List Int) (A:List Acc.AcD) (S:List Ln) (R:List Rts.Rt) (K:List Lck.Lk) (N:List En):restF E A S R K N 2=stepF 3 (Stk.checkF S E.length) (restF E A S R K N 3):=by simp [restF,checkF]
theorem rest_3 (E:List Int) (A:List Acc.AcD) (S:List Ln) (R:List Rts.Rt) (K:List Lck.Lk) (N:List En):restF E A S R K N 3=stepF 4 (Rts.checkF R) (restF E A S R K N 4):=by simp [restF,checkF]
theorem rest_4 (E:List Int) (A:List Acc.AcD) (S:List Ln) (R:List Rts.Rt) (K:List Lck.Lk) (N:List En):restF E A S R K N 4=stepF 5 (Lck.checkF K E.length) (restF E A S R K N 5):=by simp [restF,checkF]
theorem rest_5 (E:List Int) (A:List Acc.AcD) (S:List Ln) (R:List Rts.Rt) (K:List Lck.Lk) (N:List En):restF E A S R K N 5=stepF 6 (allF N E.length A.length (Acc.thoseF (Acc.leafF A) A.length)) (restF E A S R K N 6):=by simp [restF,checkF]
theorem rest_6 (E:List Int) (A:List Acc.AcD) (S:List Ln) (R:List Rts.Rt) (K:List Lck.Lk) (N:List En):restF E A S R K N 6=(0,0,0):=by simp [restF]
theorem g_check_ok (E:List Int) (A:List Acc.AcD) (S:List Ln) (R:List Rts.Rt) (K:List Lck.Lk) (N:List En) (h:Sm E A S R K N):g_check_vc E A S R K N:=by
 unfold g_check_vc;simp only [Bool.not_eq_true',Bool.not_eq_false',decide_eq_true_eq,decide_eq_false_iff_not];refine ⟨⟨⟨trivial,trivial,trivial⟩,by omega,by omega,by rw [restF,if_pos rfl]⟩, ?_⟩;rintro ⟨i,⟨⟩⟩ ⟨h0,h1,hb⟩;dsimp only at h0 h1 hb⊢;refine ⟨fun d=>⟨⟨h0,d⟩,fun e=>⟨h,fun k=> ?_,fun k=>⟨by omega,⟨trivial,trivial,trivial⟩,⟨by omega,by omega, ?_⟩,by omega⟩⟩,fun e=>⟨h,fun k=> ?_,fun k=>⟨by omega,⟨trivial,trivial,trivial⟩,⟨by omega,by omega, ?_⟩,by omega⟩⟩,fun e=>⟨h,fun k=> ?_,fun k=>⟨by omega,⟨trivial,trivial,trivial⟩,⟨by omega,by omega, ?_⟩,by omega⟩⟩,fun e=>⟨h,fun k=> ?_,fun k=>⟨by omega,⟨trivial,trivial,trivial⟩,⟨by omega,by omega, ?_⟩,by omega⟩⟩,fun e=>⟨h,fun k=> ?_,fun k=>⟨by omega,⟨trivial,trivial,trivial⟩,⟨by omega,by omega, ?_⟩,by omega⟩⟩,fun e=>⟨h,fun k=> ?_,fun k=>⟨by omega,⟨trivial,trivial,trivial⟩,⟨by omega,by omega, ?_⟩,by omega⟩⟩,trivial⟩,fun d=> ?_⟩
 ·rw [hb,e,show (((0:Nat)):Int)=0 from rfl,rest_0,step_1 k]
 ·rw [hb,e,show (((0:Nat)):Int)=0 from rfl,rest_0,step_0 k];rfl
 ·rw [hb,e,show (((1:Nat)):Int)=1 from rfl,rest_1,step_1 k]
 ·rw [hb,e,show (((1:Nat)):Int)=1 from rfl,rest_1,step_0 k];rfl
 ·rw [hb,e,show (((2:Nat)):Int)=2 from rfl,rest_2,step_1 k]
 ·rw [hb,e,show (((2:Nat)):Int)=2 from rfl,rest_2,step_0 k];rfl
 ·rw [hb,e,show (((3:Nat)):Int)=3 from rfl,rest_3,step_1 k]
 ·rw [hb,e,show (((3:Nat)):Int)=3 from rfl,rest_3,step_0 k];rfl
 ·rw [hb,e,show (((4:Nat)):Int)=4 from rfl,rest_4,step_1 k]
 ·rw [hb,e,show (((4:Nat)):Int)=4 from rfl,rest_4,step_0 k];rfl
 ·rw [hb,e,show (((5:Nat)):Int)=5 from rfl,rest_5,step_1 k]
 ·rw [hb,e,show (((5:Nat)):Int)=5 from rfl,rest_5,step_0 k];rfl
 ·rw [hb,show i=6 by omega,rest_6]
set_option maxRecDepth 20000
theorem check_pure (E:List Int) (A:List Acc.AcD) (S:List Ln) (R:List Rts.Rt) (K:List Lck.Lk) (N:List En) (h:Sm E A S R K N):Pure Tryz.prog 15 [.agg [.list .tmp I E, .list .tmp AcT A, .list .tmp LnT S, .list .tmp RTy R, .list .tmp Vl K, .list .tmp EnT N]] (.tuple [.int .i64 (checkF E A S R K N).1, .int .i64 (checkF E A S R K N).2.1, .int .i64 (checkF E A S R K N).2.2]):=
 by have k:=Pure.of_cond (g_check_eq E A S R K N) (g_check_ok E A S R K N h) (specs_ok rfl [sp_ck1,sp_ck2,sp_ck3,sp_ck4,sp_ck5,sp_ck6] [] rfl rfl) mixed Tryz.func15;exact k
noncomputable def q_check (E:List Int) (A:List Acc.AcD) (S:List Ln) (R:List Rts.Rt) (K:List Lck.Lk) (N:List En):Prop×V:=(Sm E A S R K N,(.tuple [.int .i64 (checkF E A S R K N).1, .int .i64 (checkF E A S R K N).2.1, .int .i64 (checkF E A S R K N).2.2]))
noncomputable def sp_check:FSpec Tryz.prog where
 f:=15
 run:=fun
  |[.agg [v0_0,v0_1,v0_2,v0_3,v0_4,v0_5]]=>(asL I v0_0:Option (List Int)).bind fun E=>(asL AcT v0_1:Option (List Acc.AcD)).bind fun A=>(asL LnT v0_2:Option (List Ln)).bind fun S=>(asL RTy v0_3:Option (List Rts.Rt)).bind fun R=>(asL Vl v0_4:Option (List Lck.Lk)).bind fun K=>(asL EnT v0_5:Option (List En)).bind fun N=>some (q_check E A S R K N)
  |_=>none
 ok:=fun args pre r h hp=>by
  split at h
  ·rename_i v0_0 v0_1 v0_2 v0_3 v0_4 v0_5;obtain ⟨E,h0_0,h⟩:=Option.bind_eq_some_iff.1 h;obtain ⟨A,h0_1,h⟩:=Option.bind_eq_some_iff.1 h;obtain ⟨S,h0_2,h⟩:=Option.bind_eq_some_iff.1 h;obtain ⟨R,h0_3,h⟩:=Option.bind_eq_some_iff.1 h;obtain ⟨K,h0_4,h⟩:=Option.bind_eq_some_iff.1 h;obtain ⟨N,h0_5,h⟩:=Option.bind_eq_some_iff.1 h;exact of_q h hp fun h=>(check_pure E A S R K N h).weak (.cons (Weak.agg (.cons (asL_weak h0_0) (.cons (asL_weak h0_1) (.cons (asL_weak h0_2) (.cons (asL_weak h0_3) (.cons (asL_weak h0_4) (.cons (asL_weak h0_5) .nil))))))) .nil)
  ·cases h
end Go.Proofs.YtabicbgeoiilmaaGreat.Bks
end
section
namespace Go.Proofs.YtabicbgeoiilmaaGreat.Bks
open Go.Vm
instance decLs:DecidableEq (List Ln):=inferInstance
instance decEn:DecidableEq En:= @instDecidableEqProd Int (Int×List Ln) inferInstance (@instDecidableEqProd Int (List Ln) inferInstance decLs)
instance decEns:DecidableEq (List En):= @instDecidableEqList En decEn
def few24 (N:List En):Bool:=decide (N.length<=30)&& !N.any fun x=>decide (60<x.2.2.length)
noncomputable def env_few24 (N:List En):Env where
 P:=Tryz.prog
 ty:=tys0
 heads:=fun|4=>some {slots:=[(3, .int .i64)],boxes:=[],inv:=fun _ (x:Int×Unit)=>0<=x.1/\x.1<=N.length/\(N.any fun x=>decide (60<x.2.2.length))=((N.drop x.1.toNat).any fun x=>decide (60<x.2.2.length)),measure:=fun _ (x:Int×Unit)=>(N.length-x.1).toNat}|_=>none
def g_few24_vc (N:List En):Prop:=
 (decide ((30:Int)<(↑N.length:Int))=true->(false,())=(few24 N,()))/\(decide ((30:Int)<(↑N.length:Int))=false->(True/\0<=(0:Int)/\0<=(↑N.length:Int)/\(N.any fun x=>decide ((60:Nat)<x.2.2.length))=(List.drop (Int.toNat (0:Int)) N).any fun x=>decide ((60:Nat)<x.2.2.length))/\∀(x:Int×Unit),(0<=x.1/\x.1<=(↑N.length:Int)/\(N.any fun x=>decide ((60:Nat)<x.2.2.length))=(List.drop x.1.toNat N).any fun x=>decide ((60:Nat)<x.2.2.length))->(decide (x.1<(↑N.length:Int))=true->(0<=x.1/\x.1<(↑N.length:Int))/\∀(x_1:Int×Int×List (Int×Int×Int×Int)),N[x.1.toNat]? =some x_1->(decide ((60:Int)<(↑x_1.2.2.length:Int))=true->(false,())=(few24 N,()))/\(decide ((60:Int)<(↑x_1.2.2.length:Int))=false->(-9223372036854775808<=x.1+1/\x.1+1<=9223372036854775807)/\True/\(0<=x.1+1/\x.1+1<=(↑N.length:Int)/\(N.any fun x=>decide ((60:Nat)<x.2.2.length))=(List.drop (x.1+1).toNat N).any fun x=>decide ((60:Nat)<x.2.2.length))/\((↑N.length:Int)-(x.1+1)).toNat<((↑N.length:Int)-x.1).toNat))/\(decide (x.1<(↑N.length:Int))=false->(true,())=(few24 N,())))
theorem g_few24_eq (N:List En):Cond (env_few24 N) Tryz.f24 [.list .tmp EnT N] [.bool] (few24 N,())=g_few24_vc N:=by kernel_rfl
theorem g_few24_ok (N:List En) (h:N.length<=9223372036854775807):g_few24_vc N:=by
 unfold g_few24_vc few24;simp only [decide_eq_true_eq,decide_eq_false_iff_not];refine ⟨fun c=>by rw [decide_eq_false (by omega),Bool.false_and],fun c=>⟨⟨trivial,by omega,by omega,rfl⟩, ?_⟩⟩;rintro ⟨i,⟨⟩⟩ ⟨h0,h1,hb⟩;dsimp only at h0 h1 hb⊢;rw [hb,decide_eq_true (by omega),Bool.true_and];refine ⟨fun d=>⟨⟨h0,d⟩,fun x hx=>⟨fun k=> ?_,fun k=>⟨by omega,trivial,⟨by omega,by omega, ?_⟩,by omega⟩⟩⟩,fun d=> ?_⟩
 ·rw [any_hit hx (by rw [decide_eq_true (by omega)])];rfl
 ·rw [any_miss h0 hx (by rw [decide_eq_false (by omega)])]
 ·rw [any_end d];rfl
set_option maxRecDepth 20000
theorem few24_pure (N:List En) (h:N.length<=9223372036854775807):Pure Tryz.prog 24 [.list .tmp EnT N] (.bool (few24 N)):=
 by have k:=Pure.of_cond (g_few24_eq N) (g_few24_ok N h) (specs_ok rfl [] [] rfl rfl) mixed Tryz.func24;exact k
noncomputable def q_few24 (N:List En):Prop×V:=(N.length<=9223372036854775807,(.bool (few24 N)))
noncomputable def sp_few24:FSpec Tryz.prog where
 f:=24
 run:=fun
  |[v0]=>(asL EnT v0:Option (List En)).bind fun N=>some (q_few24 N)
  |_=>none
 ok:=fun args pre r h hp=>by
  split at h
  ·rename_i v0;obtain ⟨N,h0,h⟩:=Option.bind_eq_some_iff.1 h;exact of_q h hp fun h=>(few24_pure N h).weak (.cons (asL_weak h0) .nil)
  ·cases h
def fewF (E:List Int) (A:List Acc.AcD) (S:List Ln) (R:List Rts.Rt) (K:List Lck.Lk) (N:List En):Bool:=decide (E.length<=50)&&(decide (A.length<=65)&&(decide (S.length<=20)&&(decide (R.length<=60)&&(decide (K.length<=60)&&few24 N))))
noncomputable def env_few (E:List Int) (A:List Acc.AcD) (S:List Ln) (R:List Rts.Rt) (K:List Lck.Lk) (N:List En):Env where
 P:=Tryz.prog
 ty:=tys0
 specs:=specsOf [sp_few24]
def g_few_vc (E:List Int) (A:List Acc.AcD) (S:List Ln) (R:List Rts.Rt) (K:List Lck.Lk) (N:List En):Prop:=
 (decide ((↑E.length:Int)<=(50:Int))=true->(decide ((↑A.length:Int)<=(65:Int))=true->(decide ((↑S.length:Int)<=(20:Int))=true->(decide ((↑R.length:Int)<=(60:Int))=true->(decide ((↑K.length:Int)<=(60:Int))=true->N.length<=(9223372036854775807:Nat)/\(few24 N,())=(fewF E A S R K N,()))/\(decide ((↑K.length:Int)<=(60:Int))= !true->(false,())=(fewF E A S R K N,())))/\(decide ((↑R.length:Int)<=(60:Int))= !true->(false,())=(fewF E A S R K N,())))/\(decide ((↑S.length:Int)<=(20:Int))= !true->(false,())=(fewF E A S R K N,())))/\(decide ((↑A.length:Int)<=(65:Int))= !true->(false,())=(fewF E A S R K N,())))/\(decide ((↑E.length:Int)<=(50:Int))= !true->(false,())=(fewF E A S R K N,()))
theorem g_few_eq (E:List Int) (A:List Acc.AcD) (S:List Ln) (R:List Rts.Rt) (K:List Lck.Lk) (N:List En):Cond (env_few E A S R K N) Tryz.f7 [.agg [.list .tmp I E, .list .tmp AcT A, .list .tmp LnT S, .list .tmp RTy R, .list .tmp Vl K, .list .tmp EnT N]] [.bool] (fewF E A S R K N,())=g_few_vc E A S R K N:=by kernel_rfl
theorem g_few_ok (E:List Int) (A:List Acc.AcD) (S:List Ln) (R:List Rts.Rt) (K:List Lck.Lk) (N:List En) (h:N.length<=9223372036854775807):g_few_vc E A S R K N:=by
 unfold g_few_vc fewF;simp only [decide_eq_true_eq,Bool.not_true,decide_eq_false_iff_not];refine ⟨fun a=>⟨fun b=>⟨fun c=>⟨fun d=>⟨fun e=>⟨h, ?_⟩,fun e=> ?_⟩,fun d=> ?_⟩,fun c=> ?_⟩,fun b=> ?_⟩,fun a=> ?_⟩
 ·rw [decide_eq_true (show E.length<=50 by omega),decide_eq_true (show A.length<=65 by omega),decide_eq_true (show S.length<=20 by omega),decide_eq_true (show R.length<=60 by omega),decide_eq_true (show K.length<=60 by omega)];rfl
 ·rw [decide_eq_true (show E.length<=50 by omega),decide_eq_true (show A.length<=65 by omega),decide_eq_true (show S.length<=20 by omega),decide_eq_true (show R.length<=60 by omega),decide_eq_false (show¬K.length<=60 by omega)];rfl
 ·rw [decide_eq_true (show E.length<=50 by omega),decide_eq_true (show A.length<=65 by omega),decide_eq_true (show S.length<=20 by omega),decide_eq_false (show¬R.length<=60 by omega)];rfl
 ·rw [decide_eq_true (show E.length<=50 by omega),decide_eq_true (show A.length<=65 by omega),decide_eq_false (show¬S.length<=20 by omega)];rfl
 ·rw [decide_eq_true (show E.length<=50 by omega),decide_eq_false (show¬A.length<=65 by omega)];rfl
 ·rw [decide_eq_false (show¬E.length<=50 by omega)];rfl
theorem few_pure (E:List Int) (A:List Acc.AcD) (S:List Ln) (R:List Rts.Rt) (K:List Lck.Lk) (N:List En) (h:N.length<=9223372036854775807):Pure Tryz.prog 7 [.agg [.list .tmp I E, .list .tmp AcT A, .list .tmp LnT S, .list .tmp RTy R, .list .tmp Vl K, .list .tmp EnT N]] (.bool (fewF E A S R K N)):=
 by have k:=Pure.of_cond (g_few_eq E A S R K N) (g_few_ok E A S R K N h) (specs_ok rfl [sp_few24] [] rfl rfl) mixed Tryz.func7;exact k
noncomputable def q_few (E:List Int) (A:List Acc.AcD) (S:List Ln) (R:List Rts.Rt) (K:List Lck.Lk) (N:List En):Prop×V:=(N.length<=9223372036854775807,(.bool (fewF E A S R K N)))
noncomputable def sp_few:FSpec Tryz.prog where
 f:=7
 run:=fun
  |[.agg [v0_0,v0_1,v0_2,v0_3,v0_4,v0_5]]=>(asL I v0_0:Option (List Int)).bind fun E=>(asL AcT v0_1:Option (List Acc.AcD)).bind fun A=>(asL LnT v0_2:Option (List Ln)).bind fun S=>(asL RTy v0_3:Option (List Rts.Rt)).bind fun R=>(asL Vl v0_4:Option (List Lck.Lk)).bind fun K=>(asL EnT v0_5:Option (List En)).bind fun N=>some (q_few E A S R K N)
  |_=>none
 ok:=fun args pre r h hp=>by
  split at h
  ·rename_i v0_0 v0_1 v0_2 v0_3 v0_4 v0_5;obtain ⟨E,h0_0,h⟩:=Option.bind_eq_some_iff.1 h;obtain ⟨A,h0_1,h⟩:=Option.bind_eq_some_iff.1 h;obtain ⟨S,h0_2,h⟩:=Option.bind_eq_some_iff.1 h;obtain ⟨R,h0_3,h⟩:=Option.bind_eq_some_iff.1 h;obtain ⟨K,h0_4,h⟩:=Option.bind_eq_some_iff.1 h;obtain ⟨N,h0_5,h⟩:=Option.bind_eq_some_iff.1 h;exact of_q h hp fun h=>(few_pure E A S R K N h).weak (.cons (Weak.agg (.cons (asL_weak h0_0) (.cons (asL_weak h0_1) (.cons (asL_weak h0_2) (.cons (asL_weak h0_3) (.cons (asL_weak h0_4) (.cons (asL_weak h0_5) .nil))))))) .nil)
  ·cases h
def sameB (E:List Int) (A:List Acc.AcD) (S:List Ln) (R:List Rts.Rt) (K:List Lck.Lk) (N:List En) (E2:List Int) (A2:List Acc.AcD) (S2:List Ln) (R2:List Rts.Rt) (K2:List Lck.Lk) (N2:List En):Bool:=decide (E=E2)&&(decide (A=A2)&&(decide (S=S2)&&(decide (R=R2)&&(decide (K=K2)&&decide (N=N2)))))
end Go.Proofs.YtabicbgeoiilmaaGreat.Bks
end
section
namespace Go.Proofs.YtabicbgeoiilmaaGreat.Bks
open Go.Vm
abbrev Po:=Int×Int×Int×Ln
def lnGo (p i:Int):List Ln->Nat->List Po
 |[],_=>[]
 |x::r,k=>(((k+1:Nat):Int),i+1,p,x)::lnGo p i r (k+1)
def poGo:List En->Int->Nat->List Po
 |[],_,_=>[]
 |x::r,i,k=>lnGo x.1 i x.2.2 k++poGo r (i+1) (k+x.2.2.length)
def linesF (N:List En):List Po:=poGo N 0 0
theorem ln_next {p i k:Int} {L:List Ln} {n:Nat} {x:Ln} (h0:0<=k) (hx:L[k.toNat]? =some x):lnGo p i (L.drop k.toNat) n=(((n+1:Nat):Int),i+1,p,x)::lnGo p i (L.drop (k+1).toNat) (n+1):=by
 obtain ⟨h1,h2⟩:=List.getElem?_eq_some_iff.1 hx;rw [List.drop_eq_getElem_cons h1,h2,show (k+1).toNat=k.toNat+1 by omega];rfl
theorem ln_end {p i k:Int} {L:List Ln} {n:Nat} (h: ¬k<(L.length:Int)):lnGo p i (L.drop k.toNat) n=[]:=by
 rw [List.drop_of_length_le (by omega)];rfl
theorem po_next {N:List En} {i:Int} {n:Nat} {x:En} (h0:0<=i) (hx:N[i.toNat]? =some x):poGo (N.drop i.toNat) i n=lnGo x.1 i x.2.2 n++poGo (N.drop (i+1).toNat) (i+1) (n+x.2.2.length):=by
 obtain ⟨h1,h2⟩:=List.getElem?_eq_some_iff.1 hx;rw [List.drop_eq_getElem_cons h1,h2,show (i+1).toNat=i.toNat+1 by omega];rfl
theorem po_end {N:List En} {i:Int} {n:Nat} (h: ¬i<(N.length:Int)):poGo (N.drop i.toNat) i n=[]:=by
 rw [List.drop_of_length_le (by omega)];rfl
noncomputable def env_rlines (N:List En):Env where
 P:=Tryz.prog
 ty:=tys0
 heads:=fun|3=>some {slots:=[(4, .int .i64),(3, .slc 9000 PoT)],boxes:=[],inv:=fun _ (x:Int×List Po×Unit)=>0<=x.1/\x.1<=N.length/\(x.2.1.length:Int)<=1000*x.1/\linesF N=x.2.1++poGo (N.drop x.1.toNat) x.1 x.2.1.length,measure:=fun _ (x:Int×List Po×Unit)=>(N.length-x.1).toNat}|6=>some {slots:=[(4, .int .i64),(5, .int .i64),(3, .slc 9000 PoT)],boxes:=[],inv:=fun st (x:Int×Int×List Po×Unit)=> ∃y,N[x.1.toNat]? =some y/\x.1=st.int 4/\0<=x.1/\x.1<N.length/\0<=x.2.1/\x.2.1<=y.2.2.length/\(x.2.2.1.length:Int)<=1000*x.1+x.2.1/\linesF N=x.2.2.1++(lnGo y.1 x.1 (y.2.2.drop x.2.1.toNat) x.2.2.1.length++poGo (N.drop (x.1+1).toNat) (x.1+1) (x.2.2.1.length+(y.2.2.length-x.2.1.toNat))),measure:=fun _ (x:Int×Int×List Po×Unit)=>1000-x.2.1.toNat}|_=>none
def g_rlines_vc (N:List En):Prop:=
 (True/\0<=(0:Int)/\0<=(↑N.length:Int)/\(↑(0:Nat):Int)<=(1000:Int)*(0:Int)/\linesF N=poGo (List.drop (Int.toNat (0:Int)) N) (0:Int) (0:Nat))/\∀(x:Int×List (Int×Int×Int×Int×Int×Int×Int)×Unit),0<=x.1/\x.1<=(↑N.length:Int)/\(↑x.2.1.length:Int)<=(1000:Int)*x.1/\linesF N=x.2.1++poGo (List.drop x.1.toNat N) x.1 x.2.1.length->(decide (x.1<(↑N.length:Int))=true->(True/\∃y,N[x.1.toNat]? =some y/\x.1=x.1/\0<=x.1/\x.1<(↑N.length:Int)/\0<=(0:Int)/\0<=(↑y.2.2.length:Int)/\(↑x.2.1.length:Int)<=(1000:Int)*x.1+(0:Int)/\linesF N=x.2.1++(lnGo y.1 x.1 (List.drop (Int.toNat (0:Int)) y.2.2) x.2.1.length++poGo (List.drop (x.1+1).toNat N) (x.1+1) (x.2.1.length+(y.2.2.length-Int.toNat (0:Int)))))/\∀(x_1:Int×Int×List (Int×Int×Int×Int×Int×Int×Int)×Unit),(∃y,N[x_1.1.toNat]? =some y/\x_1.1=x.1/\0<=x_1.1/\x_1.1<(↑N.length:Int)/\0<=x_1.2.1/\x_1.2.1<=(↑y.2.2.length:Int)/\(↑x_1.2.2.1.length:Int)<=(1000:Int)*x_1.1+x_1.2.1/\linesF N=x_1.2.2.1++(lnGo y.1 x_1.1 (List.drop x_1.2.1.toNat y.2.2) x_1.2.2.1.length++poGo (List.drop (x_1.1+1).toNat N) (x_1.1+1) (x_1.2.2.1.length+(y.2.2.length-x_1.2.1.toNat))))->(0<=x_1.1/\x_1.1<(↑N.length:Int))/\∀(x_2:Int×Int×List (Int×Int×Int×Int)),N[x_1.1.toNat]? =some x_2->(decide (x_1.2.1<(↑x_2.2.2.length:Int))=true->(-9223372036854775808<=(↑x_1.2.2.1.length:Int)+1/\(↑x_1.2.2.1.length:Int)+1<=9223372036854775807)/\(-9223372036854775808<=x_1.1+1/\x_1.1+1<=9223372036854775807)/\(0<=x_1.1/\x_1.1<(↑N.length:Int))/\∀(x_3:Int×Int×List (Int×Int×Int×Int)),N[x_1.1.toNat]? =some x_3->(0<=x_1.1/\x_1.1<(↑N.length:Int))/\∀(x_4:Int×Int×List (Int×Int×Int×Int)),N[x_1.1.toNat]? =some x_4->(0<=x_1.2.1/\x_1.2.1<(↑x_4.2.2.length:Int))/\∀(x_5:Int×Int×Int×Int),x_4.2.2[x_1.2.1.toNat]? =some x_5->((x_1.2.2.1.length+(1:Nat))*(56:Nat)<=(140737488355328:Nat)/\x_1.2.2.1.length+(1:Nat)<=(4611686018427387904:Nat))/\(-9223372036854775808<=x_1.2.1+1/\x_1.2.1+1<=9223372036854775807)/\True/\(∃y,N[x_1.1.toNat]? =some y/\x_1.1=x.1/\0<=x_1.1/\x_1.1<(↑N.length:Int)/\0<=x_1.2.1+1/\x_1.2.1+1<=(↑y.2.2.length:Int)/\(↑(x_1.2.2.1++[((↑x_1.2.2.1.length:Int)+1,x_1.1+1,x_3.1,x_5.1,x_5.2.1,x_5.2.2.1,x_5.2.2.2)]).length:Int)<=(1000:Int)*x_1.1+(x_1.2.1+1)/\linesF N=x_1.2.2.1++[((↑x_1.2.2.1.length:Int)+1,x_1.1+1,x_3.1,x_5.1,x_5.2.1,x_5.2.2.1,x_5.2.2.2)]++(lnGo y.1 x_1.1 (List.drop (x_1.2.1+1).toNat y.2.2) (x_1.2.2.1++[((↑x_1.2.2.1.length:Int)+1,x_1.1+1,x_3.1,x_5.1,x_5.2.1,x_5.2.2.1,x_5.2.2.2)]).length++poGo (List.drop (x_1.1+1).toNat N) (x_1.1+1) ((x_1.2.2.1++[((↑x_1.2.2.1.length:Int)+1,x_1.1+1,x_3.1,x_5.1,x_5.2.1,x_5.2.2.1,x_5.2.2.2)]).length+(y.2.2.length-(x_1.2.1+1).toNat))))/\(1000:Nat)-(x_1.2.1+1).toNat<(1000:Nat)-x_1.2.1.toNat)/\(decide (x_1.2.1<(↑x_2.2.2.length:Int))=false->(-9223372036854775808<=x_1.1+1/\x_1.1+1<=9223372036854775807)/\True/\(0<=x_1.1+1/\x_1.1+1<=(↑N.length:Int)/\(↑x_1.2.2.1.length:Int)<=(1000:Int)*(x_1.1+1)/\linesF N=x_1.2.2.1++poGo (List.drop (x_1.1+1).toNat N) (x_1.1+1) x_1.2.2.1.length)/\((↑N.length:Int)-(x_1.1+1)).toNat<((↑N.length:Int)-x.1).toNat))/\(decide (x.1<(↑N.length:Int))=false->(x.2.1,())=(linesF N,()))
theorem g_rlines_eq (N:List En):Cond (env_rlines N) Tryz.f126 [.list .tmp EnT N] [.slc 0 PoT] (linesF N,())=g_rlines_vc N:=by kernel_rfl
theorem g_rlines_ok (N:List En) (h:N.length<=1000000/\InE N):g_rlines_vc N:=by
 obtain ⟨h,hi⟩:=h;unfold g_rlines_vc;simp only [decide_eq_true_eq,decide_eq_false_iff_not];refine ⟨⟨trivial,by omega,by omega,by simp,rfl⟩, ?_⟩;rintro ⟨i,out,⟨⟩⟩ ⟨h0,h1,h2,hb⟩;dsimp only at h0 h1 h2 hb⊢;refine ⟨fun c=>⟨⟨trivial, ?_⟩, ?_⟩,fun c=> ?_⟩
 ·have hx:N[i.toNat]? =some N[i.toNat]:=List.getElem?_eq_getElem (by omega);exact ⟨_,hx,trivial,h0,c,by omega,by omega,by omega,by rw [hb,po_next h0 hx];rfl⟩
 ·clear hb h0 h1 h2 c;rintro ⟨j,k,ys,⟨⟩⟩ ⟨y,hy,e,j0,j1,k0,k1,k2,hb⟩;dsimp only at hy e j0 j1 k0 k1 k2 hb⊢;have hly:=(ine_at hi hy).2;refine ⟨⟨j0,j1⟩,fun x hx=> ?_⟩;rw [hy] at hx;cases hx;refine ⟨fun c=>⟨by omega,by omega,⟨j0,j1⟩,fun z hz=> ?_⟩,fun c=> ?_⟩
  ·rw [hy] at hz;cases hz;refine ⟨⟨j0,j1⟩,fun z hz=> ?_⟩;rw [hy] at hz;cases hz;refine ⟨⟨k0,c⟩,fun z hz=>⟨⟨by omega,by omega⟩,by omega,trivial,⟨y,hy,e,j0,j1,by omega,by omega,by simp only [List.length_append,List.length_singleton];omega, ?_⟩,by omega⟩⟩;rw [hb,ln_next k0 hz,List.append_assoc,List.length_append,List.length_singleton,show ys.length+1+(y.2.2.length-(k+1).toNat)=ys.length+(y.2.2.length-k.toNat) by omega];rfl
  ·refine ⟨by omega,trivial,⟨by omega,by omega,by omega, ?_⟩,by omega⟩;rw [hb,ln_end c,List.nil_append,show ys.length+(y.2.2.length-k.toNat)=ys.length by omega]
 ·rw [hb,po_end c,List.append_nil]
set_option maxRecDepth 20000
theorem rlines_pure (N:List En) (h:N.length<=1000000/\InE N):Pure Tryz.prog 126 [.list .tmp EnT N] (.olist PoT (linesF N)):=
 by have k:=Pure.of_cond (g_rlines_eq N) (g_rlines_ok N h) (specs_ok rfl [] [] rfl rfl) mixed Tryz.func126;exact k
noncomputable def q_rlines (N:List En):Prop×V:=(N.length<=1000000/\InE N,(.olist PoT (linesF N)))
noncomputable def sp_rlines:FSpec Tryz.prog where
 f:=126
 run:=fun
  |[v0]=>(asL EnT v0:Option (List En)).bind fun N=>some (q_rlines N)
  |_=>none
 ok:=fun args pre r h hp=>by
  split at h
  ·rename_i v0;obtain ⟨N,h0,h⟩:=Option.bind_eq_some_iff.1 h;exact of_q h hp fun h=>(rlines_pure N h).weak (.cons (asL_weak h0) .nil)
  ·cases h
def accP (a:Int) (x:Po):Bool:=decide (x.2.2.2.2.1=a)
def usedF (N:List En) (a:Int):Bool:=(linesF N).any (accP a)
theorem ln_len (p i:Int): ∀(L:List Ln) (k:Nat),(lnGo p i L k).length=L.length
 |[],_=>rfl
 |x::r,k=>by rw [lnGo,List.length_cons,ln_len p i r,List.length_cons]
theorem po_len: ∀(N:List En) (i:Int) (k:Nat),InE N->(poGo N i k).length<=1000*N.length
 |[],_,_,_=>by simp [poGo]
 |x::r,i,k,h=>by
  have h1:=(h x (by simp)).2;have h2:=po_len r (i+1) (k+x.2.2.length) (fun y hy=>h y (by simp [hy]));rw [poGo,List.length_append,ln_len,List.length_cons];omega
end Go.Proofs.YtabicbgeoiilmaaGreat.Bks
end
section
namespace Go.Proofs.YtabicbgeoiilmaaGreat.Bks
open Go.Vm
abbrev nI:List Int:=[]
abbrev nL:List Ln:=[]
abbrev nR:List Rts.Rt:=[]
abbrev nK:List Lck.Lk:=[]
abbrev nE:List En:=[]
noncomputable def env_rnew:Env where
 P:=Tryz.prog
 ty:=tys0
 specs:=specsOf [Acc.sp_rnew]
abbrev ann_rnew:Ann:={slots:=numP 0 [.list .full I, .list .full AcT, .list .full LnT, .list .full RTy, .list .full Vl, .list .full EnT],boxes:=[],inv:=fun _ _=>True}
def g_rnew_vc:Prop:=
 True/\True/\([],Acc.ownL,[],[],[],[],())=(nI,Acc.ownL,nL,nR,nK,nE,())
theorem g_rnew_eq:CondG (env_rnew) Tryz.f25 [] [some 6] ann_rnew (nI,Acc.ownL,nL,nR,nK,nE,())=g_rnew_vc:=by kernel_rfl
theorem g_rnew_ok:g_rnew_vc:=by
 unfold g_rnew_vc;exact ⟨trivial,trivial,rfl⟩
set_option maxRecDepth 20000
theorem rnew_pure:Pure Tryz.prog 25 [] (.agg [.list .full I [], .list .full AcT Acc.ownL, .list .full LnT [], .list .full RTy [], .list .full Vl [], .list .full EnT []]):=
 by have k:=Pure.of_condG (r:=(.agg [.list .full I [], .list .full AcT Acc.ownL, .list .full LnT [], .list .full RTy [], .list .full Vl [], .list .full EnT []])) (g_rnew_eq) (g_rnew_ok) rfl (specs_ok rfl [Acc.sp_rnew] [] rfl rfl) mixed Tryz.func25;exact k
noncomputable def q_rnew:Prop×V:=(True,(.agg [.list .full I [], .list .full AcT Acc.ownL, .list .full LnT [], .list .full RTy [], .list .full Vl [], .list .full EnT []]))
noncomputable def sp_rnew:FSpec Tryz.prog where
 f:=25
 run:=fun
  |[]=>some (q_rnew)
  |_=>none
 ok:=fun args pre r h hp=>by
  split at h
  ·skip;exact of_q h hp fun h=>(rnew_pure).weak .nil
  ·cases h
noncomputable def env_cli (l:List (Int)):Env where
 P:=Tryz.prog
 ty:=tys0
def g_cli_vc (l:List Int):Prop:=
 ((true=true->l.length=(0:Nat))->([],())=(l,()))/\((false=true->l.length=(0:Nat))->(((0:Nat)+l.length)*(8:Nat)<=(140737488355328:Nat)/\(0:Nat)+l.length<=(4611686018427387904:Nat)/\((0:Nat)<l.length∨(0:Nat)=(0:Nat)))/\(l,())=(l,()))
theorem g_cli_eq (l:List (Int)):Cond (env_cli l) Tryz.f78 [.list .tmp I l] [.slc 0 I] (l,())=g_cli_vc l:=by kernel_rfl
theorem g_cli_ok (l:List (Int)) (h:l.length<=1000000):g_cli_vc l:=by
 unfold g_cli_vc;refine ⟨fun e=> ?_,fun _=>⟨⟨by omega,by omega, .inr rfl⟩,rfl⟩⟩;have:=List.eq_nil_of_length_eq_zero (e rfl);rw [this]
theorem cli_pure (l:List (Int)) (h:l.length<=1000000):Pure Tryz.prog 78 [.list .tmp I l] (.olist I l):=
 by have k:=Pure.of_cond (g_cli_eq l) (g_cli_ok l h) (specs_ok rfl [] [] rfl rfl) mixed Tryz.func78;exact k
noncomputable def q_cli (l:List (Int)):Prop×V:=(l.length<=1000000,(.olist I l))
noncomputable def sp_cli:FSpec Tryz.prog where
 f:=78
 run:=fun
  |[v0]=>(asL I v0:Option (List (Int))).bind fun l=>some (q_cli l)
  |_=>none
 ok:=fun args pre r h hp=>by
  split at h
  ·rename_i v0;obtain ⟨l,h0,h⟩:=Option.bind_eq_some_iff.1 h;exact of_q h hp fun h=>(cli_pure l h).weak (.cons (asL_weak h0) .nil)
  ·cases h
noncomputable def env_cla (l:List (Int×Int×Bool×Bool)):Env where
 P:=Tryz.prog
 ty:=tys0
def g_cla_vc (l:List (Int×Int×Bool×Bool)):Prop:=
 ((true=true->l.length=(0:Nat))->([],())=(l,()))/\((false=true->l.length=(0:Nat))->(((0:Nat)+l.length)*(24:Nat)<=(140737488355328:Nat)/\(0:Nat)+l.length<=(4611686018427387904:Nat)/\((0:Nat)<l.length∨(0:Nat)=(0:Nat)))/\(l,())=(l,()))
theorem g_cla_eq (l:List (Int×Int×Bool×Bool)):Cond (env_cla l) Tryz.f79 [.list .tmp AcT l] [.slc 0 AcT] (l,())=g_cla_vc l:=by kernel_rfl
theorem g_cla_ok (l:List (Int×Int×Bool×Bool)) (h:l.length<=1000000):g_cla_vc l:=by
 unfold g_cla_vc;refine ⟨fun e=> ?_,fun _=>⟨⟨by omega,by omega, .inr rfl⟩,rfl⟩⟩;have:=List.eq_nil_of_length_eq_zero (e rfl);rw [this]
theorem cla_pure (l:List (Int×Int×Bool×Bool)) (h:l.length<=1000000):Pure Tryz.prog 79 [.list .tmp AcT l] (.olist AcT l):=
 by have k:=Pure.of_cond (g_cla_eq l) (g_cla_ok l h) (specs_ok rfl [] [] rfl rfl) mixed Tryz.func79;exact k
noncomputable def q_cla (l:List (Int×Int×Bool×Bool)):Prop×V:=(l.length<=1000000,(.olist AcT l))
noncomputable def sp_cla:FSpec Tryz.prog where
 f:=79
 run:=fun
  |[v0]=>(asL AcT v0:Option (List (Int×Int×Bool×Bool))).bind fun l=>some (q_cla l)
  |_=>none
 ok:=fun args pre r h hp=>by
  split at h
  ·rename_i v0;obtain ⟨l,h0,h⟩:=Option.bind_eq_some_iff.1 h;exact of_q h hp fun h=>(cla_pure l h).weak (.cons (asL_weak h0) .nil)
  ·cases h
noncomputable def env_clk (l:List (Int×Int)):Env where
 P:=Tryz.prog
 ty:=tys0
def g_clk_vc (l:List (Int×Int)):Prop:=
 ((true=true->l.length=(0:Nat))->([],())=(l,()))/\((false=true->l.length=(0:Nat))->(((0:Nat)+l.length)*(16:Nat)<=(140737488355328:Nat)/\(0:Nat)+l.length<=(4611686018427387904:Nat)/\((0:Nat)<l.length∨(0:Nat)=(0:Nat)))/\(l,())=(l,()))
theorem g_clk_eq (l:List (Int×Int)):Cond (env_clk l) Tryz.f82 [.list .tmp Vl l] [.slc 0 Vl] (l,())=g_clk_vc l:=by kernel_rfl
theorem g_clk_ok (l:List (Int×Int)) (h:l.length<=1000000):g_clk_vc l:=by
 unfold g_clk_vc;refine ⟨fun e=> ?_,fun _=>⟨⟨by omega,by omega, .inr rfl⟩,rfl⟩⟩;have:=List.eq_nil_of_length_eq_zero (e rfl);rw [this]
theorem clk_pure (l:List (Int×Int)) (h:l.length<=1000000):Pure Tryz.prog 82 [.list .tmp Vl l] (.olist Vl l):=
 by have k:=Pure.of_cond (g_clk_eq l) (g_clk_ok l h) (specs_ok rfl [] [] rfl rfl) mixed Tryz.func82;exact k
noncomputable def q_clk (l:List (Int×Int)):Prop×V:=(l.length<=1000000,(.olist Vl l))
noncomputable def sp_clk:FSpec Tryz.prog where
 f:=82
 run:=fun
  |[v0]=>(asL Vl v0:Option (List (Int×Int))).bind fun l=>some (q_clk l)
  |_=>none
 ok:=fun args pre r h hp=>by
  split at h
  ·rename_i v0;obtain ⟨l,h0,h⟩:=Option.bind_eq_some_iff.1 h;exact of_q h hp fun h=>(clk_pure l h).weak (.cons (asL_weak h0) .nil)
  ·cases h
noncomputable def env_cle (l:List (En)):Env where
 P:=Tryz.prog
 ty:=tys0
def g_cle_vc (l:List En):Prop:=
 ((true=true->l.length=(0:Nat))->([],())=(l,()))/\((false=true->l.length=(0:Nat))->(((0:Nat)+l.length)*(40:Nat)<=(140737488355328:Nat)/\(0:Nat)+l.length<=(4611686018427387904:Nat)/\((0:Nat)<l.length∨(0:Nat)=(0:Nat)))/\(l,())=(l,()))
theorem g_cle_eq (l:List (En)):Cond (env_cle l) Tryz.f83 [.list .tmp EnT l] [.slc 0 EnT] (l,())=g_cle_vc l:=by kernel_rfl
theorem g_cle_ok (l:List (En)) (h:l.length<=1000000):g_cle_vc l:=by
 unfold g_cle_vc;refine ⟨fun e=> ?_,fun _=>⟨⟨by omega,by omega, .inr rfl⟩,rfl⟩⟩;have:=List.eq_nil_of_length_eq_zero (e rfl);rw [this]
theorem cle_pure (l:List (En)) (h:l.length<=1000000):Pure Tryz.prog 83 [.list .tmp EnT l] (.olist EnT l):=
 by have k:=Pure.of_cond (g_cle_eq l) (g_cle_ok l h) (specs_ok rfl [] [] rfl rfl) mixed Tryz.func83;exact k
noncomputable def q_cle (l:List (En)):Prop×V:=(l.length<=1000000,(.olist EnT l))
noncomputable def sp_cle:FSpec Tryz.prog where
 f:=83
 run:=fun
  |[v0]=>(asL EnT v0:Option (List (En))).bind fun l=>some (q_cle l)
  |_=>none
 ok:=fun args pre r h hp=>by
  split at h
  ·rename_i v0;obtain ⟨l,h0,h⟩:=Option.bind_eq_some_iff.1 h;exact of_q h hp fun h=>(cle_pure l h).weak (.cons (asL_weak h0) .nil)
  ·cases h
theorem set_same {α:Type} {l:List α} {i:Nat} {x:α} (h:l[i]? =some x):l.set i x=l:=by
 refine List.ext_getElem? fun j=> ?_;by_cases c:i=j
 ·subst c;rw [List.getElem?_set_self ((List.getElem?_eq_some_iff.1 h).1),h]
 ·rw [List.getElem?_set_ne c]
noncomputable def env_copy (E:List Int) (A:List Acc.AcD) (S:List Ln) (R:List Rts.Rt) (K:List Lck.Lk) (N:List En):Env where
 P:=Tryz.prog
 ty:=tys0
 specs:=specsOf [sp_cli,sp_cla,Stk.sp_clone,Rts.sp_clone,sp_clk,sp_cle,Ent.sp_clone]
 frz:=fun|8=>true|11=>true|14=>true|17=>true|20=>true|38=>true|_=>false
 heads:=fun|3=>some {slots:=[(28, .int .i64),(23, .slc 23 EnT)],boxes:=[],keep:=[1,2,3],inv:=fun _ (x:Int×List En×Unit)=>0<=x.1/\x.1<=N.length/\x.2.1=N,measure:=fun _ (x:Int×List En×Unit)=>(N.length-x.1).toNat}|_=>none
abbrev ann_copy:Ann:={slots:=numP 0 [.list .part I, .list .part AcT, .list .part LnT, .list .part RTy, .list .part Vl, .list .part EnT],boxes:=[],inv:=fun _ _=>True}
abbrev bx_copy_1 (E:List Int) (A:List Acc.AcD) (S:List Ln) (R:List Rts.Rt) (K:List Lck.Lk):_root_.Go.Vm.Obj:=Obj.box [V.list LK.part I E,V.list LK.part AcT A,V.list LK.part Stk.STy S,V.list LK.part RTy R,V.list LK.part Vl K,V.slc (23:Nat) (0:Nat) none]
abbrev bx_copy_2 (E:List Int) (A:List Acc.AcD) (S:List Ln) (R:List Rts.Rt) (K:List Lck.Lk) (N:List En):_root_.Go.Vm.Obj:=Obj.box [V.list LK.tmp I E,V.list LK.tmp AcT A,V.list LK.tmp LnT S,V.list LK.tmp RTy R,V.list LK.tmp Vl K,V.list LK.tmp EnT N]
def g_copy_vc (E:List Int) (A:List Acc.AcD) (S:List Ln) (R:List Rts.Rt) (K:List Lck.Lk) (N:List En):Prop:=
 E.length<=(1000000:Nat)/\A.length<=(1000000:Nat)/\S.length<=(1000000000:Nat)/\R.length<=(1000000:Nat)/\K.length<=(1000000:Nat)/\N.length<=(1000000:Nat)/\((some (bx_copy_2 E A S R K N)=some (bx_copy_2 E A S R K N)/\some (Obj.box [V.nils,V.nils,V.nils,V.nils,V.nils,V.nils])=some (Obj.box [V.nils,V.nils,V.nils,V.nils,V.nils,V.nils])/\some (bx_copy_1 E A S R K)=some (bx_copy_1 E A S R K)/\True)/\0<=(0:Int)/\0<=(↑N.length:Int)/\N=N)/\∀(x:Int×List (Int×Int×List (Int×Int×Int×Int))×Unit),0<=x.1/\x.1<=(↑N.length:Int)/\x.2.1=N->(decide (x.1<(↑N.length:Int))=true->(0<=x.1/\x.1<(↑N.length:Int))/\∀(x_1:Int×Int×List (Int×Int×Int×Int)),N[x.1.toNat]? =some x_1->x_1.2.2.length<=(1000000000:Nat)/\(0<=x.1/\x.1<(↑x.2.1.length:Int))/\x.1.toNat<x.2.1.length/\∀(y:Int×Int×List (Int×Int×Int×Int)),x.2.1[x.1.toNat]? =some y->(-9223372036854775808<=x.1+1/\x.1+1<=9223372036854775807)/\(some (bx_copy_2 E A S R K N)=some (bx_copy_2 E A S R K N)/\some (Obj.box [V.nils,V.nils,V.nils,V.nils,V.nils,V.nils])=some (Obj.box [V.nils,V.nils,V.nils,V.nils,V.nils,V.nils])/\some (bx_copy_1 E A S R K)=some (bx_copy_1 E A S R K)/\True)/\(0<=x.1+1/\x.1+1<=(↑N.length:Int)/\x.2.1.set x.1.toNat (y.1,y.2.1,x_1.2.2)=N)/\((↑N.length:Int)-(x.1+1)).toNat<((↑N.length:Int)-x.1).toNat)/\(decide (x.1<(↑N.length:Int))=false->True/\(E,A,S,R,K,x.2.1,())=(E,A,S,R,K,N,()))
theorem g_copy_eq (E:List Int) (A:List Acc.AcD) (S:List Ln) (R:List Rts.Rt) (K:List Lck.Lk) (N:List En):CondG (env_copy E A S R K N) Tryz.f34 [.agg [.list .tmp I E, .list .tmp AcT A, .list .tmp LnT S, .list .tmp RTy R, .list .tmp Vl K, .list .tmp EnT N]] [some 6] ann_copy (E,A,S,R,K,N,())=g_copy_vc E A S R K N:=by kernel_rfl
theorem g_copy_ok (E:List Int) (A:List Acc.AcD) (S:List Ln) (R:List Rts.Rt) (K:List Lck.Lk) (N:List En) (h:Sm E A S R K N):g_copy_vc E A S R K N:=by
 unfold g_copy_vc;obtain ⟨l1,l2,l3,l4,l5,l6,hi⟩:=h;refine ⟨by omega,by omega,by omega,by omega,by omega,by omega,⟨⟨rfl,rfl,rfl,trivial⟩,by omega,by omega,rfl⟩, ?_⟩;rintro ⟨i,M,⟨⟩⟩ ⟨h0,h1,hb⟩;dsimp only at h0 h1 hb⊢;subst hb;simp only [decide_eq_true_eq,decide_eq_false_iff_not];refine ⟨fun c=>⟨⟨h0,c⟩,fun x hx=>⟨by have:=(ine_at hi hx).2;omega,⟨h0,c⟩,by omega,fun y hy=>⟨by omega,⟨trivial,trivial,trivial,trivial⟩,⟨by omega,by omega, ?_⟩,by omega⟩⟩⟩,fun c=>⟨trivial,trivial⟩⟩;rw [hx] at hy;cases hy;exact set_same hx
theorem copy_pure (E:List Int) (A:List Acc.AcD) (S:List Ln) (R:List Rts.Rt) (K:List Lck.Lk) (N:List En) (h:Sm E A S R K N):Pure Tryz.prog 34 [.agg [.list .tmp I E, .list .tmp AcT A, .list .tmp LnT S, .list .tmp RTy R, .list .tmp Vl K, .list .tmp EnT N]] (.agg [.list .part I E, .list .part AcT A, .list .part LnT S, .list .part RTy R, .list .part Vl K, .list .part EnT N]):=
 by have k:=Pure.of_condG (r:=(.agg [.list .part I E, .list .part AcT A, .list .part LnT S, .list .part RTy R, .list .part Vl K, .list .part EnT N])) (g_copy_eq E A S R K N) (g_copy_ok E A S R K N h) rfl (specs_ok rfl [sp_cli,sp_cla,Stk.sp_clone,Rts.sp_clone,sp_clk,sp_cle,Ent.sp_clone] [] rfl rfl) mixed Tryz.func34;exact k
noncomputable def q_copy (E:List Int) (A:List Acc.AcD) (S:List Ln) (R:List Rts.Rt) (K:List Lck.Lk) (N:List En):Prop×V:=(Sm E A S R K N,(.agg [.list .part I E, .list .part AcT A, .list .part LnT S, .list .part RTy R, .list .part Vl K, .list .part EnT N]))
noncomputable def sp_copy:FSpec Tryz.prog where
 f:=34
 run:=fun
  |[.agg [v0_0,v0_1,v0_2,v0_3,v0_4,v0_5]]=>(asL I v0_0:Option (List Int)).bind fun E=>(asL AcT v0_1:Option (List Acc.AcD)).bind fun A=>(asL LnT v0_2:Option (List Ln)).bind fun S=>(asL RTy v0_3:Option (List Rts.Rt)).bind fun R=>(asL Vl v0_4:Option (List Lck.Lk)).bind fun K=>(asL EnT v0_5:Option (List En)).bind fun N=>some (q_copy E A S R K N)
  |_=>none
 ok:=fun args pre r h hp=>by
  split at h
  ·rename_i v0_0 v0_1 v0_2 v0_3 v0_4 v0_5;obtain ⟨E,h0_0,h⟩:=Option.bind_eq_some_iff.1 h;obtain ⟨A,h0_1,h⟩:=Option.bind_eq_some_iff.1 h;obtain ⟨S,h0_2,h⟩:=Option.bind_eq_some_iff.1 h;obtain ⟨R,h0_3,h⟩:=Option.bind_eq_some_iff.1 h;obtain ⟨K,h0_4,h⟩:=Option.bind_eq_some_iff.1 h;obtain ⟨N,h0_5,h⟩:=Option.bind_eq_some_iff.1 h;exact of_q h hp fun h=>(copy_pure E A S R K N h).weak (.cons (Weak.agg (.cons (asL_weak h0_0) (.cons (asL_weak h0_1) (.cons (asL_weak h0_2) (.cons (asL_weak h0_3) (.cons (asL_weak h0_4) (.cons (asL_weak h0_5) .nil))))))) .nil)
  ·cases h
end Go.Proofs.YtabicbgeoiilmaaGreat.Bks
end
