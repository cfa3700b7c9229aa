/-
  Books that are new; some; a copy.
-/
import Derived.Test.YtabicbgeoiilmaaGreatStk8
set_option linter.unusedVariables false
section
namespace Go.Proofs.YtabicbgeoiilmaaGreat.Bks
open Go.Vm
noncomputable def env_sameLines (L M:List Ln):Env where
 P:=Tryz.prog
 ty:=tys0
 specs:=specsOf [Ent.sp_same]
def g_sameLines_vc (L:List Ln) (M:List Ln):Prop:=
 L.length<=(1000000000:Nat)/\(Ent.sameE (0:Int) (0:Int) L (0:Int) (0:Int) M,())=(decide (L=M),())
theorem g_sameLines_eq (L M:List Ln):Cond (env_sameLines L M) Tryz.f104 [.list .tmp LnT L, .list .tmp LnT M] [.bool] (decide (L=M),())=g_sameLines_vc L M:=by kernel_rfl
theorem g_sameLines_ok (L M:List Ln) (h:L.length<=1000000):g_sameLines_vc L M:=by
 unfold g_sameLines_vc;exact ⟨by omega,by unfold Ent.sameE;simp⟩
set_option maxRecDepth 20000
theorem sameLines_pure (L M:List Ln) (h:L.length<=1000000):Pure Tryz.prog 104 [.list .tmp LnT L, .list .tmp LnT M] (.bool (decide (L=M))):=
 by have k:=Pure.of_cond (g_sameLines_eq L M) (g_sameLines_ok L M h) (specs_ok rfl [Ent.sp_same] [] rfl rfl) mixed Tryz.func104;exact k
noncomputable def q_sameLines (L M:List Ln):Prop×V:=(L.length<=1000000,(.bool (decide (L=M))))
noncomputable def sp_sameLines:FSpec Tryz.prog where
 f:=104
 run:=fun
  |[v0,v1]=>(asL LnT v0:Option (List Ln)).bind fun L=>(asL LnT v1:Option (List Ln)).bind fun M=>some (q_sameLines L M)
  |_=>none
 ok:=fun args pre r h hp=>by
  split at h
  ·rename_i v0 v1;obtain ⟨L,h0,h⟩:=Option.bind_eq_some_iff.1 h;obtain ⟨M,h1,h⟩:=Option.bind_eq_some_iff.1 h;exact of_q h hp fun h=>(sameLines_pure L M h).weak (.cons (asL_weak h0) (.cons (asL_weak h1) .nil))
  ·cases h
def entryF (n k:Int) (ls:List Int) (A:List En) (x:En):Int:=
 if (Ent.checkF x.1 x.2.2 n k).2=0 then (if placedF ls x.2.2=0 then turnedF A x.2.1 x.2.2 else placedF ls x.2.2) else (Ent.checkF x.1 x.2.2 n k).2
theorem entry_1 {n k:Int} {ls:List Int} {A:List En} {x:En} (h:(Ent.checkF x.1 x.2.2 n k).2≠0):entryF n k ls A x=(Ent.checkF x.1 x.2.2 n k).2:=by unfold entryF;rw [if_neg h]
theorem entry_2 {n k:Int} {ls:List Int} {A:List En} {x:En} (h:(Ent.checkF x.1 x.2.2 n k).2=0) (g:placedF ls x.2.2≠0):entryF n k ls A x=placedF ls x.2.2:=by unfold entryF;rw [if_pos h,if_neg g]
theorem entry_3 {n k:Int} {ls:List Int} {A:List En} {x:En} (h:(Ent.checkF x.1 x.2.2 n k).2=0) (g:placedF ls x.2.2=0):entryF n k ls A x=turnedF A x.2.1 x.2.2:=by unfold entryF;rw [if_pos h,if_pos g]
theorem placed_28 {ls:List Int} {L:List Ln} (h:L.any ownP=true):placedF ls L=28:=by unfold placedF;rw [if_pos h]
theorem placed_27 {ls:List Int} {L:List Ln} (h:L.any ownP=false) (g:L.any (innP ls)=true):placedF ls L=27:=by unfold placedF;rw [if_neg (by rw [h];decide),if_pos g]
theorem placed_0 {ls:List Int} {L:List Ln} (h:L.any ownP=false) (g:L.any (innP ls)=false):placedF ls L=0:=by unfold placedF;rw [if_neg (by rw [h];decide),if_neg (by rw [g];decide)]
theorem any_hit {α:Type} {p:α->Bool} {l:List α} {i:Int} {x:α} (hx:l[i.toNat]? =some x) (h:p x=true):(l.drop i.toNat).any p=true:=by
 obtain ⟨h1,h2⟩:=List.getElem?_eq_some_iff.1 hx;rw [List.drop_eq_getElem_cons h1,h2,List.any_cons,h,Bool.true_or]
theorem any_miss {α:Type} {p:α->Bool} {l:List α} {i:Int} {x:α} (h0:0<=i) (hx:l[i.toNat]? =some x) (h:p x=false):(l.drop i.toNat).any p=(l.drop (i+1).toNat).any p:=by
 obtain ⟨h1,h2⟩:=List.getElem?_eq_some_iff.1 hx;rw [List.drop_eq_getElem_cons h1,h2,List.any_cons,h,Bool.false_or,show (i+1).toNat=i.toNat+1 by omega]
theorem any_end {α:Type} {p:α->Bool} {l:List α} {i:Int} (h: ¬i<(l.length:Int)):(l.drop i.toNat).any p=false:=by
 rw [List.drop_of_length_le (by omega)];rfl
theorem th_any (p:Int->Bool) (a:Int): ∀(f:Nat) (i:Int),(Acc.thGo p f i).any (eqP a)=(decide (i<=a/\a<i+f)&&p a)
 |0,i=>by
  rw [decide_eq_false (by omega)];rfl
 |f+1,i=>by
  rw [Acc.thGo];by_cases c:i=a
  ·subst c;rw [decide_eq_true (by omega),Bool.true_and];split
   ·rename_i h;rw [List.any_cons,h,show eqP i i=true by simp [eqP],Bool.true_or]
   ·rename_i h;rw [th_any p i f (i+1),decide_eq_false (by omega)];simpa using h
  ·have e:(decide (i<=a/\a<i+((f+1:Nat):Int)))=decide (i+1<=a/\a<i+1+f):=decide_eq_decide.2 (by omega);rw [e];split
   ·rw [List.any_cons,show eqP a i=false by unfold eqP;rw [decide_eq_false (fun h=>c h.symm)],Bool.false_or,th_any p a f (i+1)]
   ·rw [th_any p a f (i+1)]
theorem inn_leaf (A:List Acc.AcD) (x:Ln):innP (Acc.thoseF (Acc.leafF A) A.length) x= !Acc.leafF A x.2.1:=by
 unfold innP Acc.thoseF;rw [th_any];congr 1;rw [show decide (1<=x.2.1/\x.2.1<1+(A.length:Int))=decide (Acc.isIn A x.2.1) from decide_eq_decide.2 (by unfold Acc.isIn;omega)];unfold Acc.leafF;rw [<-Bool.and_assoc,Bool.and_self]
def entGo (n k:Int) (ls:List Int) (N:List En):Nat->Int->Option (Int×Int)
 |0,_=>none
 |f+1,i=>match N[i.toNat]? with
  |none=>none
  |some x=>if entryF n k ls (N.take i.toNat) x=0 then entGo n k ls N f (i+1) else some (i,entryF n k ls (N.take i.toNat) x)
theorem ent_next {n k:Int} {ls:List Int} {N:List En} {f:Nat} {i:Int} {x:En} (hf:0<f) (hx:N[i.toNat]? =some x):entGo n k ls N f i=if entryF n k ls (N.take i.toNat) x=0 then entGo n k ls N (f-1) (i+1) else some (i,entryF n k ls (N.take i.toNat) x):=by
 obtain ⟨g,rfl⟩: ∃g,f=g+1:=⟨f-1,by omega⟩
 rw [entGo,hx];rfl
def endE (o:Option (Int×Int)) (z:Int):Int×Int:=match o with
 |none=>(z,0)
 |some r=>r
def allF (N:List En) (n k:Int) (ls:List Int):Int×Int:=if 2000<(N.length:Int) then (0,3) else endE (entGo n k ls N N.length 0) N.length
def entriesF (N:List En) (n k:Int) (ls:List Int):Int×Int:=if 2000<(N.length:Int) then (0,3) else endE (entGo n k ls N N.length 0) 0
def Sm (E:List Int) (A:List Acc.AcD) (S:List Ln) (R:List Rts.Rt) (K:List Lck.Lk) (N:List En):Prop:=E.length<=1000000/\A.length<=1000000/\S.length<=1000000/\R.length<=1000000/\K.length<=1000000/\N.length<=1000000/\InE N
noncomputable def env_entry (E:List Int) (A:List Acc.AcD) (S:List Ln) (R:List Rts.Rt) (K:List Lck.Lk) (N:List En) (B:List En) (p r:Int) (L:List Ln):Env where
 P:=Tryz.prog
 ty:=tys0
 specs:=specsOf [Ent.sp_refCheck,Acc.sp_rleaf,sp_rrev,Ent.sp_refOpp,sp_sameLines]
 frz:=fun|56=>true|_=>false
 heads:=fun|5=>some {slots:=[(9, .int .i64)],boxes:=[],keep:=[3,5],inv:=fun _ (x:Int×Unit)=>0<=x.1/\x.1<=L.length/\L.any ownP=(L.drop x.1.toNat).any ownP,measure:=fun _ (x:Int×Unit)=>(L.length-x.1).toNat}|10=>some {slots:=[(10, .int .i64)],boxes:=[],keep:=[3,5],inv:=fun _ (x:Int×Unit)=>0<=x.1/\x.1<=L.length/\L.any (innP (Acc.thoseF (Acc.leafF A) A.length))=(L.drop x.1.toNat).any (innP (Acc.thoseF (Acc.leafF A) A.length)),measure:=fun _ (x:Int×Unit)=>(L.length-x.1).toNat}|_=>none
abbrev bx_entry_1 (E:List Int) (A:List Acc.AcD) (S:List Ln) (R:List Rts.Rt) (K:List Lck.Lk) (N:List En):_root_.Go.Vm.Obj:=Obj.box [V.list LK.tmp I E,V.list LK.tmp AcT A,V.list LK.tmp LnT S,V.list LK.tmp RTy R,V.list LK.tmp Vl K,V.list LK.tmp EnT N]
abbrev bx_entry_2 (p:Int) (r:Int) (L:List Ln):_root_.Go.Vm.Obj:=Obj.box [V.int IntKind.i64 p,V.int IntKind.i64 r,V.list LK.tmp LnT L]
def g_entry_vc (E:List Int) (A:List Acc.AcD) (S:List Ln) (R:List Rts.Rt) (K:List Lck.Lk) (N:List En) (B:List En) (p:Int) (r:Int) (L:List Ln):Prop:=
 (Ent.InL L/\L.length<=(1000:Nat))/\((!decide ((Ent.checkF p L (↑E.length:Int) (↑A.length:Int)).2=(0:Int)))=true->((Ent.checkF p L (↑E.length:Int) (↑A.length:Int)).2,())=(entryF (↑E.length:Int) (↑A.length:Int) (Acc.thoseF (Acc.leafF A) A.length) B (p,r,L),()))/\((!decide ((Ent.checkF p L (↑E.length:Int) (↑A.length:Int)).2=(0:Int)))=false->((some (bx_entry_1 E A S R K N)=some (bx_entry_1 E A S R K N)/\some (bx_entry_2 p r L)=some (bx_entry_2 p r L)/\True)/\0<=(0:Int)/\0<=(↑L.length:Int)/\L.any ownP=(List.drop (Int.toNat (0:Int)) L).any ownP)/\∀(x:Int×Unit),0<=x.1/\x.1<=(↑L.length:Int)/\L.any ownP=(List.drop x.1.toNat L).any ownP->(decide (x.1<(↑L.length:Int))=true->(0<=x.1/\x.1<(↑L.length:Int))/\∀(x_1:Int×Int×Int×Int),L[x.1.toNat]? =some x_1->(decide (x_1.2.1<=(3:Int))=true->((28:Int),())=(entryF (↑E.length:Int) (↑A.length:Int) (Acc.thoseF (Acc.leafF A) A.length) B (p,r,L),()))/\(decide (x_1.2.1<=(3:Int))=false->(-9223372036854775808<=x.1+1/\x.1+1<=9223372036854775807)/\(some (bx_entry_1 E A S R K N)=some (bx_entry_1 E A S R K N)/\some (bx_entry_2 p r L)=some (bx_entry_2 p r L)/\True)/\(0<=x.1+1/\x.1+1<=(↑L.length:Int)/\L.any ownP=(List.drop (x.1+1).toNat L).any ownP)/\((↑L.length:Int)-(x.1+1)).toNat<((↑L.length:Int)-x.1).toNat))/\(decide (x.1<(↑L.length:Int))=false->((some (bx_entry_1 E A S R K N)=some (bx_entry_1 E A S R K N)/\some (bx_entry_2 p r L)=some (bx_entry_2 p r L)/\True)/\0<=(0:Int)/\0<=(↑L.length:Int)/\L.any (innP (Acc.thoseF (Acc.leafF A) A.length))=(List.drop (Int.toNat (0:Int)) L).any (innP (Acc.thoseF (Acc.leafF A) A.length)))/\∀(x:Int×Unit),0<=x.1/\x.1<=(↑L.length:Int)/\L.any (innP (Acc.thoseF (Acc.leafF A) A.length))=(List.drop x.1.toNat L).any (innP (Acc.thoseF (Acc.leafF A) A.length))->(decide (x.1<(↑L.length:Int))=true->(0<=x.1/\x.1<(↑L.length:Int))/\∀(x_1:Int×Int×Int×Int),L[x.1.toNat]? =some x_1->A.length<=(1000000:Nat)/\((!Acc.leafF A x_1.2.1)=true->((27:Int),())=(entryF (↑E.length:Int) (↑A.length:Int) (Acc.thoseF (Acc.leafF A) A.length) B (p,r,L),()))/\((!Acc.leafF A x_1.2.1)=false->(-9223372036854775808<=x.1+1/\x.1+1<=9223372036854775807)/\(some (bx_entry_1 E A S R K N)=some (bx_entry_1 E A S R K N)/\some (bx_entry_2 p r L)=some (bx_entry_2 p r L)/\True)/\(0<=x.1+1/\x.1+1<=(↑L.length:Int)/\L.any (innP (Acc.thoseF (Acc.leafF A) A.length))=(List.drop (x.1+1).toNat L).any (innP (Acc.thoseF (Acc.leafF A) A.length)))/\((↑L.length:Int)-(x.1+1)).toNat<((↑L.length:Int)-x.1).toNat))/\(decide (x.1<(↑L.length:Int))=false->(decide (r=(0:Int))=true->((0:Int),())=(entryF (↑E.length:Int) (↑A.length:Int) (Acc.thoseF (Acc.leafF A) A.length) B (p,r,L),()))/\(decide (r=(0:Int))=false->(decide (r<(0:Int))=false->(decide ((↑B.length:Int)<r)=true->((34:Int),())=(entryF (↑E.length:Int) (↑A.length:Int) (Acc.thoseF (Acc.leafF A) A.length) B (p,r,L),()))/\(decide ((↑B.length:Int)<r)=false->(-9223372036854775808<=r-(1:Int)/\r-(1:Int)<=9223372036854775807)/\(0<=r-(1:Int)/\r-(1:Int)<(↑B.length:Int))/\∀(x:Int×Int×List (Int×Int×Int×Int)),B[(r-(1:Int)).toNat]? =some x->((!decide (x.2.1=(0:Int)))=false->B.length<=(1000000000:Nat)/\((!decide (revF B r=(0:Int)))=true->((35:Int),())=(entryF (↑E.length:Int) (↑A.length:Int) (Acc.thoseF (Acc.leafF A) A.length) B (p,r,L),()))/\((!decide (revF B r=(0:Int)))=false->(-9223372036854775808<=r-(1:Int)/\r-(1:Int)<=9223372036854775807)/\(0<=r-(1:Int)/\r-(1:Int)<(↑B.length:Int))/\∀(x:Int×Int×List (Int×Int×Int×Int)),B[(r-(1:Int)).toNat]? =some x->(Ent.InL x.2.2/\x.2.2.length<=(1000:Nat))/\((!decide ((Ent.oppF x.1 x.2.1 x.2.2).2=(0:Int)))=false->L.length<=(1000000:Nat)/\((!decide (L=(Ent.oppF x.1 x.2.1 x.2.2).1.2.2))=true->((30:Int),())=(entryF (↑E.length:Int) (↑A.length:Int) (Acc.thoseF (Acc.leafF A) A.length) B (p,r,L),()))/\((!decide (L=(Ent.oppF x.1 x.2.1 x.2.2).1.2.2))=false->((0:Int),())=(entryF (↑E.length:Int) (↑A.length:Int) (Acc.thoseF (Acc.leafF A) A.length) B (p,r,L),())))/\((!decide ((Ent.oppF x.1 x.2.1 x.2.2).2=(0:Int)))= !false->((30:Int),())=(entryF (↑E.length:Int) (↑A.length:Int) (Acc.thoseF (Acc.leafF A) A.length) B (p,r,L),()))))/\((!decide (x.2.1=(0:Int)))= !false->((35:Int),())=(entryF (↑E.length:Int) (↑A.length:Int) (Acc.thoseF (Acc.leafF A) A.length) B (p,r,L),()))))/\(decide (r<(0:Int))= !false->((34:Int),())=(entryF (↑E.length:Int) (↑A.length:Int) (Acc.thoseF (Acc.leafF A) A.length) B (p,r,L),()))))))
theorem g_entry_eq (E:List Int) (A:List Acc.AcD) (S:List Ln) (R:List Rts.Rt) (K:List Lck.Lk) (N:List En) (B:List En) (p r:Int) (L:List Ln):Cond (env_entry E A S R K N B p r L) Tryz.f38 [.agg [.list .tmp I E, .list .tmp AcT A, .list .tmp LnT S, .list .tmp RTy R, .list .tmp Vl K, .list .tmp EnT N], .list .tmp EnT B, .agg [.int .i64 p, .int .i64 r, .list .tmp LnT L]] [.int .i64] (entryF E.length A.length (Acc.thoseF (Acc.leafF A) A.length) B (p,r,L),())=g_entry_vc E A S R K N B p r L:=by kernel_rfl
theorem g_entry_ok (E:List Int) (A:List Acc.AcD) (S:List Ln) (R:List Rts.Rt) (K:List Lck.Lk) (N:List En) (B:List En) (p r:Int) (L:List Ln) (h:Sm E A S R K N/\B.length<=1000000/\InE B/\Ent.InL L/\L.length<=1000):g_entry_vc E A S R K N B p r L:=by
 obtain ⟨⟨l1,l2,l3,l4,l5,l6,hi⟩,hb,hib,hil,hl⟩:=h;unfold g_entry_vc;simp only [decide_eq_true_eq,decide_eq_false_iff_not,Bool.not_false,Bool.not_true,Bool.not_eq_true',Bool.not_eq_false'];refine ⟨⟨hil,hl⟩,fun c=>by rw [entry_1 c],fun c=>⟨⟨⟨trivial,trivial,trivial⟩,by omega,by omega,rfl⟩, ?_⟩⟩;rintro ⟨i,⟨⟩⟩ ⟨h0,h1,ho⟩;dsimp only at h0 h1 ho⊢;refine ⟨fun d=>⟨⟨h0,d⟩,fun x hx=>⟨fun k=> ?_,fun k=>⟨by omega,⟨trivial,trivial,trivial⟩,⟨by omega,by omega, ?_⟩,by omega⟩⟩⟩,fun d=>⟨⟨⟨trivial,trivial,trivial⟩,by omega,by omega,rfl⟩, ?_⟩⟩
 ·have:=placed_28 (ls:=Acc.thoseF (Acc.leafF A) A.length) (ho.trans (any_hit hx (by unfold ownP;rw [decide_eq_true k])));rw [entry_2 c (by rw [this];decide),this]
 ·rw [ho,any_miss h0 hx (by unfold ownP;rw [decide_eq_false k])]
 replace ho:=ho.trans (any_end d);clear h0 h1 d;rintro ⟨j,⟨⟩⟩ ⟨h0,h1,hn⟩;dsimp only at h0 h1 hn⊢;refine ⟨fun d=>⟨⟨h0,d⟩,fun x hx=>⟨l2,fun k=> ?_,fun k=>⟨by omega,⟨trivial,trivial,trivial⟩,⟨by omega,by omega, ?_⟩,by omega⟩⟩⟩,fun d=> ?_⟩
 ·have:=placed_27 ho (hn.trans (any_hit hx (by rw [inn_leaf,k];rfl)));rw [entry_2 c (by rw [this];decide),this]
 ·rw [hn,any_miss h0 hx (by rw [inn_leaf,k];rfl)]
 have hp:=placed_0 ho (hn.trans (any_end d));rw [entry_3 c hp];dsimp only;clear d h0 h1;refine ⟨fun c=> ?_,fun c=>⟨fun d=>⟨fun e=> ?_,fun e=>⟨by omega,by omega,fun x hx=>⟨fun f=>⟨by omega,fun g=> ?_,fun g=>⟨by omega,by omega,fun y hy=>⟨ine_at hib hy,fun k=>⟨by omega,fun m=> ?_,fun m=> ?_⟩,fun k=> ?_⟩⟩⟩,fun f=> ?_⟩⟩⟩,fun d=> ?_⟩⟩
 ·unfold turnedF;rw [if_pos c]
 ·unfold turnedF;rw [if_neg c,if_pos (.inr e)]
 ·rw [turned_at c (by omega) hx,turnY,if_pos (.inr g)]
 ·rw [hx] at hy;cases hy;rw [turned_at c (by omega) hx,turnY,if_neg (fun q=>q.elim (fun q=>q f) (fun q=>q g)),if_pos (.inr m)]
 ·rw [hx] at hy;cases hy;rw [turned_at c (by omega) hx,turnY,if_neg (fun q=>q.elim (fun q=>q f) (fun q=>q g)),if_neg (fun q=>q.elim (fun q=>q k) (fun q=>q m))]
 ·rw [hx] at hy;cases hy;rw [turned_at c (by omega) hx,turnY,if_neg (fun q=>q.elim (fun q=>q f) (fun q=>q g)),if_pos (.inl k)]
 ·rw [turned_at c (by omega) hx,turnY,if_pos (.inl f)]
 ·unfold turnedF;rw [if_neg c,if_pos (.inl d)]
theorem entry_pure (E:List Int) (A:List Acc.AcD) (S:List Ln) (R:List Rts.Rt) (K:List Lck.Lk) (N:List En) (B:List En) (p r:Int) (L:List Ln) (h:Sm E A S R K N/\B.length<=1000000/\InE B/\Ent.InL L/\L.length<=1000):Pure Tryz.prog 38 [.agg [.list .tmp I E, .list .tmp AcT A, .list .tmp LnT S, .list .tmp RTy R, .list .tmp Vl K, .list .tmp EnT N], .list .tmp EnT B, .agg [.int .i64 p, .int .i64 r, .list .tmp LnT L]] (.int .i64 (entryF E.length A.length (Acc.thoseF (Acc.leafF A) A.length) B (p,r,L))):=
 by have k:=Pure.of_cond (g_entry_eq E A S R K N B p r L) (g_entry_ok E A S R K N B p r L h) (specs_ok rfl [Ent.sp_refCheck,Acc.sp_rleaf,sp_rrev,Ent.sp_refOpp,sp_sameLines] [] rfl rfl) mixed Tryz.func38;exact k
noncomputable def q_entry (E:List Int) (A:List Acc.AcD) (S:List Ln) (R:List Rts.Rt) (K:List Lck.Lk) (N:List En) (B:List En) (p r:Int) (L:List Ln):Prop×V:=(Sm E A S R K N/\B.length<=1000000/\InE B/\Ent.InL L/\L.length<=1000,(.int .i64 (entryF E.length A.length (Acc.thoseF (Acc.leafF A) A.length) B (p,r,L))))
noncomputable def sp_entry:FSpec Tryz.prog where
 f:=38
 run:=fun
  |[.agg [v0_0,v0_1,v0_2,v0_3,v0_4,v0_5],v1, .agg [.int .i64 p, .int .i64 r,v2_2]]=>(asL I v0_0:Option (List Int)).bind fun E=>(asL AcT v0_1:Option (List Acc.AcD)).bind fun A=>(asL LnT v0_2:Option (List Ln)).bind fun S=>(asL RTy v0_3:Option (List Rts.Rt)).bind fun R=>(asL Vl v0_4:Option (List Lck.Lk)).bind fun K=>(asL EnT v0_5:Option (List En)).bind fun N=>(asL EnT v1:Option (List En)).bind fun B=>(asL LnT v2_2:Option (List Ln)).bind fun L=>some (q_entry E A S R K N B p r L)
  |_=>none
 ok:=fun args pre r h hp=>by
  split at h
  ·rename_i v0_0 v0_1 v0_2 v0_3 v0_4 v0_5 v1 p r v2_2;obtain ⟨E,h0_0,h⟩:=Option.bind_eq_some_iff.1 h;obtain ⟨A,h0_1,h⟩:=Option.bind_eq_some_iff.1 h;obtain ⟨S,h0_2,h⟩:=Option.bind_eq_some_iff.1 h;obtain ⟨R,h0_3,h⟩:=Option.bind_eq_some_iff.1 h;obtain ⟨K,h0_4,h⟩:=Option.bind_eq_some_iff.1 h;obtain ⟨N,h0_5,h⟩:=Option.bind_eq_some_iff.1 h;obtain ⟨B,h1,h⟩:=Option.bind_eq_some_iff.1 h;obtain ⟨L,h2_2,h⟩:=Option.bind_eq_some_iff.1 h;exact of_q h hp fun h=>(entry_pure E A S R K N B p r L h).weak (.cons (Weak.agg (.cons (asL_weak h0_0) (.cons (asL_weak h0_1) (.cons (asL_weak h0_2) (.cons (asL_weak h0_3) (.cons (asL_weak h0_4) (.cons (asL_weak h0_5) .nil))))))) (.cons (asL_weak h1) (.cons (Weak.agg (.cons (.refl _) (.cons (.refl _) (.cons (asL_weak h2_2) .nil)))) .nil)))
  ·cases h
noncomputable def env_entries (E:List Int) (A:List Acc.AcD) (S:List Ln) (R:List Rts.Rt) (K:List Lck.Lk) (N:List En):Env where
 P:=Tryz.prog
 ty:=tys0
 specs:=specsOf [sp_entry]
 frz:=fun|27=>true|_=>false
 heads:=fun|4=>some {slots:=[(4, .int .i64)],boxes:=[],keep:=[1],inv:=fun _ (x:Int×Unit)=>0<=x.1/\x.1<=N.length/\entGo E.length A.length (Acc.thoseF (Acc.leafF A) A.length) N N.length 0=entGo E.length A.length (Acc.thoseF (Acc.leafF A) A.length) N (N.length-x.1.toNat) x.1,measure:=fun _ (x:Int×Unit)=>(N.length-x.1).toNat}|_=>none
abbrev bx_entries_1 (E:List Int) (A:List Acc.AcD) (S:List Ln) (R:List Rts.Rt) (K:List Lck.Lk) (N:List En):_root_.Go.Vm.Obj:=Obj.box [V.list LK.tmp I E,V.list LK.tmp AcT A,V.list LK.tmp LnT S,V.list LK.tmp RTy R,V.list LK.tmp Vl K,V.list LK.tmp EnT N]
def g_entries_vc (E:List Int) (A:List Acc.AcD) (S:List Ln) (R:List Rts.Rt) (K:List Lck.Lk) (N:List En):Prop:=
 (decide ((2000:Int)<(↑N.length:Int))=true->((0:Int),(3:Int),())=((entriesF N (↑E.length:Int) (↑A.length:Int) (Acc.thoseF (Acc.leafF A) A.length)).1,(entriesF N (↑E.length:Int) (↑A.length:Int) (Acc.thoseF (Acc.leafF A) A.length)).2,()))/\(decide ((2000:Int)<(↑N.length:Int))=false->((some (bx_entries_1 E A S R K N)=some (bx_entries_1 E A S R K N)/\True)/\0<=(0:Int)/\0<=(↑N.length:Int)/\entGo (↑E.length:Int) (↑A.length:Int) (Acc.thoseF (Acc.leafF A) A.length) N N.length (0:Int)=entGo (↑E.length:Int) (↑A.length:Int) (Acc.thoseF (Acc.leafF A) A.length) N (N.length-Int.toNat (0:Int)) (0:Int))/\∀(x:Int×Unit),0<=x.1/\x.1<=(↑N.length:Int)/\entGo (↑E.length:Int) (↑A.length:Int) (Acc.thoseF (Acc.leafF A) A.length) N N.length (0:Int)=entGo (↑E.length:Int) (↑A.length:Int) (Acc.thoseF (Acc.leafF A) A.length) N (N.length-x.1.toNat) x.1->(decide (x.1<(↑N.length:Int))=true->(0<=x.1/\x.1<=(↑N.length:Int))/\(0<=x.1/\x.1<(↑N.length:Int))/\∀(x_1:Int×Int×List (Int×Int×Int×Int)),N[x.1.toNat]? =some x_1->(Sm E A S R K N/\(List.take x.1.toNat N).length<=(1000000:Nat)/\InE (List.take x.1.toNat N)/\Ent.InL x_1.2.2/\x_1.2.2.length<=(1000:Nat))/\((!decide (entryF (↑E.length:Int) (↑A.length:Int) (Acc.thoseF (Acc.leafF A) A.length) (List.take x.1.toNat N) (x_1.1,x_1.2.1,x_1.2.2)=(0:Int)))=true->(x.1,entryF (↑E.length:Int) (↑A.length:Int) (Acc.thoseF (Acc.leafF A) A.length) (List.take x.1.toNat N) (x_1.1,x_1.2.1,x_1.2.2),())=((entriesF N (↑E.length:Int) (↑A.length:Int) (Acc.thoseF (Acc.leafF A) A.length)).1,(entriesF N (↑E.length:Int) (↑A.length:Int) (Acc.thoseF (Acc.leafF A) A.length)).2,()))/\((!decide (entryF (↑E.length:Int) (↑A.length:Int) (Acc.thoseF (Acc.leafF A) A.length) (List.take x.1.toNat N) (x_1.1,x_1.2.1,x_1.2.2)=(0:Int)))=false->(-9223372036854775808<=x.1+1/\x.1+1<=9223372036854775807)/\(some (bx_entries_1 E A S R K N)=some (bx_entries_1 E A S R K N)/\True)/\(0<=x.1+1/\x.1+1<=(↑N.length:Int)/\entGo (↑E.length:Int) (↑A.length:Int) (Acc.thoseF (Acc.leafF A) A.length) N N.length (0:Int)=entGo (↑E.length:Int) (↑A.length:Int) (Acc.thoseF (Acc.leafF A) A.length) N (N.length-(x.1+1).toNat) (x.1+1))/\((↑N.length:Int)-(x.1+1)).toNat<((↑N.length:Int)-x.1).toNat))/\(decide (x.1<(↑N.length:Int))=false->((0:Int),(0:Int),())=((entriesF N (↑E.length:Int) (↑A.length:Int) (Acc.thoseF (Acc.leafF A) A.length)).1,(entriesF N (↑E.length:Int) (↑A.length:Int) (Acc.thoseF (Acc.leafF A) A.length)).2,())))
theorem g_entries_eq (E:List Int) (A:List Acc.AcD) (S:List Ln) (R:List Rts.Rt) (K:List Lck.Lk) (N:List En):Cond (env_entries E A S R K N) Tryz.f32 [.agg [.list .tmp I E, .list .tmp AcT A, .list .tmp LnT S, .list .tmp RTy R, .list .tmp Vl K, .list .tmp EnT N]] [.int .i64, .int .i64] ((entriesF N E.length A.length (Acc.thoseF (Acc.leafF A) A.length)).1,(entriesF N E.length A.length (Acc.thoseF (Acc.leafF A) A.length)).2,())=g_entries_vc E A S R K N:=by kernel_rfl
theorem g_entries_ok (E:List Int) (A:List Acc.AcD) (S:List Ln) (R:List Rts.Rt) (K:List Lck.Lk) (N:List En) (h:Sm E A S R K N):g_entries_vc E A S R K N:=by
 have hs:=h;obtain ⟨l1,l2,l3,l4,l5,l6,hi⟩:=h;unfold g_entries_vc entriesF;simp only [decide_eq_true_eq,decide_eq_false_iff_not,Bool.not_false,Bool.not_true,Bool.not_eq_true',Bool.not_eq_false'];generalize Acc.thoseF (Acc.leafF A) A.length=ls at*;refine ⟨fun c=>by rw [if_pos c],fun c=> ?_⟩;simp only [if_neg c];refine ⟨⟨⟨trivial,trivial⟩,by omega,by omega,by rw [show N.length-Int.toNat 0=N.length by omega]⟩, ?_⟩;rintro ⟨i,⟨⟩⟩ ⟨h0,h1,hb⟩;dsimp only at h0 h1 hb⊢;refine ⟨fun d=>⟨by omega,⟨h0,d⟩,fun x hx=> ?_⟩,fun d=> ?_⟩
 ·obtain ⟨x1,x2⟩:=ine_at hi hx;refine ⟨⟨hs,by rw [List.length_take];omega,ine_take hi,x1,x2⟩,fun k=> ?_,fun k=>⟨by omega,⟨trivial,trivial⟩,⟨by omega,by omega, ?_⟩,by omega⟩⟩
  ·rw [hb,ent_next (by omega) hx,if_neg k];rfl
  ·rw [hb,ent_next (by omega) hx,if_pos k,show N.length-(i+1).toNat=N.length-i.toNat-1 by omega]
 ·rw [hb,show N.length-i.toNat=0 by omega];rfl
theorem entries_pure (E:List Int) (A:List Acc.AcD) (S:List Ln) (R:List Rts.Rt) (K:List Lck.Lk) (N:List En) (h:Sm E A S R K N):Pure Tryz.prog 32 [.agg [.list .tmp I E, .list .tmp AcT A, .list .tmp LnT S, .list .tmp RTy R, .list .tmp Vl K, .list .tmp EnT N]] (.tuple [.int .i64 (entriesF N E.length A.length (Acc.thoseF (Acc.leafF A) A.length)).1, .int .i64 (entriesF N E.length A.length (Acc.thoseF (Acc.leafF A) A.length)).2]):=
 by have k:=Pure.of_cond (g_entries_eq E A S R K N) (g_entries_ok E A S R K N h) (specs_ok rfl [sp_entry] [] rfl rfl) mixed Tryz.func32;exact k
noncomputable def q_entries (E:List Int) (A:List Acc.AcD) (S:List Ln) (R:List Rts.Rt) (K:List Lck.Lk) (N:List En):Prop×V:=(Sm E A S R K N,(.tuple [.int .i64 (entriesF N E.length A.length (Acc.thoseF (Acc.leafF A) A.length)).1, .int .i64 (entriesF N E.length A.length (Acc.thoseF (Acc.leafF A) A.length)).2]))
noncomputable def sp_entries:FSpec Tryz.prog where
 f:=32
 run:=fun
  |[.agg [v0_0,v0_1,v0_2,v0_3,v0_4,v0_5]]=>(asL I v0_0:Option (List Int)).bind fun E=>(asL AcT v0_1:Option (List Acc.AcD)).bind fun A=>(asL LnT v0_2:Option (List Ln)).bind fun S=>(asL RTy v0_3:Option (List Rts.Rt)).bind fun R=>(asL Vl v0_4:Option (List Lck.Lk)).bind fun K=>(asL EnT v0_5:Option (List En)).bind fun N=>some (q_entries E A S R K N)
  |_=>none
 ok:=fun args pre r h hp=>by
  split at h
  ·rename_i v0_0 v0_1 v0_2 v0_3 v0_4 v0_5;obtain ⟨E,h0_0,h⟩:=Option.bind_eq_some_iff.1 h;obtain ⟨A,h0_1,h⟩:=Option.bind_eq_some_iff.1 h;obtain ⟨S,h0_2,h⟩:=Option.bind_eq_some_iff.1 h;obtain ⟨R,h0_3,h⟩:=Option.bind_eq_some_iff.1 h;obtain ⟨K,h0_4,h⟩:=Option.bind_eq_some_iff.1 h;obtain ⟨N,h0_5,h⟩:=Option.bind_eq_some_iff.1 h;exact of_q h hp fun h=>(entries_pure E A S R K N h).weak (.cons (Weak.agg (.cons (asL_weak h0_0) (.cons (asL_weak h0_1) (.cons (asL_weak h0_2) (.cons (asL_weak h0_3) (.cons (asL_weak h0_4) (.cons (asL_weak h0_5) .nil))))))) .nil)
  ·cases h
end Go.Proofs.YtabicbgeoiilmaaGreat.Bks
end
section
namespace Go.Proofs.YtabicbgeoiilmaaGreat.Bks
open Go.Vm
set_option maxRecDepth 20000
def stepF (p:Int) (c:Int×Int) (r:Int×Int×Int):Int×Int×Int:=if c.2=0 then r else (p,c.1,c.2)
theorem step_0 {p:Int} {c:Int×Int} {r:Int×Int×Int} (h:c.2=0):stepF p c r=r:=by unfold stepF;rw [if_pos h]
theorem step_1 {p:Int} {c:Int×Int} {r:Int×Int×Int} (h:c.2≠0):stepF p c r=(p,c.1,c.2):=by unfold stepF;rw [if_neg h]
def checkF (E:List Int) (A:List Acc.AcD) (S:List Ln) (R:List Rts.Rt) (K:List Lck.Lk) (N:List En):Int×Int×Int:=stepF 1 (Cur.checkF E) (stepF 2 (Acc.checkF A) (stepF 3 (Stk.checkF S E.length) (stepF 4 (Rts.checkF R) (stepF 5 (Lck.checkF K E.length) (stepF 6 (allF N E.length A.length (Acc.thoseF (Acc.leafF A) A.length)) (0,0,0))))))
theorem all_eq (N:List En) (n k:Int) (ls:List Int):stepF 6 (entriesF N n k ls) (0,0,0)=stepF 6 (allF N n k ls) (0,0,0):=by
 unfold entriesF allF;split
 ·rfl
 ·cases entGo n k ls N N.length 0 with
  |none=>rfl
  |some r=>rfl
end Go.Proofs.YtabicbgeoiilmaaGreat.Bks
end
section
namespace Go.Proofs.YtabicbgeoiilmaaGreat.Bks
open Go.Vm
noncomputable def env_rcheck (E:List Int) (A:List Acc.AcD) (S:List Ln) (R:List Rts.Rt) (K:List Lck.Lk) (N:List En):Env where
 P:=Tryz.prog
 ty:=tys0
 specs:=specsOf [Cur.sp_rcheck,Acc.sp_rcheck,Stk.sp_refCheck,Rts.sp_rcheckl,Lck.sp_rcheck,sp_entries]
def g_rcheck_vc (E:List Int) (A:List Acc.AcD) (S:List Ln) (R:List Rts.Rt) (K:List Lck.Lk) (N:List En):Prop:=
 E.length<=(1000000000:Nat)/\((!decide ((Cur.checkF E).2=(0:Int)))=true->((1:Int),(Cur.checkF E).1,(Cur.checkF E).2,())=((checkF E A S R K N).1,(checkF E A S R K N).2.1,(checkF E A S R K N).2.2,()))/\((!decide ((Cur.checkF E).2=(0:Int)))=false->A.length<=(1000000:Nat)/\((!decide ((Acc.checkG (Acc.roundR A) A).2=(0:Int)))=true->((2:Int),(Acc.checkG (Acc.roundR A) A).1,(Acc.checkG (Acc.roundR A) A).2,())=((checkF E A S R K N).1,(checkF E A S R K N).2.1,(checkF E A S R K N).2.2,()))/\((!decide ((Acc.checkG (Acc.roundR A) A).2=(0:Int)))=false->S.length<=(1000000000:Nat)/\((!decide ((Stk.checkF S (↑E.length:Int)).2=(0:Int)))=true->((3:Int),(Stk.checkF S (↑E.length:Int)).1,(Stk.checkF S (↑E.length:Int)).2,())=((checkF E A S R K N).1,(checkF E A S R K N).2.1,(checkF E A S R K N).2.2,()))/\((!decide ((Stk.checkF S (↑E.length:Int)).2=(0:Int)))=false->True/\((!decide ((Rts.checkF R).2=(0:Int)))=true->((4:Int),(Rts.checkF R).1,(Rts.checkF R).2,())=((checkF E A S R K N).1,(checkF E A S R K N).2.1,(checkF E A S R K N).2.2,()))/\((!decide ((Rts.checkF R).2=(0:Int)))=false->K.length<=(1000000000:Nat)/\((!decide ((Lck.checkF K (↑E.length:Int)).2=(0:Int)))=true->((5:Int),(Lck.checkF K (↑E.length:Int)).1,(Lck.checkF K (↑E.length:Int)).2,())=((checkF E A S R K N).1,(checkF E A S R K N).2.1,(checkF E A S R K N).2.2,()))/\((!decide ((Lck.checkF K (↑E.length:Int)).2=(0:Int)))=false->Sm E A S R K N/\((!decide ((entriesF N (↑E.length:Int) (↑A.length:Int) (Acc.thoseF (Acc.leafF A) A.length)).2=(0:Int)))=true->((6:Int),(entriesF N (↑E.length:Int) (↑A.length:Int) (Acc.thoseF (Acc.leafF A) A.length)).1,(entriesF N (↑E.length:Int) (↑A.length:Int) (Acc.thoseF (Acc.leafF A) A.length)).2,())=((checkF E A S R K N).1,(checkF E A S R K N).2.1,(checkF E A S R K N).2.2,()))/\((!decide ((entriesF N (↑E.length:Int) (↑A.length:Int) (Acc.thoseF (Acc.leafF A) A.length)).2=(0:Int)))=false->((0:Int),(0:Int),(0:Int),())=((checkF E A S R K N).1,(checkF E A S R K N).2.1,(checkF E A S R K N).2.2,())))))))
theorem g_rcheck_eq (E:List Int) (A:List Acc.AcD) (S:List Ln) (R:List Rts.Rt) (K:List Lck.Lk) (N:List En):Cond (env_rcheck E A S R K N) Tryz.f9 [.agg [.list .tmp I E, .list .tmp AcT A, .list .tmp LnT S, .list .tmp RTy R, .list .tmp Vl K, .list .tmp EnT N]] [.int .i64, .int .i64, .int .i64] ((checkF E A S R K N).1,(checkF E A S R K N).2.1,(checkF E A S R K N).2.2,())=g_rcheck_vc E A S R K N:=by kernel_rfl
theorem g_rcheck_ok (E:List Int) (A:List Acc.AcD) (S:List Ln) (R:List Rts.Rt) (K:List Lck.Lk) (N:List En) (h:Sm E A S R K N):g_rcheck_vc E A S R K N:=by
 unfold g_rcheck_vc;simp only [Bool.not_eq_true',Bool.not_eq_false',decide_eq_true_eq,decide_eq_false_iff_not,Acc.check_round];have hs:=h;obtain ⟨l1,l2,l3,l4,l5,l6,hi⟩:=hs;unfold checkF;rw [<-all_eq];refine ⟨by omega,fun c1=>by rw [step_1 c1],fun c1=>⟨by omega,fun c2=>by rw [step_0 c1,step_1 c2],fun c2=>⟨by omega,fun c3=>by rw [step_0 c1,step_0 c2,step_1 c3],fun c3=>⟨trivial,fun c4=>by rw [step_0 c1,step_0 c2,step_0 c3,step_1 c4],fun c4=>⟨by omega,fun c5=>by rw [step_0 c1,step_0 c2,step_0 c3,step_0 c4,step_1 c5],fun c5=>⟨h,fun c6=>by rw [step_0 c1,step_0 c2,step_0 c3,step_0 c4,step_0 c5,step_1 c6],fun c6=>by rw [step_0 c1,step_0 c2,step_0 c3,step_0 c4,step_0 c5,step_0 c6]⟩⟩⟩⟩⟩⟩
set_option maxRecDepth 20000
theorem rcheck_pure (E:List Int) (A:List Acc.AcD) (S:List Ln) (R:List Rts.Rt) (K:List Lck.Lk) (N:List En) (h:Sm E A S R K N):Pure Tryz.prog 9 [.agg [.list .tmp I E, .list .tmp AcT A, .list .tmp LnT S, .list .tmp RTy R, .list .tmp Vl K, .list .tmp EnT N]] (.tuple [.int .i64 (checkF E A S R K N).1, .int .i64 (checkF E A S R K N).2.1, .int .i64 (checkF E A S R K N).2.2]):=
 by have k:=Pure.of_cond (g_rcheck_eq E A S R K N) (g_rcheck_ok E A S R K N h) (specs_ok rfl [Cur.sp_rcheck,Acc.sp_rcheck,Stk.sp_refCheck,Rts.sp_rcheckl,Lck.sp_rcheck,sp_entries] [] rfl rfl) mixed Tryz.func9;exact k
noncomputable def q_rcheck (E:List Int) (A:List Acc.AcD) (S:List Ln) (R:List Rts.Rt) (K:List Lck.Lk) (N:List En):Prop×V:=(Sm E A S R K N,(.tuple [.int .i64 (checkF E A S R K N).1, .int .i64 (checkF E A S R K N).2.1, .int .i64 (checkF E A S R K N).2.2]))
noncomputable def sp_rcheck:FSpec Tryz.prog where
 f:=9
 run:=fun
  |[.agg [v0_0,v0_1,v0_2,v0_3,v0_4,v0_5]]=>(asL I v0_0:Option (List Int)).bind fun E=>(asL AcT v0_1:Option (List Acc.AcD)).bind fun A=>(asL LnT v0_2:Option (List Ln)).bind fun S=>(asL RTy v0_3:Option (List Rts.Rt)).bind fun R=>(asL Vl v0_4:Option (List Lck.Lk)).bind fun K=>(asL EnT v0_5:Option (List En)).bind fun N=>some (q_rcheck E A S R K N)
  |_=>none
 ok:=fun args pre r h hp=>by
  split at h
  ·rename_i v0_0 v0_1 v0_2 v0_3 v0_4 v0_5;obtain ⟨E,h0_0,h⟩:=Option.bind_eq_some_iff.1 h;obtain ⟨A,h0_1,h⟩:=Option.bind_eq_some_iff.1 h;obtain ⟨S,h0_2,h⟩:=Option.bind_eq_some_iff.1 h;obtain ⟨R,h0_3,h⟩:=Option.bind_eq_some_iff.1 h;obtain ⟨K,h0_4,h⟩:=Option.bind_eq_some_iff.1 h;obtain ⟨N,h0_5,h⟩:=Option.bind_eq_some_iff.1 h;exact of_q h hp fun h=>(rcheck_pure E A S R K N h).weak (.cons (Weak.agg (.cons (asL_weak h0_0) (.cons (asL_weak h0_1) (.cons (asL_weak h0_2) (.cons (asL_weak h0_3) (.cons (asL_weak h0_4) (.cons (asL_weak h0_5) .nil))))))) .nil)
  ·cases h
end Go.Proofs.YtabicbgeoiilmaaGreat.Bks
end
section
namespace Go.Proofs.YtabicbgeoiilmaaGreat.Bks
open Go.Vm
set_option maxRecDepth 20000
end Go.Proofs.YtabicbgeoiilmaaGreat.Bks
end
section
namespace Go.Proofs.YtabicbgeoiilmaaGreat.Bks
open Go.Vm
instance decLs:DecidableEq (List Ln):=inferInstance
instance decEn:DecidableEq En:= @instDecidableEqProd Int (Int×List Ln) inferInstance (@instDecidableEqProd Int (List Ln) inferInstance decLs)
instance decEns:DecidableEq (List En):= @instDecidableEqList En decEn
def few24 (N:List En):Bool:=decide (N.length<=30)&& !N.any fun x=>decide (60<x.2.2.length)
noncomputable def env_few24 (N:List En):Env where
 P:=Tryz.prog
 ty:=tys0
 heads:=fun|4=>some {slots:=[(3, .int .i64)],boxes:=[],inv:=fun _ (x:Int×Unit)=>0<=x.1/\x.1<=N.length/\(N.any fun x=>decide (60<x.2.2.length))=((N.drop x.1.toNat).any fun x=>decide (60<x.2.2.length)),measure:=fun _ (x:Int×Unit)=>(N.length-x.1).toNat}|_=>none
def g_few24_vc (N:List En):Prop:=
 (decide ((30:Int)<(↑N.length:Int))=true->(false,())=(few24 N,()))/\(decide ((30:Int)<(↑N.length:Int))=false->(True/\0<=(0:Int)/\0<=(↑N.length:Int)/\(N.any fun x=>decide ((60:Nat)<x.2.2.length))=(List.drop (Int.toNat (0:Int)) N).any fun x=>decide ((60:Nat)<x.2.2.length))/\∀(x:Int×Unit),(0<=x.1/\x.1<=(↑N.length:Int)/\(N.any fun x=>decide ((60:Nat)<x.2.2.length))=(List.drop x.1.toNat N).any fun x=>decide ((60:Nat)<x.2.2.length))->(decide (x.1<(↑N.length:Int))=true->(0<=x.1/\x.1<(↑N.length:Int))/\∀(x_1:Int×Int×List (Int×Int×Int×Int)),N[x.1.toNat]? =some x_1->(decide ((60:Int)<(↑x_1.2.2.length:Int))=true->(false,())=(few24 N,()))/\(decide ((60:Int)<(↑x_1.2.2.length:Int))=false->(-9223372036854775808<=x.1+1/\x.1+1<=9223372036854775807)/\True/\(0<=x.1+1/\x.1+1<=(↑N.length:Int)/\(N.any fun x=>decide ((60:Nat)<x.2.2.length))=(List.drop (x.1+1).toNat N).any fun x=>decide ((60:Nat)<x.2.2.length))/\((↑N.length:Int)-(x.1+1)).toNat<((↑N.length:Int)-x.1).toNat))/\(decide (x.1<(↑N.length:Int))=false->(true,())=(few24 N,())))
theorem g_few24_eq (N:List En):Cond (env_few24 N) Tryz.f24 [.list .tmp EnT N] [.bool] (few24 N,())=g_few24_vc N:=by kernel_rfl
theorem g_few24_ok (N:List En) (h:N.length<=9223372036854775807):g_few24_vc N:=by
 unfold g_few24_vc few24;simp only [decide_eq_true_eq,decide_eq_false_iff_not];refine ⟨fun c=>by rw [decide_eq_false (by omega),Bool.false_and],fun c=>⟨⟨trivial,by omega,by omega,rfl⟩, ?_⟩⟩;rintro ⟨i,⟨⟩⟩ ⟨h0,h1,hb⟩;dsimp only at h0 h1 hb⊢;rw [hb,decide_eq_true (by omega),Bool.true_and];refine ⟨fun d=>⟨⟨h0,d⟩,fun x hx=>⟨fun k=> ?_,fun k=>⟨by omega,trivial,⟨by omega,by omega, ?_⟩,by omega⟩⟩⟩,fun d=> ?_⟩
 ·rw [any_hit hx (by rw [decide_eq_true (by omega)])];rfl
 ·rw [any_miss h0 hx (by rw [decide_eq_false (by omega)])]
 ·rw [any_end d];rfl
set_option maxRecDepth 20000
theorem few24_pure (N:List En) (h:N.length<=9223372036854775807):Pure Tryz.prog 24 [.list .tmp EnT N] (.bool (few24 N)):=
 by have k:=Pure.of_cond (g_few24_eq N) (g_few24_ok N h) (specs_ok rfl [] [] rfl rfl) mixed Tryz.func24;exact k
noncomputable def q_few24 (N:List En):Prop×V:=(N.length<=9223372036854775807,(.bool (few24 N)))
noncomputable def sp_few24:FSpec Tryz.prog where
 f:=24
 run:=fun
  |[v0]=>(asL EnT v0:Option (List En)).bind fun N=>some (q_few24 N)
  |_=>none
 ok:=fun args pre r h hp=>by
  split at h
  ·rename_i v0;obtain ⟨N,h0,h⟩:=Option.bind_eq_some_iff.1 h;exact of_q h hp fun h=>(few24_pure N h).weak (.cons (asL_weak h0) .nil)
  ·cases h
def fewF (E:List Int) (A:List Acc.AcD) (S:List Ln) (R:List Rts.Rt) (K:List Lck.Lk) (N:List En):Bool:=decide (E.length<=50)&&(decide (A.length<=65)&&(decide (S.length<=20)&&(decide (R.length<=60)&&(decide (K.length<=60)&&few24 N))))
noncomputable def env_few (E:List Int) (A:List Acc.AcD) (S:List Ln) (R:List Rts.Rt) (K:List Lck.Lk) (N:List En):Env where
 P:=Tryz.prog
 ty:=tys0
 specs:=specsOf [sp_few24]
def g_few_vc (E:List Int) (A:List Acc.AcD) (S:List Ln) (R:List Rts.Rt) (K:List Lck.Lk) (N:List En):Prop:=
 (decide ((↑E.length:Int)<=(50:Int))=true->(decide ((↑A.length:Int)<=(65:Int))=true->(decide ((↑S.length:Int)<=(20:Int))=true->(decide ((↑R.length:Int)<=(60:Int))=true->(decide ((↑K.length:Int)<=(60:Int))=true->N.length<=(9223372036854775807:Nat)/\(few24 N,())=(fewF E A S R K N,()))/\(decide ((↑K.length:Int)<=(60:Int))= !true->(false,())=(fewF E A S R K N,())))/\(decide ((↑R.length:Int)<=(60:Int))= !true->(false,())=(fewF E A S R K N,())))/\(decide ((↑S.length:Int)<=(20:Int))= !true->(false,())=(fewF E A S R K N,())))/\(decide ((↑A.length:Int)<=(65:Int))= !true->(false,())=(fewF E A S R K N,())))/\(decide ((↑E.length:Int)<=(50:Int))= !true->(false,())=(fewF E A S R K N,()))
theorem g_few_eq (E:List Int) (A:List Acc.AcD) (S:List Ln) (R:List Rts.Rt) (K:List Lck.Lk) (N:List En):Cond (env_few E A S R K N) Tryz.f7 [.agg [.list .tmp I E, .list .tmp AcT A, .list .tmp LnT S, .list .tmp RTy R, .list .tmp Vl K, .list .tmp EnT N]] [.bool] (fewF E A S R K N,())=g_few_vc E A S R K N:=by kernel_rfl
theorem g_few_ok (E:List Int) (A:List Acc.AcD) (S:List Ln) (R:List Rts.Rt) (K:List Lck.Lk) (N:List En) (h:N.length<=9223372036854775807):g_few_vc E A S R K N:=by
 unfold g_few_vc fewF;simp only [decide_eq_true_eq,Bool.not_true,decide_eq_false_iff_not];refine ⟨fun a=>⟨fun b=>⟨fun c=>⟨fun d=>⟨fun e=>⟨h, ?_⟩,fun e=> ?_⟩,fun d=> ?_⟩,fun c=> ?_⟩,fun b=> ?_⟩,fun a=> ?_⟩
 ·rw [decide_eq_true (show E.length<=50 by omega),decide_eq_true (show A.length<=65 by omega),decide_eq_true (show S.length<=20 by omega),decide_eq_true (show R.length<=60 by omega),decide_eq_true (show K.length<=60 by omega)];rfl
 ·rw [decide_eq_true (show E.length<=50 by omega),decide_eq_true (show A.length<=65 by omega),decide_eq_true (show S.length<=20 by omega),decide_eq_true (show R.length<=60 by omega),decide_eq_false (show¬K.length<=60 by omega)];rfl
 ·rw [decide_eq_true (show E.length<=50 by omega),decide_eq_true (show A.length<=65 by omega),decide_eq_true (show S.length<=20 by omega),decide_eq_false (show¬R.length<=60 by omega)];rfl
 ·rw [decide_eq_true (show E.length<=50 by omega),decide_eq_true (show A.length<=65 by omega),decide_eq_false (show¬S.length<=20 by omega)];rfl
 ·rw [decide_eq_true (show E.length<=50 by omega),decide_eq_false (show¬A.length<=65 by omega)];rfl
 ·rw [decide_eq_false (show¬E.length<=50 by omega)];rfl
theorem few_pure (E:List Int) (A:List Acc.AcD) (S:List Ln) (R:List Rts.Rt) (K:List Lck.Lk) (N:List En) (h:N.length<=9223372036854775807):Pure Tryz.prog 7 [.agg [.list .tmp I E, .list .tmp AcT A, .list .tmp LnT S, .list .tmp RTy R, .list .tmp Vl K, .list .tmp EnT N]] (.bool (fewF E A S R K N)):=
 by have k:=Pure.of_cond (g_few_eq E A S R K N) (g_few_ok E A S R K N h) (specs_ok rfl [sp_few24] [] rfl rfl) mixed Tryz.func7;exact k
noncomputable def q_few (E:List Int) (A:List Acc.AcD) (S:List Ln) (R:List Rts.Rt) (K:List Lck.Lk) (N:List En):Prop×V:=(N.length<=9223372036854775807,(.bool (fewF E A S R K N)))
noncomputable def sp_few:FSpec Tryz.prog where
 f:=7
 run:=fun
  |[.agg [v0_0,v0_1,v0_2,v0_3,v0_4,v0_5]]=>(asL I v0_0:Option (List Int)).bind fun E=>(asL AcT v0_1:Option (List Acc.AcD)).bind fun A=>(asL LnT v0_2:Option (List Ln)).bind fun S=>(asL RTy v0_3:Option (List Rts.Rt)).bind fun R=>(asL Vl v0_4:Option (List Lck.Lk)).bind fun K=>(asL EnT v0_5:Option (List En)).bind fun N=>some (q_few E A S R K N)
  |_=>none
 ok:=fun args pre r h hp=>by
  split at h
  ·rename_i v0_0 v0_1 v0_2 v0_3 v0_4 v0_5;obtain ⟨E,h0_0,h⟩:=Option.bind_eq_some_iff.1 h;obtain ⟨A,h0_1,h⟩:=Option.bind_eq_some_iff.1 h;obtain ⟨S,h0_2,h⟩:=Option.bind_eq_some_iff.1 h;obtain ⟨R,h0_3,h⟩:=Option.bind_eq_some_iff.1 h;obtain ⟨K,h0_4,h⟩:=Option.bind_eq_some_iff.1 h;obtain ⟨N,h0_5,h⟩:=Option.bind_eq_some_iff.1 h;exact of_q h hp fun h=>(few_pure E A S R K N h).weak (.cons (Weak.agg (.cons (asL_weak h0_0) (.cons (asL_weak h0_1) (.cons (asL_weak h0_2) (.cons (asL_weak h0_3) (.cons (asL_weak h0_4) (.cons (asL_weak h0_5) .nil))))))) .nil)
  ·cases h
def sameB (E:List Int) (A:List Acc.AcD) (S:List Ln) (R:List Rts.Rt) (K:List Lck.Lk) (N:List En) (E2:List Int) (A2:List Acc.AcD) (S2:List Ln) (R2:List Rts.Rt) (K2:List Lck.Lk) (N2:List En):Bool:=decide (E=E2)&&(decide (A=A2)&&(decide (S=S2)&&(decide (R=R2)&&(decide (K=K2)&&decide (N=N2)))))
noncomputable def env_rsame (E:List Int) (A:List Acc.AcD) (S:List Ln) (R:List Rts.Rt) (K:List Lck.Lk) (N:List En) (E2:List Int) (A2:List Acc.AcD) (S2:List Ln) (R2:List Rts.Rt) (K2:List Lck.Lk) (N2:List En):Env where
 P:=Tryz.prog
 ty:=tys0
 specs:=specsOf [Stk.sp_sameInts,Eql.sp_racc,Stk.sp_same,Rts.sp_rsame,Eql.sp_rlck,Ent.sp_same]
 frz:=fun|70=>true|_=>false
 heads:=fun|4=>some {slots:=[(5, .int .i64)],boxes:=[],keep:=[2,3],inv:=fun _ (x:Int×Unit)=>0<=x.1/\x.1<=N.length/\N.take x.1.toNat=N2.take x.1.toNat,measure:=fun _ (x:Int×Unit)=>(N.length-x.1).toNat}|_=>none
abbrev bx_rsame_1 (E2:List Int) (A2:List Acc.AcD) (S2:List Ln) (R2:List Rts.Rt) (K2:List Lck.Lk) (N2:List En):_root_.Go.Vm.Obj:=Obj.box [V.list LK.tmp I E2,V.list LK.tmp AcT A2,V.list LK.tmp LnT S2,V.list LK.tmp RTy R2,V.list LK.tmp Vl K2,V.list LK.tmp EnT N2]
abbrev bx_rsame_2 (E:List Int) (A:List Acc.AcD) (S:List Ln) (R:List Rts.Rt) (K:List Lck.Lk) (N:List En):_root_.Go.Vm.Obj:=Obj.box [V.list LK.tmp I E,V.list LK.tmp AcT A,V.list LK.tmp LnT S,V.list LK.tmp RTy R,V.list LK.tmp Vl K,V.list LK.tmp EnT N]
def g_rsame_vc (E:List Int) (A:List Acc.AcD) (S:List Ln) (R:List Rts.Rt) (K:List Lck.Lk) (N:List En) (E2:List Int) (A2:List Acc.AcD) (S2:List Ln) (R2:List Rts.Rt) (K2:List Lck.Lk) (N2:List En):Prop:=
 E.length<=(1000000000:Nat)/\((!decide (E=E2))=false->A.length<=(1000000000:Nat)/\((!decide (A=A2))=false->S.length<=(1000000000:Nat)/\((!decide (S=S2))=false->(R.length<=(1000000:Nat)/\R2.length<=(1000000:Nat))/\((!decide (R=R2))=false->K.length<=(1000000000:Nat)/\((!decide (K=K2))=false->((!decide ((↑N.length:Int)=(↑N2.length:Int)))=true->(false,())=(sameB E A S R K N E2 A2 S2 R2 K2 N2,()))/\((!decide ((↑N.length:Int)=(↑N2.length:Int)))=false->((some (bx_rsame_2 E A S R K N)=some (bx_rsame_2 E A S R K N)/\some (bx_rsame_1 E2 A2 S2 R2 K2 N2)=some (bx_rsame_1 E2 A2 S2 R2 K2 N2)/\True)/\0<=(0:Int)/\0<=(↑N.length:Int)/\List.take (Int.toNat (0:Int)) N=List.take (Int.toNat (0:Int)) N2)/\∀(x:Int×Unit),0<=x.1/\x.1<=(↑N.length:Int)/\List.take x.1.toNat N=List.take x.1.toNat N2->(decide (x.1<(↑N.length:Int))=true->(0<=x.1/\x.1<(↑N.length:Int))/\∀(x_1:Int×Int×List (Int×Int×Int×Int)),N[x.1.toNat]? =some x_1->(0<=x.1/\x.1<(↑N2.length:Int))/\∀(x_2:Int×Int×List (Int×Int×Int×Int)),N2[x.1.toNat]? =some x_2->x_1.2.2.length<=(1000000000:Nat)/\((!Ent.sameE x_1.1 x_1.2.1 x_1.2.2 x_2.1 x_2.2.1 x_2.2.2)=true->(false,())=(sameB E A S R K N E2 A2 S2 R2 K2 N2,()))/\((!Ent.sameE x_1.1 x_1.2.1 x_1.2.2 x_2.1 x_2.2.1 x_2.2.2)=false->(-9223372036854775808<=x.1+1/\x.1+1<=9223372036854775807)/\(some (bx_rsame_2 E A S R K N)=some (bx_rsame_2 E A S R K N)/\some (bx_rsame_1 E2 A2 S2 R2 K2 N2)=some (bx_rsame_1 E2 A2 S2 R2 K2 N2)/\True)/\(0<=x.1+1/\x.1+1<=(↑N.length:Int)/\List.take (x.1+1).toNat N=List.take (x.1+1).toNat N2)/\((↑N.length:Int)-(x.1+1)).toNat<((↑N.length:Int)-x.1).toNat))/\(decide (x.1<(↑N.length:Int))=false->(true,())=(sameB E A S R K N E2 A2 S2 R2 K2 N2,()))))/\((!decide (K=K2))= !false->(false,())=(sameB E A S R K N E2 A2 S2 R2 K2 N2,())))/\((!decide (R=R2))= !false->(false,())=(sameB E A S R K N E2 A2 S2 R2 K2 N2,())))/\((!decide (S=S2))= !false->(false,())=(sameB E A S R K N E2 A2 S2 R2 K2 N2,())))/\((!decide (A=A2))= !false->(false,())=(sameB E A S R K N E2 A2 S2 R2 K2 N2,())))/\((!decide (E=E2))= !false->(false,())=(sameB E A S R K N E2 A2 S2 R2 K2 N2,()))
theorem g_rsame_eq (E:List Int) (A:List Acc.AcD) (S:List Ln) (R:List Rts.Rt) (K:List Lck.Lk) (N:List En) (E2:List Int) (A2:List Acc.AcD) (S2:List Ln) (R2:List Rts.Rt) (K2:List Lck.Lk) (N2:List En):Cond (env_rsame E A S R K N E2 A2 S2 R2 K2 N2) Tryz.f12 [.agg [.list .tmp I E, .list .tmp AcT A, .list .tmp LnT S, .list .tmp RTy R, .list .tmp Vl K, .list .tmp EnT N], .agg [.list .tmp I E2, .list .tmp AcT A2, .list .tmp LnT S2, .list .tmp RTy R2, .list .tmp Vl K2, .list .tmp EnT N2]] [.bool] (sameB E A S R K N E2 A2 S2 R2 K2 N2,())=g_rsame_vc E A S R K N E2 A2 S2 R2 K2 N2:=by kernel_rfl
theorem g_rsame_ok (E:List Int) (A:List Acc.AcD) (S:List Ln) (R:List Rts.Rt) (K:List Lck.Lk) (N:List En) (E2:List Int) (A2:List Acc.AcD) (S2:List Ln) (R2:List Rts.Rt) (K2:List Lck.Lk) (N2:List En) (h:Sm E A S R K N/\Sm E2 A2 S2 R2 K2 N2):g_rsame_vc E A S R K N E2 A2 S2 R2 K2 N2:=by
 obtain ⟨⟨l1,l2,l3,l4,l5,l6,hi⟩,⟨m1,m2,m3,m4,m5,m6,mi⟩⟩:=h;unfold g_rsame_vc sameB;simp only [Bool.not_eq_true',Bool.not_eq_false',Bool.not_false,Bool.not_true];refine ⟨by omega,fun a=>⟨by omega,fun b=>⟨by omega,fun c=>⟨by omega,fun d=>⟨by omega,fun e=>⟨fun f=> ?_,fun f=>⟨⟨⟨trivial,trivial,trivial⟩,by omega,by omega,rfl⟩, ?_⟩⟩,fun e=> ?_⟩,fun d=> ?_⟩,fun c=> ?_⟩,fun b=> ?_⟩,fun a=> ?_⟩
 ·have f:(N.length:Int)≠N2.length:=by simpa using f
  rw [a,b,c,d,e,decide_eq_false (fun k=>f (by rw [k]))];rfl
 ·have f:(N.length:Int)=N2.length:=by simpa using f
  rw [a,b,c,d,e];rintro ⟨i,⟨⟩⟩ ⟨i0,i1,ht⟩;dsimp only at i0 i1 ht⊢;simp only [decide_eq_true_eq,decide_eq_false_iff_not,Bool.true_and];refine ⟨fun c=>⟨⟨i0,c⟩,fun x hx=>⟨⟨i0,by omega⟩,fun y hy=>⟨by have:=(ine_at hi hx).2;omega,fun d=> ?_,fun d=>⟨by omega,⟨trivial,trivial,trivial⟩,⟨by omega,by omega, ?_⟩,by omega⟩⟩⟩⟩,fun c=> ?_⟩
  ·rw [decide_eq_false];intro e;subst e;rw [hx] at hy;cases hy;simp [Ent.sameE] at d
  ·rw [show (i+1).toNat=i.toNat+1 by omega];simp only [Ent.sameE,decide_eq_true_eq] at d;exact Rts.take_eq ht hx hy (Prod.ext d.1 (Prod.ext d.2.1 d.2.2))
  ·rw [List.take_of_length_le (by omega),List.take_of_length_le (by omega)] at ht;rw [decide_eq_true ht]
 ·rw [a,b,c,d,e];rfl
 ·rw [a,b,c,d];rfl
 ·rw [a,b,c];rfl
 ·rw [a,b];rfl
 ·rw [a];rfl
theorem rsame_pure (E:List Int) (A:List Acc.AcD) (S:List Ln) (R:List Rts.Rt) (K:List Lck.Lk) (N:List En) (E2:List Int) (A2:List Acc.AcD) (S2:List Ln) (R2:List Rts.Rt) (K2:List Lck.Lk) (N2:List En) (h:Sm E A S R K N/\Sm E2 A2 S2 R2 K2 N2):Pure Tryz.prog 12 [.agg [.list .tmp I E, .list .tmp AcT A, .list .tmp LnT S, .list .tmp RTy R, .list .tmp Vl K, .list .tmp EnT N], .agg [.list .tmp I E2, .list .tmp AcT A2, .list .tmp LnT S2, .list .tmp RTy R2, .list .tmp Vl K2, .list .tmp EnT N2]] (.bool (sameB E A S R K N E2 A2 S2 R2 K2 N2)):=
 by have k:=Pure.of_cond (g_rsame_eq E A S R K N E2 A2 S2 R2 K2 N2) (g_rsame_ok E A S R K N E2 A2 S2 R2 K2 N2 h) (specs_ok rfl [Stk.sp_sameInts,Eql.sp_racc,Stk.sp_same,Rts.sp_rsame,Eql.sp_rlck,Ent.sp_same] [] rfl rfl) mixed Tryz.func12;exact k
noncomputable def q_rsame (E:List Int) (A:List Acc.AcD) (S:List Ln) (R:List Rts.Rt) (K:List Lck.Lk) (N:List En) (E2:List Int) (A2:List Acc.AcD) (S2:List Ln) (R2:List Rts.Rt) (K2:List Lck.Lk) (N2:List En):Prop×V:=(Sm E A S R K N/\Sm E2 A2 S2 R2 K2 N2,(.bool (sameB E A S R K N E2 A2 S2 R2 K2 N2)))
noncomputable def sp_rsame:FSpec Tryz.prog where
 f:=12
 run:=fun
  |[.agg [v0_0,v0_1,v0_2,v0_3,v0_4,v0_5], .agg [v1_0,v1_1,v1_2,v1_3,v1_4,v1_5]]=>(asL I v0_0:Option (List Int)).bind fun E=>(asL AcT v0_1:Option (List Acc.AcD)).bind fun A=>(asL LnT v0_2:Option (List Ln)).bind fun S=>(asL RTy v0_3:Option (List Rts.Rt)).bind fun R=>(asL Vl v0_4:Option (List Lck.Lk)).bind fun K=>(asL EnT v0_5:Option (List En)).bind fun N=>(asL I v1_0:Option (List Int)).bind fun E2=>(asL AcT v1_1:Option (List Acc.AcD)).bind fun A2=>(asL LnT v1_2:Option (List Ln)).bind fun S2=>(asL RTy v1_3:Option (List Rts.Rt)).bind fun R2=>(asL Vl v1_4:Option (List Lck.Lk)).bind fun K2=>(asL EnT v1_5:Option (List En)).bind fun N2=>some (q_rsame E A S R K N E2 A2 S2 R2 K2 N2)
  |_=>none
 ok:=fun args pre r h hp=>by
  split at h
  ·rename_i v0_0 v0_1 v0_2 v0_3 v0_4 v0_5 v1_0 v1_1 v1_2 v1_3 v1_4 v1_5;obtain ⟨E,h0_0,h⟩:=Option.bind_eq_some_iff.1 h;obtain ⟨A,h0_1,h⟩:=Option.bind_eq_some_iff.1 h;obtain ⟨S,h0_2,h⟩:=Option.bind_eq_some_iff.1 h;obtain ⟨R,h0_3,h⟩:=Option.bind_eq_some_iff.1 h;obtain ⟨K,h0_4,h⟩:=Option.bind_eq_some_iff.1 h;obtain ⟨N,h0_5,h⟩:=Option.bind_eq_some_iff.1 h;obtain ⟨E2,h1_0,h⟩:=Option.bind_eq_some_iff.1 h;obtain ⟨A2,h1_1,h⟩:=Option.bind_eq_some_iff.1 h;obtain ⟨S2,h1_2,h⟩:=Option.bind_eq_some_iff.1 h;obtain ⟨R2,h1_3,h⟩:=Option.bind_eq_some_iff.1 h;obtain ⟨K2,h1_4,h⟩:=Option.bind_eq_some_iff.1 h;obtain ⟨N2,h1_5,h⟩:=Option.bind_eq_some_iff.1 h;exact of_q h hp fun h=>(rsame_pure E A S R K N E2 A2 S2 R2 K2 N2 h).weak (.cons (Weak.agg (.cons (asL_weak h0_0) (.cons (asL_weak h0_1) (.cons (asL_weak h0_2) (.cons (asL_weak h0_3) (.cons (asL_weak h0_4) (.cons (asL_weak h0_5) .nil))))))) (.cons (Weak.agg (.cons (asL_weak h1_0) (.cons (asL_weak h1_1) (.cons (asL_weak h1_2) (.cons (asL_weak h1_3) (.cons (asL_weak h1_4) (.cons (asL_weak h1_5) .nil))))))) .nil))
  ·cases h
end Go.Proofs.YtabicbgeoiilmaaGreat.Bks
end
section
namespace Go.Proofs.YtabicbgeoiilmaaGreat.Bks
open Go.Vm
abbrev Po:=Int×Int×Int×Ln
def lnGo (p i:Int):List Ln->Nat->List Po
 |[],_=>[]
 |x::r,k=>(((k+1:Nat):Int),i+1,p,x)::lnGo p i r (k+1)
def poGo:List En->Int->Nat->List Po
 |[],_,_=>[]
 |x::r,i,k=>lnGo x.1 i x.2.2 k++poGo r (i+1) (k+x.2.2.length)
def linesF (N:List En):List Po:=poGo N 0 0
theorem ln_next {p i k:Int} {L:List Ln} {n:Nat} {x:Ln} (h0:0<=k) (hx:L[k.toNat]? =some x):lnGo p i (L.drop k.toNat) n=(((n+1:Nat):Int),i+1,p,x)::lnGo p i (L.drop (k+1).toNat) (n+1):=by
 obtain ⟨h1,h2⟩:=List.getElem?_eq_some_iff.1 hx;rw [List.drop_eq_getElem_cons h1,h2,show (k+1).toNat=k.toNat+1 by omega];rfl
theorem ln_end {p i k:Int} {L:List Ln} {n:Nat} (h: ¬k<(L.length:Int)):lnGo p i (L.drop k.toNat) n=[]:=by
 rw [List.drop_of_length_le (by omega)];rfl
theorem po_next {N:List En} {i:Int} {n:Nat} {x:En} (h0:0<=i) (hx:N[i.toNat]? =some x):poGo (N.drop i.toNat) i n=lnGo x.1 i x.2.2 n++poGo (N.drop (i+1).toNat) (i+1) (n+x.2.2.length):=by
 obtain ⟨h1,h2⟩:=List.getElem?_eq_some_iff.1 hx;rw [List.drop_eq_getElem_cons h1,h2,show (i+1).toNat=i.toNat+1 by omega];rfl
theorem po_end {N:List En} {i:Int} {n:Nat} (h: ¬i<(N.length:Int)):poGo (N.drop i.toNat) i n=[]:=by
 rw [List.drop_of_length_le (by omega)];rfl
noncomputable def env_rlines (N:List En):Env where
 P:=Tryz.prog
 ty:=tys0
 heads:=fun|3=>some {slots:=[(4, .int .i64),(3, .slc 9000 PoT)],boxes:=[],inv:=fun _ (x:Int×List Po×Unit)=>0<=x.1/\x.1<=N.length/\(x.2.1.length:Int)<=1000*x.1/\linesF N=x.2.1++poGo (N.drop x.1.toNat) x.1 x.2.1.length,measure:=fun _ (x:Int×List Po×Unit)=>(N.length-x.1).toNat}|6=>some {slots:=[(4, .int .i64),(5, .int .i64),(3, .slc 9000 PoT)],boxes:=[],inv:=fun st (x:Int×Int×List Po×Unit)=> ∃y,N[x.1.toNat]? =some y/\x.1=st.int 4/\0<=x.1/\x.1<N.length/\0<=x.2.1/\x.2.1<=y.2.2.length/\(x.2.2.1.length:Int)<=1000*x.1+x.2.1/\linesF N=x.2.2.1++(lnGo y.1 x.1 (y.2.2.drop x.2.1.toNat) x.2.2.1.length++poGo (N.drop (x.1+1).toNat) (x.1+1) (x.2.2.1.length+(y.2.2.length-x.2.1.toNat))),measure:=fun _ (x:Int×Int×List Po×Unit)=>1000-x.2.1.toNat}|_=>none
def g_rlines_vc (N:List En):Prop:=
 (True/\0<=(0:Int)/\0<=(↑N.length:Int)/\(↑(0:Nat):Int)<=(1000:Int)*(0:Int)/\linesF N=poGo (List.drop (Int.toNat (0:Int)) N) (0:Int) (0:Nat))/\∀(x:Int×List (Int×Int×Int×Int×Int×Int×Int)×Unit),0<=x.1/\x.1<=(↑N.length:Int)/\(↑x.2.1.length:Int)<=(1000:Int)*x.1/\linesF N=x.2.1++poGo (List.drop x.1.toNat N) x.1 x.2.1.length->(decide (x.1<(↑N.length:Int))=true->(True/\∃y,N[x.1.toNat]? =some y/\x.1=x.1/\0<=x.1/\x.1<(↑N.length:Int)/\0<=(0:Int)/\0<=(↑y.2.2.length:Int)/\(↑x.2.1.length:Int)<=(1000:Int)*x.1+(0:Int)/\linesF N=x.2.1++(lnGo y.1 x.1 (List.drop (Int.toNat (0:Int)) y.2.2) x.2.1.length++poGo (List.drop (x.1+1).toNat N) (x.1+1) (x.2.1.length+(y.2.2.length-Int.toNat (0:Int)))))/\∀(x_1:Int×Int×List (Int×Int×Int×Int×Int×Int×Int)×Unit),(∃y,N[x_1.1.toNat]? =some y/\x_1.1=x.1/\0<=x_1.1/\x_1.1<(↑N.length:Int)/\0<=x_1.2.1/\x_1.2.1<=(↑y.2.2.length:Int)/\(↑x_1.2.2.1.length:Int)<=(1000:Int)*x_1.1+x_1.2.1/\linesF N=x_1.2.2.1++(lnGo y.1 x_1.1 (List.drop x_1.2.1.toNat y.2.2) x_1.2.2.1.length++poGo (List.drop (x_1.1+1).toNat N) (x_1.1+1) (x_1.2.2.1.length+(y.2.2.length-x_1.2.1.toNat))))->(0<=x_1.1/\x_1.1<(↑N.length:Int))/\∀(x_2:Int×Int×List (Int×Int×Int×Int)),N[x_1.1.toNat]? =some x_2->(decide (x_1.2.1<(↑x_2.2.2.length:Int))=true->(-9223372036854775808<=(↑x_1.2.2.1.length:Int)+1/\(↑x_1.2.2.1.length:Int)+1<=9223372036854775807)/\(-9223372036854775808<=x_1.1+1/\x_1.1+1<=9223372036854775807)/\(0<=x_1.1/\x_1.1<(↑N.length:Int))/\∀(x_3:Int×Int×List (Int×Int×Int×Int)),N[x_1.1.toNat]? =some x_3->(0<=x_1.1/\x_1.1<(↑N.length:Int))/\∀(x_4:Int×Int×List (Int×Int×Int×Int)),N[x_1.1.toNat]? =some x_4->(0<=x_1.2.1/\x_1.2.1<(↑x_4.2.2.length:Int))/\∀(x_5:Int×Int×Int×Int),x_4.2.2[x_1.2.1.toNat]? =some x_5->((x_1.2.2.1.length+(1:Nat))*(56:Nat)<=(140737488355328:Nat)/\x_1.2.2.1.length+(1:Nat)<=(4611686018427387904:Nat))/\(-9223372036854775808<=x_1.2.1+1/\x_1.2.1+1<=9223372036854775807)/\True/\(∃y,N[x_1.1.toNat]? =some y/\x_1.1=x.1/\0<=x_1.1/\x_1.1<(↑N.length:Int)/\0<=x_1.2.1+1/\x_1.2.1+1<=(↑y.2.2.length:Int)/\(↑(x_1.2.2.1++[((↑x_1.2.2.1.length:Int)+1,x_1.1+1,x_3.1,x_5.1,x_5.2.1,x_5.2.2.1,x_5.2.2.2)]).length:Int)<=(1000:Int)*x_1.1+(x_1.2.1+1)/\linesF N=x_1.2.2.1++[((↑x_1.2.2.1.length:Int)+1,x_1.1+1,x_3.1,x_5.1,x_5.2.1,x_5.2.2.1,x_5.2.2.2)]++(lnGo y.1 x_1.1 (List.drop (x_1.2.1+1).toNat y.2.2) (x_1.2.2.1++[((↑x_1.2.2.1.length:Int)+1,x_1.1+1,x_3.1,x_5.1,x_5.2.1,x_5.2.2.1,x_5.2.2.2)]).length++poGo (List.drop (x_1.1+1).toNat N) (x_1.1+1) ((x_1.2.2.1++[((↑x_1.2.2.1.length:Int)+1,x_1.1+1,x_3.1,x_5.1,x_5.2.1,x_5.2.2.1,x_5.2.2.2)]).length+(y.2.2.length-(x_1.2.1+1).toNat))))/\(1000:Nat)-(x_1.2.1+1).toNat<(1000:Nat)-x_1.2.1.toNat)/\(decide (x_1.2.1<(↑x_2.2.2.length:Int))=false->(-9223372036854775808<=x_1.1+1/\x_1.1+1<=9223372036854775807)/\True/\(0<=x_1.1+1/\x_1.1+1<=(↑N.length:Int)/\(↑x_1.2.2.1.length:Int)<=(1000:Int)*(x_1.1+1)/\linesF N=x_1.2.2.1++poGo (List.drop (x_1.1+1).toNat N) (x_1.1+1) x_1.2.2.1.length)/\((↑N.length:Int)-(x_1.1+1)).toNat<((↑N.length:Int)-x.1).toNat))/\(decide (x.1<(↑N.length:Int))=false->(x.2.1,())=(linesF N,()))
theorem g_rlines_eq (N:List En):Cond (env_rlines N) Tryz.f126 [.list .tmp EnT N] [.slc 0 PoT] (linesF N,())=g_rlines_vc N:=by kernel_rfl
theorem g_rlines_ok (N:List En) (h:N.length<=1000000/\InE N):g_rlines_vc N:=by
 obtain ⟨h,hi⟩:=h;unfold g_rlines_vc;simp only [decide_eq_true_eq,decide_eq_false_iff_not];refine ⟨⟨trivial,by omega,by omega,by simp,rfl⟩, ?_⟩;rintro ⟨i,out,⟨⟩⟩ ⟨h0,h1,h2,hb⟩;dsimp only at h0 h1 h2 hb⊢;refine ⟨fun c=>⟨⟨trivial, ?_⟩, ?_⟩,fun c=> ?_⟩
 ·have hx:N[i.toNat]? =some N[i.toNat]:=List.getElem?_eq_getElem (by omega);exact ⟨_,hx,trivial,h0,c,by omega,by omega,by omega,by rw [hb,po_next h0 hx];rfl⟩
 ·clear hb h0 h1 h2 c;rintro ⟨j,k,ys,⟨⟩⟩ ⟨y,hy,e,j0,j1,k0,k1,k2,hb⟩;dsimp only at hy e j0 j1 k0 k1 k2 hb⊢;have hly:=(ine_at hi hy).2;refine ⟨⟨j0,j1⟩,fun x hx=> ?_⟩;rw [hy] at hx;cases hx;refine ⟨fun c=>⟨by omega,by omega,⟨j0,j1⟩,fun z hz=> ?_⟩,fun c=> ?_⟩
  ·rw [hy] at hz;cases hz;refine ⟨⟨j0,j1⟩,fun z hz=> ?_⟩;rw [hy] at hz;cases hz;refine ⟨⟨k0,c⟩,fun z hz=>⟨⟨by omega,by omega⟩,by omega,trivial,⟨y,hy,e,j0,j1,by omega,by omega,by simp only [List.length_append,List.length_singleton];omega, ?_⟩,by omega⟩⟩;rw [hb,ln_next k0 hz,List.append_assoc,List.length_append,List.length_singleton,show ys.length+1+(y.2.2.length-(k+1).toNat)=ys.length+(y.2.2.length-k.toNat) by omega];rfl
  ·refine ⟨by omega,trivial,⟨by omega,by omega,by omega, ?_⟩,by omega⟩;rw [hb,ln_end c,List.nil_append,show ys.length+(y.2.2.length-k.toNat)=ys.length by omega]
 ·rw [hb,po_end c,List.append_nil]
set_option maxRecDepth 20000
theorem rlines_pure (N:List En) (h:N.length<=1000000/\InE N):Pure Tryz.prog 126 [.list .tmp EnT N] (.olist PoT (linesF N)):=
 by have k:=Pure.of_cond (g_rlines_eq N) (g_rlines_ok N h) (specs_ok rfl [] [] rfl rfl) mixed Tryz.func126;exact k
noncomputable def q_rlines (N:List En):Prop×V:=(N.length<=1000000/\InE N,(.olist PoT (linesF N)))
noncomputable def sp_rlines:FSpec Tryz.prog where
 f:=126
 run:=fun
  |[v0]=>(asL EnT v0:Option (List En)).bind fun N=>some (q_rlines N)
  |_=>none
 ok:=fun args pre r h hp=>by
  split at h
  ·rename_i v0;obtain ⟨N,h0,h⟩:=Option.bind_eq_some_iff.1 h;exact of_q h hp fun h=>(rlines_pure N h).weak (.cons (asL_weak h0) .nil)
  ·cases h
def accP (a:Int) (x:Po):Bool:=decide (x.2.2.2.2.1=a)
def usedF (N:List En) (a:Int):Bool:=(linesF N).any (accP a)
theorem ln_len (p i:Int): ∀(L:List Ln) (k:Nat),(lnGo p i L k).length=L.length
 |[],_=>rfl
 |x::r,k=>by rw [lnGo,List.length_cons,ln_len p i r,List.length_cons]
theorem po_len: ∀(N:List En) (i:Int) (k:Nat),InE N->(poGo N i k).length<=1000*N.length
 |[],_,_,_=>by simp [poGo]
 |x::r,i,k,h=>by
  have h1:=(h x (by simp)).2;have h2:=po_len r (i+1) (k+x.2.2.length) (fun y hy=>h y (by simp [hy]));rw [poGo,List.length_append,ln_len,List.length_cons];omega
theorem lines_len {N:List En} (h:InE N):(linesF N).length<=1000*N.length:=po_len N 0 0 h
noncomputable def env_rused (E:List Int) (A:List Acc.AcD) (S:List Ln) (R:List Rts.Rt) (K:List Lck.Lk) (N:List En) (a:Int):Env where
 P:=Tryz.prog
 ty:=tys0
 specs:=specsOf [sp_rlines]
 frz:=fun|9=>true|_=>false
 heads:=fun|3=>some {slots:=[(6, .int .i64)],boxes:=[],keep:=[2],inv:=fun _ (x:Int×Unit)=>0<=x.1/\x.1<=(linesF N).length/\(linesF N).any (accP a)=((linesF N).drop x.1.toNat).any (accP a),measure:=fun _ (x:Int×Unit)=>((linesF N).length-x.1).toNat}|_=>none
abbrev bx_rused_1 (E:List Int) (A:List Acc.AcD) (S:List Ln) (R:List Rts.Rt) (K:List Lck.Lk) (N:List En):_root_.Go.Vm.Obj:=Obj.box [V.list LK.tmp I E,V.list LK.tmp AcT A,V.list LK.tmp LnT S,V.list LK.tmp RTy R,V.list LK.tmp Vl K,V.list LK.tmp EnT N]
def g_rused_vc (E:List Int) (A:List Acc.AcD) (S:List Ln) (R:List Rts.Rt) (K:List Lck.Lk) (N:List En) (a:Int):Prop:=
 (N.length<=(1000000:Nat)/\InE N)/\((some (bx_rused_1 E A S R K N)=some (bx_rused_1 E A S R K N)/\True)/\0<=(0:Int)/\0<=(↑(linesF N).length:Int)/\(linesF N).any (accP a)=(List.drop (Int.toNat (0:Int)) (linesF N)).any (accP a))/\∀(x:Int×Unit),0<=x.1/\x.1<=(↑(linesF N).length:Int)/\(linesF N).any (accP a)=(List.drop x.1.toNat (linesF N)).any (accP a)->(decide (x.1<(↑(linesF N).length:Int))=true->(0<=x.1/\x.1<(↑(linesF N).length:Int))/\∀(x_1:Int×Int×Int×Int×Int×Int×Int),(linesF N)[x.1.toNat]? =some x_1->(decide (x_1.2.2.2.2.1=a)=true->(true,())=(usedF N a,()))/\(decide (x_1.2.2.2.2.1=a)=false->(-9223372036854775808<=x.1+1/\x.1+1<=9223372036854775807)/\(some (bx_rused_1 E A S R K N)=some (bx_rused_1 E A S R K N)/\True)/\(0<=x.1+1/\x.1+1<=(↑(linesF N).length:Int)/\(linesF N).any (accP a)=(List.drop (x.1+1).toNat (linesF N)).any (accP a))/\((↑(linesF N).length:Int)-(x.1+1)).toNat<((↑(linesF N).length:Int)-x.1).toNat))/\(decide (x.1<(↑(linesF N).length:Int))=false->(false,())=(usedF N a,()))
theorem g_rused_eq (E:List Int) (A:List Acc.AcD) (S:List Ln) (R:List Rts.Rt) (K:List Lck.Lk) (N:List En) (a:Int):Cond (env_rused E A S R K N a) Tryz.f100 [.agg [.list .tmp I E, .list .tmp AcT A, .list .tmp LnT S, .list .tmp RTy R, .list .tmp Vl K, .list .tmp EnT N], .int .i64 a] [.bool] (usedF N a,())=g_rused_vc E A S R K N a:=by kernel_rfl
theorem g_rused_ok (E:List Int) (A:List Acc.AcD) (S:List Ln) (R:List Rts.Rt) (K:List Lck.Lk) (N:List En) (a:Int) (h:Sm E A S R K N):g_rused_vc E A S R K N a:=by
 obtain ⟨l1,l2,l3,l4,l5,l6,hi⟩:=h;unfold g_rused_vc usedF;simp only [decide_eq_true_eq,decide_eq_false_iff_not];have hll:=lines_len hi;refine ⟨⟨l6,hi⟩,⟨⟨trivial,trivial⟩,by omega,by omega,rfl⟩, ?_⟩;rintro ⟨i,⟨⟩⟩ ⟨h0,h1,hb⟩;dsimp only at h0 h1 hb⊢;rw [hb];refine ⟨fun c=>⟨⟨h0,c⟩,fun x hx=>⟨fun k=> ?_,fun k=>⟨by omega,⟨trivial,trivial⟩,⟨by omega,by omega, ?_⟩,by omega⟩⟩⟩,fun c=> ?_⟩
 ·rw [any_hit hx (by unfold accP;rw [decide_eq_true k])]
 ·rw [any_miss h0 hx (by unfold accP;rw [decide_eq_false k])]
 ·rw [any_end c]
theorem rused_pure (E:List Int) (A:List Acc.AcD) (S:List Ln) (R:List Rts.Rt) (K:List Lck.Lk) (N:List En) (a:Int) (h:Sm E A S R K N):Pure Tryz.prog 100 [.agg [.list .tmp I E, .list .tmp AcT A, .list .tmp LnT S, .list .tmp RTy R, .list .tmp Vl K, .list .tmp EnT N], .int .i64 a] (.bool (usedF N a)):=
 by have k:=Pure.of_cond (g_rused_eq E A S R K N a) (g_rused_ok E A S R K N a h) (specs_ok rfl [sp_rlines] [] rfl rfl) mixed Tryz.func100;exact k
noncomputable def q_rused (E:List Int) (A:List Acc.AcD) (S:List Ln) (R:List Rts.Rt) (K:List Lck.Lk) (N:List En) (a:Int):Prop×V:=(Sm E A S R K N,(.bool (usedF N a)))
noncomputable def sp_rused:FSpec Tryz.prog where
 f:=100
 run:=fun
  |[.agg [v0_0,v0_1,v0_2,v0_3,v0_4,v0_5], .int .i64 a]=>(asL I v0_0:Option (List Int)).bind fun E=>(asL AcT v0_1:Option (List Acc.AcD)).bind fun A=>(asL LnT v0_2:Option (List Ln)).bind fun S=>(asL RTy v0_3:Option (List Rts.Rt)).bind fun R=>(asL Vl v0_4:Option (List Lck.Lk)).bind fun K=>(asL EnT v0_5:Option (List En)).bind fun N=>some (q_rused E A S R K N a)
  |_=>none
 ok:=fun args pre r h hp=>by
  split at h
  ·rename_i v0_0 v0_1 v0_2 v0_3 v0_4 v0_5 a;obtain ⟨E,h0_0,h⟩:=Option.bind_eq_some_iff.1 h;obtain ⟨A,h0_1,h⟩:=Option.bind_eq_some_iff.1 h;obtain ⟨S,h0_2,h⟩:=Option.bind_eq_some_iff.1 h;obtain ⟨R,h0_3,h⟩:=Option.bind_eq_some_iff.1 h;obtain ⟨K,h0_4,h⟩:=Option.bind_eq_some_iff.1 h;obtain ⟨N,h0_5,h⟩:=Option.bind_eq_some_iff.1 h;exact of_q h hp fun h=>(rused_pure E A S R K N a h).weak (.cons (Weak.agg (.cons (asL_weak h0_0) (.cons (asL_weak h0_1) (.cons (asL_weak h0_2) (.cons (asL_weak h0_3) (.cons (asL_weak h0_4) (.cons (asL_weak h0_5) .nil))))))) (.cons (.refl _) .nil))
  ·cases h
end Go.Proofs.YtabicbgeoiilmaaGreat.Bks
end
section
namespace Go.Proofs.YtabicbgeoiilmaaGreat.Bks
open Go.Vm
abbrev nI:List Int:=[]
abbrev nL:List Ln:=[]
abbrev nR:List Rts.Rt:=[]
abbrev nK:List Lck.Lk:=[]
abbrev nE:List En:=[]
noncomputable def env_rnew:Env where
 P:=Tryz.prog
 ty:=tys0
 specs:=specsOf [Acc.sp_rnew]
abbrev ann_rnew:Ann:={slots:=numP 0 [.list .full I, .list .full AcT, .list .full LnT, .list .full RTy, .list .full Vl, .list .full EnT],boxes:=[],inv:=fun _ _=>True}
def g_rnew_vc:Prop:=
 True/\True/\([],Acc.ownL,[],[],[],[],())=(nI,Acc.ownL,nL,nR,nK,nE,())
theorem g_rnew_eq:CondG (env_rnew) Tryz.f25 [] [some 6] ann_rnew (nI,Acc.ownL,nL,nR,nK,nE,())=g_rnew_vc:=by kernel_rfl
theorem g_rnew_ok:g_rnew_vc:=by
 unfold g_rnew_vc;exact ⟨trivial,trivial,rfl⟩
set_option maxRecDepth 20000
theorem rnew_pure:Pure Tryz.prog 25 [] (.agg [.list .full I [], .list .full AcT Acc.ownL, .list .full LnT [], .list .full RTy [], .list .full Vl [], .list .full EnT []]):=
 by have k:=Pure.of_condG (r:=(.agg [.list .full I [], .list .full AcT Acc.ownL, .list .full LnT [], .list .full RTy [], .list .full Vl [], .list .full EnT []])) (g_rnew_eq) (g_rnew_ok) rfl (specs_ok rfl [Acc.sp_rnew] [] rfl rfl) mixed Tryz.func25;exact k
noncomputable def q_rnew:Prop×V:=(True,(.agg [.list .full I [], .list .full AcT Acc.ownL, .list .full LnT [], .list .full RTy [], .list .full Vl [], .list .full EnT []]))
noncomputable def sp_rnew:FSpec Tryz.prog where
 f:=25
 run:=fun
  |[]=>some (q_rnew)
  |_=>none
 ok:=fun args pre r h hp=>by
  split at h
  ·skip;exact of_q h hp fun h=>(rnew_pure).weak .nil
  ·cases h
noncomputable def env_cli (l:List (Int)):Env where
 P:=Tryz.prog
 ty:=tys0
def g_cli_vc (l:List Int):Prop:=
 ((true=true->l.length=(0:Nat))->([],())=(l,()))/\((false=true->l.length=(0:Nat))->(((0:Nat)+l.length)*(8:Nat)<=(140737488355328:Nat)/\(0:Nat)+l.length<=(4611686018427387904:Nat)/\((0:Nat)<l.length∨(0:Nat)=(0:Nat)))/\(l,())=(l,()))
theorem g_cli_eq (l:List (Int)):Cond (env_cli l) Tryz.f78 [.list .tmp I l] [.slc 0 I] (l,())=g_cli_vc l:=by kernel_rfl
theorem g_cli_ok (l:List (Int)) (h:l.length<=1000000):g_cli_vc l:=by
 unfold g_cli_vc;refine ⟨fun e=> ?_,fun _=>⟨⟨by omega,by omega, .inr rfl⟩,rfl⟩⟩;have:=List.eq_nil_of_length_eq_zero (e rfl);rw [this]
theorem cli_pure (l:List (Int)) (h:l.length<=1000000):Pure Tryz.prog 78 [.list .tmp I l] (.olist I l):=
 by have k:=Pure.of_cond (g_cli_eq l) (g_cli_ok l h) (specs_ok rfl [] [] rfl rfl) mixed Tryz.func78;exact k
noncomputable def q_cli (l:List (Int)):Prop×V:=(l.length<=1000000,(.olist I l))
noncomputable def sp_cli:FSpec Tryz.prog where
 f:=78
 run:=fun
  |[v0]=>(asL I v0:Option (List (Int))).bind fun l=>some (q_cli l)
  |_=>none
 ok:=fun args pre r h hp=>by
  split at h
  ·rename_i v0;obtain ⟨l,h0,h⟩:=Option.bind_eq_some_iff.1 h;exact of_q h hp fun h=>(cli_pure l h).weak (.cons (asL_weak h0) .nil)
  ·cases h
noncomputable def env_cla (l:List (Int×Int×Bool×Bool)):Env where
 P:=Tryz.prog
 ty:=tys0
def g_cla_vc (l:List (Int×Int×Bool×Bool)):Prop:=
 ((true=true->l.length=(0:Nat))->([],())=(l,()))/\((false=true->l.length=(0:Nat))->(((0:Nat)+l.length)*(24:Nat)<=(140737488355328:Nat)/\(0:Nat)+l.length<=(4611686018427387904:Nat)/\((0:Nat)<l.length∨(0:Nat)=(0:Nat)))/\(l,())=(l,()))
theorem g_cla_eq (l:List (Int×Int×Bool×Bool)):Cond (env_cla l) Tryz.f79 [.list .tmp AcT l] [.slc 0 AcT] (l,())=g_cla_vc l:=by kernel_rfl
theorem g_cla_ok (l:List (Int×Int×Bool×Bool)) (h:l.length<=1000000):g_cla_vc l:=by
 unfold g_cla_vc;refine ⟨fun e=> ?_,fun _=>⟨⟨by omega,by omega, .inr rfl⟩,rfl⟩⟩;have:=List.eq_nil_of_length_eq_zero (e rfl);rw [this]
theorem cla_pure (l:List (Int×Int×Bool×Bool)) (h:l.length<=1000000):Pure Tryz.prog 79 [.list .tmp AcT l] (.olist AcT l):=
 by have k:=Pure.of_cond (g_cla_eq l) (g_cla_ok l h) (specs_ok rfl [] [] rfl rfl) mixed Tryz.func79;exact k
noncomputable def q_cla (l:List (Int×Int×Bool×Bool)):Prop×V:=(l.length<=1000000,(.olist AcT l))
noncomputable def sp_cla:FSpec Tryz.prog where
 f:=79
 run:=fun
  |[v0]=>(asL AcT v0:Option (List (Int×Int×Bool×Bool))).bind fun l=>some (q_cla l)
  |_=>none
 ok:=fun args pre r h hp=>by
  split at h
  ·rename_i v0;obtain ⟨l,h0,h⟩:=Option.bind_eq_some_iff.1 h;exact of_q h hp fun h=>(cla_pure l h).weak (.cons (asL_weak h0) .nil)
  ·cases h
noncomputable def env_clk (l:List (Int×Int)):Env where
 P:=Tryz.prog
 ty:=tys0
def g_clk_vc (l:List (Int×Int)):Prop:=
 ((true=true->l.length=(0:Nat))->([],())=(l,()))/\((false=true->l.length=(0:Nat))->(((0:Nat)+l.length)*(16:Nat)<=(140737488355328:Nat)/\(0:Nat)+l.length<=(4611686018427387904:Nat)/\((0:Nat)<l.length∨(0:Nat)=(0:Nat)))/\(l,())=(l,()))
theorem g_clk_eq (l:List (Int×Int)):Cond (env_clk l) Tryz.f82 [.list .tmp Vl l] [.slc 0 Vl] (l,())=g_clk_vc l:=by kernel_rfl
theorem g_clk_ok (l:List (Int×Int)) (h:l.length<=1000000):g_clk_vc l:=by
 unfold g_clk_vc;refine ⟨fun e=> ?_,fun _=>⟨⟨by omega,by omega, .inr rfl⟩,rfl⟩⟩;have:=List.eq_nil_of_length_eq_zero (e rfl);rw [this]
theorem clk_pure (l:List (Int×Int)) (h:l.length<=1000000):Pure Tryz.prog 82 [.list .tmp Vl l] (.olist Vl l):=
 by have k:=Pure.of_cond (g_clk_eq l) (g_clk_ok l h) (specs_ok rfl [] [] rfl rfl) mixed Tryz.func82;exact k
noncomputable def q_clk (l:List (Int×Int)):Prop×V:=(l.length<=1000000,(.olist Vl l))
noncomputable def sp_clk:FSpec Tryz.prog where
 f:=82
 run:=fun
  |[v0]=>(asL Vl v0:Option (List (Int×Int))).bind fun l=>some (q_clk l)
  |_=>none
 ok:=fun args pre r h hp=>by
  split at h
  ·rename_i v0;obtain ⟨l,h0,h⟩:=Option.bind_eq_some_iff.1 h;exact of_q h hp fun h=>(clk_pure l h).weak (.cons (asL_weak h0) .nil)
  ·cases h
noncomputable def env_cle (l:List (En)):Env where
 P:=Tryz.prog
 ty:=tys0
def g_cle_vc (l:List En):Prop:=
 ((true=true->l.length=(0:Nat))->([],())=(l,()))/\((false=true->l.length=(0:Nat))->(((0:Nat)+l.length)*(40:Nat)<=(140737488355328:Nat)/\(0:Nat)+l.length<=(4611686018427387904:Nat)/\((0:Nat)<l.length∨(0:Nat)=(0:Nat)))/\(l,())=(l,()))
theorem g_cle_eq (l:List (En)):Cond (env_cle l) Tryz.f83 [.list .tmp EnT l] [.slc 0 EnT] (l,())=g_cle_vc l:=by kernel_rfl
theorem g_cle_ok (l:List (En)) (h:l.length<=1000000):g_cle_vc l:=by
 unfold g_cle_vc;refine ⟨fun e=> ?_,fun _=>⟨⟨by omega,by omega, .inr rfl⟩,rfl⟩⟩;have:=List.eq_nil_of_length_eq_zero (e rfl);rw [this]
theorem cle_pure (l:List (En)) (h:l.length<=1000000):Pure Tryz.prog 83 [.list .tmp EnT l] (.olist EnT l):=
 by have k:=Pure.of_cond (g_cle_eq l) (g_cle_ok l h) (specs_ok rfl [] [] rfl rfl) mixed Tryz.func83;exact k
noncomputable def q_cle (l:List (En)):Prop×V:=(l.length<=1000000,(.olist EnT l))
noncomputable def sp_cle:FSpec Tryz.prog where
 f:=83
 run:=fun
  |[v0]=>(asL EnT v0:Option (List (En))).bind fun l=>some (q_cle l)
  |_=>none
 ok:=fun args pre r h hp=>by
  split at h
  ·rename_i v0;obtain ⟨l,h0,h⟩:=Option.bind_eq_some_iff.1 h;exact of_q h hp fun h=>(cle_pure l h).weak (.cons (asL_weak h0) .nil)
  ·cases h
theorem set_same {α:Type} {l:List α} {i:Nat} {x:α} (h:l[i]? =some x):l.set i x=l:=by
 refine List.ext_getElem? fun j=> ?_;by_cases c:i=j
 ·subst c;rw [List.getElem?_set_self ((List.getElem?_eq_some_iff.1 h).1),h]
 ·rw [List.getElem?_set_ne c]
noncomputable def env_copy (E:List Int) (A:List Acc.AcD) (S:List Ln) (R:List Rts.Rt) (K:List Lck.Lk) (N:List En):Env where
 P:=Tryz.prog
 ty:=tys0
 specs:=specsOf [sp_cli,sp_cla,Stk.sp_clone,Rts.sp_clone,sp_clk,sp_cle,Ent.sp_clone]
 frz:=fun|8=>true|11=>true|14=>true|17=>true|20=>true|38=>true|_=>false
 heads:=fun|3=>some {slots:=[(28, .int .i64),(23, .slc 23 EnT)],boxes:=[],keep:=[1,2,3],inv:=fun _ (x:Int×List En×Unit)=>0<=x.1/\x.1<=N.length/\x.2.1=N,measure:=fun _ (x:Int×List En×Unit)=>(N.length-x.1).toNat}|_=>none
abbrev ann_copy:Ann:={slots:=numP 0 [.list .part I, .list .part AcT, .list .part LnT, .list .part RTy, .list .part Vl, .list .part EnT],boxes:=[],inv:=fun _ _=>True}
abbrev bx_copy_1 (E:List Int) (A:List Acc.AcD) (S:List Ln) (R:List Rts.Rt) (K:List Lck.Lk):_root_.Go.Vm.Obj:=Obj.box [V.list LK.part I E,V.list LK.part AcT A,V.list LK.part Stk.STy S,V.list LK.part RTy R,V.list LK.part Vl K,V.slc (23:Nat) (0:Nat) none]
abbrev bx_copy_2 (E:List Int) (A:List Acc.AcD) (S:List Ln) (R:List Rts.Rt) (K:List Lck.Lk) (N:List En):_root_.Go.Vm.Obj:=Obj.box [V.list LK.tmp I E,V.list LK.tmp AcT A,V.list LK.tmp LnT S,V.list LK.tmp RTy R,V.list LK.tmp Vl K,V.list LK.tmp EnT N]
def g_copy_vc (E:List Int) (A:List Acc.AcD) (S:List Ln) (R:List Rts.Rt) (K:List Lck.Lk) (N:List En):Prop:=
 E.length<=(1000000:Nat)/\A.length<=(1000000:Nat)/\S.length<=(1000000000:Nat)/\R.length<=(1000000:Nat)/\K.length<=(1000000:Nat)/\N.length<=(1000000:Nat)/\((some (bx_copy_2 E A S R K N)=some (bx_copy_2 E A S R K N)/\some (Obj.box [V.nils,V.nils,V.nils,V.nils,V.nils,V.nils])=some (Obj.box [V.nils,V.nils,V.nils,V.nils,V.nils,V.nils])/\some (bx_copy_1 E A S R K)=some (bx_copy_1 E A S R K)/\True)/\0<=(0:Int)/\0<=(↑N.length:Int)/\N=N)/\∀(x:Int×List (Int×Int×List (Int×Int×Int×Int))×Unit),0<=x.1/\x.1<=(↑N.length:Int)/\x.2.1=N->(decide (x.1<(↑N.length:Int))=true->(0<=x.1/\x.1<(↑N.length:Int))/\∀(x_1:Int×Int×List (Int×Int×Int×Int)),N[x.1.toNat]? =some x_1->x_1.2.2.length<=(1000000000:Nat)/\(0<=x.1/\x.1<(↑x.2.1.length:Int))/\x.1.toNat<x.2.1.length/\∀(y:Int×Int×List (Int×Int×Int×Int)),x.2.1[x.1.toNat]? =some y->(-9223372036854775808<=x.1+1/\x.1+1<=9223372036854775807)/\(some (bx_copy_2 E A S R K N)=some (bx_copy_2 E A S R K N)/\some (Obj.box [V.nils,V.nils,V.nils,V.nils,V.nils,V.nils])=some (Obj.box [V.nils,V.nils,V.nils,V.nils,V.nils,V.nils])/\some (bx_copy_1 E A S R K)=some (bx_copy_1 E A S R K)/\True)/\(0<=x.1+1/\x.1+1<=(↑N.length:Int)/\x.2.1.set x.1.toNat (y.1,y.2.1,x_1.2.2)=N)/\((↑N.length:Int)-(x.1+1)).toNat<((↑N.length:Int)-x.1).toNat)/\(decide (x.1<(↑N.length:Int))=false->True/\(E,A,S,R,K,x.2.1,())=(E,A,S,R,K,N,()))
theorem g_copy_eq (E:List Int) (A:List Acc.AcD) (S:List Ln) (R:List Rts.Rt) (K:List Lck.Lk) (N:List En):CondG (env_copy E A S R K N) Tryz.f34 [.agg [.list .tmp I E, .list .tmp AcT A, .list .tmp LnT S, .list .tmp RTy R, .list .tmp Vl K, .list .tmp EnT N]] [some 6] ann_copy (E,A,S,R,K,N,())=g_copy_vc E A S R K N:=by kernel_rfl
theorem g_copy_ok (E:List Int) (A:List Acc.AcD) (S:List Ln) (R:List Rts.Rt) (K:List Lck.Lk) (N:List En) (h:Sm E A S R K N):g_copy_vc E A S R K N:=by
 unfold g_copy_vc;obtain ⟨l1,l2,l3,l4,l5,l6,hi⟩:=h;refine ⟨by omega,by omega,by omega,by omega,by omega,by omega,⟨⟨rfl,rfl,rfl,trivial⟩,by omega,by omega,rfl⟩, ?_⟩;rintro ⟨i,M,⟨⟩⟩ ⟨h0,h1,hb⟩;dsimp only at h0 h1 hb⊢;subst hb;simp only [decide_eq_true_eq,decide_eq_false_iff_not];refine ⟨fun c=>⟨⟨h0,c⟩,fun x hx=>⟨by have:=(ine_at hi hx).2;omega,⟨h0,c⟩,by omega,fun y hy=>⟨by omega,⟨trivial,trivial,trivial,trivial⟩,⟨by omega,by omega, ?_⟩,by omega⟩⟩⟩,fun c=>⟨trivial,trivial⟩⟩;rw [hx] at hy;cases hy;exact set_same hx
theorem copy_pure (E:List Int) (A:List Acc.AcD) (S:List Ln) (R:List Rts.Rt) (K:List Lck.Lk) (N:List En) (h:Sm E A S R K N):Pure Tryz.prog 34 [.agg [.list .tmp I E, .list .tmp AcT A, .list .tmp LnT S, .list .tmp RTy R, .list .tmp Vl K, .list .tmp EnT N]] (.agg [.list .part I E, .list .part AcT A, .list .part LnT S, .list .part RTy R, .list .part Vl K, .list .part EnT N]):=
 by have k:=Pure.of_condG (r:=(.agg [.list .part I E, .list .part AcT A, .list .part LnT S, .list .part RTy R, .list .part Vl K, .list .part EnT N])) (g_copy_eq E A S R K N) (g_copy_ok E A S R K N h) rfl (specs_ok rfl [sp_cli,sp_cla,Stk.sp_clone,Rts.sp_clone,sp_clk,sp_cle,Ent.sp_clone] [] rfl rfl) mixed Tryz.func34;exact k
noncomputable def q_copy (E:List Int) (A:List Acc.AcD) (S:List Ln) (R:List Rts.Rt) (K:List Lck.Lk) (N:List En):Prop×V:=(Sm E A S R K N,(.agg [.list .part I E, .list .part AcT A, .list .part LnT S, .list .part RTy R, .list .part Vl K, .list .part EnT N]))
noncomputable def sp_copy:FSpec Tryz.prog where
 f:=34
 run:=fun
  |[.agg [v0_0,v0_1,v0_2,v0_3,v0_4,v0_5]]=>(asL I v0_0:Option (List Int)).bind fun E=>(asL AcT v0_1:Option (List Acc.AcD)).bind fun A=>(asL LnT v0_2:Option (List Ln)).bind fun S=>(asL RTy v0_3:Option (List Rts.Rt)).bind fun R=>(asL Vl v0_4:Option (List Lck.Lk)).bind fun K=>(asL EnT v0_5:Option (List En)).bind fun N=>some (q_copy E A S R K N)
  |_=>none
 ok:=fun args pre r h hp=>by
  split at h
  ·rename_i v0_0 v0_1 v0_2 v0_3 v0_4 v0_5;obtain ⟨E,h0_0,h⟩:=Option.bind_eq_some_iff.1 h;obtain ⟨A,h0_1,h⟩:=Option.bind_eq_some_iff.1 h;obtain ⟨S,h0_2,h⟩:=Option.bind_eq_some_iff.1 h;obtain ⟨R,h0_3,h⟩:=Option.bind_eq_some_iff.1 h;obtain ⟨K,h0_4,h⟩:=Option.bind_eq_some_iff.1 h;obtain ⟨N,h0_5,h⟩:=Option.bind_eq_some_iff.1 h;exact of_q h hp fun h=>(copy_pure E A S R K N h).weak (.cons (Weak.agg (.cons (asL_weak h0_0) (.cons (asL_weak h0_1) (.cons (asL_weak h0_2) (.cons (asL_weak h0_3) (.cons (asL_weak h0_4) (.cons (asL_weak h0_5) .nil))))))) .nil)
  ·cases h
end Go.Proofs.YtabicbgeoiilmaaGreat.Bks
end
