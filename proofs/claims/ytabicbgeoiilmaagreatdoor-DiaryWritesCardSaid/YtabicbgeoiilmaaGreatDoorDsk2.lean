/-
  A desk: entries: may one be reversed; what is put behind the others; what is posted, reversed.
-/
import Derived.Test.YtabicbgeoiilmaaGreatDoorDsk1
set_option linter.unusedVariables false
namespace Go.Proofs.YtabicbgeoiilmaaGreatDoor.Dsk
open Go.Vm
open Bks (En InE ine_at Sm ownP)
def mayF (N:List En) (n:Int):Int:=if n<1∨N.length<n then 34 else match N[(n-1).toNat]? with
 |none=>0
 |some y=>if y.2.1≠0∨Bks.revF N n≠0 then 35 else (Ent.oppF y.1 y.2.1 y.2.2).2
theorem may_out {N:List En} {n:Int} (h:n<1∨N.length<n):mayF N n=34:=if_pos h
theorem may_twice {N:List En} {n:Int} {y:En} (h: ¬(n<1∨N.length<n)) (hy:N[(n-1).toNat]? =some y) (k:y.2.1≠0∨Bks.revF N n≠0):mayF N n=35:=by unfold mayF;rw [if_neg h,hy];exact if_pos k
theorem may_opp {N:List En} {n:Int} {y:En} (h: ¬(n<1∨N.length<n)) (hy:N[(n-1).toNat]? =some y) (k: ¬(y.2.1≠0∨Bks.revF N n≠0)):mayF N n=(Ent.oppF y.1 y.2.1 y.2.2).2:=by unfold mayF;rw [if_neg h,hy];exact if_neg k
noncomputable def env_may (N:List En) (n:Int):Env where
 P:=Tryz.prog
 ty:=tys0
 specs:=specsOf [Bks.sp_rev,Ent.sp_opp]
def g_may_vc (N:List En) (n:Int):Prop:=
 (decide (n<(1:Int))=false->(decide ((↑N.length:Int)<n)=true->((34:Int),())=(mayF N n,()))/\(decide ((↑N.length:Int)<n)=false->(-9223372036854775808<=n-(1:Int)/\n-(1:Int)<=9223372036854775807)/\(0<=n-(1:Int)/\n-(1:Int)<(↑N.length:Int))/\∀(x:Int×Int×List (Int×Int×Int×Int)),N[(n-(1:Int)).toNat]? =some x->((!decide (x.2.1=(0:Int)))=false->N.length<=(1000000000:Nat)/\((!decide (Bks.revF N n=(0:Int)))=true->((35:Int),())=(mayF N n,()))/\((!decide (Bks.revF N n=(0:Int)))=false->(-9223372036854775808<=n-(1:Int)/\n-(1:Int)<=9223372036854775807)/\(0<=n-(1:Int)/\n-(1:Int)<(↑N.length:Int))/\∀(x:Int×Int×List (Int×Int×Int×Int)),N[(n-(1:Int)).toNat]? =some x->(Ent.InL x.2.2/\x.2.2.length<=(1000:Nat))/\((Ent.oppF x.1 x.2.1 x.2.2).2,())=(mayF N n,())))/\((!decide (x.2.1=(0:Int)))= !false->((35:Int),())=(mayF N n,()))))/\(decide (n<(1:Int))= !false->((34:Int),())=(mayF N n,()))
theorem g_may_ok (N:List En) (n:Int) (h:N.length<=1000000/\InE N):g_may_vc N n:=by
 obtain ⟨hl,hi⟩:=h;unfold g_may_vc;simp only [decide_eq_true_eq,decide_eq_false_iff_not,Bool.not_eq_true',Bool.not_eq_false',Bool.not_true,Bool.not_false];repeat' (first
  |with_reducible apply And.intro
  |(intro (x1:Int×Int×List (Int×Int×Int×Int)) (hx1:N[(n-1).toNat]? =some x1);have e:=Option.some.inj (hx.symm.trans hx1);subst e)
  |(intro (x:Int×Int×List (Int×Int×Int×Int)) (hx:N[(n-1).toNat]? =some x);have hix:=ine_at hi hx)
  |intro _)
 all_goals try (first|trivial|rfl|omega|exact hix.1 _ (by assumption))
 all_goals first
  |(rw [may_out (by omega)])
  |(rw [may_twice (by omega) hx (.inl (by assumption))])
  |(rw [may_twice (by omega) hx (.inr (by assumption))])
  |(rw [may_opp (by omega) hx (fun c=>c.elim (fun c=>c (by assumption)) (fun c=>c (by assumption)))])
set_option maxRecDepth 20000
noncomputable def sp_may:FSpec Tryz.prog:=mkF 145 (.c (.l EnT) (.c .j .z)) [.int .i64] (fun x=>(fun (N:List En) (n:Int)=>(N.length<=1000000/\InE N,mayF N n,())) x.1 x.2.1) fun ⟨N,n,_⟩ h=>Pure.of_cond (E:=env_may N n) (by kernel_rfl) (g_may_ok N n h) (specs_ok rfl _ [] rfl rfl) mixed Tryz.func145
def nleaf (A:List Acc.AcD) (x:Ln):Bool:= !Acc.leafF A x.2.1
noncomputable def env_p1 (e a p m:Int):Env where
 P:=Tryz.prog
 ty:=tys0
def g_p1_vc (e:Int) (a:Int) (p:Int) (m:Int):Prop:=
 (decide (a<=(3:Int)),())=(ownP (e,a,p,m),())
theorem g_p1_ok (e a p m:Int):g_p1_vc e a p m:=by
 unfold g_p1_vc ownP;trivial
noncomputable def sp_p1:FSpec Tryz.prog:=mkF 140 (.c (.g (.c .j (.c .j (.c .j (.c .j .z))))) .z) [.bool] (fun x=>(fun (e a p m:Int)=>(True,ownP (e,a,p,m),())) x.1.1 x.1.2.1 x.1.2.2.1 x.1.2.2.2.1) fun ⟨⟨e,a,p,m,_⟩,_⟩ _=>Pure.of_cond (E:=env_p1 e a p m) (by kernel_rfl) (g_p1_ok e a p m) (specs_ok rfl [] [] rfl rfl) mixed Tryz.func140
noncomputable def env_p2 (e a p m:Int) (E:List Int) (A:List Acc.AcD) (S:List Ln) (R:List Rts.Rt) (K:List Lck.Lk) (N:List En):Env where
 P:=Tryz.prog
 ty:=tys0
 specs:=specsOf [Acc.sp_pleaf]
 frz:=fun|11=>true|_=>false
def g_p2_vc (e:Int) (a:Int) (p:Int) (m:Int) (E:List Int) (A:List Acc.AcD) (S:List Ln) (R:List Rts.Rt) (K:List Lck.Lk) (N:List En):Prop:=
 A.length<=(1000000000:Nat)/\(!Acc.leafF A a,())=(nleaf A (e,a,p,m),())
theorem g_p2_ok (e a p m:Int) (E:List Int) (A:List Acc.AcD) (S:List Ln) (R:List Rts.Rt) (K:List Lck.Lk) (N:List En) (h:A.length<=1000000000):g_p2_vc e a p m E A S R K N:=by
 unfold g_p2_vc nleaf;exact ⟨h,rfl⟩
noncomputable def sp_p2:FSpec Tryz.prog:=mkF 141 (.c (.g (.c .j (.c .j (.c .j (.c .j .z))))) (.c (.f (.c (.f (.c (.l I) (.c (.l AcT) (.c (.l LnT) (.c (.l RTy) (.c (.l Vl) (.c (.l EnT) .z))))))) .z)) .z)) [.bool] (fun x=>(fun (e a p m:Int) (E:List Int) (A:List Acc.AcD) (S:List Ln) (R:List Rts.Rt) (K:List Lck.Lk) (N:List En)=>(A.length<=1000000000,nleaf A (e,a,p,m),())) x.1.1 x.1.2.1 x.1.2.2.1 x.1.2.2.2.1 x.2.1.1.1 x.2.1.1.2.1 x.2.1.1.2.2.1 x.2.1.1.2.2.2.1 x.2.1.1.2.2.2.2.1 x.2.1.1.2.2.2.2.2.1) fun ⟨⟨e,a,p,m,_⟩,⟨⟨E,A,S,R,K,N,_⟩,_⟩,_⟩ h=>Pure.of_cond (E:=env_p2 e a p m E A S R K N) (by kernel_rfl) (g_p2_ok e a p m E A S R K N h) (specs_ok rfl _ [] rfl rfl) mixed Tryz.func141
noncomputable def env_oi (l:List Ln):Env where
 P:=Tryz.prog
 ty:=tys0
 specs:=specsOf [sp_p1]
 heads:=fun|2=>some {slots:=[(8, .int .i64)],boxes:=[],inv:=fun _ (x:Int×Unit)=>0<=x.1/\x.1<=l.length/\idxF ownP l=idxGo ownP (l.drop x.1.toNat) x.1,measure:=fun _ (x:Int×Unit)=>(l.length-x.1).toNat}|_=>none
def g_oi_vc (l:List Ln):Prop:=
 (True/\0<=(0:Int)/\0<=(↑l.length:Int)/\idxF ownP l=idxGo ownP (List.drop (Int.toNat (0:Int)) l) (0:Int))/\∀(x:Int×Unit),0<=x.1/\x.1<=(↑l.length:Int)/\idxF ownP l=idxGo ownP (List.drop x.1.toNat l) x.1->(decide (x.1<(↑l.length:Int))=true->(0<=x.1/\x.1<(↑l.length:Int))/\∀(x_1:Int×Int×Int×Int),l[x.1.toNat]? =some x_1->True/\(ownP (x_1.1,x_1.2.1,x_1.2.2.1,x_1.2.2.2)=true->(x.1,())=(idxF ownP l,()))/\(ownP (x_1.1,x_1.2.1,x_1.2.2.1,x_1.2.2.2)=false->(-9223372036854775808<=x.1+1/\x.1+1<=9223372036854775807)/\True/\(0<=x.1+1/\x.1+1<=(↑l.length:Int)/\idxF ownP l=idxGo ownP (List.drop (x.1+1).toNat l) (x.1+1))/\((↑l.length:Int)-(x.1+1)).toNat<((↑l.length:Int)-x.1).toNat))/\(decide (x.1<(↑l.length:Int))=false->((-1:Int),())=(idxF ownP l,()))
theorem g_oi_ok (l:List Ln) (h:l.length<=1000000000):g_oi_vc l:=by
 have hl:l.length<=1000000000:=h;unfold g_oi_vc;simp only [decide_eq_true_eq,decide_eq_false_iff_not];refine ⟨⟨trivial,by omega,by omega,rfl⟩, ?_⟩;rintro ⟨i,⟨⟩⟩ ⟨h0,h1,hb⟩;dsimp only at h0 h1 hb⊢;rw [hb];refine ⟨fun c=>⟨⟨h0,c⟩,fun x hx=>⟨trivial,fun k=> ?_,fun k=>⟨by omega,trivial,⟨by omega,by omega, ?_⟩,by omega⟩⟩⟩,fun c=> ?_⟩
 ·rw [idx_hit h0 hx k]
 ·rw [idx_miss h0 hx k]
 ·rw [idx_end c]
noncomputable def sp_oi:FSpec Tryz.prog:=mkF 194 (.c (.l LnT) (.c (.n 140 .z .z) .z)) [.int .i64] (fun x=>(fun (l:List Ln)=>(l.length<=1000000000,idxF ownP l,())) x.1) fun ⟨l,⟨_,_⟩,_⟩ h=>Pure.of_cond (E:=env_oi l) (by kernel_rfl) (g_oi_ok l h) (specs_ok rfl _ [] rfl rfl) mixed Tryz.func194
noncomputable def env_oc (l:List Ln):Env where
 P:=Tryz.prog
 ty:=tys0
 specs:=specsOf [sp_oi]
def g_oc_vc (l:List Ln):Prop:=
 l.length<=(1000000000:Nat)/\(decide (0<=idxF ownP l),())=(l.any ownP,())
theorem g_oc_ok (l:List Ln) (h:l.length<=1000000000):g_oc_vc l:=by
 unfold g_oc_vc;exact ⟨h,by rw [idx_any]⟩
noncomputable def sp_oc:FSpec Tryz.prog:=mkF 143 (.c (.l LnT) (.c (.n 140 .z .z) .z)) [.bool] (fun x=>(fun (l:List Ln)=>(l.length<=1000000000,l.any ownP,())) x.1) fun ⟨l,⟨_,_⟩,_⟩ h=>Pure.of_cond (E:=env_oc l) (by kernel_rfl) (g_oc_ok l h) (specs_ok rfl _ [] rfl rfl) mixed Tryz.func143
noncomputable def env_fi (l:List Ln) (E:List Int) (A:List Acc.AcD) (S:List Ln) (R:List Rts.Rt) (K:List Lck.Lk) (N:List En):Env where
 P:=Tryz.prog
 ty:=tys0
 specs:=specsOf [sp_p2]
 heads:=fun|2=>some {slots:=[(8, .int .i64)],boxes:=[],inv:=fun _ (x:Int×Unit)=>0<=x.1/\x.1<=l.length/\idxF (nleaf A) l=idxGo (nleaf A) (l.drop x.1.toNat) x.1,measure:=fun _ (x:Int×Unit)=>(l.length-x.1).toNat}|_=>none
def g_fi_vc (l:List Ln) (E:List Int) (A:List Acc.AcD) (S:List Ln) (R:List Rts.Rt) (K:List Lck.Lk) (N:List En):Prop:=
 (True/\0<=(0:Int)/\0<=(↑l.length:Int)/\idxF (nleaf A) l=idxGo (nleaf A) (List.drop (Int.toNat (0:Int)) l) (0:Int))/\∀(x:Int×Unit),0<=x.1/\x.1<=(↑l.length:Int)/\idxF (nleaf A) l=idxGo (nleaf A) (List.drop x.1.toNat l) x.1->(decide (x.1<(↑l.length:Int))=true->(0<=x.1/\x.1<(↑l.length:Int))/\∀(x_1:Int×Int×Int×Int),l[x.1.toNat]? =some x_1->A.length<=(1000000000:Nat)/\(nleaf A (x_1.1,x_1.2.1,x_1.2.2.1,x_1.2.2.2)=true->(x.1,())=(idxF (nleaf A) l,()))/\(nleaf A (x_1.1,x_1.2.1,x_1.2.2.1,x_1.2.2.2)=false->(-9223372036854775808<=x.1+1/\x.1+1<=9223372036854775807)/\True/\(0<=x.1+1/\x.1+1<=(↑l.length:Int)/\idxF (nleaf A) l=idxGo (nleaf A) (List.drop (x.1+1).toNat l) (x.1+1))/\((↑l.length:Int)-(x.1+1)).toNat<((↑l.length:Int)-x.1).toNat))/\(decide (x.1<(↑l.length:Int))=false->((-1:Int),())=(idxF (nleaf A) l,()))
theorem g_fi_ok (l:List Ln) (E:List Int) (A:List Acc.AcD) (S:List Ln) (R:List Rts.Rt) (K:List Lck.Lk) (N:List En) (h:l.length<=1000000000/\A.length<=1000000000):g_fi_vc l E A S R K N:=by
 have hl:l.length<=1000000000:=h.1;unfold g_fi_vc;simp only [decide_eq_true_eq,decide_eq_false_iff_not];refine ⟨⟨trivial,by omega,by omega,rfl⟩, ?_⟩;rintro ⟨i,⟨⟩⟩ ⟨h0,h1,hb⟩;dsimp only at h0 h1 hb⊢;rw [hb];refine ⟨fun c=>⟨⟨h0,c⟩,fun x hx=>⟨h.2,fun k=> ?_,fun k=>⟨by omega,trivial,⟨by omega,by omega, ?_⟩,by omega⟩⟩⟩,fun c=> ?_⟩
 ·rw [idx_hit h0 hx k]
 ·rw [idx_miss h0 hx k]
 ·rw [idx_end c]
noncomputable def sp_fi:FSpec Tryz.prog:=mkF 194 (.c (.l LnT) (.c (.n 141 .z (.c (.f (.c (.f (.c (.l I) (.c (.l AcT) (.c (.l LnT) (.c (.l RTy) (.c (.l Vl) (.c (.l EnT) .z))))))) .z)) .z)) .z)) [.int .i64] (fun x=>(fun (l:List Ln) (E:List Int) (A:List Acc.AcD) (S:List Ln) (R:List Rts.Rt) (K:List Lck.Lk) (N:List En)=>(l.length<=1000000000/\A.length<=1000000000,idxF (nleaf A) l,())) x.1 x.2.1.2.1.1.1 x.2.1.2.1.1.2.1 x.2.1.2.1.1.2.2.1 x.2.1.2.1.1.2.2.2.1 x.2.1.2.1.1.2.2.2.2.1 x.2.1.2.1.1.2.2.2.2.2.1) fun ⟨l,⟨_,⟨⟨⟨E,A,S,R,K,N,_⟩,_⟩,_⟩⟩,_⟩ h=>Pure.of_cond (E:=env_fi l E A S R K N) (by kernel_rfl) (g_fi_ok l E A S R K N h) (specs_ok rfl _ [] rfl rfl) mixed Tryz.func194
noncomputable def env_fc (l:List Ln) (E:List Int) (A:List Acc.AcD) (S:List Ln) (R:List Rts.Rt) (K:List Lck.Lk) (N:List En):Env where
 P:=Tryz.prog
 ty:=tys0
 specs:=specsOf [sp_fi]
def g_fc_vc (l:List Ln) (E:List Int) (A:List Acc.AcD) (S:List Ln) (R:List Rts.Rt) (K:List Lck.Lk) (N:List En):Prop:=
 (l.length<=(1000000000:Nat)/\A.length<=(1000000000:Nat))/\(decide (0<=idxF (nleaf A) l),())=(l.any (nleaf A),())
theorem g_fc_ok (l:List Ln) (E:List Int) (A:List Acc.AcD) (S:List Ln) (R:List Rts.Rt) (K:List Lck.Lk) (N:List En) (h:l.length<=1000000000/\A.length<=1000000000):g_fc_vc l E A S R K N:=by
 unfold g_fc_vc;exact ⟨h,by rw [idx_any]⟩
noncomputable def sp_fc:FSpec Tryz.prog:=mkF 143 (.c (.l LnT) (.c (.n 141 .z (.c (.f (.c (.f (.c (.l I) (.c (.l AcT) (.c (.l LnT) (.c (.l RTy) (.c (.l Vl) (.c (.l EnT) .z))))))) .z)) .z)) .z)) [.bool] (fun x=>(fun (l:List Ln) (E:List Int) (A:List Acc.AcD) (S:List Ln) (R:List Rts.Rt) (K:List Lck.Lk) (N:List En)=>(l.length<=1000000000/\A.length<=1000000000,l.any (nleaf A),())) x.1 x.2.1.2.1.1.1 x.2.1.2.1.1.2.1 x.2.1.2.1.1.2.2.1 x.2.1.2.1.1.2.2.2.1 x.2.1.2.1.1.2.2.2.2.1 x.2.1.2.1.1.2.2.2.2.2.1) fun ⟨l,⟨_,⟨⟨⟨E,A,S,R,K,N,_⟩,_⟩,_⟩⟩,_⟩ h=>Pure.of_cond (E:=env_fc l E A S R K N) (by kernel_rfl) (g_fc_ok l E A S R K N h) (specs_ok rfl _ [] rfl rfl) mixed Tryz.func143
noncomputable def sp_cof:FSpec Tryz.prog:=orSp sp_oc sp_fc rfl
def putF (K:List Lck.Lk) (N:List En) (x:En):List En×Int:=if (Ent.entsF x.2.2).any (Lck.lkP K x.1)=true then (N,33) else if 2000<=(N.length:Int) then (N,3) else (N++[x],0)
theorem put_lock {K:List Lck.Lk} {N:List En} {x:En} (h:(Ent.entsF x.2.2).any (Lck.lkP K x.1)=true):putF K N x=(N,33):=if_pos h
theorem put_full {K:List Lck.Lk} {N:List En} {x:En} (h:(Ent.entsF x.2.2).any (Lck.lkP K x.1)=false) (k:2000<=(N.length:Int)):putF K N x=(N,3):=by unfold putF;rw [if_neg (by rw [h];decide),if_pos k]
theorem put_ok {K:List Lck.Lk} {N:List En} {x:En} (h:(Ent.entsF x.2.2).any (Lck.lkP K x.1)=false) (k: ¬2000<=(N.length:Int)):putF K N x=(N++[x],0):=by unfold putF;rw [if_neg (by rw [h];decide),if_neg k]
noncomputable def env_dput (E:List Int) (A:List Acc.AcD) (S:List Ln) (R:List Rts.Rt) (K:List Lck.Lk) (N:List En) (p r:Int) (L:List Ln):Env where
 P:=Tryz.prog
 ty:=tys0
 specs:=specsOf [Ent.sp_ents,Lck.sp_locked]
 pins:=[9000]
 frz:=fun|14=>true|15=>true|_=>false
 asArr:=fun|31=>true|_=>false
abbrev ann_dput:Ann:={slots:=numP 0 [.int .i64],boxes:=[(9000,[.list .part I, .list .part AcT, .list .part LnT, .list .part RTy, .list .part Vl, .slc 9001 EnT])],inv:=fun _ _=>True}
def g_dput_vc (E:List Int) (A:List Acc.AcD) (S:List Ln) (R:List Rts.Rt) (K:List Lck.Lk) (N:List En) (p:Int) (r:Int) (L:List Ln):Prop:=
 L.length<=(1000000000:Nat)/\((Ent.entsF L).length<=(1000000000:Nat)/\K.length<=(1000000000:Nat))/\((Ent.entsF L).any (Lck.lkP K p)=true->True/\((33:Int),E,A,S,R,K,N,())=((putF K N (p,r,L)).2,E,A,S,R,K,(putF K N (p,r,L)).1,()))/\((Ent.entsF L).any (Lck.lkP K p)=false->(decide ((2000:Int)<=(↑N.length:Int))=true->True/\((3:Int),E,A,S,R,K,N,())=((putF K N (p,r,L)).2,E,A,S,R,K,(putF K N (p,r,L)).1,()))/\(decide ((2000:Int)<=(↑N.length:Int))=false->((N.length+(1:Nat))*(40:Nat)<=(140737488355328:Nat)/\N.length+(1:Nat)<=(4611686018427387904:Nat))/\True/\((0:Int),E,A,S,R,K,N++[(p,r,L)],())=((putF K N (p,r,L)).2,E,A,S,R,K,(putF K N (p,r,L)).1,())))
theorem g_dput_eq (E:List Int) (A:List Acc.AcD) (S:List Ln) (R:List Rts.Rt) (K:List Lck.Lk) (N:List En) (p r:Int) (L:List Ln):CondO (env_dput E A S R K N p r L) Tryz.f144 [.ptr 9000 0, .agg [.int .i64 p, .int .i64 r, .list .part LnT L]] [(9000, .box [.list .part (.int .i64) E, .list .part (.pair (.int .i64) (.pair (.int .i64) (.pair .bool .bool))) A, .list .part (.pair (.int .i64) (.pair (.int .i64) (.pair (.int .i64) (.int .i64)))) S, .list .part (.pair (.int .i64) (.pair (.int .i64) (.pair (.int .i64) (.pair (.int .i64) (.pair (.int .i64) (.int .i64)))))) R, .list .part (.pair (.int .i64) (.int .i64)) K, .slc 9001 0 none]),(9001, .arr 0 (.pair (.int .i64) (.pair (.int .i64) (.slice (.pair (.int .i64) (.pair (.int .i64) (.pair (.int .i64) (.int .i64))))))) N)] [none] ann_dput ((putF K N (p,r,L)).2,E,A,S,R,K,(putF K N (p,r,L)).1,())=g_dput_vc E A S R K N p r L:=by kernel_rfl
theorem g_dput_ok (E:List Int) (A:List Acc.AcD) (S:List Ln) (R:List Rts.Rt) (K:List Lck.Lk) (N:List En) (p r:Int) (L:List Ln) (h:L.length<=1000000/\K.length<=1000000/\N.length<=1000000):g_dput_vc E A S R K N p r L:=by
 obtain ⟨h1,h2,h3⟩:=h;unfold g_dput_vc;simp only [decide_eq_true_eq,decide_eq_false_iff_not,Bool.not_eq_true',Bool.not_eq_false',Bool.not_true,Bool.not_false];repeat' (first|with_reducible apply And.intro|intro _)
 all_goals try (first|trivial|rfl|omega)
 ·have:=Ent.entsF_len L;omega
 ·rw [put_lock (by assumption)]
 ·rw [put_full (by assumption) (by assumption)]
 ·rw [put_ok (by assumption) (by assumption)]
theorem dput_upd (E:List Int) (A:List Acc.AcD) (S:List Ln) (R:List Rts.Rt) (K:List Lck.Lk) (N:List En) (p r:Int) (L:List Ln) (h:L.length<=1000000/\K.length<=1000000/\N.length<=1000000):UpdC Tryz.prog 144 [.ptr 9000 0, .agg [.int .i64 p, .int .i64 r, .list .part LnT L]] [(9000, .box [.list .part (.int .i64) E, .list .part (.pair (.int .i64) (.pair (.int .i64) (.pair .bool .bool))) A, .list .part (.pair (.int .i64) (.pair (.int .i64) (.pair (.int .i64) (.int .i64)))) S, .list .part (.pair (.int .i64) (.pair (.int .i64) (.pair (.int .i64) (.pair (.int .i64) (.pair (.int .i64) (.int .i64)))))) R, .list .part (.pair (.int .i64) (.int .i64)) K, .slc 9001 0 none]),(9001, .arr 0 (.pair (.int .i64) (.pair (.int .i64) (.slice (.pair (.int .i64) (.pair (.int .i64) (.pair (.int .i64) (.int .i64))))))) N)] (.int .i64 ((putF K N (p,r,L)).2)) [(9001, .arr 0 (.pair (.int .i64) (.pair (.int .i64) (.slice (.pair (.int .i64) (.pair (.int .i64) (.pair (.int .i64) (.int .i64))))))) ((putF K N (p,r,L)).1)),(9000, .box [.list .part (.int .i64) E, .list .part (.pair (.int .i64) (.pair (.int .i64) (.pair .bool .bool))) A, .list .part (.pair (.int .i64) (.pair (.int .i64) (.pair (.int .i64) (.int .i64)))) S, .list .part (.pair (.int .i64) (.pair (.int .i64) (.pair (.int .i64) (.pair (.int .i64) (.pair (.int .i64) (.int .i64)))))) R, .list .part (.pair (.int .i64) (.int .i64)) K, .slc 9001 0 none])]:=
 by have k:=UpdC.of_cond (g_dput_eq E A S R K N p r L) (g_dput_ok E A S R K N p r L h) (specs_ok rfl [Ent.sp_ents,Lck.sp_locked] [] rfl rfl) mixed Tryz.func144;exact k
noncomputable def q_dput (E:List Int) (A:List Acc.AcD) (S:List Ln) (R:List Rts.Rt) (K:List Lck.Lk) (N:List En) (p r:Int) (L:List Ln):Prop×V×Store:=(L.length<=1000000/\K.length<=1000000/\N.length<=1000000, .int .i64 ((putF K N (p,r,L)).2),[(9001, .arr 0 (.pair (.int .i64) (.pair (.int .i64) (.slice (.pair (.int .i64) (.pair (.int .i64) (.pair (.int .i64) (.int .i64))))))) ((putF K N (p,r,L)).1)),(9000, .box [.list .part (.int .i64) E, .list .part (.pair (.int .i64) (.pair (.int .i64) (.pair .bool .bool))) A, .list .part (.pair (.int .i64) (.pair (.int .i64) (.pair (.int .i64) (.int .i64)))) S, .list .part (.pair (.int .i64) (.pair (.int .i64) (.pair (.int .i64) (.pair (.int .i64) (.pair (.int .i64) (.int .i64)))))) R, .list .part (.pair (.int .i64) (.int .i64)) K, .slc 9001 0 none])])
noncomputable def so_dput:OSpec Tryz.prog where
 f:=144
 run:=fun args σ=>match args,σ with
  |[.ptr 9000 0, .agg [.int .i64 p, .int .i64 r,v1_2]],[(9000, .box [.list .part (.int .i64) E, .list .part (.pair (.int .i64) (.pair (.int .i64) (.pair .bool .bool))) A, .list .part (.pair (.int .i64) (.pair (.int .i64) (.pair (.int .i64) (.int .i64)))) S, .list .part (.pair (.int .i64) (.pair (.int .i64) (.pair (.int .i64) (.pair (.int .i64) (.pair (.int .i64) (.int .i64)))))) R, .list .part (.pair (.int .i64) (.int .i64)) K, .slc 9001 0 none]),(9001, .arr 0 (.pair (.int .i64) (.pair (.int .i64) (.slice (.pair (.int .i64) (.pair (.int .i64) (.pair (.int .i64) (.int .i64))))))) N)]=>(asP LnT v1_2:Option (List Ln)).bind fun L=>some (q_dput E A S R K N p r L)
  |_,_=>none
 ok:=fun args σ pre r σ' h hp=>by
  try dsimp only at h
  split at h
  ·rename_i p r v1_2 E A S R K N;obtain ⟨L,h1_2,h⟩:=Option.bind_eq_some_iff.1 h;exact of_qo h hp fun h=>(dput_upd E A S R K N p r L h).weak (.cons (.refl _) (.cons (Weak.agg (.cons (.refl _) (.cons (.refl _) (.cons (asP_weak h1_2) .nil)))) .nil))
  ·cases h
def postF (E:List Int) (A:List Acc.AcD) (K:List Lck.Lk) (N:List En) (p:Int) (L:List Ln):List En×Int:=
 if (Ent.checkF p L E.length A.length).2≠0 then (N,(Ent.checkF p L E.length A.length).2) else if L.any ownP=true then (N,28) else if L.any (nleaf A)=true then (N,27) else putF K N (p,0,L)
theorem po_bad {E:List Int} {A:List Acc.AcD} {K:List Lck.Lk} {N:List En} {p:Int} {L:List Ln} (h: ¬(Ent.checkF p L E.length A.length).2=0):postF E A K N p L=(N,(Ent.checkF p L E.length A.length).2):=if_pos h
theorem po_own {E:List Int} {A:List Acc.AcD} {K:List Lck.Lk} {N:List En} {p:Int} {L:List Ln} (h:(Ent.checkF p L E.length A.length).2=0) (k:L.any ownP=true):postF E A K N p L=(N,28):=by unfold postF;rw [if_neg (fun c=>c h),if_pos k]
theorem po_leaf {E:List Int} {A:List Acc.AcD} {K:List Lck.Lk} {N:List En} {p:Int} {L:List Ln} (h:(Ent.checkF p L E.length A.length).2=0) (k:L.any ownP=false) (m:L.any (nleaf A)=true):postF E A K N p L=(N,27):=by unfold postF;rw [if_neg (fun c=>c h),if_neg (by rw [k];decide),if_pos m]
theorem po_put {E:List Int} {A:List Acc.AcD} {K:List Lck.Lk} {N:List En} {p:Int} {L:List Ln} (h:(Ent.checkF p L E.length A.length).2=0) (k:L.any ownP=false) (m:L.any (nleaf A)=false):postF E A K N p L=putF K N (p,0,L):=by unfold postF;rw [if_neg (fun c=>c h),if_neg (by rw [k];decide),if_neg (by rw [m];decide)]
noncomputable def env_dpost (E:List Int) (A:List Acc.AcD) (S:List Ln) (R:List Rts.Rt) (K:List Lck.Lk) (N:List En) (k a b c d:Int) (s q:Bool) (n m:Int) (l:List Ln):Env where
 P:=Tryz.prog
 ty:=tys0
 specs:=specsOf [Ent.sp_clone,Ent.sp_check,sp_cof]
 upd:=updsOf [so_dput.upd]
 pins:=[9000]
 frz:=fun|14=>true|30=>true|41=>true|46=>true|_=>false
abbrev ann_dpost:Ann:={slots:=numP 0 [.int .i64],boxes:=[(9000,[.list .part I, .list .part AcT, .list .part LnT, .list .part RTy, .list .part Vl, .slc 9001 EnT])],inv:=fun _ _=>True}
def g_dpost_vc (E:List Int) (A:List Acc.AcD) (S:List Ln) (R:List Rts.Rt) (K:List Lck.Lk) (N:List En) (k:Int) (a:Int) (b:Int) (c:Int) (d:Int) (s:Bool) (q:Bool) (n:Int) (m:Int) (l:List Ln):Prop:=
 l.length<=(1000000000:Nat)/\(Ent.InL l/\l.length<=(1000:Nat))/\((!decide ((Ent.checkF a l (↑E.length:Int) (↑A.length:Int)).2=(0:Int)))=true->True/\((Ent.checkF a l (↑E.length:Int) (↑A.length:Int)).2,E,A,S,R,K,N,())=((postF E A K N a l).2,E,A,S,R,K,(postF E A K N a l).1,()))/\((!decide ((Ent.checkF a l (↑E.length:Int) (↑A.length:Int)).2=(0:Int)))=false->l.length<=(1000000000:Nat)/\(l.any ownP=true->True/\((28:Int),E,A,S,R,K,N,())=((postF E A K N a l).2,E,A,S,R,K,(postF E A K N a l).1,()))/\(l.any ownP=false->(l.length<=(1000000000:Nat)/\A.length<=(1000000000:Nat))/\(l.any (nleaf A)=true->True/\((27:Int),E,A,S,R,K,N,())=((postF E A K N a l).2,E,A,S,R,K,(postF E A K N a l).1,()))/\(l.any (nleaf A)=false->(l.length<=(1000000:Nat)/\K.length<=(1000000:Nat)/\N.length<=(1000000:Nat))/\True/\((putF K N (a,(0:Int),l)).2,E,A,S,R,K,(putF K N (a,(0:Int),l)).1,())=((postF E A K N a l).2,E,A,S,R,K,(postF E A K N a l).1,()))))
theorem g_dpost_eq (E:List Int) (A:List Acc.AcD) (S:List Ln) (R:List Rts.Rt) (K:List Lck.Lk) (N:List En) (k a b c d:Int) (s q:Bool) (n m:Int) (l:List Ln):CondO (env_dpost E A S R K N k a b c d s q n m l) Tryz.f103 [.ptr 9000 0, .agg [.int .i64 k, .int .i64 a, .int .i64 b, .int .i64 c, .int .i64 d, .bool s, .bool q, .int .i64 n, .int .i64 m, .list .tmp LnT l]] [(9000, .box [.list .part (.int .i64) E, .list .part (.pair (.int .i64) (.pair (.int .i64) (.pair .bool .bool))) A, .list .part (.pair (.int .i64) (.pair (.int .i64) (.pair (.int .i64) (.int .i64)))) S, .list .part (.pair (.int .i64) (.pair (.int .i64) (.pair (.int .i64) (.pair (.int .i64) (.pair (.int .i64) (.int .i64)))))) R, .list .part (.pair (.int .i64) (.int .i64)) K, .slc 9001 0 none]),(9001, .arr 0 (.pair (.int .i64) (.pair (.int .i64) (.slice (.pair (.int .i64) (.pair (.int .i64) (.pair (.int .i64) (.int .i64))))))) N)] [none] ann_dpost ((postF E A K N a l).2,E,A,S,R,K,(postF E A K N a l).1,())=g_dpost_vc E A S R K N k a b c d s q n m l:=by kernel_rfl
theorem g_dpost_ok (E:List Int) (A:List Acc.AcD) (S:List Ln) (R:List Rts.Rt) (K:List Lck.Lk) (N:List En) (k a b c d:Int) (s q:Bool) (n m:Int) (l:List Ln) (h:Ent.InL l/\l.length<=1000/\E.length<=1000000/\A.length<=1000000/\K.length<=1000000/\N.length<=1000000):g_dpost_vc E A S R K N k a b c d s q n m l:=by
 obtain ⟨h1,h2,h3,h4,h5,h6⟩:=h;unfold g_dpost_vc;simp only [decide_eq_true_eq,decide_eq_false_iff_not,Bool.not_eq_true',Bool.not_eq_false',Bool.not_true,Bool.not_false];repeat' (first|with_reducible apply And.intro|intro _)
 all_goals try (first|trivial|rfl|omega|exact h1 _ (by assumption))
 ·rw [po_bad (by assumption)]
 ·rw [po_own (by assumption) (by assumption)]
 ·rw [po_leaf (by assumption) (by assumption) (by assumption)]
 ·rw [po_put (by assumption) (by assumption) (by assumption)]
theorem dpost_upd (E:List Int) (A:List Acc.AcD) (S:List Ln) (R:List Rts.Rt) (K:List Lck.Lk) (N:List En) (k a b c d:Int) (s q:Bool) (n m:Int) (l:List Ln) (h:Ent.InL l/\l.length<=1000/\E.length<=1000000/\A.length<=1000000/\K.length<=1000000/\N.length<=1000000):UpdC Tryz.prog 103 [.ptr 9000 0, .agg [.int .i64 k, .int .i64 a, .int .i64 b, .int .i64 c, .int .i64 d, .bool s, .bool q, .int .i64 n, .int .i64 m, .list .tmp LnT l]] [(9000, .box [.list .part (.int .i64) E, .list .part (.pair (.int .i64) (.pair (.int .i64) (.pair .bool .bool))) A, .list .part (.pair (.int .i64) (.pair (.int .i64) (.pair (.int .i64) (.int .i64)))) S, .list .part (.pair (.int .i64) (.pair (.int .i64) (.pair (.int .i64) (.pair (.int .i64) (.pair (.int .i64) (.int .i64)))))) R, .list .part (.pair (.int .i64) (.int .i64)) K, .slc 9001 0 none]),(9001, .arr 0 (.pair (.int .i64) (.pair (.int .i64) (.slice (.pair (.int .i64) (.pair (.int .i64) (.pair (.int .i64) (.int .i64))))))) N)] (.int .i64 ((postF E A K N a l).2)) [(9001, .arr 0 (.pair (.int .i64) (.pair (.int .i64) (.slice (.pair (.int .i64) (.pair (.int .i64) (.pair (.int .i64) (.int .i64))))))) ((postF E A K N a l).1)),(9000, .box [.list .part (.int .i64) E, .list .part (.pair (.int .i64) (.pair (.int .i64) (.pair .bool .bool))) A, .list .part (.pair (.int .i64) (.pair (.int .i64) (.pair (.int .i64) (.int .i64)))) S, .list .part (.pair (.int .i64) (.pair (.int .i64) (.pair (.int .i64) (.pair (.int .i64) (.pair (.int .i64) (.int .i64)))))) R, .list .part (.pair (.int .i64) (.int .i64)) K, .slc 9001 0 none])]:=
 by have k:=UpdC.of_cond (g_dpost_eq E A S R K N k a b c d s q n m l) (g_dpost_ok E A S R K N k a b c d s q n m l h) (specs_ok rfl [Ent.sp_clone,Ent.sp_check,sp_cof] [so_dput.upd] rfl rfl) mixed Tryz.func103;exact k
noncomputable def q_dpost (E:List Int) (A:List Acc.AcD) (S:List Ln) (R:List Rts.Rt) (K:List Lck.Lk) (N:List En) (k a b c d:Int) (s q:Bool) (n m:Int) (l:List Ln):Prop×V×Store:=(Ent.InL l/\l.length<=1000/\E.length<=1000000/\A.length<=1000000/\K.length<=1000000/\N.length<=1000000, .int .i64 ((postF E A K N a l).2),[(9001, .arr 0 (.pair (.int .i64) (.pair (.int .i64) (.slice (.pair (.int .i64) (.pair (.int .i64) (.pair (.int .i64) (.int .i64))))))) ((postF E A K N a l).1)),(9000, .box [.list .part (.int .i64) E, .list .part (.pair (.int .i64) (.pair (.int .i64) (.pair .bool .bool))) A, .list .part (.pair (.int .i64) (.pair (.int .i64) (.pair (.int .i64) (.int .i64)))) S, .list .part (.pair (.int .i64) (.pair (.int .i64) (.pair (.int .i64) (.pair (.int .i64) (.pair (.int .i64) (.int .i64)))))) R, .list .part (.pair (.int .i64) (.int .i64)) K, .slc 9001 0 none])])
noncomputable def so_dpost:OSpec Tryz.prog where
 f:=103
 run:=fun args σ=>match args,σ with
  |[.ptr 9000 0, .agg [.int .i64 k, .int .i64 a, .int .i64 b, .int .i64 c, .int .i64 d,v1_5,v1_6, .int .i64 n, .int .i64 m,v1_9]],[(9000, .box [.list .part (.int .i64) E, .list .part (.pair (.int .i64) (.pair (.int .i64) (.pair .bool .bool))) A, .list .part (.pair (.int .i64) (.pair (.int .i64) (.pair (.int .i64) (.int .i64)))) S, .list .part (.pair (.int .i64) (.pair (.int .i64) (.pair (.int .i64) (.pair (.int .i64) (.pair (.int .i64) (.int .i64)))))) R, .list .part (.pair (.int .i64) (.int .i64)) K, .slc 9001 0 none]),(9001, .arr 0 (.pair (.int .i64) (.pair (.int .i64) (.slice (.pair (.int .i64) (.pair (.int .i64) (.pair (.int .i64) (.int .i64))))))) N)]=>(boolOf v1_5).bind fun s=>(boolOf v1_6).bind fun q=>(asL LnT v1_9:Option (List Ln)).bind fun l=>some (q_dpost E A S R K N k a b c d s q n m l)
  |_,_=>none
 ok:=fun args σ pre r σ' h hp=>by
  try dsimp only at h
  split at h
  ·rename_i k a b c d v1_5 v1_6 n m v1_9 E A S R K N;obtain ⟨s,h1_5,h⟩:=Option.bind_eq_some_iff.1 h;obtain ⟨q,h1_6,h⟩:=Option.bind_eq_some_iff.1 h;obtain ⟨l,h1_9,h⟩:=Option.bind_eq_some_iff.1 h;exact of_qo h hp fun h=>(dpost_upd E A S R K N k a b c d s q n m l h).weak (.cons (.refl _) (.cons (Weak.agg (.cons (.refl _) (.cons (.refl _) (.cons (.refl _) (.cons (.refl _) (.cons (.refl _) (.cons (boolOf_weak h1_5) (.cons (boolOf_weak h1_6) (.cons (.refl _) (.cons (.refl _) (.cons (asL_weak h1_9) .nil))))))))))) .nil))
  ·cases h
theorem opp_len (x:En):(Ent.oppF x.1 x.2.1 x.2.2).1.2.2.length<=x.2.2.length:=by
 unfold Ent.oppF;split
 ·simp
 ·simp
def rvY (K:List Lck.Lk) (N:List En) (a b:Int) (y:En):List En×Int:=if (Ent.oppF y.1 y.2.1 y.2.2).2≠0 then (N,(Ent.oppF y.1 y.2.1 y.2.2).2) else putF K N (b,a,(Ent.oppF y.1 y.2.1 y.2.2).1.2.2)
def revF (K:List Lck.Lk) (N:List En) (a b:Int):List En×Int:=
 if b<0∨24<=b then (N,22) else if mayF N a≠0 then (N,mayF N a) else match N[(a-1).toNat]? with
 |none=>(N,0)
 |some y=>rvY K N a b y
theorem rv_per {K:List Lck.Lk} {N:List En} {a b:Int} (h:b<0∨24<=b):revF K N a b=(N,22):=if_pos h
theorem rv_may {K:List Lck.Lk} {N:List En} {a b:Int} (h: ¬(b<0∨24<=b)) (k: ¬mayF N a=0):revF K N a b=(N,mayF N a):=by unfold revF;rw [if_neg h,if_pos k]
theorem rv_at {K:List Lck.Lk} {N:List En} {a b:Int} {y:En} (h: ¬(b<0∨24<=b)) (k:mayF N a=0) (hy:N[(a-1).toNat]? =some y):revF K N a b=rvY K N a b y:=by unfold revF;rw [if_neg h,if_neg (fun c=>c k),hy]
theorem rv_bad {K:List Lck.Lk} {N:List En} {a b:Int} {y:En} (h: ¬(b<0∨24<=b)) (k:mayF N a=0) (hy:N[(a-1).toNat]? =some y) (m: ¬(Ent.oppF y.1 y.2.1 y.2.2).2=0):revF K N a b=(N,(Ent.oppF y.1 y.2.1 y.2.2).2):=by rw [rv_at h k hy];exact if_pos m
theorem rv_ok {K:List Lck.Lk} {N:List En} {a b:Int} {y:En} (h: ¬(b<0∨24<=b)) (k:mayF N a=0) (hy:N[(a-1).toNat]? =some y) (m:(Ent.oppF y.1 y.2.1 y.2.2).2=0):revF K N a b=putF K N (b,a,(Ent.oppF y.1 y.2.1 y.2.2).1.2.2):=by rw [rv_at h k hy];exact if_neg (fun c=>c m)
theorem may_in {N:List En} {n:Int} (h:mayF N n=0):1<=n/\n<=N.length:=by
 refine Classical.byContradiction fun c=> ?_;rw [may_out (by omega)] at h;cases h
noncomputable def env_drev (E:List Int) (A:List Acc.AcD) (S:List Ln) (R:List Rts.Rt) (K:List Lck.Lk) (N:List En) (k a b c d:Int) (s q:Bool) (n m:Int) (l:List Ln):Env where
 P:=Tryz.prog
 ty:=tys0
 specs:=specsOf [sp_may,Ent.sp_opp]
 upd:=updsOf [so_dput.upd]
 pins:=[9000]
 frz:=fun|23=>true|38=>true|_=>false
abbrev ann_drev:Ann:={slots:=numP 0 [.int .i64],boxes:=[(9000,[.list .part I, .list .part AcT, .list .part LnT, .list .part RTy, .list .part Vl, .slc 9001 EnT])],inv:=fun _ _=>True}
def g_drev_vc (E:List Int) (A:List Acc.AcD) (S:List Ln) (R:List Rts.Rt) (K:List Lck.Lk) (N:List En) (k:Int) (a:Int) (b:Int) (c:Int) (d:Int) (s:Bool) (q:Bool) (n:Int) (m:Int) (l:List Ln):Prop:=
 (decide (b<(0:Int))=false->(decide ((24:Int)<=b)=true->True/\((22:Int),E,A,S,R,K,N,())=((revF K N a b).2,E,A,S,R,K,(revF K N a b).1,()))/\(decide ((24:Int)<=b)=false->(N.length<=(1000000:Nat)/\InE N)/\((!decide (mayF N a=(0:Int)))=true->True/\(mayF N a,E,A,S,R,K,N,())=((revF K N a b).2,E,A,S,R,K,(revF K N a b).1,()))/\((!decide (mayF N a=(0:Int)))=false->(-9223372036854775808<=a-(1:Int)/\a-(1:Int)<=9223372036854775807)/\(0<=a-(1:Int)/\a-(1:Int)<(↑N.length:Int))/\(a-(1:Int)).toNat<N.length/\∀(x:Int×Int×List (Int×Int×Int×Int)),N[(a-(1:Int)).toNat]? =some x->(Ent.InL x.2.2/\x.2.2.length<=(1000:Nat))/\((!decide ((Ent.oppF x.1 x.2.1 x.2.2).2=(0:Int)))=true->True/\((Ent.oppF x.1 x.2.1 x.2.2).2,E,A,S,R,K,N,())=((revF K N a b).2,E,A,S,R,K,(revF K N a b).1,()))/\((!decide ((Ent.oppF x.1 x.2.1 x.2.2).2=(0:Int)))=false->((Ent.oppF x.1 x.2.1 x.2.2).1.2.2.length<=(1000000:Nat)/\K.length<=(1000000:Nat)/\N.length<=(1000000:Nat))/\True/\((putF K N (b,a,(Ent.oppF x.1 x.2.1 x.2.2).1.2.2)).2,E,A,S,R,K,(putF K N (b,a,(Ent.oppF x.1 x.2.1 x.2.2).1.2.2)).1,())=((revF K N a b).2,E,A,S,R,K,(revF K N a b).1,())))))/\(decide (b<(0:Int))= !false->True/\((22:Int),E,A,S,R,K,N,())=((revF K N a b).2,E,A,S,R,K,(revF K N a b).1,()))
theorem g_drev_eq (E:List Int) (A:List Acc.AcD) (S:List Ln) (R:List Rts.Rt) (K:List Lck.Lk) (N:List En) (k a b c d:Int) (s q:Bool) (n m:Int) (l:List Ln):CondO (env_drev E A S R K N k a b c d s q n m l) Tryz.f104 [.ptr 9000 0, .agg [.int .i64 k, .int .i64 a, .int .i64 b, .int .i64 c, .int .i64 d, .bool s, .bool q, .int .i64 n, .int .i64 m, .list .tmp LnT l]] [(9000, .box [.list .part (.int .i64) E, .list .part (.pair (.int .i64) (.pair (.int .i64) (.pair .bool .bool))) A, .list .part (.pair (.int .i64) (.pair (.int .i64) (.pair (.int .i64) (.int .i64)))) S, .list .part (.pair (.int .i64) (.pair (.int .i64) (.pair (.int .i64) (.pair (.int .i64) (.pair (.int .i64) (.int .i64)))))) R, .list .part (.pair (.int .i64) (.int .i64)) K, .slc 9001 0 none]),(9001, .arr 0 (.pair (.int .i64) (.pair (.int .i64) (.slice (.pair (.int .i64) (.pair (.int .i64) (.pair (.int .i64) (.int .i64))))))) N)] [none] ann_drev ((revF K N a b).2,E,A,S,R,K,(revF K N a b).1,())=g_drev_vc E A S R K N k a b c d s q n m l:=by kernel_rfl
theorem g_drev_ok (E:List Int) (A:List Acc.AcD) (S:List Ln) (R:List Rts.Rt) (K:List Lck.Lk) (N:List En) (k a b c d:Int) (s q:Bool) (n m:Int) (l:List Ln) (h:InE N/\K.length<=1000000/\N.length<=1000000):g_drev_vc E A S R K N k a b c d s q n m l:=by
 obtain ⟨hi,h5,h6⟩:=h;unfold g_drev_vc;simp only [decide_eq_true_eq,decide_eq_false_iff_not,Bool.not_eq_true',Bool.not_eq_false',Bool.not_true,Bool.not_false];repeat' (first
  |with_reducible apply And.intro
  |(intro (x1:Int×Int×List (Int×Int×Int×Int)) (hx1:N[(a-1).toNat]? =some x1);have e:=Option.some.inj (hx.symm.trans hx1);subst e)
  |(intro (x:Int×Int×List (Int×Int×Int×Int)) (hx:N[(a-1).toNat]? =some x);have hix:=ine_at hi hx)
  |(intro (hm:mayF N a=0);have hmi:=may_in hm)
  |intro _)
 all_goals try (first|trivial|rfl|omega|exact hix.1 _ (by assumption))
 all_goals first
  |(rename_i y hy z hz;exact (hi y hy).1 z hz)
  |(rename_i y hy;exact (hi y hy).2)
  |(rw [rv_per (by omega)])
  |(rw [rv_may (by omega) (by assumption)])
  |(rw [rv_bad (by omega) hm hx (by assumption)])
  |(rw [rv_ok (by omega) hm hx (by assumption)])
  |(have:=opp_len x;have:=hix.2;omega)
theorem drev_upd (E:List Int) (A:List Acc.AcD) (S:List Ln) (R:List Rts.Rt) (K:List Lck.Lk) (N:List En) (k a b c d:Int) (s q:Bool) (n m:Int) (l:List Ln) (h:InE N/\K.length<=1000000/\N.length<=1000000):UpdC Tryz.prog 104 [.ptr 9000 0, .agg [.int .i64 k, .int .i64 a, .int .i64 b, .int .i64 c, .int .i64 d, .bool s, .bool q, .int .i64 n, .int .i64 m, .list .tmp LnT l]] [(9000, .box [.list .part (.int .i64) E, .list .part (.pair (.int .i64) (.pair (.int .i64) (.pair .bool .bool))) A, .list .part (.pair (.int .i64) (.pair (.int .i64) (.pair (.int .i64) (.int .i64)))) S, .list .part (.pair (.int .i64) (.pair (.int .i64) (.pair (.int .i64) (.pair (.int .i64) (.pair (.int .i64) (.int .i64)))))) R, .list .part (.pair (.int .i64) (.int .i64)) K, .slc 9001 0 none]),(9001, .arr 0 (.pair (.int .i64) (.pair (.int .i64) (.slice (.pair (.int .i64) (.pair (.int .i64) (.pair (.int .i64) (.int .i64))))))) N)] (.int .i64 ((revF K N a b).2)) [(9001, .arr 0 (.pair (.int .i64) (.pair (.int .i64) (.slice (.pair (.int .i64) (.pair (.int .i64) (.pair (.int .i64) (.int .i64))))))) ((revF K N a b).1)),(9000, .box [.list .part (.int .i64) E, .list .part (.pair (.int .i64) (.pair (.int .i64) (.pair .bool .bool))) A, .list .part (.pair (.int .i64) (.pair (.int .i64) (.pair (.int .i64) (.int .i64)))) S, .list .part (.pair (.int .i64) (.pair (.int .i64) (.pair (.int .i64) (.pair (.int .i64) (.pair (.int .i64) (.int .i64)))))) R, .list .part (.pair (.int .i64) (.int .i64)) K, .slc 9001 0 none])]:=
 by have k:=UpdC.of_cond (g_drev_eq E A S R K N k a b c d s q n m l) (g_drev_ok E A S R K N k a b c d s q n m l h) (specs_ok rfl [sp_may,Ent.sp_opp] [so_dput.upd] rfl rfl) mixed Tryz.func104;exact k
noncomputable def q_drev (E:List Int) (A:List Acc.AcD) (S:List Ln) (R:List Rts.Rt) (K:List Lck.Lk) (N:List En) (k a b c d:Int) (s q:Bool) (n m:Int) (l:List Ln):Prop×V×Store:=(InE N/\K.length<=1000000/\N.length<=1000000, .int .i64 ((revF K N a b).2),[(9001, .arr 0 (.pair (.int .i64) (.pair (.int .i64) (.slice (.pair (.int .i64) (.pair (.int .i64) (.pair (.int .i64) (.int .i64))))))) ((revF K N a b).1)),(9000, .box [.list .part (.int .i64) E, .list .part (.pair (.int .i64) (.pair (.int .i64) (.pair .bool .bool))) A, .list .part (.pair (.int .i64) (.pair (.int .i64) (.pair (.int .i64) (.int .i64)))) S, .list .part (.pair (.int .i64) (.pair (.int .i64) (.pair (.int .i64) (.pair (.int .i64) (.pair (.int .i64) (.int .i64)))))) R, .list .part (.pair (.int .i64) (.int .i64)) K, .slc 9001 0 none])])
noncomputable def so_drev:OSpec Tryz.prog where
 f:=104
 run:=fun args σ=>match args,σ with
  |[.ptr 9000 0, .agg [.int .i64 k, .int .i64 a, .int .i64 b, .int .i64 c, .int .i64 d,v1_5,v1_6, .int .i64 n, .int .i64 m,v1_9]],[(9000, .box [.list .part (.int .i64) E, .list .part (.pair (.int .i64) (.pair (.int .i64) (.pair .bool .bool))) A, .list .part (.pair (.int .i64) (.pair (.int .i64) (.pair (.int .i64) (.int .i64)))) S, .list .part (.pair (.int .i64) (.pair (.int .i64) (.pair (.int .i64) (.pair (.int .i64) (.pair (.int .i64) (.int .i64)))))) R, .list .part (.pair (.int .i64) (.int .i64)) K, .slc 9001 0 none]),(9001, .arr 0 (.pair (.int .i64) (.pair (.int .i64) (.slice (.pair (.int .i64) (.pair (.int .i64) (.pair (.int .i64) (.int .i64))))))) N)]=>(boolOf v1_5).bind fun s=>(boolOf v1_6).bind fun q=>(asL LnT v1_9:Option (List Ln)).bind fun l=>some (q_drev E A S R K N k a b c d s q n m l)
  |_,_=>none
 ok:=fun args σ pre r σ' h hp=>by
  try dsimp only at h
  split at h
  ·rename_i k a b c d v1_5 v1_6 n m v1_9 E A S R K N;obtain ⟨s,h1_5,h⟩:=Option.bind_eq_some_iff.1 h;obtain ⟨q,h1_6,h⟩:=Option.bind_eq_some_iff.1 h;obtain ⟨l,h1_9,h⟩:=Option.bind_eq_some_iff.1 h;exact of_qo h hp fun h=>(drev_upd E A S R K N k a b c d s q n m l h).weak (.cons (.refl _) (.cons (Weak.agg (.cons (.refl _) (.cons (.refl _) (.cons (.refl _) (.cons (.refl _) (.cons (.refl _) (.cons (boolOf_weak h1_5) (.cons (boolOf_weak h1_6) (.cons (.refl _) (.cons (.refl _) (.cons (asL_weak h1_9) .nil))))))))))) .nil))
  ·cases h
end Go.Proofs.YtabicbgeoiilmaaGreatDoor.Dsk
