/-
  stake.Check, stake.Add; ref18.Check, Add.
-/
import Derived.Test.YtabicbgeoiilmaaGreatAcc3
import Derived.Test.YtabicbgeoiilmaaGreatEnt10
set_option linter.unusedVariables false
section
namespace Go.Proofs.YtabicbgeoiilmaaGreat.Bks
open Go.Vm
abbrev Ln:=Int×Int×Int×Int
abbrev En:=Int×Int×List Ln
def InE (N:List En):Prop:= ∀x∈N,Ent.InL x.2.2/\x.2.2.length<=1000
theorem ine_at {N:List En} {i:Nat} {x:En} (h:InE N) (hx:N[i]? =some x):Ent.InL x.2.2/\x.2.2.length<=1000:=h x (List.mem_of_getElem? hx)
theorem ine_take {N:List En} {i:Nat} (h:InE N):InE (N.take i):=fun x hx=>h x (List.mem_of_mem_take hx)
def revP (n:Int) (x:En):Bool:=decide (x.2.1=n)
def revF (N:List En) (n:Int):Int:=if n<1∨N.length<n then 0 else idxF (revP n) N+1
noncomputable def env_rev1 (p r:Int) (L:List Ln) (n:Int):Env where
 P:=Tryz.prog
 ty:=tys0
def g_rev1_vc (p:Int) (r:Int) (L:List Ln) (n:Int):Prop:=
 (decide (r=n),())=(revP n (p,r,L),())
theorem g_rev1_eq (p r:Int) (L:List Ln) (n:Int):Cond (env_rev1 p r L n) Tryz.f185 [.agg [.int .i64 p, .int .i64 r, .list .tmp LnT L], .fptr [.int .i64 n]] [.bool] (revP n (p,r,L),())=g_rev1_vc p r L n:=by kernel_rfl
theorem g_rev1_ok (p r:Int) (L:List Ln) (n:Int):g_rev1_vc p r L n:=by
 unfold g_rev1_vc;exact rfl
set_option maxRecDepth 20000
theorem rev1_pure (p r:Int) (L:List Ln) (n:Int):Pure Tryz.prog 185 [.agg [.int .i64 p, .int .i64 r, .list .tmp LnT L], .fptr [.int .i64 n]] (.bool (revP n (p,r,L))):=
 by have k:=Pure.of_cond (g_rev1_eq p r L n) (g_rev1_ok p r L n) (specs_ok rfl [] [] rfl rfl) mixed Tryz.func185;exact k
noncomputable def q_rev1 (p r:Int) (L:List Ln) (n:Int):Prop×V:=(True,(.bool (revP n (p,r,L))))
noncomputable def sp_rev1:FSpec Tryz.prog where
 f:=185
 run:=fun
  |[.agg [.int .i64 p, .int .i64 r,v0_2], .fptr [.int .i64 n]]=>(asL LnT v0_2:Option (List Ln)).bind fun L=>some (q_rev1 p r L n)
  |_=>none
 ok:=fun args pre r h hp=>by
  split at h
  ·rename_i p r v0_2 n;obtain ⟨L,h0_2,h⟩:=Option.bind_eq_some_iff.1 h;exact of_q h hp fun h=>(rev1_pure p r L n).weak (.cons (Weak.agg (.cons (.refl _) (.cons (.refl _) (.cons (asL_weak h0_2) .nil)))) (.cons (.refl _) .nil))
  ·cases h
noncomputable def env_revi (l:List En) (n:Int):Env where
 P:=Tryz.prog
 ty:=tys0
 specs:=specsOf [sp_rev1]
 heads:=fun|2=>some {slots:=[(8, .int .i64)],boxes:=[],inv:=fun _ (x:Int×Unit)=>0<=x.1/\x.1<=l.length/\idxF (revP n) l=idxGo (revP n) (l.drop x.1.toNat) x.1,measure:=fun _ (x:Int×Unit)=>(l.length-x.1).toNat}|_=>none
def g_revi_vc (l:List En) (n:Int):Prop:=
 (True/\0<=(0:Int)/\0<=(↑l.length:Int)/\idxF (revP n) l=idxGo (revP n) (List.drop (Int.toNat (0:Int)) l) (0:Int))/\∀(x:Int×Unit),0<=x.1/\x.1<=(↑l.length:Int)/\idxF (revP n) l=idxGo (revP n) (List.drop x.1.toNat l) x.1->(decide (x.1<(↑l.length:Int))=true->(0<=x.1/\x.1<(↑l.length:Int))/\∀(x_1:Int×Int×List (Int×Int×Int×Int)),l[x.1.toNat]? =some x_1->True/\(revP n (x_1.1,x_1.2.1,x_1.2.2)=true->(x.1,())=(idxF (revP n) l,()))/\(revP n (x_1.1,x_1.2.1,x_1.2.2)=false->(-9223372036854775808<=x.1+1/\x.1+1<=9223372036854775807)/\True/\(0<=x.1+1/\x.1+1<=(↑l.length:Int)/\idxF (revP n) l=idxGo (revP n) (List.drop (x.1+1).toNat l) (x.1+1))/\((↑l.length:Int)-(x.1+1)).toNat<((↑l.length:Int)-x.1).toNat))/\(decide (x.1<(↑l.length:Int))=false->((-1:Int),())=(idxF (revP n) l,()))
theorem g_revi_eq (l:List En) (n:Int):Cond (env_revi l n) Tryz.f184 [.list .tmp EnT l, .fn (.func 185) [] [.fptr [.int .i64 n]]] [.int .i64] (idxF (revP n) l,())=g_revi_vc l n:=by kernel_rfl
theorem g_revi_ok (l:List En) (n:Int) (h:l.length<=1000000000):g_revi_vc l n:=by
 unfold g_revi_vc;simp only [decide_eq_true_eq,decide_eq_false_iff_not];refine ⟨⟨trivial,by omega,by omega,rfl⟩, ?_⟩;rintro ⟨i,⟨⟩⟩ ⟨h0,h1,hb⟩;dsimp only at h0 h1 hb⊢;rw [hb];refine ⟨fun c=>⟨⟨h0,c⟩,fun x hx=>⟨trivial,fun k=> ?_,fun k=>⟨by omega,trivial,⟨by omega,by omega, ?_⟩,by omega⟩⟩⟩,fun c=> ?_⟩
 ·rw [idx_hit h0 hx k]
 ·rw [idx_miss h0 hx k]
 ·rw [idx_end c]
theorem revi_pure (l:List En) (n:Int) (h:l.length<=1000000000):Pure Tryz.prog 184 [.list .tmp EnT l, .fn (.func 185) [] [.fptr [.int .i64 n]]] (.int .i64 (idxF (revP n) l)):=
 by have k:=Pure.of_cond (g_revi_eq l n) (g_revi_ok l n h) (specs_ok rfl [sp_rev1] [] rfl rfl) mixed Tryz.func184;exact k
noncomputable def q_revi (l:List En) (n:Int):Prop×V:=(l.length<=1000000000,(.int .i64 (idxF (revP n) l)))
noncomputable def sp_revi:FSpec Tryz.prog where
 f:=184
 run:=fun
  |[v0, .fn (.func 185) [] [.fptr [.int .i64 n]]]=>(asL EnT v0:Option (List En)).bind fun l=>some (q_revi l n)
  |_=>none
 ok:=fun args pre r h hp=>by
  split at h
  ·rename_i v0 n;obtain ⟨l,h0,h⟩:=Option.bind_eq_some_iff.1 h;exact of_q h hp fun h=>(revi_pure l n h).weak (.cons (asL_weak h0) (.cons (.refl _) .nil))
  ·cases h
noncomputable def env_rev (l:List En) (n:Int):Env where
 P:=Tryz.prog
 ty:=tys0
 specs:=specsOf [sp_revi]
def g_rev_vc (l:List En) (n:Int):Prop:=
 (decide (n<(1:Int))=false->(decide ((↑l.length:Int)<n)=true->((0:Int),())=(revF l n,()))/\(decide ((↑l.length:Int)<n)=false->l.length<=(1000000000:Nat)/\(-9223372036854775808<=idxF (revP n) l+1/\idxF (revP n) l+1<=9223372036854775807)/\(idxF (revP n) l+1,())=(revF l n,())))/\(decide (n<(1:Int))= !false->((0:Int),())=(revF l n,()))
theorem g_rev_eq (l:List En) (n:Int):Cond (env_rev l n) Tryz.f166 [.list .tmp EnT l, .int .i64 n] [.int .i64] (revF l n,())=g_rev_vc l n:=by kernel_rfl
theorem g_rev_ok (l:List En) (n:Int) (h:l.length<=1000000000):g_rev_vc l n:=by
 unfold g_rev_vc;simp only [decide_eq_true_eq,decide_eq_false_iff_not,Bool.not_false];have hb:=idx_bounds (revP n) l;unfold revF;refine ⟨fun c=>⟨fun d=>by rw [if_pos (.inr d)],fun d=>⟨h,by omega,by rw [if_neg (by omega)]⟩⟩,fun c=>by rw [if_pos (.inl c)]⟩
theorem rev_pure (l:List En) (n:Int) (h:l.length<=1000000000):Pure Tryz.prog 166 [.list .tmp EnT l, .int .i64 n] (.int .i64 (revF l n)):=
 by have k:=Pure.of_cond (g_rev_eq l n) (g_rev_ok l n h) (specs_ok rfl [sp_revi] [] rfl rfl) mixed Tryz.func166;exact k
noncomputable def q_rev (l:List En) (n:Int):Prop×V:=(l.length<=1000000000,(.int .i64 (revF l n)))
noncomputable def sp_rev:FSpec Tryz.prog where
 f:=166
 run:=fun
  |[v0, .int .i64 n]=>(asL EnT v0:Option (List En)).bind fun l=>some (q_rev l n)
  |_=>none
 ok:=fun args pre r h hp=>by
  split at h
  ·rename_i v0 n;obtain ⟨l,h0,h⟩:=Option.bind_eq_some_iff.1 h;exact of_q h hp fun h=>(rev_pure l n h).weak (.cons (asL_weak h0) (.cons (.refl _) .nil))
  ·cases h
noncomputable def env_rrev (l:List En) (n:Int):Env where
 P:=Tryz.prog
 ty:=tys0
 heads:=fun|2=>some {slots:=[(5, .int .i64)],boxes:=[],inv:=fun _ (x:Int×Unit)=>0<=x.1/\x.1<=l.length/\(1<=n/\n<=l.length->idxF (revP n) l=idxGo (revP n) (l.drop x.1.toNat) x.1),measure:=fun _ (x:Int×Unit)=>(l.length-x.1).toNat}|_=>none
def g_rrev_vc (l:List En) (n:Int):Prop:=
 (True/\0<=(0:Int)/\0<=(↑l.length:Int)/\((1:Int)<=n/\n<=(↑l.length:Int)->idxF (revP n) l=idxGo (revP n) (List.drop (Int.toNat (0:Int)) l) (0:Int)))/\∀(x:Int×Unit),0<=x.1/\x.1<=(↑l.length:Int)/\((1:Int)<=n/\n<=(↑l.length:Int)->idxF (revP n) l=idxGo (revP n) (List.drop x.1.toNat l) x.1)->(decide (x.1<(↑l.length:Int))=true->(decide ((1:Int)<=n)=true->(decide (n<=(↑l.length:Int))=true->(0<=x.1/\x.1<(↑l.length:Int))/\∀(x_1:Int×Int×List (Int×Int×Int×Int)),l[x.1.toNat]? =some x_1->(decide (x_1.2.1=n)=true->(-9223372036854775808<=x.1+1/\x.1+1<=9223372036854775807)/\(x.1+1,())=(revF l n,()))/\(decide (x_1.2.1=n)=false->(-9223372036854775808<=x.1+1/\x.1+1<=9223372036854775807)/\True/\(0<=x.1+1/\x.1+1<=(↑l.length:Int)/\((1:Int)<=n/\n<=(↑l.length:Int)->idxF (revP n) l=idxGo (revP n) (List.drop (x.1+1).toNat l) (x.1+1)))/\((↑l.length:Int)-(x.1+1)).toNat<((↑l.length:Int)-x.1).toNat))/\(decide (n<=(↑l.length:Int))= !true->(-9223372036854775808<=x.1+1/\x.1+1<=9223372036854775807)/\True/\(0<=x.1+1/\x.1+1<=(↑l.length:Int)/\((1:Int)<=n/\n<=(↑l.length:Int)->idxF (revP n) l=idxGo (revP n) (List.drop (x.1+1).toNat l) (x.1+1)))/\((↑l.length:Int)-(x.1+1)).toNat<((↑l.length:Int)-x.1).toNat))/\(decide ((1:Int)<=n)= !true->(-9223372036854775808<=x.1+1/\x.1+1<=9223372036854775807)/\True/\(0<=x.1+1/\x.1+1<=(↑l.length:Int)/\((1:Int)<=n/\n<=(↑l.length:Int)->idxF (revP n) l=idxGo (revP n) (List.drop (x.1+1).toNat l) (x.1+1)))/\((↑l.length:Int)-(x.1+1)).toNat<((↑l.length:Int)-x.1).toNat))/\(decide (x.1<(↑l.length:Int))=false->((0:Int),())=(revF l n,()))
theorem g_rrev_eq (l:List En) (n:Int):Cond (env_rrev l n) Tryz.f103 [.list .tmp EnT l, .int .i64 n] [.int .i64] (revF l n,())=g_rrev_vc l n:=by kernel_rfl
theorem g_rrev_ok (l:List En) (n:Int) (h:l.length<=1000000000):g_rrev_vc l n:=by
 unfold g_rrev_vc;simp only [decide_eq_true_eq,decide_eq_false_iff_not,Bool.not_false,Bool.not_true];refine ⟨⟨trivial,by omega,by omega,fun _=>rfl⟩, ?_⟩;rintro ⟨i,⟨⟩⟩ ⟨h0,h1,hb⟩;dsimp only at h0 h1 hb⊢;refine ⟨fun c=>⟨fun d=>⟨fun e=>⟨⟨h0,c⟩,fun x hx=>⟨fun k=>⟨by omega, ?_⟩,fun k=>⟨by omega,trivial,⟨by omega,by omega,fun _=> ?_⟩,by omega⟩⟩⟩,fun e=>⟨by omega,trivial,⟨by omega,by omega,fun m=>by omega⟩,by omega⟩⟩,fun d=>⟨by omega,trivial,⟨by omega,by omega,fun m=>by omega⟩,by omega⟩⟩,fun c=> ?_⟩
 ·unfold revF;rw [if_neg (by omega),hb ⟨d,e⟩,idx_hit h0 hx (by unfold revP;rw [decide_eq_true k])]
 ·rw [hb ⟨d,e⟩,idx_miss h0 hx (by unfold revP;rw [decide_eq_false k])]
 ·unfold revF;split
  ·rfl
  ·rw [hb (by omega),idx_end c];rfl
theorem rrev_pure (l:List En) (n:Int) (h:l.length<=1000000000):Pure Tryz.prog 103 [.list .tmp EnT l, .int .i64 n] (.int .i64 (revF l n)):=
 by have k:=Pure.of_cond (g_rrev_eq l n) (g_rrev_ok l n h) (specs_ok rfl [] [] rfl rfl) mixed Tryz.func103;exact k
noncomputable def q_rrev (l:List En) (n:Int):Prop×V:=(l.length<=1000000000,(.int .i64 (revF l n)))
noncomputable def sp_rrev:FSpec Tryz.prog where
 f:=103
 run:=fun
  |[v0, .int .i64 n]=>(asL EnT v0:Option (List En)).bind fun l=>some (q_rrev l n)
  |_=>none
 ok:=fun args pre r h hp=>by
  split at h
  ·rename_i v0 n;obtain ⟨l,h0,h⟩:=Option.bind_eq_some_iff.1 h;exact of_q h hp fun h=>(rrev_pure l n h).weak (.cons (asL_weak h0) (.cons (.refl _) .nil))
  ·cases h
def ownP (x:Ln):Bool:=decide (x.2.1<=3)
def eqP (n:Int) (x:Int):Bool:=decide (n=x)
def innP (ls:List Int) (x:Ln):Bool:= !ls.any (eqP x.2.1)
noncomputable def env_idx (l:List Int) (n:Int):Env where
 P:=Tryz.prog
 ty:=tys0
 heads:=fun|2=>some {slots:=[(8, .int .i64)],boxes:=[],inv:=fun _ (x:Int×Unit)=>0<=x.1/\x.1<=l.length/\idxF (eqP n) l=idxGo (eqP n) (l.drop x.1.toNat) x.1,measure:=fun _ (x:Int×Unit)=>(l.length-x.1).toNat}|_=>none
def g_idx_vc (l:List Int) (n:Int):Prop:=
 (True/\0<=(0:Int)/\0<=(↑l.length:Int)/\idxF (eqP n) l=idxGo (eqP n) (List.drop (Int.toNat (0:Int)) l) (0:Int))/\∀(x:Int×Unit),0<=x.1/\x.1<=(↑l.length:Int)/\idxF (eqP n) l=idxGo (eqP n) (List.drop x.1.toNat l) x.1->(decide (x.1<(↑l.length:Int))=true->(0<=x.1/\x.1<(↑l.length:Int))/\∀(x_1:Int),l[x.1.toNat]? =some x_1->(decide (n=x_1)=true->(x.1,())=(idxF (eqP n) l,()))/\(decide (n=x_1)=false->(-9223372036854775808<=x.1+1/\x.1+1<=9223372036854775807)/\True/\(0<=x.1+1/\x.1+1<=(↑l.length:Int)/\idxF (eqP n) l=idxGo (eqP n) (List.drop (x.1+1).toNat l) (x.1+1))/\((↑l.length:Int)-(x.1+1)).toNat<((↑l.length:Int)-x.1).toNat))/\(decide (x.1<(↑l.length:Int))=false->((-1:Int),())=(idxF (eqP n) l,()))
theorem g_idx_eq (l:List Int) (n:Int):Cond (env_idx l n) Tryz.f137 [.list .tmp I l, .int .i64 n] [.int .i64] (idxF (eqP n) l,())=g_idx_vc l n:=by kernel_rfl
theorem g_idx_ok (l:List Int) (n:Int) (h:l.length<=1000000000):g_idx_vc l n:=by
 unfold g_idx_vc;simp only [decide_eq_true_eq,decide_eq_false_iff_not];refine ⟨⟨trivial,by omega,by omega,rfl⟩, ?_⟩;rintro ⟨i,⟨⟩⟩ ⟨h0,h1,hb⟩;dsimp only at h0 h1 hb⊢;rw [hb];refine ⟨fun c=>⟨⟨h0,c⟩,fun x hx=>⟨fun k=> ?_,fun k=>⟨by omega,trivial,⟨by omega,by omega, ?_⟩,by omega⟩⟩⟩,fun c=> ?_⟩
 ·rw [idx_hit h0 hx (by unfold eqP;rw [decide_eq_true k])]
 ·rw [idx_miss h0 hx (by unfold eqP;rw [decide_eq_false k])]
 ·rw [idx_end c]
theorem idx_pure (l:List Int) (n:Int) (h:l.length<=1000000000):Pure Tryz.prog 137 [.list .tmp I l, .int .i64 n] (.int .i64 (idxF (eqP n) l)):=
 by have k:=Pure.of_cond (g_idx_eq l n) (g_idx_ok l n h) (specs_ok rfl [] [] rfl rfl) mixed Tryz.func137;exact k
noncomputable def q_idx (l:List Int) (n:Int):Prop×V:=(l.length<=1000000000,(.int .i64 (idxF (eqP n) l)))
noncomputable def sp_idx:FSpec Tryz.prog where
 f:=137
 run:=fun
  |[v0, .int .i64 n]=>(asL I v0:Option (List Int)).bind fun l=>some (q_idx l n)
  |_=>none
 ok:=fun args pre r h hp=>by
  split at h
  ·rename_i v0 n;obtain ⟨l,h0,h⟩:=Option.bind_eq_some_iff.1 h;exact of_q h hp fun h=>(idx_pure l n h).weak (.cons (asL_weak h0) (.cons (.refl _) .nil))
  ·cases h
noncomputable def env_cont (l:List Int) (n:Int):Env where
 P:=Tryz.prog
 ty:=tys0
 specs:=specsOf [sp_idx]
def g_cont_vc (l:List Int) (n:Int):Prop:=
 l.length<=(1000000000:Nat)/\(decide (0<=idxF (eqP n) l),())=(l.any (eqP n),())
theorem g_cont_eq (l:List Int) (n:Int):Cond (env_cont l n) Tryz.f77 [.list .tmp I l, .int .i64 n] [.bool] (l.any (eqP n),())=g_cont_vc l n:=by kernel_rfl
theorem g_cont_ok (l:List Int) (n:Int) (h:l.length<=1000000000):g_cont_vc l n:=by
 unfold g_cont_vc;exact ⟨h,by rw [idx_any]⟩
theorem cont_pure (l:List Int) (n:Int) (h:l.length<=1000000000):Pure Tryz.prog 77 [.list .tmp I l, .int .i64 n] (.bool (l.any (eqP n))):=
 by have k:=Pure.of_cond (g_cont_eq l n) (g_cont_ok l n h) (specs_ok rfl [sp_idx] [] rfl rfl) mixed Tryz.func77;exact k
noncomputable def q_cont (l:List Int) (n:Int):Prop×V:=(l.length<=1000000000,(.bool (l.any (eqP n))))
noncomputable def sp_cont:FSpec Tryz.prog where
 f:=77
 run:=fun
  |[v0, .int .i64 n]=>(asL I v0:Option (List Int)).bind fun l=>some (q_cont l n)
  |_=>none
 ok:=fun args pre r h hp=>by
  split at h
  ·rename_i v0 n;obtain ⟨l,h0,h⟩:=Option.bind_eq_some_iff.1 h;exact of_q h hp fun h=>(cont_pure l n h).weak (.cons (asL_weak h0) (.cons (.refl _) .nil))
  ·cases h
def placedF (ls:List Int) (L:List Ln):Int:=if L.any ownP=true then 28 else if L.any (innP ls)=true then 27 else 0
def turnY (A:List En) (r:Int) (L:List Ln) (y:En):Int:=if y.2.1≠0∨revF A r≠0 then 35 else if (Ent.oppF y.1 y.2.1 y.2.2).2≠0∨L≠(Ent.oppF y.1 y.2.1 y.2.2).1.2.2 then 30 else 0
def turnedF (A:List En) (r:Int) (L:List Ln):Int:=if r=0 then 0 else if r<0∨A.length<r then 34 else match A[(r-1).toNat]? with
 |none=>0
 |some y=>turnY A r L y
theorem turned_at {A:List En} {r:Int} {L:List Ln} {y:En} (h0:r≠0) (h1: ¬(r<0∨A.length<r)) (hy:A[(r-1).toNat]? =some y):turnedF A r L=turnY A r L y:=by
 unfold turnedF;rw [if_neg h0,if_neg h1,hy]
end Go.Proofs.YtabicbgeoiilmaaGreat.Bks
end
section
namespace Go.Proofs.YtabicbgeoiilmaaGreat.Stk
open Go.Vm
def Inv15 (l:List Stk) (e p:Int) (i a s f:Int) (hit:Bool):Prop:=
 0<=i/\i<=l.length/\match best (l.take i.toNat) e p with
  |none=>hit=false/\a=0/\s=10000
  |some q=>hit=true/\a=q.2.1/\s=q.2.2.1/\f=q.2.2.2
noncomputable def env_refAt (l:List Stk) (e p:Int):Env where
 P:=Tryz.prog
 ty:=fun|24=>some STy|_=>none
 heads:=fun
  |3=>some {slots:=[(12, .int .i64),(8, .int .i64),(9, .int .i64),(10, .int .i64),(11, .bool)],boxes:=[],inv:=fun _ (x:Int×Int×Int×Int×Bool×Unit)=>Inv15 l e p x.1 x.2.1 x.2.2.1 x.2.2.2.1 x.2.2.2.2.1,measure:=fun _ (x:Int×Int×Int×Int×Bool×Unit)=>(l.length-x.1).toNat}
  |_=>none
def g_refAt_vc (l:List Stk) (e:Int) (p:Int):Prop:=
 (True/\Inv15 l e p (0:Int) (0:Int) (10000:Int) (0:Int) false)/\∀(x:Int×Int×Int×Int×Bool×Unit),Inv15 l e p x.1 x.2.1 x.2.2.1 x.2.2.2.1 x.2.2.2.2.1->(decide (x.1<(↑l.length:Int))=true->(0<=x.1/\x.1<(↑l.length:Int))/\∀(x_1:Int×Int×Int×Int),l[x.1.toNat]? =some x_1->(decide (x_1.1=e)=true->(decide (x_1.2.2.2<=p)=true->((!x.2.2.2.2.1)=false->(decide (x.2.2.2.1<=x_1.2.2.2)=true->(-9223372036854775808<=x.1+1/\x.1+1<=9223372036854775807)/\True/\Inv15 l e p (x.1+1) x_1.2.1 x_1.2.2.1 x_1.2.2.2 true/\((↑l.length:Int)-(x.1+1)).toNat<((↑l.length:Int)-x.1).toNat)/\(decide (x.2.2.2.1<=x_1.2.2.2)=false->(-9223372036854775808<=x.1+1/\x.1+1<=9223372036854775807)/\True/\Inv15 l e p (x.1+1) x.2.1 x.2.2.1 x.2.2.2.1 x.2.2.2.2.1/\((↑l.length:Int)-(x.1+1)).toNat<((↑l.length:Int)-x.1).toNat))/\((!x.2.2.2.2.1)= !false->(-9223372036854775808<=x.1+1/\x.1+1<=9223372036854775807)/\True/\Inv15 l e p (x.1+1) x_1.2.1 x_1.2.2.1 x_1.2.2.2 true/\((↑l.length:Int)-(x.1+1)).toNat<((↑l.length:Int)-x.1).toNat))/\(decide (x_1.2.2.2<=p)= !true->(-9223372036854775808<=x.1+1/\x.1+1<=9223372036854775807)/\True/\Inv15 l e p (x.1+1) x.2.1 x.2.2.1 x.2.2.2.1 x.2.2.2.2.1/\((↑l.length:Int)-(x.1+1)).toNat<((↑l.length:Int)-x.1).toNat))/\(decide (x_1.1=e)= !true->(-9223372036854775808<=x.1+1/\x.1+1<=9223372036854775807)/\True/\Inv15 l e p (x.1+1) x.2.1 x.2.2.1 x.2.2.2.1 x.2.2.2.2.1/\((↑l.length:Int)-(x.1+1)).toNat<((↑l.length:Int)-x.1).toNat))/\(decide (x.1<(↑l.length:Int))=false->(x.2.1,x.2.2.1,())=((atF l e p).1,(atF l e p).2,()))
theorem g_refAt_eq (l:List Stk) (e p:Int):Cond (env_refAt l e p) Tryz.f170 [.list .tmp STy l, .int .i64 e, .int .i64 p] [.int .i64, .int .i64] ((atF l e p).1,(atF l e p).2,())=g_refAt_vc l e p:=by kernel_rfl
noncomputable def env_same (xs ys:List Stk):Env where
 P:=Tryz.prog
 heads:=fun|4=>some {slots:=[(5, .int .i64)],boxes:=[],inv:=fun _ (x:Int×Unit)=>0<=x.1/\x.1<=xs.length/\∀j:Nat,j<x.1.toNat->xs[j]? =ys[j]?,measure:=fun _ (x:Int×Unit)=>(xs.length-x.1).toNat}|_=>none
def g_same_vc (xs:List Stk) (ys:List Stk):Prop:=
 ((!decide ((↑xs.length:Int)=(↑ys.length:Int)))=true->(false,())=(decide (xs=ys),()))/\((!decide ((↑xs.length:Int)=(↑ys.length:Int)))=false->(True/\0<=(0:Int)/\0<=(↑xs.length:Int)/\∀(j:Nat),j<Int.toNat (0:Int)->xs[j]? =ys[j]?)/\∀(x:Int×Unit),(0<=x.1/\x.1<=(↑xs.length:Int)/\∀(j:Nat),j<x.1.toNat->xs[j]? =ys[j]?)->(decide (x.1<(↑xs.length:Int))=true->(0<=x.1/\x.1<(↑xs.length:Int))/\∀(x_1:Int×Int×Int×Int),xs[x.1.toNat]? =some x_1->(0<=x.1/\x.1<(↑ys.length:Int))/\∀(x_2:Int×Int×Int×Int),ys[x.1.toNat]? =some x_2->((!(decide (x_1.1=x_2.1)&&(decide (x_1.2.1=x_2.2.1)&&(decide (x_1.2.2.1=x_2.2.2.1)&&(decide (x_1.2.2.2=x_2.2.2.2)&&true)))))=true->(false,())=(decide (xs=ys),()))/\((!(decide (x_1.1=x_2.1)&&(decide (x_1.2.1=x_2.2.1)&&(decide (x_1.2.2.1=x_2.2.2.1)&&(decide (x_1.2.2.2=x_2.2.2.2)&&true)))))=false->(-9223372036854775808<=x.1+1/\x.1+1<=9223372036854775807)/\True/\(0<=x.1+1/\x.1+1<=(↑xs.length:Int)/\∀(j:Nat),j<(x.1+1).toNat->xs[j]? =ys[j]?)/\((↑xs.length:Int)-(x.1+1)).toNat<((↑xs.length:Int)-x.1).toNat))/\(decide (x.1<(↑xs.length:Int))=false->(true,())=(decide (xs=ys),())))
theorem g_same_eq (xs ys:List Stk):Cond (env_same xs ys) Tryz.f43 [.list .tmp STy xs, .list .tmp STy ys] [.bool] (decide (xs=ys),())=g_same_vc xs ys:=by kernel_rfl
theorem g_same_ok (xs ys:List Stk) (h:xs.length<=1000000000):g_same_vc xs ys:=by
 unfold g_same_vc;simp only [Bool.not_eq_true',decide_eq_false_iff_not,Bool.not_eq_false',decide_eq_true_eq,true_and,Int.ofNat_inj,Int.toNat_zero,Nat.not_lt_zero];refine ⟨fun hne=> ?_,fun hlen=>⟨⟨by omega,by omega,fun j hj=>hj.elim⟩, ?_⟩⟩
 ·have:xs≠ys:=fun e=>hne (by rw [e]);simp [this]
 rintro ⟨i,_⟩ ⟨h1,h2,h3⟩;simp only at*;refine ⟨fun hlt=>⟨⟨h1,hlt⟩,fun x hx=>⟨⟨h1,by omega⟩,fun y hy=>⟨fun e=> ?_,fun e=>⟨by omega,⟨by omega,by omega,fun j hj=> ?_⟩,by omega⟩⟩⟩⟩,fun hge=> ?_⟩
 ·have:xs≠ys:=by
   rintro rfl;rw [hx] at hy;cases hy;simp at e
  simp [this]
 ·by_cases hji:j<i.toNat
  ·exact h3 j hji
  ·have:j=i.toNat:=by omega
   subst this;obtain ⟨a1,a2,a3,a4⟩:=x;obtain ⟨b1,b2,b3,b4⟩:=y;simp at e;obtain ⟨rfl,rfl,rfl,rfl⟩:=e;rw [hx,hy]
 ·have:xs=ys:=by
   apply List.ext_getElem?;intro j;by_cases hj:j<i.toNat
   ·exact h3 j hj
   ·rw [List.getElem?_eq_none (by omega),List.getElem?_eq_none (by omega)]
  simp [this]
theorem g_refAt_ok (l:List Stk) (e p:Int) (h:l.length<=1000000000):g_refAt_vc l e p:=by
 unfold g_refAt_vc;refine ⟨⟨trivial,by simp [Inv15,best]⟩, ?_⟩;rintro ⟨i,a,s,f,hit,_⟩ hI;have hI0:=hI;obtain ⟨h1,h2,h3⟩:=hI0;simp only [decide_eq_true_eq,decide_eq_false_iff_not,true_and] at*;have step: ∀(x:Stk) a' s' f' hit',i<l.length->l[i.toNat]? =some x->(match take e p (best (l.take i.toNat) e p) x with
  |none=>hit'=false/\a'=0/\s'=10000
  |some q=>hit'=true/\a'=q.2.1/\s'=q.2.2.1/\f'=q.2.2.2)->Inv15 l e p (i+1) a' s' f' hit':=by
  intro x a' s' f' hit' hi hx hm
  refine ⟨by omega,by omega, ?_⟩
  rw [toNat_next h1,best_take hx]
  exact hm
 refine ⟨fun hi=>⟨⟨h1,hi⟩,fun x hx=> ?_⟩,fun hi=> ?_⟩
 ·have st:=fun a' s' f' hit'=>step x a' s' f' hit' hi hx;clear step;generalize best (l.take i.toNat) e p=b at h3 st;have m1:((l.length:Int)-(i+1)).toNat<((l.length:Int)-i).toNat:=by omega
  have m2: -9223372036854775808<=i+1/\i+1<=9223372036854775807:=by omega
  simp only [m1,m2,and_true,true_and,and_self];simp only [take] at st;cases b with
  |none=>simp only at h3 st⊢;grind
  |some q=>simp only at h3 st⊢;grind
 ·have hl:l.take i.toNat=l:=List.take_of_length_le (by omega);rw [hl] at h3;unfold atF;split at h3
  ·rename_i hb;rw [hb];simp [h3.2.1,h3.2.2]
  ·rename_i q hb;rw [hb];simp [h3.2.1,h3.2.2.1]
set_option maxRecDepth 20000
theorem same_pure (xs ys:List Stk) (h:xs.length<=1000000000):Pure Tryz.prog 43 [.list .tmp STy xs, .list .tmp STy ys] (.bool (decide (xs=ys))):=
 by have k:=Pure.of_cond (g_same_eq xs ys) (g_same_ok xs ys h) (specs_ok rfl [] [] rfl rfl) mixed Tryz.func43;exact k
noncomputable def q_same (xs ys:List Stk):Prop×V:=(xs.length<=1000000000,(.bool (decide (xs=ys))))
noncomputable def sp_same:FSpec Tryz.prog where
 f:=43
 run:=fun
  |[v0,v1]=>(asL STy v0:Option (List Stk)).bind fun xs=>(asL STy v1:Option (List Stk)).bind fun ys=>some (q_same xs ys)
  |_=>none
 ok:=fun args pre r h hp=>by
  split at h
  ·rename_i v0 v1;obtain ⟨xs,h0,h⟩:=Option.bind_eq_some_iff.1 h;obtain ⟨ys,h1,h⟩:=Option.bind_eq_some_iff.1 h;exact of_q h hp fun h=>(same_pure xs ys h).weak (.cons (asL_weak h0) (.cons (asL_weak h1) .nil))
  ·cases h
theorem refAt_pure (l:List Stk) (e p:Int) (h:l.length<=1000000000):Pure Tryz.prog 170 [.list .tmp STy l, .int .i64 e, .int .i64 p] (.tuple [.int .i64 (atF l e p).1, .int .i64 (atF l e p).2]):=
 by have k:=Pure.of_cond (g_refAt_eq l e p) (g_refAt_ok l e p h) (specs_ok rfl [] [] rfl rfl) mixed Tryz.func170;exact k
noncomputable def q_refAt (l:List Stk) (e p:Int):Prop×V:=(l.length<=1000000000,(.tuple [.int .i64 (atF l e p).1, .int .i64 (atF l e p).2]))
noncomputable def sp_refAt:FSpec Tryz.prog where
 f:=170
 run:=fun
  |[v0, .int .i64 e, .int .i64 p]=>(asL STy v0:Option (List Stk)).bind fun l=>some (q_refAt l e p)
  |_=>none
 ok:=fun args pre r h hp=>by
  split at h
  ·rename_i v0 e p;obtain ⟨l,h0,h⟩:=Option.bind_eq_some_iff.1 h;exact of_q h hp fun h=>(refAt_pure l e p h).weak (.cons (asL_weak h0) (.cons (.refl _) (.cons (.refl _) .nil)))
  ·cases h
end Go.Proofs.YtabicbgeoiilmaaGreat.Stk
end
section
namespace Go.Proofs.YtabicbgeoiilmaaGreat.Stk
open Go.Vm
def par (l:List Stk) (p:Int) (a:Int):Int:=(atF l a p).1
def roundGo (l:List Stk) (e p:Int):Nat->Int->Bool
 |0,at_=>decide (par l p at_=e)
 |n+1,at_=>if par l p at_≠e/\par l p at_≠0 then roundGo l e p n (par l p at_) else decide (par l p at_=e)
def roundF (l:List Stk) (e p:Int):Bool:=roundGo l e p l.length e
def Inv29 (l:List Stk) (e p a n:Int):Prop:=0<=n/\n<=l.length/\roundGo l e p (l.length-n.toNat) a=roundF l e p
noncomputable def env_round (l:List Stk) (e p:Int):Env where
 P:=Tryz.prog
 specs:=specsOf [sp_at_]
 joins:=fun
  |2000000=>some {slots:=[(7, .int .i64),(8, .int .i64)],boxes:=[],inv:=fun _ (x:Int×Int×Unit)=>Inv29 l e p x.1 x.2.1,measure:=fun _ (x:Int×Int×Unit)=>(l.length-x.2.1+1).toNat}
  |_=>none
def g_round_vc (l:List Stk) (e:Int) (p:Int):Prop:=
 l.length<=(1000000000:Nat)/\(-9223372036854775808<=(0:Int)+1/\(0:Int)+1<=9223372036854775807)/\((!decide ((atF l e p).1=e))=true->((!decide ((atF l e p).1=(0:Int)))=true->(decide ((0:Int)+1<=(↑l.length:Int))=true->(0:Nat)=(0:Nat)/\(True/\Inv29 l e p (atF l e p).1 ((0:Int)+1))/\∀(x:Int×Int×Unit),Inv29 l e p x.1 x.2.1->l.length<=(1000000000:Nat)/\(-9223372036854775808<=x.2.1+1/\x.2.1+1<=9223372036854775807)/\((!decide ((atF l x.1 p).1=e))=true->((!decide ((atF l x.1 p).1=(0:Int)))=true->(decide (x.2.1+1<=(↑l.length:Int))=true->(0:Nat)=(0:Nat)/\True/\Inv29 l e p (atF l x.1 p).1 (x.2.1+1)/\((↑l.length:Int)-(x.2.1+1)+1).toNat<((↑l.length:Int)-x.2.1+1).toNat)/\(decide (x.2.1+1<=(↑l.length:Int))=false->(decide ((atF l x.1 p).1=e),())=(roundF l e p,())))/\((!decide ((atF l x.1 p).1=(0:Int)))= !true->(decide ((atF l x.1 p).1=e),())=(roundF l e p,())))/\((!decide ((atF l x.1 p).1=e))= !true->(decide ((atF l x.1 p).1=e),())=(roundF l e p,())))/\(decide ((0:Int)+1<=(↑l.length:Int))=false->(decide ((atF l e p).1=e),())=(roundF l e p,())))/\((!decide ((atF l e p).1=(0:Int)))= !true->(decide ((atF l e p).1=e),())=(roundF l e p,())))/\((!decide ((atF l e p).1=e))= !true->(decide ((atF l e p).1=e),())=(roundF l e p,()))
theorem g_round_eq (l:List Stk) (e p:Int):Cond (env_round l e p) Tryz.f157 [.list .tmp STy l, .int .i64 e, .int .i64 p] [.bool] (roundF l e p,())=g_round_vc l e p:=by kernel_rfl
theorem g_round_ok (l:List Stk) (e p:Int) (h:l.length<=1000000000):g_round_vc l e p:=by
 have step: ∀(a n:Int),Inv29 l e p a n->n+1<=l.length->par l p a≠e->par l p a≠0->Inv29 l e p (par l p a) (n+1):=by
  rintro a n ⟨h1,h2,h3⟩ hn ha hb;refine ⟨by omega,by omega, ?_⟩;rw [<-h3];obtain ⟨m,hm⟩: ∃m,l.length-n.toNat=m+1:=⟨l.length-n.toNat-1,by omega⟩
  have:l.length-(n+1).toNat=m:=by omega
  rw [this,hm];simp [roundGo,ha,hb]
 have stop: ∀(a n:Int),Inv29 l e p a n->(¬(n+1<=l.length)∨par l p a=e∨par l p a=0)->decide (par l p a=e)=roundF l e p:=by
  rintro a n ⟨h1,h2,h3⟩ hc;rw [<-h3];cases hm:l.length-n.toNat with
  |zero=>rfl
  |succ m=>
   have:n+1<=l.length:=by omega
   rcases hc with hc|hc|hc
   ·exact absurd this hc
   ·simp [roundGo,hc]
   ·simp [roundGo,hc]
 have first:Inv29 l e p e 0:=⟨by omega,by omega,by simp [roundF]⟩
 have core: ∀(a n:Int),Inv29 l e p a n->((!decide (par l p a=e))=true->
  ((!decide (par l p a=(0:Int)))=true->
   (decide (n+(1:Int)<=(↑l.length:Int))=true->Inv29 l e p (par l p a) (n+(1:Int)))/\
    (decide (n+(1:Int)<=(↑l.length:Int))=false->decide (par l p a=e)=roundF l e p))/\
   ((!decide (par l p a=(0:Int)))= !true->decide (par l p a=e)=roundF l e p))/\
  ((!decide (par l p a=e))= !true->decide (par l p a=e)=roundF l e p):=by
  intro a n hI;refine ⟨fun c1=>⟨fun c2=>⟨fun c3=>step a n hI (by simpa using c3) (by simpa using c1) (by simpa using c2),fun c3=>stop a n hI (.inl (by simpa using c3))⟩,fun c2=>stop a n hI (.inr (.inr (by simpa using c2)))⟩,fun c1=>stop a n hI (.inr (.inl (by simpa using c1)))⟩
 unfold g_round_vc;obtain ⟨k1,k2⟩:=core e 0 first
 refine ⟨h,by omega,fun c1=>⟨fun c2=>⟨fun c3=>⟨rfl,⟨trivial,((k1 c1).1 c2).1 c3⟩, ?_⟩,fun c3=>congrArg (·,()) (((k1 c1).1 c2).2 c3)⟩,fun c2=>congrArg (·,()) ((k1 c1).2 c2)⟩,fun c1=>congrArg (·,()) (k2 c1)⟩;clear c1 c2 c3 k1 k2;rintro ⟨a,n,_⟩ hI;have hI0:=hI;obtain ⟨h1,h2,_⟩:=hI0;simp only at h1 h2;obtain ⟨k1,k2⟩:=core a n hI;simp only;exact ⟨h,by omega,fun c1=>⟨fun c2=>⟨fun c3=>⟨trivial,trivial,((k1 c1).1 c2).1 c3,by simp only [decide_eq_true_eq] at c3;omega⟩,fun c3=>congrArg (·,()) (((k1 c1).1 c2).2 c3)⟩,fun c2=>congrArg (·,()) ((k1 c1).2 c2)⟩,fun c1=>congrArg (·,()) (k2 c1)⟩
set_option maxRecDepth 20000
theorem round_pure (l:List Stk) (e p:Int) (h:l.length<=1000000000):Pure Tryz.prog 157 [.list .tmp STy l, .int .i64 e, .int .i64 p] (.bool (roundF l e p)):=
 by have k:=Pure.of_cond (g_round_eq l e p) (g_round_ok l e p h) (specs_ok rfl [sp_at_] [] rfl rfl) mixed Tryz.func157;exact k
noncomputable def q_round (l:List Stk) (e p:Int):Prop×V:=(l.length<=1000000000,(.bool (roundF l e p)))
noncomputable def sp_round:FSpec Tryz.prog where
 f:=157
 run:=fun
  |[v0, .int .i64 e, .int .i64 p]=>(asL STy v0:Option (List Stk)).bind fun l=>some (q_round l e p)
  |_=>none
 ok:=fun args pre r h hp=>by
  split at h
  ·rename_i v0 e p;obtain ⟨l,h0,h⟩:=Option.bind_eq_some_iff.1 h;exact of_q h hp fun h=>(round_pure l e p h).weak (.cons (asL_weak h0) (.cons (.refl _) (.cons (.refl _) .nil)))
  ·cases h
end Go.Proofs.YtabicbgeoiilmaaGreat.Stk
end
section
namespace Go.Proofs.YtabicbgeoiilmaaGreat.Stk
open Go.Vm
theorem nodup_sub: ∀{a b:List Int},a.Nodup->(∀x∈a,x∈b)->a.length<=b.length
 |[],_,_,_=>Nat.zero_le _
 |x::r,b,hn,hs=>by
  obtain ⟨h1,h2⟩:=List.nodup_cons.1 hn;have hx:=hs x List.mem_cons_self;have:=nodup_sub (b:=b.erase x) h2 (fun y hy=>by
   have hne:y≠x:=fun e=>h1 (e▸hy);exact (List.mem_erase_of_ne hne).2 (hs y (List.mem_cons_of_mem _ hy)))
  rw [List.length_erase_of_mem hx] at this;have:0<b.length:=List.length_pos_of_mem hx;simp only [List.length_cons];omega
theorem best_mem {l:List Stk} {e p:Int} {s:Stk} (h:best l e p=some s):s∈l:=by
 have key: ∀(l:List Stk) (b:Option Stk),(∀q,b=some q->q∈l∨True)->∀s,l.foldl (take e p) b=some s->s∈l∨b=some s:=by
  intro l;induction l with
  |nil=>intro b _ s h;exact .inr h
  |cons x r ih=>
   intro b _ s h;rcases ih (take e p b x) (fun _ _=> .inr trivial) s h with h1|h1
   ·exact .inl (List.mem_cons_of_mem _ h1)
   ·unfold take at h1;split at h1
    ·split at h1
     ·cases h1;exact .inl List.mem_cons_self
     ·split at h1
      ·cases h1;exact .inl List.mem_cons_self
      ·exact .inr h1
    ·exact .inr h1
 rcases key l none (fun _ _=> .inr trivial) s h with h1|h1
 ·exact h1
 ·cases h1
theorem par_mem {l:List Stk} {p a:Int} (h:par l p a≠0):par l p a∈l.map (·.2.1):=by
 unfold par atF at*;split at h
 ·simp at h
 ·rename_i s hs;exact List.mem_map.2 ⟨s,best_mem hs,rfl⟩
def aboveGo (l:List Stk) (p:Int):Nat->List Int->Int->List Int
 |0,acc,_=>acc
 |n+1,acc,a=>if a≠0/\a∉acc then aboveGo l p n (acc++[a]) (par l p a) else acc
def aboveF (l:List Stk) (e p:Int):List Int:=aboveGo l p (l.length+1) [] (par l p e)
def Inv31 (l:List Stk) (e p:Int) (acc:List Int) (a:Int):Prop:=
 acc.Nodup/\(∀x∈acc,x∈l.map (·.2.1))/\(a≠0->a∈l.map (·.2.1))/\acc.length<=l.length/\aboveGo l p (l.length+1-acc.length) acc a=aboveF l e p
theorem inv31_next {l:List Stk} {e p:Int} {acc:List Int} {a:Int} (h:Inv31 l e p acc a) (h0:a≠0) (h1:a∉acc):Inv31 l e p (acc++[a]) (par l p a):=by
 obtain ⟨k1,k2,k3,k4,k5⟩:=h;have n1:(acc++[a]).Nodup:=List.nodup_append.2 ⟨k1,by simp,fun x hx y hy=>by
  simp only [List.mem_singleton] at hy;subst hy;intro e;exact h1 (e▸hx)⟩
 have n2: ∀x∈acc++[a],x∈l.map (·.2.1):=by
  intro x hx;simp only [List.mem_append,List.mem_singleton] at hx;rcases hx with hx|rfl
  ·exact k2 x hx
  ·exact k3 h0
 have n3:=nodup_sub n1 n2;simp only [List.length_map] at n3;refine ⟨n1,n2,par_mem,n3, ?_⟩;rw [<-k5];have e1:l.length+1-acc.length=(l.length+1-(acc++[a]).length)+1:=by
  simp only [List.length_append,List.length_singleton] at n3⊢;omega
 rw [e1,aboveGo,if_pos ⟨h0,h1⟩]
theorem inv31_stop {l:List Stk} {e p:Int} {acc:List Int} {a:Int} (h:Inv31 l e p acc a) (h0:a=0∨a∈acc):acc=aboveF l e p:=by
 obtain ⟨k1,k2,k3,k4,k5⟩:=h;rw [<-k5];have e1:l.length+1-acc.length=(l.length-acc.length)+1:=by omega
 rw [e1,aboveGo,if_neg];rcases h0 with h0|h0
 ·exact fun h=>h.1 h0
 ·exact fun h=>h.2 h0
noncomputable def env_above (l:List Stk) (e p:Int):Env where
 P:=Tryz.prog
 ty:=fun|3=>some I|_=>none
 specs:=specsOf [sp_refAt,sp_has]
 heads:=fun
  |3=>some {slots:=[(7, .slc 5000 I),(8, .int .i64)],boxes:=[],inv:=fun _ (x:List Int×Int×Unit)=>Inv31 l e p x.1 x.2.1,measure:=fun _ (x:List Int×Int×Unit)=>l.length+1-x.1.length}
  |_=>none
def g_above_vc (l:List Stk) (e:Int) (p:Int):Prop:=
 l.length<=(1000000000:Nat)/\(True/\Inv31 l e p [] (atF l e p).1)/\∀(x:List Int×Int×Unit),Inv31 l e p x.1 x.2.1->((!decide (x.2.1=(0:Int)))=true->x.1.length<=(1000000000:Nat)/\((!x.1.contains x.2.1)=true->((x.1.length+[x.2.1].length)*(8:Nat)<=(140737488355328:Nat)/\x.1.length+[x.2.1].length<=(4611686018427387904:Nat))/\l.length<=(1000000000:Nat)/\True/\Inv31 l e p (x.1++[x.2.1]) (atF l x.2.1 p).1/\l.length+(1:Nat)-(x.1++[x.2.1]).length<l.length+(1:Nat)-x.1.length)/\((!x.1.contains x.2.1)=false->(x.1,())=(aboveF l e p,())))/\((!decide (x.2.1=(0:Int)))= !true->(x.1,())=(aboveF l e p,()))
theorem g_above_eq (l:List Stk) (e p:Int):Cond (env_above l e p) Tryz.f133 [.list .tmp STy l, .int .i64 e, .int .i64 p] [.slc 0 I] (aboveF l e p,())=g_above_vc l e p:=by kernel_rfl
theorem g_above_ok (l:List Stk) (e p:Int) (h:l.length<=1000000000):g_above_vc l e p:=by
 unfold g_above_vc;refine ⟨h,⟨trivial,List.nodup_nil,fun x hx=>by simp at hx,par_mem,Nat.zero_le _,rfl⟩, ?_⟩;rintro ⟨acc,a,_⟩ hI;have h4:=hI.2.2.2.1;simp only at h4⊢;refine ⟨fun c1=>⟨by omega,fun c2=>⟨⟨?_, ?_⟩,h,trivial, ?_, ?_⟩,fun c2=> ?_⟩,fun c1=> ?_⟩
 ·simp only [List.length_singleton];omega
 ·simp only [List.length_singleton];omega
 ·exact inv31_next hI (by simpa using c1) (by simpa using c2)
 ·simp only [List.length_append,List.length_singleton];omega
 ·exact congrArg (·,()) (inv31_stop hI (.inr (by simpa using c2)))
 ·exact congrArg (·,()) (inv31_stop hI (.inl (by simpa using c1)))
set_option maxRecDepth 20000
theorem above_pure (l:List Stk) (e p:Int) (h:l.length<=1000000000):Pure Tryz.prog 133 [.list .tmp STy l, .int .i64 e, .int .i64 p] (.olist I (aboveF l e p)):=
 by have k:=Pure.of_cond (g_above_eq l e p) (g_above_ok l e p h) (specs_ok rfl [sp_refAt,sp_has] [] rfl rfl) mixed Tryz.func133;exact k
noncomputable def q_above (l:List Stk) (e p:Int):Prop×V:=(l.length<=1000000000,(.olist I (aboveF l e p)))
noncomputable def sp_above:FSpec Tryz.prog where
 f:=133
 run:=fun
  |[v0, .int .i64 e, .int .i64 p]=>(asL STy v0:Option (List Stk)).bind fun l=>some (q_above l e p)
  |_=>none
 ok:=fun args pre r h hp=>by
  split at h
  ·rename_i v0 e p;obtain ⟨l,h0,h⟩:=Option.bind_eq_some_iff.1 h;exact of_q h hp fun h=>(above_pure l e p h).weak (.cons (asL_weak h0) (.cons (.refl _) (.cons (.refl _) .nil)))
  ·cases h
end Go.Proofs.YtabicbgeoiilmaaGreat.Stk
end
section
namespace Go.Proofs.YtabicbgeoiilmaaGreat.Stk
open Go.Vm
noncomputable abbrev tys:TypeId->Option Ty:=tys0
noncomputable def env_clone (l:List Stk):Env where
 P:=Tryz.prog
 ty:=tys
def g_clone_vc (l:List Stk):Prop:=
 ((true=true->l.length=(0:Nat))->([],())=(l,()))/\((false=true->l.length=(0:Nat))->(((0:Nat)+l.length)*(32:Nat)<=(140737488355328:Nat)/\(0:Nat)+l.length<=(4611686018427387904:Nat)/\((0:Nat)<l.length∨(0:Nat)=(0:Nat)))/\(l,())=(l,()))
theorem g_clone_eq (l:List Stk):Cond (env_clone l) Tryz.f80 [.list .tmp STy l] [.slc 0 STy] (l,())=g_clone_vc l:=by kernel_rfl
set_option maxRecDepth 20000
theorem g_clone_ok (l:List Stk) (h:l.length<=1000000000):g_clone_vc l:=by
 unfold g_clone_vc;refine ⟨fun e=> ?_,fun _=>⟨⟨by omega,by omega, .inr rfl⟩,rfl⟩⟩;have:=List.eq_nil_of_length_eq_zero (e rfl);rw [this]
theorem clone_pure (l:List Stk) (h:l.length<=1000000000):Pure Tryz.prog 80 [.list .tmp STy l] (.olist STy l):=
 by have k:=Pure.of_cond (g_clone_eq l) (g_clone_ok l h) (specs_ok rfl [] [] rfl rfl) mixed Tryz.func80;exact k
noncomputable def q_clone (l:List Stk):Prop×V:=(l.length<=1000000000,(.olist STy l))
noncomputable def sp_clone:FSpec Tryz.prog where
 f:=80
 run:=fun
  |[v0]=>(asL STy v0:Option (List Stk)).bind fun l=>some (q_clone l)
  |_=>none
 ok:=fun args pre r h hp=>by
  split at h
  ·rename_i v0;obtain ⟨l,h0,h⟩:=Option.bind_eq_some_iff.1 h;exact of_q h hp fun h=>(clone_pure l h).weak (.cons (asL_weak h0) .nil)
  ·cases h
end Go.Proofs.YtabicbgeoiilmaaGreat.Stk
end
section
namespace Go.Proofs.YtabicbgeoiilmaaGreat.Stk
open Go.Vm
def roundAt (l:List Stk) (e p:Int):Nat->Int->Bool
 |m,a=>if a≠e/\a≠0 then match m with
  |0=>false
  |m+1=>roundAt l e p m (par l p a)
  else decide (a=e)
theorem roundGo_at (l:List Stk) (e p:Int): ∀(m:Nat) (a:Int),roundGo l e p m a=roundAt l e p m (par l p a)
 |0,a=>by
  unfold roundGo roundAt;split
  ·rename_i h;simp [h.1]
  ·rfl
 |m+1,a=>by
  unfold roundGo roundAt;split
  ·exact roundGo_at l e p m _
  ·rfl
theorem aboveGo_mono (l:List Stk) (p:Int): ∀(n:Nat) (acc:List Int) (a x:Int),x∈acc->x∈aboveGo l p n acc a
 |0,acc,a,x,h=>h
 |n+1,acc,a,x,h=>by
  unfold aboveGo;split
  ·exact aboveGo_mono l p n _ _ _ (List.mem_append_left _ h)
  ·exact h
theorem roundAt_in (l:List Stk) (e p:Int) (he:e≠0) {acc:List Int} (hn:e∉acc) (hc: ∀x∈acc,par l p x∈acc): ∀(m:Nat) (a:Int),a∈acc->roundAt l e p m a=false
 |0,a,ha=>by
  have hae:a≠e:=fun h=>hn (h▸ha);unfold roundAt;split
  ·rfl
  ·simp [hae]
 |m+1,a,ha=>by
  have hae:a≠e:=fun h=>hn (h▸ha);unfold roundAt;split
  ·exact roundAt_in l e p he hn hc m _ (hc a ha)
  ·simp [hae]
theorem above_round (l:List Stk) (e p:Int) (he:e≠0): ∀(m:Nat) (acc:List Int) (a:Int),acc.Nodup->(∀x∈acc,x∈l.map (·.2.1))->(a≠0->a∈l.map (·.2.1))->e∉acc->(∀x∈acc,par l p x∈acc∨par l p x=a)->
 m+acc.length=l.length->(aboveGo l p (m+1) acc a).contains e=roundAt l e p m a:=by
 intro m;induction m with
 |zero=>
  intro acc a h1 h2 h3 h4 h5 h6;unfold aboveGo roundAt;by_cases ha0:a=0
  ·subst ha0;simp [h4,he.symm]
  ·by_cases hac:a∈acc
   ·have hae:a≠e:=fun h=>h4 (h▸hac);simp [hac,hae,ha0,h4]
   ·exfalso;have hn:(a::acc).Nodup:=List.nodup_cons.2 ⟨hac,h1⟩;have:=nodup_sub hn (b:=l.map (·.2.1)) (fun x hx=>by
     rcases List.mem_cons.1 hx with rfl|hx
     ·exact h3 ha0
     ·exact h2 x hx)
    simp only [List.length_cons,List.length_map] at this;omega
 |succ m ih=>
  intro acc a h1 h2 h3 h4 h5 h6;by_cases ha0:a=0
  ·subst ha0;unfold aboveGo roundAt;simp [h4,he.symm]
  by_cases hac:a∈acc
  ·rw [roundAt_in l e p he h4 (fun x hx=>by rcases h5 x hx with h|h;exact h;exact h▸hac) _ a hac];unfold aboveGo;simp [hac,h4]
  by_cases hae:a=e
  ·subst hae;unfold aboveGo;rw [if_pos ⟨ha0,hac⟩];have hm:=aboveGo_mono l p (m+1) (acc++[a]) (par l p a) a (by simp);unfold roundAt;simp [hm]
  ·have hn:(acc++[a]).Nodup:=List.nodup_append.2 ⟨h1,by simp,fun x hx y hy=>by
    simp only [List.mem_singleton] at hy;subst hy;intro e;exact hac (e▸hx)⟩
   unfold aboveGo roundAt;rw [if_pos ⟨ha0,hac⟩,if_pos ⟨hae,ha0⟩];refine ih (acc++[a]) (par l p a) hn (fun x hx=> ?_) par_mem (fun hx=> ?_) (fun x hx=> ?_) (by simp;omega)
   ·rcases List.mem_append.1 hx with hx|hx
    ·exact h2 x hx
    ·simp only [List.mem_singleton] at hx;subst hx;exact h3 ha0
   ·rcases List.mem_append.1 hx with hx|hx
    ·exact h4 hx
    ·simp only [List.mem_singleton] at hx;exact hae hx.symm
   ·rcases List.mem_append.1 hx with hx|hx
    ·rcases h5 x hx with h|h
     ·exact .inl (List.mem_append_left _ h)
     ·exact .inl (by rw [h];simp)
    ·simp only [List.mem_singleton] at hx;subst hx;exact .inr rfl
theorem circle_eq (l:List Stk) (e p:Int) (he:e≠0):(aboveF l e p).contains e=roundF l e p:=by
 unfold roundF aboveF;rw [roundGo_at];exact above_round l e p he l.length [] (par l p e) List.nodup_nil (fun x hx=>by simp at hx) par_mem (by simp) (fun x hx=>by simp at hx) (by simp)
def lastS (l:List Stk):Stk:=l.getLastD (0,0,0,0)
def circ (l:List Stk) (e:Int):Bool:=(List.range 24).any fun p=>roundF l e p
def lastF (l:List Stk) (n:Int):Int:=
 if (lastS l).1<1∨n<(lastS l).1∨(lastS l).2.1<0∨n<(lastS l).2.1 then 20
 else if (lastS l).2.2.1<0∨10000<(lastS l).2.2.1∨((lastS l).2.1=0/\(lastS l).2.2.1≠10000) then 12
 else if (lastS l).2.2.2<0∨24<=(lastS l).2.2.2 then 22
 else if circ l (lastS l).1 then 26 else 0
theorem lastS_at {l:List Stk} (h:0<l.length):l[l.length-1]? =some (lastS l):=by
 unfold lastS;rw [List.getLastD_eq_getLast?,List.getLast?_eq_getElem?];have:l.length-1<l.length:=by omega
 rw [List.getElem?_eq_getElem this];rfl
def Inv23 (l:List Stk) (k:Int):Prop:=0<=k/\k<=24/\∀j:Nat,j<k.toNat->roundF l (lastS l).1 j=false
noncomputable def env_last (l:List Stk) (_n:Int):Env where
 P:=Tryz.prog
 ty:=tys
 specs:=specsOf [sp_round]
 heads:=fun
  |9=>some {slots:=[(62, .int .i64)],boxes:=[],keep:=[5],inv:=fun _ (x:Int×Unit)=>Inv23 l x.1,measure:=fun _ (x:Int×Unit)=>(24-x.1).toNat}
  |_=>none
def g_last_vc (l:List Stk) (n:Int):Prop:=
 (-9223372036854775808<=(↑l.length:Int)-(1:Int)/\(↑l.length:Int)-(1:Int)<=9223372036854775807)/\(0<=(↑l.length:Int)-(1:Int)/\(↑l.length:Int)-(1:Int)<(↑l.length:Int))/\∀(x:Int×Int×Int×Int),l[((↑l.length:Int)-(1:Int)).toNat]? =some x->(decide (x.1<(1:Int))=false->(decide (n<x.1)=false->(decide (x.2.1<(0:Int))=false->(decide (n<x.2.1)=true->((20:Int),())=(lastF l n,()))/\(decide (n<x.2.1)=false->(decide (x.2.2.1<(0:Int))=false->(decide ((10000:Int)<x.2.2.1)=false->(decide (x.2.1=(0:Int))=true->((!decide (x.2.2.1=(10000:Int)))=true->((12:Int),())=(lastF l n,()))/\((!decide (x.2.2.1=(10000:Int)))=false->(decide (x.2.2.2<(0:Int))=false->(decide ((24:Int)<=x.2.2.2)=true->((22:Int),())=(lastF l n,()))/\(decide ((24:Int)<=x.2.2.2)=false->((some (Obj.box [V.int IntKind.i64 x.1,V.int IntKind.i64 x.2.1,V.int IntKind.i64 x.2.2.1,V.int IntKind.i64 x.2.2.2])=some (Obj.box [V.int IntKind.i64 x.1,V.int IntKind.i64 x.2.1,V.int IntKind.i64 x.2.2.1,V.int IntKind.i64 x.2.2.2])/\True)/\Inv23 l (0:Int))/\∀(x_1:Int×Unit),Inv23 l x_1.1->(decide (x_1.1<(24:Int))=true->l.length<=(1000000000:Nat)/\(roundF l x.1 x_1.1=true->((26:Int),())=(lastF l n,()))/\(roundF l x.1 x_1.1=false->(-9223372036854775808<=x_1.1+1/\x_1.1+1<=9223372036854775807)/\(some (Obj.box [V.int IntKind.i64 x.1,V.int IntKind.i64 x.2.1,V.int IntKind.i64 x.2.2.1,V.int IntKind.i64 x.2.2.2])=some (Obj.box [V.int IntKind.i64 x.1,V.int IntKind.i64 x.2.1,V.int IntKind.i64 x.2.2.1,V.int IntKind.i64 x.2.2.2])/\True)/\Inv23 l (x_1.1+1)/\((24:Int)-(x_1.1+1)).toNat<((24:Int)-x_1.1).toNat))/\(decide (x_1.1<(24:Int))=false->((0:Int),())=(lastF l n,()))))/\(decide (x.2.2.2<(0:Int))= !false->((22:Int),())=(lastF l n,()))))/\(decide (x.2.1=(0:Int))= !true->(decide (x.2.2.2<(0:Int))=false->(decide ((24:Int)<=x.2.2.2)=true->((22:Int),())=(lastF l n,()))/\(decide ((24:Int)<=x.2.2.2)=false->((some (Obj.box [V.int IntKind.i64 x.1,V.int IntKind.i64 x.2.1,V.int IntKind.i64 x.2.2.1,V.int IntKind.i64 x.2.2.2])=some (Obj.box [V.int IntKind.i64 x.1,V.int IntKind.i64 x.2.1,V.int IntKind.i64 x.2.2.1,V.int IntKind.i64 x.2.2.2])/\True)/\Inv23 l (0:Int))/\∀(x_1:Int×Unit),Inv23 l x_1.1->(decide (x_1.1<(24:Int))=true->l.length<=(1000000000:Nat)/\(roundF l x.1 x_1.1=true->((26:Int),())=(lastF l n,()))/\(roundF l x.1 x_1.1=false->(-9223372036854775808<=x_1.1+1/\x_1.1+1<=9223372036854775807)/\(some (Obj.box [V.int IntKind.i64 x.1,V.int IntKind.i64 x.2.1,V.int IntKind.i64 x.2.2.1,V.int IntKind.i64 x.2.2.2])=some (Obj.box [V.int IntKind.i64 x.1,V.int IntKind.i64 x.2.1,V.int IntKind.i64 x.2.2.1,V.int IntKind.i64 x.2.2.2])/\True)/\Inv23 l (x_1.1+1)/\((24:Int)-(x_1.1+1)).toNat<((24:Int)-x_1.1).toNat))/\(decide (x_1.1<(24:Int))=false->((0:Int),())=(lastF l n,()))))/\(decide (x.2.2.2<(0:Int))= !false->((22:Int),())=(lastF l n,()))))/\(decide ((10000:Int)<x.2.2.1)= !false->((12:Int),())=(lastF l n,())))/\(decide (x.2.2.1<(0:Int))= !false->((12:Int),())=(lastF l n,()))))/\(decide (x.2.1<(0:Int))= !false->((20:Int),())=(lastF l n,())))/\(decide (n<x.1)= !false->((20:Int),())=(lastF l n,())))/\(decide (x.1<(1:Int))= !false->((20:Int),())=(lastF l n,()))
theorem g_last_eq (l:List Stk) (n:Int):Cond (env_last l n) Tryz.f116 [.list .tmp STy l, .int .i64 n] [.int .i64] (lastF l n,())=g_last_vc l n:=by kernel_rfl
theorem inv23_b {l:List Stk} {k:Int} (h:Inv23 l k):0<=k/\k<=24:=⟨h.1,h.2.1⟩
theorem inv23_0 (l:List Stk):Inv23 l 0:=⟨by omega,by omega,fun j hj=>by simp at hj⟩
theorem inv23_s {l:List Stk} {k:Int} (h:Inv23 l k) (hk:k<24) (hr:roundF l (lastS l).1 k=false):Inv23 l (k+1):=by
 obtain ⟨h1,h2,h3⟩:=h;refine ⟨by omega,by omega,fun j hj=> ?_⟩;by_cases e:j<k.toNat
 ·exact h3 j e
 ·have:(j:Int)=k:=by omega
  rw [this];exact hr
theorem circ_yes {l:List Stk} {k:Int} (h:Inv23 l k) (hk:k<24) (hr:roundF l (lastS l).1 k=true):circ l (lastS l).1=true:=by
 obtain ⟨h1,h2,h3⟩:=h;refine List.any_eq_true.2 ⟨k.toNat,List.mem_range.2 (by omega), ?_⟩;rw [show ((k.toNat:Nat):Int)=k by omega];exact hr
theorem circ_no {l:List Stk} {k:Int} (h:Inv23 l k) (hk: ¬k<24):circ l (lastS l).1=false:=by
 obtain ⟨h1,h2,h3⟩:=h;refine List.any_eq_false.2 (fun j hj=> ?_);rw [h3 j (by have:=List.mem_range.1 hj;omega)];simp
theorem g_last_ok (l : List Stk) (n : Int) (h : 0 < l.length /\ l.length <= 1000000000) : g_last_vc l n := by
  unfold g_last_vc
  obtain ⟨ha, hb⟩ := h
  refine ⟨by omega, by omega, fun x hx => ?_⟩
  obtain rfl : x = lastS l := by
    rw [show ((l.length : Int) - 1).toNat = l.length - 1 by omega, lastS_at ha] at hx
    exact (Option.some.inj hx).symm
  simp only [decide_eq_true_eq, decide_eq_false_iff_not, Bool.not_true, Bool.not_false, Bool.not_eq_true', Bool.not_eq_false', true_and, and_true]
  repeat' (first | (with_reducible apply And.intro) | intro _)
  all_goals first
    | exact hb
    | exact inv23_0 l
    | exact inv23_s ‹_› ‹_› ‹_›
    | (have := inv23_b ‹Inv23 _ _›; omega)
    | (have hc := circ_yes ‹Inv23 _ _› ‹_› ‹_›
       refine congrArg (·, ()) ?_
       unfold lastF
       rw [hc]
       simp only [if_true]
       repeat' split
       all_goals first | rfl | (exfalso; omega))
    | (have hc := circ_no ‹Inv23 _ _› ‹_›
       refine congrArg (·, ()) ?_
       unfold lastF
       rw [hc]
       simp only [Bool.false_eq_true, if_false]
       repeat' split
       all_goals first | rfl | (exfalso; omega))
    | (refine congrArg (·, ()) ?_
       unfold lastF
       repeat' split
       all_goals first | rfl | (exfalso; omega))
set_option maxRecDepth 20000
theorem last_pure (l:List Stk) (n:Int) (h:0<l.length/\l.length<=1000000000):Pure Tryz.prog 116 [.list .tmp STy l, .int .i64 n] (.int .i64 (lastF l n)):=
 by have k:=Pure.of_cond (g_last_eq l n) (g_last_ok l n h) (specs_ok rfl [sp_round] [] rfl rfl) mixed Tryz.func116;exact k
noncomputable def q_last (l:List Stk) (n:Int):Prop×V:=(0<l.length/\l.length<=1000000000,(.int .i64 (lastF l n)))
noncomputable def sp_last:FSpec Tryz.prog where
 f:=116
 run:=fun
  |[v0, .int .i64 n]=>(asL STy v0:Option (List Stk)).bind fun l=>some (q_last l n)
  |_=>none
 ok:=fun args pre r h hp=>by
  split at h
  ·rename_i v0 n;obtain ⟨l,h0,h⟩:=Option.bind_eq_some_iff.1 h;exact of_q h hp fun h=>(last_pure l n h).weak (.cons (asL_weak h0) (.cons (.refl _) .nil))
  ·cases h
noncomputable def env_refLast (l:List Stk) (_n:Int):Env where
 P:=Tryz.prog
 ty:=tys
 specs:=specsOf [sp_above,sp_has]
 frz:=fun|67=>true|_=>false
 heads:=fun
  |9=>some {slots:=[(6, .int .i64)],boxes:=[],keep:=[5],inv:=fun _ (x:Int×Unit)=>Inv23 l x.1,measure:=fun _ (x:Int×Unit)=>(24-x.1).toNat}
  |_=>none
def g_refLast_vc (l:List Stk) (n:Int):Prop:=
 (-9223372036854775808<=(↑l.length:Int)-(1:Int)/\(↑l.length:Int)-(1:Int)<=9223372036854775807)/\(0<=(↑l.length:Int)-(1:Int)/\(↑l.length:Int)-(1:Int)<(↑l.length:Int))/\∀(x:Int×Int×Int×Int),l[((↑l.length:Int)-(1:Int)).toNat]? =some x->(decide (x.1<(1:Int))=false->(decide (n<x.1)=false->(decide (x.2.1<(0:Int))=false->(decide (n<x.2.1)=true->((20:Int),())=(lastF l n,()))/\(decide (n<x.2.1)=false->(decide (x.2.2.1<(0:Int))=false->(decide ((10000:Int)<x.2.2.1)=false->(decide (x.2.1=(0:Int))=true->((!decide (x.2.2.1=(10000:Int)))=true->((12:Int),())=(lastF l n,()))/\((!decide (x.2.2.1=(10000:Int)))=false->(decide (x.2.2.2<(0:Int))=false->(decide ((24:Int)<=x.2.2.2)=true->((22:Int),())=(lastF l n,()))/\(decide ((24:Int)<=x.2.2.2)=false->((some (Obj.box [V.int IntKind.i64 x.1,V.int IntKind.i64 x.2.1,V.int IntKind.i64 x.2.2.1,V.int IntKind.i64 x.2.2.2])=some (Obj.box [V.int IntKind.i64 x.1,V.int IntKind.i64 x.2.1,V.int IntKind.i64 x.2.2.1,V.int IntKind.i64 x.2.2.2])/\True)/\Inv23 l (0:Int))/\∀(x_1:Int×Unit),Inv23 l x_1.1->(decide (x_1.1<(24:Int))=true->l.length<=(1000000000:Nat)/\(aboveF l x.1 x_1.1).length<=(1000000000:Nat)/\((aboveF l x.1 x_1.1).contains x.1=true->((26:Int),())=(lastF l n,()))/\((aboveF l x.1 x_1.1).contains x.1=false->(-9223372036854775808<=x_1.1+1/\x_1.1+1<=9223372036854775807)/\(some (Obj.box [V.int IntKind.i64 x.1,V.int IntKind.i64 x.2.1,V.int IntKind.i64 x.2.2.1,V.int IntKind.i64 x.2.2.2])=some (Obj.box [V.int IntKind.i64 x.1,V.int IntKind.i64 x.2.1,V.int IntKind.i64 x.2.2.1,V.int IntKind.i64 x.2.2.2])/\True)/\Inv23 l (x_1.1+1)/\((24:Int)-(x_1.1+1)).toNat<((24:Int)-x_1.1).toNat))/\(decide (x_1.1<(24:Int))=false->((0:Int),())=(lastF l n,()))))/\(decide (x.2.2.2<(0:Int))= !false->((22:Int),())=(lastF l n,()))))/\(decide (x.2.1=(0:Int))= !true->(decide (x.2.2.2<(0:Int))=false->(decide ((24:Int)<=x.2.2.2)=true->((22:Int),())=(lastF l n,()))/\(decide ((24:Int)<=x.2.2.2)=false->((some (Obj.box [V.int IntKind.i64 x.1,V.int IntKind.i64 x.2.1,V.int IntKind.i64 x.2.2.1,V.int IntKind.i64 x.2.2.2])=some (Obj.box [V.int IntKind.i64 x.1,V.int IntKind.i64 x.2.1,V.int IntKind.i64 x.2.2.1,V.int IntKind.i64 x.2.2.2])/\True)/\Inv23 l (0:Int))/\∀(x_1:Int×Unit),Inv23 l x_1.1->(decide (x_1.1<(24:Int))=true->l.length<=(1000000000:Nat)/\(aboveF l x.1 x_1.1).length<=(1000000000:Nat)/\((aboveF l x.1 x_1.1).contains x.1=true->((26:Int),())=(lastF l n,()))/\((aboveF l x.1 x_1.1).contains x.1=false->(-9223372036854775808<=x_1.1+1/\x_1.1+1<=9223372036854775807)/\(some (Obj.box [V.int IntKind.i64 x.1,V.int IntKind.i64 x.2.1,V.int IntKind.i64 x.2.2.1,V.int IntKind.i64 x.2.2.2])=some (Obj.box [V.int IntKind.i64 x.1,V.int IntKind.i64 x.2.1,V.int IntKind.i64 x.2.2.1,V.int IntKind.i64 x.2.2.2])/\True)/\Inv23 l (x_1.1+1)/\((24:Int)-(x_1.1+1)).toNat<((24:Int)-x_1.1).toNat))/\(decide (x_1.1<(24:Int))=false->((0:Int),())=(lastF l n,()))))/\(decide (x.2.2.2<(0:Int))= !false->((22:Int),())=(lastF l n,()))))/\(decide ((10000:Int)<x.2.2.1)= !false->((12:Int),())=(lastF l n,())))/\(decide (x.2.2.1<(0:Int))= !false->((12:Int),())=(lastF l n,()))))/\(decide (x.2.1<(0:Int))= !false->((20:Int),())=(lastF l n,())))/\(decide (n<x.1)= !false->((20:Int),())=(lastF l n,())))/\(decide (x.1<(1:Int))= !false->((20:Int),())=(lastF l n,()))
theorem g_refLast_eq (l:List Stk) (n:Int):Cond (env_refLast l n) Tryz.f72 [.list .tmp STy l, .int .i64 n] [.int .i64] (lastF l n,())=g_refLast_vc l n:=by kernel_rfl
theorem aboveF_len (l:List Stk) (e p:Int):(aboveF l e p).length<=l.length:=by
 have key: ∀(n:Nat) (acc:List Int) (a:Int),acc.Nodup->(∀x∈acc,x∈l.map (·.2.1))->(a≠0->a∈l.map (·.2.1))->acc.length<=l.length->(aboveGo l p n acc a).length<=l.length:=by
  intro n;induction n with
  |zero=>intro acc a _ _ _ h;exact h
  |succ n ih=>
   intro acc a h1 h2 h3 h4;unfold aboveGo;split
   ·rename_i hc;have hn:(acc++[a]).Nodup:=List.nodup_append.2 ⟨h1,by simp,fun x hx y hy=>by
     simp only [List.mem_singleton] at hy;subst hy;intro e;exact hc.2 (e▸hx)⟩
    have hs: ∀x∈acc++[a],x∈l.map (·.2.1):=fun x hx=>by
     rcases List.mem_append.1 hx with hx|hx
     ·exact h2 x hx
     ·simp only [List.mem_singleton] at hx;subst hx;exact h3 hc.1
    have:=nodup_sub hn hs;exact ih _ _ hn hs par_mem (by simpa using this)
   ·exact h4
 exact key _ [] _ List.nodup_nil (fun x hx=>by simp at hx) par_mem (Nat.zero_le _)
theorem g_refLast_ok (l : List Stk) (n : Int) (h : 0 < l.length /\ l.length <= 1000000000) : g_refLast_vc l n := by
  unfold g_refLast_vc
  obtain ⟨ha, hb⟩ := h
  refine ⟨by omega, by omega, fun x hx => ?_⟩
  obtain rfl : x = lastS l := by
    rw [show ((l.length : Int) - 1).toNat = l.length - 1 by omega, lastS_at ha] at hx
    exact (Option.some.inj hx).symm
  have hal := fun p => aboveF_len l (lastS l).1 p
  by_cases he : (lastS l).1 = 0
  · simp only [he, decide_eq_true_eq, decide_eq_false_iff_not]
    refine ⟨fun hh => absurd hh (by decide), fun _ => ?_⟩
    refine congrArg (·, ()) ?_
    unfold lastF
    rw [if_pos (.inl (by omega))]
  have hce := fun p => circle_eq l (lastS l).1 p he
  simp only [hce]
  simp only [decide_eq_true_eq, decide_eq_false_iff_not, Bool.not_true, Bool.not_false, Bool.not_eq_true', Bool.not_eq_false', true_and, and_true]
  repeat' (first | (with_reducible apply And.intro) | intro _)
  all_goals first
    | exact hb
    | (have := hal ‹Int × Unit›.1; omega)
    | exact inv23_0 l
    | exact inv23_s ‹_› ‹_› ‹_›
    | (have := inv23_b ‹Inv23 _ _›; omega)
    | (have hc := circ_yes ‹Inv23 _ _› ‹_› ‹_›
       refine congrArg (·, ()) ?_
       unfold lastF
       rw [hc]
       simp only [if_true]
       repeat' split
       all_goals first | rfl | (exfalso; omega))
    | (have hc := circ_no ‹Inv23 _ _› ‹_›
       refine congrArg (·, ()) ?_
       unfold lastF
       rw [hc]
       simp only [Bool.false_eq_true, if_false]
       repeat' split
       all_goals first | rfl | (exfalso; omega))
    | (refine congrArg (·, ()) ?_
       unfold lastF
       repeat' split
       all_goals first | rfl | (exfalso; omega))
theorem refLast_pure (l:List Stk) (n:Int) (h:0<l.length/\l.length<=1000000000):Pure Tryz.prog 72 [.list .tmp STy l, .int .i64 n] (.int .i64 (lastF l n)):=
 by have k:=Pure.of_cond (g_refLast_eq l n) (g_refLast_ok l n h) (specs_ok rfl [sp_above,sp_has] [] rfl rfl) mixed Tryz.func72;exact k
noncomputable def q_refLast (l:List Stk) (n:Int):Prop×V:=(0<l.length/\l.length<=1000000000,(.int .i64 (lastF l n)))
noncomputable def sp_refLast:FSpec Tryz.prog where
 f:=72
 run:=fun
  |[v0, .int .i64 n]=>(asL STy v0:Option (List Stk)).bind fun l=>some (q_refLast l n)
  |_=>none
 ok:=fun args pre r h hp=>by
  split at h
  ·rename_i v0 n;obtain ⟨l,h0,h⟩:=Option.bind_eq_some_iff.1 h;exact of_q h hp fun h=>(refLast_pure l n h).weak (.cons (asL_weak h0) (.cons (.refl _) .nil))
  ·cases h
end Go.Proofs.YtabicbgeoiilmaaGreat.Stk
end
section
namespace Go.Proofs.YtabicbgeoiilmaaGreat.Stk
open Go.Vm
def badAt (l:List Stk) (n:Int) (i:Nat):Bool:=lastF (l.take (i+1)) n !=0
def checkF (l:List Stk) (n:Int):Int×Int:=
 if 400<l.length then (0,3) else match (List.range l.length).find? (badAt l n) with
  |some i=>((i:Int),lastF (l.take (i+1)) n)
  |none=>((l.length:Int),0)
def InvC (l:List Stk) (n:Int) (k:Int):Prop:=0<=k/\k<=l.length/\l.length<=400/\∀j:Nat,j<k.toNat->lastF (l.take (j+1)) n=0
theorem invC_b {l:List Stk} {n k:Int} (h:InvC l n k):0<=k/\k<=l.length:=⟨h.1,h.2.1⟩
theorem invC_0 {l:List Stk} {n:Int} (h:l.length<=400):InvC l n 0:=⟨by omega,by omega,h,fun j hj=>by simp at hj⟩
theorem invC_s {l:List Stk} {n k:Int} (h:InvC l n k) (hk:k<l.length) (hr:lastF (l.take (k+1).toNat) n=0):InvC l n (k+1):=by
 obtain ⟨h1,h2,h4,h3⟩:=h;refine ⟨by omega,by omega,h4,fun j hj=> ?_⟩;by_cases e:j<k.toNat
 ·exact h3 j e
 ·have:j+1=(k+1).toNat:=by omega
  rw [this];exact hr
theorem checkF_bad {l:List Stk} {n k:Int} (h:InvC l n k) (hk:k<l.length) (hr: ¬lastF (l.take (k+1).toNat) n=0):checkF l n=(k,lastF (l.take (k+1).toNat) n):=by
 obtain ⟨h1,h2,h4,h3⟩:=h;have e:k.toNat+1=(k+1).toNat:=by omega
 have:(List.range l.length).find? (badAt l n)=some k.toNat:=by
  rw [List.find?_range_eq_some];refine ⟨by simp only [badAt,bne_iff_ne,ne_eq];rw [e];exact hr,List.mem_range.2 (by omega),fun j hj=>by simp [badAt,h3 j hj]⟩
 unfold checkF;rw [if_neg (by omega),this];simp only [e];congr 1;omega
theorem checkF_good {l:List Stk} {n k:Int} (h:InvC l n k) (hk: ¬k<l.length):checkF l n=((l.length:Int),0):=by
 obtain ⟨h1,h2,h4,h3⟩:=h;have:(List.range l.length).find? (badAt l n)=none:=by
  rw [List.find?_eq_none];intro j hj;have:=List.mem_range.1 hj;simp [badAt,h3 j (by omega)]
 unfold checkF;rw [if_neg (by omega),this]
noncomputable def env_refCheck (l:List Stk) (n:Int):Env where
 P:=Tryz.prog
 ty:=tys
 specs:=specsOf [sp_refLast]
 heads:=fun
  |4=>some {slots:=[(6, .int .i64)],boxes:=[],inv:=fun _ (x:Int×Unit)=>InvC l n x.1,measure:=fun _ (x:Int×Unit)=>(l.length-x.1).toNat}
  |_=>none
def g_refCheck_vc (l:List Stk) (n:Int):Prop:=
 (decide ((400:Int)<(↑l.length:Int))=true->((0:Int),(3:Int),())=((checkF l n).1,(checkF l n).2,()))/\(decide ((400:Int)<(↑l.length:Int))=false->(True/\InvC l n (0:Int))/\∀(x:Int×Unit),InvC l n x.1->(decide (x.1<(↑l.length:Int))=true->(-9223372036854775808<=x.1+1/\x.1+1<=9223372036854775807)/\(0<=x.1+1/\x.1+1<=(↑l.length:Int))/\((0:Nat)<(List.take (x.1+1).toNat l).length/\(List.take (x.1+1).toNat l).length<=(1000000000:Nat))/\((!decide (lastF (List.take (x.1+1).toNat l) n=(0:Int)))=true->(x.1,lastF (List.take (x.1+1).toNat l) n,())=((checkF l n).1,(checkF l n).2,()))/\((!decide (lastF (List.take (x.1+1).toNat l) n=(0:Int)))=false->(-9223372036854775808<=x.1+1/\x.1+1<=9223372036854775807)/\True/\InvC l n (x.1+1)/\((↑l.length:Int)-(x.1+1)).toNat<((↑l.length:Int)-x.1).toNat))/\(decide (x.1<(↑l.length:Int))=false->((↑l.length:Int),(0:Int),())=((checkF l n).1,(checkF l n).2,())))
theorem g_refCheck_eq (l:List Stk) (n:Int):Cond (env_refCheck l n) Tryz.f29 [.list .tmp STy l, .int .i64 n] [.int .i64, .int .i64] ((checkF l n).1,(checkF l n).2,())=g_refCheck_vc l n:=by kernel_rfl
def addF (l:List Stk) (s:Stk) (n:Int):List Stk×Int:=
 if 400<=l.length then ([],3) else if lastF (l++[s]) n=0 then (l++[s],0) else ([],lastF (l++[s]) n)
noncomputable def env_add (_l:List Stk) (_a _b _c _d:Int) (_n:Int):Env where
 P:=Tryz.prog
 ty:=tys
 specs:=specsOf [sp_last,sp_clone]
def g_add_vc (l:List Stk) (a:Int) (b:Int) (c:Int) (d:Int) (n:Int):Prop:=
 (decide ((400:Int)<=(↑l.length:Int))=true->([],(3:Int),())=((addF l (a,b,c,d) n).1,(addF l (a,b,c,d) n).2,()))/\(decide ((400:Int)<=(↑l.length:Int))=false->l.length<=(1000000000:Nat)/\((l.length+(1:Nat))*(32:Nat)<=(140737488355328:Nat)/\l.length+(1:Nat)<=(4611686018427387904:Nat))/\((0:Nat)<(l++[(a,b,c,d)]).length/\(l++[(a,b,c,d)]).length<=(1000000000:Nat))/\((!decide (lastF (l++[(a,b,c,d)]) n=(0:Int)))=true->([],lastF (l++[(a,b,c,d)]) n,())=((addF l (a,b,c,d) n).1,(addF l (a,b,c,d) n).2,()))/\((!decide (lastF (l++[(a,b,c,d)]) n=(0:Int)))=false->(l++[(a,b,c,d)],(0:Int),())=((addF l (a,b,c,d) n).1,(addF l (a,b,c,d) n).2,())))
theorem g_add_eq (l:List Stk) (a b c d:Int) (n:Int):Cond (env_add l a b c d n) Tryz.f142 [.list .tmp STy l, .agg [.int .i64 a, .int .i64 b, .int .i64 c, .int .i64 d], .int .i64 n] [.list .part STy, .int .i64] ((addF l (a,b,c,d) n).1,(addF l (a,b,c,d) n).2,())=g_add_vc l a b c d n:=by kernel_rfl
noncomputable def env_refAdd (_l:List Stk) (_a _b _c _d:Int) (_n:Int):Env where
 P:=Tryz.prog
 ty:=tys
 specs:=specsOf [sp_refLast]
def g_refAdd_vc (l:List Stk) (a:Int) (b:Int) (c:Int) (d:Int) (n:Int):Prop:=
 (decide ((400:Int)<=(↑l.length:Int))=true->([],(3:Int),())=((addF l (a,b,c,d) n).1,(addF l (a,b,c,d) n).2,()))/\(decide ((400:Int)<=(↑l.length:Int))=false->(((0:Nat)+l.length)*(32:Nat)<=(140737488355328:Nat)/\(0:Nat)+l.length<=(4611686018427387904:Nat)/\((0:Nat)<l.length∨(0:Nat)=(0:Nat)))/\((l.length+(1:Nat))*(32:Nat)<=(140737488355328:Nat)/\l.length+(1:Nat)<=(4611686018427387904:Nat))/\((0:Nat)<(l++[(a,b,c,d)]).length/\(l++[(a,b,c,d)]).length<=(1000000000:Nat))/\((!decide (lastF (l++[(a,b,c,d)]) n=(0:Int)))=true->([],lastF (l++[(a,b,c,d)]) n,())=((addF l (a,b,c,d) n).1,(addF l (a,b,c,d) n).2,()))/\((!decide (lastF (l++[(a,b,c,d)]) n=(0:Int)))=false->(l++[(a,b,c,d)],(0:Int),())=((addF l (a,b,c,d) n).1,(addF l (a,b,c,d) n).2,())))
theorem g_refAdd_eq (l:List Stk) (a b c d:Int) (n:Int):Cond (env_refAdd l a b c d n) Tryz.f97 [.list .tmp STy l, .agg [.int .i64 a, .int .i64 b, .int .i64 c, .int .i64 d], .int .i64 n] [.list .part STy, .int .i64] ((addF l (a,b,c,d) n).1,(addF l (a,b,c,d) n).2,())=g_refAdd_vc l a b c d n:=by kernel_rfl
set_option maxRecDepth 20000
theorem g_refCheck_ok (l:List Stk) (n:Int) (h:l.length<=1000000000):g_refCheck_vc l n:=by
 unfold g_refCheck_vc;simp only [decide_eq_true_eq,decide_eq_false_iff_not,Bool.not_eq_true',Bool.not_eq_false',true_and,List.length_take];refine ⟨fun hc=> ?_,fun hc=>⟨invC_0 (by omega), ?_⟩⟩
 ·rw [checkF,if_pos (by omega)]
 rintro ⟨k,_⟩ hI;have hb:=invC_b hI;simp only at hI hb⊢;refine ⟨fun hk=>⟨by omega,by omega,by omega,fun hr=> ?_,fun hr=>⟨by omega,invC_s hI hk hr,by omega⟩⟩,fun hk=> ?_⟩
 ·rw [checkF_bad hI hk hr]
 ·rw [checkF_good hI hk]
theorem refCheck_pure (l:List Stk) (n:Int) (h:l.length<=1000000000):Pure Tryz.prog 29 [.list .tmp STy l, .int .i64 n] (.tuple [.int .i64 (checkF l n).1, .int .i64 (checkF l n).2]):=
 by have k:=Pure.of_cond (g_refCheck_eq l n) (g_refCheck_ok l n h) (specs_ok rfl [sp_refLast] [] rfl rfl) mixed Tryz.func29;exact k
noncomputable def q_refCheck (l:List Stk) (n:Int):Prop×V:=(l.length<=1000000000,(.tuple [.int .i64 (checkF l n).1, .int .i64 (checkF l n).2]))
noncomputable def sp_refCheck:FSpec Tryz.prog where
 f:=29
 run:=fun
  |[v0, .int .i64 n]=>(asL STy v0:Option (List Stk)).bind fun l=>some (q_refCheck l n)
  |_=>none
 ok:=fun args pre r h hp=>by
  split at h
  ·rename_i v0 n;obtain ⟨l,h0,h⟩:=Option.bind_eq_some_iff.1 h;exact of_q h hp fun h=>(refCheck_pure l n h).weak (.cons (asL_weak h0) (.cons (.refl _) .nil))
  ·cases h
theorem g_add_ok (l:List Stk) (a b c d:Int) (n:Int) (h:l.length<=1000000000):g_add_vc l a b c d n:=by
 unfold g_add_vc;simp only [decide_eq_true_eq,decide_eq_false_iff_not,Bool.not_eq_true',Bool.not_eq_false',List.length_append,List.length_singleton];refine ⟨fun hc=> ?_,fun hc=>⟨h,by omega,by omega,fun hr=> ?_,fun hr=> ?_⟩⟩
 ·rw [addF,if_pos (by omega)]
 ·rw [addF,if_neg (by omega),if_neg hr]
 ·rw [addF,if_neg (by omega),if_pos hr]
theorem add_pure (l:List Stk) (a b c d:Int) (n:Int) (h:l.length<=1000000000):Pure Tryz.prog 142 [.list .tmp STy l, .agg [.int .i64 a, .int .i64 b, .int .i64 c, .int .i64 d], .int .i64 n] (.tuple [.list .part STy (addF l (a,b,c,d) n).1, .int .i64 (addF l (a,b,c,d) n).2]):=
 by have k:=Pure.of_cond (g_add_eq l a b c d n) (g_add_ok l a b c d n h) (specs_ok rfl [sp_last,sp_clone] [] rfl rfl) mixed Tryz.func142;exact k
noncomputable def q_add (l:List Stk) (a b c d:Int) (n:Int):Prop×V:=(l.length<=1000000000,(.tuple [.list .part STy (addF l (a,b,c,d) n).1, .int .i64 (addF l (a,b,c,d) n).2]))
noncomputable def sp_add:FSpec Tryz.prog where
 f:=142
 run:=fun
  |[v0, .agg [.int .i64 a, .int .i64 b, .int .i64 c, .int .i64 d], .int .i64 n]=>(asL STy v0:Option (List Stk)).bind fun l=>some (q_add l a b c d n)
  |_=>none
 ok:=fun args pre r h hp=>by
  split at h
  ·rename_i v0 a b c d n;obtain ⟨l,h0,h⟩:=Option.bind_eq_some_iff.1 h;exact of_q h hp fun h=>(add_pure l a b c d n h).weak (.cons (asL_weak h0) (.cons (.refl _) (.cons (.refl _) .nil)))
  ·cases h
theorem g_refAdd_ok (l:List Stk) (a b c d:Int) (n:Int) (h:l.length<=1000000000):g_refAdd_vc l a b c d n:=by
 unfold g_refAdd_vc;simp only [decide_eq_true_eq,decide_eq_false_iff_not,Bool.not_eq_true',Bool.not_eq_false',List.length_append,List.length_singleton];refine ⟨fun hc=> ?_,fun hc=>⟨⟨by omega,by omega, .inr trivial⟩,by omega,by omega,fun hr=> ?_,fun hr=> ?_⟩⟩
 ·rw [addF,if_pos (by omega)]
 ·rw [addF,if_neg (by omega),if_neg hr]
 ·rw [addF,if_neg (by omega),if_pos hr]
theorem refAdd_pure (l:List Stk) (a b c d:Int) (n:Int) (h:l.length<=1000000000):Pure Tryz.prog 97 [.list .tmp STy l, .agg [.int .i64 a, .int .i64 b, .int .i64 c, .int .i64 d], .int .i64 n] (.tuple [.list .part STy (addF l (a,b,c,d) n).1, .int .i64 (addF l (a,b,c,d) n).2]):=
 by have k:=Pure.of_cond (g_refAdd_eq l a b c d n) (g_refAdd_ok l a b c d n h) (specs_ok rfl [sp_refLast] [] rfl rfl) mixed Tryz.func97;exact k
noncomputable def q_refAdd (l:List Stk) (a b c d:Int) (n:Int):Prop×V:=(l.length<=1000000000,(.tuple [.list .part STy (addF l (a,b,c,d) n).1, .int .i64 (addF l (a,b,c,d) n).2]))
noncomputable def sp_refAdd:FSpec Tryz.prog where
 f:=97
 run:=fun
  |[v0, .agg [.int .i64 a, .int .i64 b, .int .i64 c, .int .i64 d], .int .i64 n]=>(asL STy v0:Option (List Stk)).bind fun l=>some (q_refAdd l a b c d n)
  |_=>none
 ok:=fun args pre r h hp=>by
  split at h
  ·rename_i v0 a b c d n;obtain ⟨l,h0,h⟩:=Option.bind_eq_some_iff.1 h;exact of_q h hp fun h=>(refAdd_pure l a b c d n h).weak (.cons (asL_weak h0) (.cons (.refl _) (.cons (.refl _) .nil)))
  ·cases h
end Go.Proofs.YtabicbgeoiilmaaGreat.Stk
end
