/-
  account: whether accounts may be.
-/
import Derived.Test.YtabicbgeoiilmaaGreatSeat
import Derived.Test.YtabicbgeoiilmaaGreatLck1
section
namespace Go.Proofs.YtabicbgeoiilmaaGreat.Stk
open Go.Vm
abbrev I:Ty:= .int .i64
abbrev STy:Ty:= .pair I (.pair I (.pair I I))
abbrev Stk:Type:=Int×Int×Int×Int
theorem mixed:Tryz.prog.follows .mixedOrders=true:=rfl
set_option maxRecDepth 20000
noncomputable def env_inAt (_a _b _c _d _e _p:Int):Env where
 P:=Tryz.prog
def g_inAt_vc (a:Int) (b:Int) (c:Int) (d:Int) (e:Int) (p:Int):Prop:=
 (decide (a=e)=true->(decide (d<=p),())=(decide (a=e)&&decide (d<=p),()))/\(decide (a=e)= !true->(false,())=(decide (a=e)&&decide (d<=p),()))
theorem g_inAt_eq (a b c d e p:Int):Cond (env_inAt a b c d e p) Tryz.f189 [.agg [.int .i64 a, .int .i64 b, .int .i64 c, .int .i64 d], .fptr [.int .i64 e], .fptr [.int .i64 p]] [.bool] (decide (a=e)&&decide (d<=p),())=g_inAt_vc a b c d e p:=by kernel_rfl
theorem g_inAt_ok (a b c d e p:Int):g_inAt_vc a b c d e p:=by
 refine ⟨fun h=>by simp [h],fun h=> ?_⟩;have:decide (a=e)=false:=by simpa using h
 simp [this]
theorem inAt_pure (a b c d e p:Int):Pure Tryz.prog 189 [.agg [.int .i64 a, .int .i64 b, .int .i64 c, .int .i64 d], .fptr [.int .i64 e], .fptr [.int .i64 p]] (.bool (decide (a=e)&&decide (d<=p))):=
 by have k:=Pure.of_cond (g_inAt_eq a b c d e p) (g_inAt_ok a b c d e p) (specs_ok rfl [] [] rfl rfl) mixed Tryz.func189;exact k
noncomputable def q_inAt (a b c d e p:Int):Prop×V:=(True,(.bool (decide (a=e)&&decide (d<=p))))
noncomputable def sp_inAt:FSpec Tryz.prog where
 f:=189
 run:=fun
  |[.agg [.int .i64 a, .int .i64 b, .int .i64 c, .int .i64 d], .fptr [.int .i64 e], .fptr [.int .i64 p]]=>some (q_inAt a b c d e p)
  |_=>none
 ok:=fun args pre r h hp=>by
  split at h
  ·rename_i a b c d e p;exact of_q h hp fun h=>(inAt_pure a b c d e p).weak (.cons (.refl _) (.cons (.refl _) (.cons (.refl _) .nil)))
  ·cases h
def take (e p:Int) (b:Option Stk) (s:Stk):Option Stk:=
 if s.1=e/\s.2.2.2<=p then match b with
  |none=>some s
  |some q=>if q.2.2.2<=s.2.2.2 then some s else b
 else b
def best (l:List Stk) (e p:Int):Option Stk:=l.foldl (take e p) none
def atF (l:List Stk) (e p:Int):Int×Int:=match best l e p with
 |none=>(0,10000)
 |some s=>(s.2.1,s.2.2.1)
theorem best_take {l:List Stk} {e p:Int} {i:Nat} {x:Stk} (h:l[i]? =some x):best (l.take (i+1)) e p=take e p (best (l.take i) e p) x:=by
 unfold best;rw [List.take_add_one,h];simp
def Inv14 (l:List Stk) (e p:Int) (i f:Int):Prop:=
 0<=i/\i<=l.length/\((f= -1/\best (l.take i.toNat) e p=none)∨(0<=f/\f<l.length/\∃s,l[f.toNat]? =some s/\best (l.take i.toNat) e p=some s))
noncomputable def env_at_ (l:List Stk) (e p:Int):Env where
 P:=Tryz.prog
 ty:=fun|24=>some STy|_=>none
 frz:=fun|22=>true|_=>false
 specs:=specsOf [sp_inAt]
 heads:=fun
  |4=>some {slots:=[(15, .int .i64),(8, .int .i64)],boxes:=[],keep:=[4,5],inv:=fun _ (x:Int×Int×Unit)=>Inv14 l e p x.1 x.2.1,measure:=fun _ (x:Int×Int×Unit)=>(l.length-x.1).toNat}
  |_=>none
def g_at__vc (l:List Stk) (e:Int) (p:Int):Prop:=
 ((some (Obj.box [V.int IntKind.i64 e])=some (Obj.box [V.int IntKind.i64 e])/\some (Obj.box [V.int IntKind.i64 p])=some (Obj.box [V.int IntKind.i64 p])/\True)/\Inv14 l e p (0:Int) (-1:Int))/\∀(x:Int×Int×Unit),Inv14 l e p x.1 x.2.1->(decide (x.1<(↑l.length:Int))=true->(0<=x.1/\x.1<(↑l.length:Int))/\∀(x_1:Int×Int×Int×Int),l[x.1.toNat]? =some x_1->True/\((decide (x_1.1=e)&&decide (x_1.2.2.2<=p))=true->(decide (x.2.1<(0:Int))=false->(0<=x.2.1/\x.2.1<(↑l.length:Int))/\∀(x_2:Int×Int×Int×Int),l[x.2.1.toNat]? =some x_2->(decide (x_2.2.2.2<=x_1.2.2.2)=true->(-9223372036854775808<=x.1+1/\x.1+1<=9223372036854775807)/\(some (Obj.box [V.int IntKind.i64 e])=some (Obj.box [V.int IntKind.i64 e])/\some (Obj.box [V.int IntKind.i64 p])=some (Obj.box [V.int IntKind.i64 p])/\True)/\Inv14 l e p (x.1+1) x.1/\((↑l.length:Int)-(x.1+1)).toNat<((↑l.length:Int)-x.1).toNat)/\(decide (x_2.2.2.2<=x_1.2.2.2)=false->(-9223372036854775808<=x.1+1/\x.1+1<=9223372036854775807)/\(some (Obj.box [V.int IntKind.i64 e])=some (Obj.box [V.int IntKind.i64 e])/\some (Obj.box [V.int IntKind.i64 p])=some (Obj.box [V.int IntKind.i64 p])/\True)/\Inv14 l e p (x.1+1) x.2.1/\((↑l.length:Int)-(x.1+1)).toNat<((↑l.length:Int)-x.1).toNat))/\(decide (x.2.1<(0:Int))= !false->(-9223372036854775808<=x.1+1/\x.1+1<=9223372036854775807)/\(some (Obj.box [V.int IntKind.i64 e])=some (Obj.box [V.int IntKind.i64 e])/\some (Obj.box [V.int IntKind.i64 p])=some (Obj.box [V.int IntKind.i64 p])/\True)/\Inv14 l e p (x.1+1) x.1/\((↑l.length:Int)-(x.1+1)).toNat<((↑l.length:Int)-x.1).toNat))/\((decide (x_1.1=e)&&decide (x_1.2.2.2<=p))= !true->(-9223372036854775808<=x.1+1/\x.1+1<=9223372036854775807)/\(some (Obj.box [V.int IntKind.i64 e])=some (Obj.box [V.int IntKind.i64 e])/\some (Obj.box [V.int IntKind.i64 p])=some (Obj.box [V.int IntKind.i64 p])/\True)/\Inv14 l e p (x.1+1) x.2.1/\((↑l.length:Int)-(x.1+1)).toNat<((↑l.length:Int)-x.1).toNat))/\(decide (x.1<(↑l.length:Int))=false->(decide (x.2.1<(0:Int))=true->((0:Int),(10000:Int),())=((atF l e p).1,(atF l e p).2,()))/\(decide (x.2.1<(0:Int))=false->(0<=x.2.1/\x.2.1<(↑l.length:Int))/\∀(x_1:Int×Int×Int×Int),l[x.2.1.toNat]? =some x_1->(0<=x.2.1/\x.2.1<(↑l.length:Int))/\∀(x_2:Int×Int×Int×Int),l[x.2.1.toNat]? =some x_2->(x_1.2.1,x_2.2.2.1,())=((atF l e p).1,(atF l e p).2,())))
theorem g_at__eq (l:List Stk) (e p:Int):Cond (env_at_ l e p) Tryz.f176 [.list .tmp STy l, .int .i64 e, .int .i64 p] [.int .i64, .int .i64] ((atF l e p).1,(atF l e p).2,())=g_at__vc l e p:=by kernel_rfl
theorem toNat_next {i:Int} (h:0<=i):(i+1).toNat=i.toNat+1:=by omega
theorem inv14_skip {l:List Stk} {e p i f:Int} {x:Stk} (hI:Inv14 l e p i f) (hi:i<l.length) (hx:l[i.toNat]? =some x) (hk:take e p (best (l.take i.toNat) e p) x=best (l.take i.toNat) e p):Inv14 l e p (i+1) f:=by
 obtain ⟨h1,h2,h3⟩:=hI;have hn:best (l.take (i+1).toNat) e p=best (l.take i.toNat) e p:=by rw [toNat_next h1,best_take hx,hk]
 exact ⟨by omega,by omega,by rw [hn];exact h3⟩
theorem inv14_take {l:List Stk} {e p i f:Int} {x:Stk} (hI:Inv14 l e p i f) (hi:i<l.length) (hx:l[i.toNat]? =some x) (hk:take e p (best (l.take i.toNat) e p) x=some x):Inv14 l e p (i+1) i:=by
 obtain ⟨h1,h2,h3⟩:=hI;have hn:best (l.take (i+1).toNat) e p=some x:=by rw [toNat_next h1,best_take hx,hk]
 exact ⟨by omega,by omega, .inr ⟨h1,hi,x,hx,hn⟩⟩
theorem g_at__ok (l:List Stk) (e p:Int) (h:l.length<=1000000000):g_at__vc l e p:=by
 unfold g_at__vc;refine ⟨⟨⟨rfl,rfl,trivial⟩,by omega,by omega, .inl ⟨rfl,rfl⟩⟩, ?_⟩;rintro ⟨i,f,_⟩ hI;have hI0:=hI;obtain ⟨h1,h2,h3⟩:=hI0;simp only [decide_eq_true_eq,decide_eq_false_iff_not,true_and,and_self] at*;refine ⟨fun hi=>⟨⟨h1,hi⟩,fun x hx=>⟨fun hc=>⟨fun hf=> ?_,fun hf=> ?_⟩,fun hc=> ?_⟩⟩,fun hi=>⟨fun hf=> ?_,fun hf=> ?_⟩⟩
 ·simp only [Bool.and_eq_true,decide_eq_true_eq] at hc;rcases h3 with ⟨rfl,h3⟩|⟨h4,h5,s,hs,h3⟩
  ·omega
  ·refine ⟨⟨h4,h5⟩,fun y hy=> ?_⟩;rw [hs] at hy;cases hy;refine ⟨fun hle=>⟨by omega,inv14_take hI hi hx ?_,by omega⟩,fun hle=>⟨by omega,inv14_skip hI hi hx ?_,by omega⟩⟩
   ·rw [h3,take,if_pos hc];simp [hle]
   ·rw [h3,take,if_pos hc];simp [hle]
 ·simp only [Bool.and_eq_true,decide_eq_true_eq] at hc;have hf2:f<0:=by simpa using hf
  rcases h3 with ⟨rfl,h3⟩|⟨h4,h5,s,hs,h3⟩
  ·refine ⟨by omega,inv14_take hI hi hx ?_,by omega⟩;rw [h3];simp [take,hc]
  ·omega
 ·have hc2: ¬(x.1=e/\x.2.2.2<=p):=by
   intro hh;simp [hh.1,hh.2] at hc
  exact ⟨by omega,inv14_skip hI hi hx (by simp only [take];rw [if_neg hc2]),by omega⟩
 ·have hl:l.take i.toNat=l:=List.take_of_length_le (by omega);rw [hl] at h3;rcases h3 with ⟨rfl,h3⟩|⟨h4,h5,s,hs,h3⟩
  ·simp [atF,h3]
  ·omega
 ·have hl:l.take i.toNat=l:=List.take_of_length_le (by omega);rw [hl] at h3;rcases h3 with ⟨rfl,h3⟩|⟨h4,h5,s,hs,h3⟩
  ·omega
  ·refine ⟨⟨h4,h5⟩,fun x hx=>⟨⟨h4,h5⟩,fun y hy=> ?_⟩⟩;rw [hs] at hx hy;cases hx;cases hy;simp [atF,h3]
theorem at__pure (l:List Stk) (e p:Int) (h:l.length<=1000000000):Pure Tryz.prog 176 [.list .tmp STy l, .int .i64 e, .int .i64 p] (.tuple [.int .i64 (atF l e p).1, .int .i64 (atF l e p).2]):=
 by have k:=Pure.of_cond (g_at__eq l e p) (g_at__ok l e p h) (specs_ok rfl [sp_inAt] [] rfl rfl) mixed Tryz.func176;exact k
noncomputable def q_at_ (l:List Stk) (e p:Int):Prop×V:=(l.length<=1000000000,(.tuple [.int .i64 (atF l e p).1, .int .i64 (atF l e p).2]))
noncomputable def sp_at_:FSpec Tryz.prog where
 f:=176
 run:=fun
  |[v0, .int .i64 e, .int .i64 p]=>(asL STy v0:Option (List Stk)).bind fun l=>some (q_at_ l e p)
  |_=>none
 ok:=fun args pre r h hp=>by
  split at h
  ·rename_i v0 e p;obtain ⟨l,h0,h⟩:=Option.bind_eq_some_iff.1 h;exact of_q h hp fun h=>(at__pure l e p h).weak (.cons (asL_weak h0) (.cons (.refl _) (.cons (.refl _) .nil)))
  ·cases h
end Go.Proofs.YtabicbgeoiilmaaGreat.Stk
end
section
namespace Go.Proofs.YtabicbgeoiilmaaGreat.Eql
open Go.Vm
noncomputable def env_elin (l m:List (Int×Int×Int×Int)):Env where
 P:=Tryz.prog
 ty:=tys0
 heads:=fun|4=>some {slots:=[(13, .int .i64)],boxes:=[],inv:=fun _ (x:Int×Unit)=>0<=x.1/\x.1<=l.length/\l.take x.1.toNat=m.take x.1.toNat,measure:=fun _ (x:Int×Unit)=>(l.length-x.1).toNat}|_=>none
def g_elin_vc (l:List (Int×Int×Int×Int)) (m:List (Int×Int×Int×Int)):Prop:=
 ((!decide ((↑l.length:Int)=(↑m.length:Int)))=true->(false,())=(decide (l=m),()))/\((!decide ((↑l.length:Int)=(↑m.length:Int)))=false->(True/\0<=(0:Int)/\0<=(↑l.length:Int)/\List.take (Int.toNat (0:Int)) l=List.take (Int.toNat (0:Int)) m)/\∀(x:Int×Unit),0<=x.1/\x.1<=(↑l.length:Int)/\List.take x.1.toNat l=List.take x.1.toNat m->(decide (x.1<(↑l.length:Int))=true->(0<=x.1/\x.1<(↑l.length:Int))/\∀(x_1:Int×Int×Int×Int),l[x.1.toNat]? =some x_1->(0<=x.1/\x.1<(↑m.length:Int))/\∀(x_2:Int×Int×Int×Int),m[x.1.toNat]? =some x_2->((!(decide (x_1.1=x_2.1)&&(decide (x_1.2.1=x_2.2.1)&&(decide (x_1.2.2.1=x_2.2.2.1)&&(decide (x_1.2.2.2=x_2.2.2.2)&&true)))))=true->(false,())=(decide (l=m),()))/\((!(decide (x_1.1=x_2.1)&&(decide (x_1.2.1=x_2.2.1)&&(decide (x_1.2.2.1=x_2.2.2.1)&&(decide (x_1.2.2.2=x_2.2.2.2)&&true)))))=false->(-9223372036854775808<=x.1+1/\x.1+1<=9223372036854775807)/\True/\(0<=x.1+1/\x.1+1<=(↑l.length:Int)/\List.take (x.1+1).toNat l=List.take (x.1+1).toNat m)/\((↑l.length:Int)-(x.1+1)).toNat<((↑l.length:Int)-x.1).toNat))/\(decide (x.1<(↑l.length:Int))=false->(true,())=(decide (l=m),())))
theorem g_elin_eq (l m:List (Int×Int×Int×Int)):Cond (env_elin l m) Tryz.f167 [.list .tmp LnT l, .list .tmp LnT m] [.bool] (decide (l=m),())=g_elin_vc l m:=by kernel_rfl
theorem g_elin_ok (l m:List (Int×Int×Int×Int)) (h:l.length<=1000000000):g_elin_vc l m:=by
 unfold g_elin_vc;simp only [decide_eq_true_eq,decide_eq_false_iff_not,Bool.not_eq_true',Bool.not_eq_false',Bool.and_true,Bool.and_eq_true,Bool.and_eq_false_iff];refine ⟨fun k=> ?_,fun k=>⟨⟨trivial,by omega,by omega,rfl⟩, ?_⟩⟩
 ·rw [decide_eq_false (fun e=>k (by rw [e]))]
 rintro ⟨i,⟨⟩⟩ ⟨i0,i1,ht⟩;dsimp only at i0 i1 ht⊢;refine ⟨fun c=>⟨⟨i0,c⟩,fun x hx=>⟨⟨i0,by omega⟩,fun y hy=>⟨fun d=> ?_,fun d=>⟨by omega,trivial,⟨by omega,by omega, ?_⟩,by omega⟩⟩⟩⟩,fun c=> ?_⟩
 ·rw [decide_eq_false];intro e;subst e;rw [hx] at hy;cases hy;simp at d
 ·rw [show (i+1).toNat=i.toNat+1 by omega];refine Rts.take_eq ht hx hy ?_;obtain ⟨x1,x2,x3,x4⟩:=x;obtain ⟨y1,y2,y3,y4⟩:=y;simp at d;simp [d]
 ·rw [List.take_of_length_le (by omega),List.take_of_length_le (by omega)] at ht;rw [decide_eq_true ht]
set_option maxRecDepth 20000
theorem elin_pure (l m:List (Int×Int×Int×Int)) (h:l.length<=1000000000):Pure Tryz.prog 167 [.list .tmp LnT l, .list .tmp LnT m] (.bool (decide (l=m))):=
 by have k:=Pure.of_cond (g_elin_eq l m) (g_elin_ok l m h) (specs_ok rfl [] [] rfl rfl) mixed Tryz.func167;exact k
noncomputable def q_elin (l m:List (Int×Int×Int×Int)):Prop×V:=(l.length<=1000000000,(.bool (decide (l=m))))
noncomputable def sp_elin:FSpec Tryz.prog where
 f:=167
 run:=fun
  |[v0,v1]=>(asL LnT v0:Option (List (Int×Int×Int×Int))).bind fun l=>(asL LnT v1:Option (List (Int×Int×Int×Int))).bind fun m=>some (q_elin l m)
  |_=>none
 ok:=fun args pre r h hp=>by
  split at h
  ·rename_i v0 v1;obtain ⟨l,h0,h⟩:=Option.bind_eq_some_iff.1 h;obtain ⟨m,h1,h⟩:=Option.bind_eq_some_iff.1 h;exact of_q h hp fun h=>(elin_pure l m h).weak (.cons (asL_weak h0) (.cons (asL_weak h1) .nil))
  ·cases h
noncomputable def env_eacc (l m:List (Int×Int×Bool×Bool)):Env where
 P:=Tryz.prog
 ty:=tys0
 heads:=fun|4=>some {slots:=[(13, .int .i64)],boxes:=[],inv:=fun _ (x:Int×Unit)=>0<=x.1/\x.1<=l.length/\l.take x.1.toNat=m.take x.1.toNat,measure:=fun _ (x:Int×Unit)=>(l.length-x.1).toNat}|_=>none
def g_eacc_vc (l:List (Int×Int×Bool×Bool)) (m:List (Int×Int×Bool×Bool)):Prop:=
 ((!decide ((↑l.length:Int)=(↑m.length:Int)))=true->(false,())=(decide (l=m),()))/\((!decide ((↑l.length:Int)=(↑m.length:Int)))=false->(True/\0<=(0:Int)/\0<=(↑l.length:Int)/\List.take (Int.toNat (0:Int)) l=List.take (Int.toNat (0:Int)) m)/\∀(x:Int×Unit),0<=x.1/\x.1<=(↑l.length:Int)/\List.take x.1.toNat l=List.take x.1.toNat m->(decide (x.1<(↑l.length:Int))=true->(0<=x.1/\x.1<(↑l.length:Int))/\∀(x_1:Int×Int×Bool×Bool),l[x.1.toNat]? =some x_1->(0<=x.1/\x.1<(↑m.length:Int))/\∀(x_2:Int×Int×Bool×Bool),m[x.1.toNat]? =some x_2->((!(decide (x_1.1=x_2.1)&&(decide (x_1.2.1=x_2.2.1)&&(x_1.2.2.1==x_2.2.2.1&&(x_1.2.2.2==x_2.2.2.2&&true)))))=true->(false,())=(decide (l=m),()))/\((!(decide (x_1.1=x_2.1)&&(decide (x_1.2.1=x_2.2.1)&&(x_1.2.2.1==x_2.2.2.1&&(x_1.2.2.2==x_2.2.2.2&&true)))))=false->(-9223372036854775808<=x.1+1/\x.1+1<=9223372036854775807)/\True/\(0<=x.1+1/\x.1+1<=(↑l.length:Int)/\List.take (x.1+1).toNat l=List.take (x.1+1).toNat m)/\((↑l.length:Int)-(x.1+1)).toNat<((↑l.length:Int)-x.1).toNat))/\(decide (x.1<(↑l.length:Int))=false->(true,())=(decide (l=m),())))
theorem g_eacc_eq (l m:List (Int×Int×Bool×Bool)):Cond (env_eacc l m) Tryz.f110 [.list .tmp AcT l, .list .tmp AcT m] [.bool] (decide (l=m),())=g_eacc_vc l m:=by kernel_rfl
theorem g_eacc_ok (l m:List (Int×Int×Bool×Bool)) (h:l.length<=1000000000):g_eacc_vc l m:=by
 unfold g_eacc_vc;simp only [decide_eq_true_eq,decide_eq_false_iff_not,Bool.not_eq_true',Bool.not_eq_false',Bool.and_true,Bool.and_eq_true,Bool.and_eq_false_iff];refine ⟨fun k=> ?_,fun k=>⟨⟨trivial,by omega,by omega,rfl⟩, ?_⟩⟩
 ·rw [decide_eq_false (fun e=>k (by rw [e]))]
 rintro ⟨i,⟨⟩⟩ ⟨i0,i1,ht⟩;dsimp only at i0 i1 ht⊢;refine ⟨fun c=>⟨⟨i0,c⟩,fun x hx=>⟨⟨i0,by omega⟩,fun y hy=>⟨fun d=> ?_,fun d=>⟨by omega,trivial,⟨by omega,by omega, ?_⟩,by omega⟩⟩⟩⟩,fun c=> ?_⟩
 ·rw [decide_eq_false];intro e;subst e;rw [hx] at hy;cases hy;simp at d
 ·rw [show (i+1).toNat=i.toNat+1 by omega];refine Rts.take_eq ht hx hy ?_;obtain ⟨x1,x2,x3,x4⟩:=x;obtain ⟨y1,y2,y3,y4⟩:=y;simp at d;simp [d]
 ·rw [List.take_of_length_le (by omega),List.take_of_length_le (by omega)] at ht;rw [decide_eq_true ht]
theorem eacc_pure (l m:List (Int×Int×Bool×Bool)) (h:l.length<=1000000000):Pure Tryz.prog 110 [.list .tmp AcT l, .list .tmp AcT m] (.bool (decide (l=m))):=
 by have k:=Pure.of_cond (g_eacc_eq l m) (g_eacc_ok l m h) (specs_ok rfl [] [] rfl rfl) mixed Tryz.func110;exact k
noncomputable def q_eacc (l m:List (Int×Int×Bool×Bool)):Prop×V:=(l.length<=1000000000,(.bool (decide (l=m))))
noncomputable def sp_eacc:FSpec Tryz.prog where
 f:=110
 run:=fun
  |[v0,v1]=>(asL AcT v0:Option (List (Int×Int×Bool×Bool))).bind fun l=>(asL AcT v1:Option (List (Int×Int×Bool×Bool))).bind fun m=>some (q_eacc l m)
  |_=>none
 ok:=fun args pre r h hp=>by
  split at h
  ·rename_i v0 v1;obtain ⟨l,h0,h⟩:=Option.bind_eq_some_iff.1 h;obtain ⟨m,h1,h⟩:=Option.bind_eq_some_iff.1 h;exact of_q h hp fun h=>(eacc_pure l m h).weak (.cons (asL_weak h0) (.cons (asL_weak h1) .nil))
  ·cases h
end Go.Proofs.YtabicbgeoiilmaaGreat.Eql
end
section
namespace Go.Proofs.YtabicbgeoiilmaaGreat.Acc
open Go.Vm
def badA (n:Int):List AcD->Int->Option (Int×Int)
 |[],_=>none
 |x::r,i=>if mayA x n=0 then badA n r (i+1) else some (i,mayA x n)
theorem bad_next {n:Int} {l:List AcD} {i:Int} {x:AcD} (h0:0<=i) (hx:l[i.toNat]? =some x):badA n (l.drop i.toNat) i=if mayA x n=0 then badA n (l.drop (i+1).toNat) (i+1) else some (i,mayA x n):=by
 obtain ⟨h1,h2⟩:=List.getElem?_eq_some_iff.1 hx;rw [List.drop_eq_getElem_cons h1,h2,show (i+1).toNat=i.toNat+1 by omega];rfl
theorem bad_end {n:Int} {l:List AcD} {i:Int} (h: ¬i<(l.length:Int)):badA n (l.drop i.toNat) i=none:=by
 rw [List.drop_of_length_le (by omega)];rfl
def cirF (l:List Int) (n:Int):Int×Int:=match l with
 |[]=>(n,0)
 |a::_=>(a-1,26)
def endF (p:Int->Bool) (l:List AcD):Int×Int:=cirF (thoseF p l.length) l.length
def checkG (p:Int->Bool) (l:List AcD):Int×Int:=
 if 60<(l.length:Int) then (0,3) else if l.take 3≠ownL then (0,28) else match badA l.length l 0 with
  |some r=>r
  |none=>endF p l
theorem check_full {p:Int->Bool} {l:List AcD} (h:60<(l.length:Int)):checkG p l=(0,3):=by unfold checkG;rw [if_pos h]
theorem check_own {p:Int->Bool} {l:List AcD} (h: ¬60<(l.length:Int)) (k:l.take 3≠ownL):checkG p l=(0,28):=by unfold checkG;rw [if_neg h,if_pos k]
theorem check_bad {p:Int->Bool} {l:List AcD} {r:Int×Int} (h: ¬60<(l.length:Int)) (k:l.take 3=ownL) (hb:badA l.length l 0=some r):checkG p l=r:=by unfold checkG;rw [if_neg h,if_neg (fun c=>c k),hb]
theorem check_end {p:Int->Bool} {l:List AcD} (h: ¬60<(l.length:Int)) (k:l.take 3=ownL) (hb:badA l.length l 0=none):checkG p l=endF p l:=by unfold checkG;rw [if_neg h,if_neg (fun c=>c k),hb]
def checkF (l:List AcD):Int×Int:=checkG (roundF l) l
theorem th_mem {p:Int->Bool}: ∀(f:Nat) (i:Int),∀x∈thGo p f i,i<=x/\x<i+f
 |0,_,x,h=>by simp [thGo] at h
 |f+1,i,x,h=>by
  rw [thGo] at h;split at h
  ·rcases List.mem_cons.1 h with rfl|h
   ·omega
   ·have:=th_mem f (i+1) x h;omega
  ·have:=th_mem f (i+1) x h;omega
theorem its_len (l:List AcD) (a:Int) (m:Nat):(its l a m).length=m:=by simp [its]
noncomputable def env_check (l:List AcD):Env where
 P:=Tryz.prog
 ty:=tys0
 specs:=specsOf [sp_new,Eql.sp_eacc,sp_place,sp_kind,sp_thr]
 frz:=fun|21=>true|22=>true|_=>false
 heads:=fun|6=>some {slots:=[(27, .int .i64)],boxes:=[],inv:=fun _ (x:Int×Unit)=>0<=x.1/\x.1<=l.length/\l.take 3=ownL/\badA l.length l 0=badA l.length (l.drop x.1.toNat) x.1,measure:=fun _ (x:Int×Unit)=>(l.length-x.1).toNat}|_=>none
def g_check_vc (l:List AcD):Prop:=
 (decide ((60:Int)<(↑l.length:Int))=true->((0:Int),(3:Int),())=((checkF l).1,(checkF l).2,()))/\(decide ((60:Int)<(↑l.length:Int))=false->(decide ((↑l.length:Int)<(3:Int))=false->(0<=(3:Int)/\(3:Int)<=(↑l.length:Int))/\True/\(List.take (Int.toNat (3:Int)) l).length<=(1000000000:Nat)/\((!decide (List.take (Int.toNat (3:Int)) l=ownL))=true->((0:Int),(28:Int),())=((checkF l).1,(checkF l).2,()))/\((!decide (List.take (Int.toNat (3:Int)) l=ownL))=false->(True/\0<=(0:Int)/\0<=(↑l.length:Int)/\List.take (3:Nat) l=ownL/\badA (↑l.length:Int) l (0:Int)=badA (↑l.length:Int) (List.drop (Int.toNat (0:Int)) l) (0:Int))/\∀(x:Int×Unit),0<=x.1/\x.1<=(↑l.length:Int)/\List.take (3:Nat) l=ownL/\badA (↑l.length:Int) l (0:Int)=badA (↑l.length:Int) (List.drop x.1.toNat l) x.1->(decide (x.1<(↑l.length:Int))=true->(0<=x.1/\x.1<(↑l.length:Int))/\∀(x_1:Int×Int×Bool×Bool),l[x.1.toNat]? =some x_1->True/\((!decide (placeF x_1.1 (↑l.length:Int)=(0:Int)))=true->(x.1,placeF x_1.1 (↑l.length:Int),())=((checkF l).1,(checkF l).2,()))/\((!decide (placeF x_1.1 (↑l.length:Int)=(0:Int)))=false->True/\((!decide (kindF x_1.2.1 x_1.2.2.1 x_1.2.2.2=(0:Int)))=true->(x.1,kindF x_1.2.1 x_1.2.2.1 x_1.2.2.2,())=((checkF l).1,(checkF l).2,()))/\((!decide (kindF x_1.2.1 x_1.2.2.1 x_1.2.2.2=(0:Int)))=false->(-9223372036854775808<=x.1+1/\x.1+1<=9223372036854775807)/\True/\(0<=x.1+1/\x.1+1<=(↑l.length:Int)/\List.take (3:Nat) l=ownL/\badA (↑l.length:Int) l (0:Int)=badA (↑l.length:Int) (List.drop (x.1+1).toNat l) (x.1+1))/\((↑l.length:Int)-(x.1+1)).toNat<((↑l.length:Int)-x.1).toNat)))/\(decide (x.1<(↑l.length:Int))=false->(l=l/\l.length<=(1000000000:Nat))/\(decide ((0:Int)<(↑(thoseF (roundF l) l.length).length:Int))=true->(0<=(0:Int)/\(0:Int)<(↑(thoseF (roundF l) l.length).length:Int))/\Int.toNat (0:Int)<(thoseF (roundF l) l.length).length/\∀(x:Int),(thoseF (roundF l) l.length)[Int.toNat (0:Int)]? =some x->(-9223372036854775808<=x-(1:Int)/\x-(1:Int)<=9223372036854775807)/\(x-(1:Int),(26:Int),())=((checkF l).1,(checkF l).2,()))/\(decide ((0:Int)<(↑(thoseF (roundF l) l.length).length:Int))=false->((↑l.length:Int),(0:Int),())=((checkF l).1,(checkF l).2,())))))/\(decide ((↑l.length:Int)<(3:Int))= !false->((0:Int),(28:Int),())=((checkF l).1,(checkF l).2,())))
theorem g_check_eq (l:List AcD):Cond (env_check l) Tryz.f49 [.list .tmp AcT l] [.int .i64, .int .i64] ((checkF l).1,(checkF l).2,())=g_check_vc l:=by kernel_rfl
theorem g_check_ok (l:List AcD) (h:l.length<=1000000000):g_check_vc l:=by
 unfold g_check_vc;simp only [decide_eq_true_eq,decide_eq_false_iff_not];rw [show checkF l=checkG (roundF l) l from rfl];refine ⟨fun c=>by rw [check_full c],fun c=>⟨fun d=>⟨by omega,trivial,by rw [List.length_take];omega,fun e=> ?_,fun e=> ?_⟩,fun d=> ?_⟩⟩
 ·have e:l.take 3≠ownL:=by simpa using e
  rw [check_own c e]
 ·have e:l.take 3=ownL:=by simpa using e
  refine ⟨⟨trivial,by omega,by omega,e,rfl⟩, ?_⟩;rintro ⟨i,⟨⟩⟩ ⟨h0,h1, -,hb⟩;dsimp only at h0 h1 hb⊢;refine ⟨fun k=>⟨⟨h0,k⟩,fun x hx=>⟨trivial,fun m=> ?_,fun m=>⟨trivial,fun o=> ?_,fun o=>⟨by omega,trivial,⟨by omega,by omega,e, ?_⟩,by omega⟩⟩⟩⟩,fun k=>⟨⟨trivial,h⟩,fun m=>⟨⟨by omega,m⟩,by omega,fun x hx=> ?_⟩,fun m=> ?_⟩⟩
  ·have m:placeF x.1 l.length≠0:=by simpa using m
   have e2:mayA x l.length=placeF x.1 l.length:=by unfold mayA;rw [if_neg m]
   rw [check_bad c e (by rw [hb,bad_next h0 hx,if_neg (by rw [e2];exact m)]),e2]
  ·have m:placeF x.1 l.length=0:=by simpa using m
   have o:kindF x.2.1 x.2.2.1 x.2.2.2≠0:=by simpa using o
   have e2:mayA x l.length=kindF x.2.1 x.2.2.1 x.2.2.2:=by unfold mayA;rw [if_pos m]
   rw [check_bad c e (by rw [hb,bad_next h0 hx,if_neg (by rw [e2];exact o)]),e2]
  ·have m:placeF x.1 l.length=0:=by simpa using m
   have o:kindF x.2.1 x.2.2.1 x.2.2.2=0:=by simpa using o
   have e2:mayA x l.length=0:=by unfold mayA;rw [if_pos m,o]
   rw [hb,bad_next h0 hx,if_pos e2]
  ·have hm:=th_mem (p:=roundF l) l.length 1 x (List.mem_of_getElem? hx);refine ⟨by omega, ?_⟩;rw [check_end c e (by rw [hb,bad_end k])];unfold endF;cases ht:thoseF (roundF l) l.length with
   |nil=>rw [ht] at m;simp at m
   |cons y r=>
    rw [ht] at hx;have:y=x:=by simpa using hx
    rw [this];rfl
  ·rw [check_end c e (by rw [hb,bad_end k])];unfold endF;rw [show thoseF (roundF l) l.length=[] from List.eq_nil_of_length_eq_zero (by omega)];rfl
 ·rw [check_own c (fun e=>by
   have:=congrArg List.length e;rw [List.length_take] at this;simp at this;simp at d;omega)]
set_option maxRecDepth 20000
theorem check_pure (l:List AcD) (h:l.length<=1000000000):Pure Tryz.prog 49 [.list .tmp AcT l] (.tuple [.int .i64 (checkF l).1, .int .i64 (checkF l).2]):=
 by have k:=Pure.of_cond (g_check_eq l) (g_check_ok l h) (specs_ok rfl [sp_new,Eql.sp_eacc,sp_place,sp_kind,sp_thr] [] rfl rfl) mixed Tryz.func49;exact k
noncomputable def q_check (l:List AcD):Prop×V:=(l.length<=1000000000,(.tuple [.int .i64 (checkF l).1, .int .i64 (checkF l).2]))
noncomputable def sp_check:FSpec Tryz.prog where
 f:=49
 run:=fun
  |[v0]=>(asL AcT v0:Option (List AcD)).bind fun l=>some (q_check l)
  |_=>none
 ok:=fun args pre r h hp=>by
  split at h
  ·rename_i v0;obtain ⟨l,h0,h⟩:=Option.bind_eq_some_iff.1 h;exact of_q h hp fun h=>(check_pure l h).weak (.cons (asL_weak h0) .nil)
  ·cases h
end Go.Proofs.YtabicbgeoiilmaaGreat.Acc
end
