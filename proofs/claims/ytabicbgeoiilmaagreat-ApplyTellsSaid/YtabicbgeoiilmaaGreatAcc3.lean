/-
  account: whether accounts may be.
-/
import Derived.Test.YtabicbgeoiilmaaGreatSeat
import Derived.Test.YtabicbgeoiilmaaGreatLck1
section
namespace Go.Proofs.YtabicbgeoiilmaaGreat.Stk
open Go.Vm
abbrev I:Ty:= .int .i64
abbrev STy:Ty:= .pair I (.pair I (.pair I I))
abbrev Stk:Type:=Int×Int×Int×Int
theorem mixed:Tryz.prog.follows .mixedOrders=true:=rfl
noncomputable def env_has (xs:List Int) (n:Int):Env where
 P:=Tryz.prog
 heads:=fun|2=>some {slots:=[(5, .int .i64)],boxes:=[],inv:=fun _ (x:Int×Unit)=>0<=x.1/\x.1<=xs.length/\∀j:Nat,j<x.1.toNat->xs[j]? ≠some n,measure:=fun _ (x:Int×Unit)=>(xs.length-x.1).toNat}|_=>none
def g_has_vc (xs:List Int) (n:Int):Prop:=
 (True/\0<=(0:Int)/\0<=(↑xs.length:Int)/\∀(j:Nat),j<Int.toNat (0:Int)->xs[j]? ≠some n)/\∀(x:Int×Unit),(0<=x.1/\x.1<=(↑xs.length:Int)/\∀(j:Nat),j<x.1.toNat->xs[j]? ≠some n)->(decide (x.1<(↑xs.length:Int))=true->(0<=x.1/\x.1<(↑xs.length:Int))/\∀(x_1:Int),xs[x.1.toNat]? =some x_1->(decide (x_1=n)=true->(true,())=(xs.contains n,()))/\(decide (x_1=n)=false->(-9223372036854775808<=x.1+1/\x.1+1<=9223372036854775807)/\True/\(0<=x.1+1/\x.1+1<=(↑xs.length:Int)/\∀(j:Nat),j<(x.1+1).toNat->xs[j]? ≠some n)/\((↑xs.length:Int)-(x.1+1)).toNat<((↑xs.length:Int)-x.1).toNat))/\(decide (x.1<(↑xs.length:Int))=false->(false,())=(xs.contains n,()))
theorem g_has_eq (xs:List Int) (n:Int):Cond (env_has xs n) Tryz.f132 [.list .tmp I xs, .int .i64 n] [.bool] (xs.contains n,())=g_has_vc xs n:=by kernel_rfl
theorem g_has_ok (xs:List Int) (n:Int) (h:xs.length<=1000000000):g_has_vc xs n:=by
 refine ⟨⟨trivial,by omega,by omega,fun j hj=>by simp at hj⟩, ?_⟩;rintro ⟨i,_⟩ ⟨h1,h2,h3⟩;simp only [decide_eq_true_eq,decide_eq_false_iff_not] at*;refine ⟨fun hlt=>⟨⟨h1,hlt⟩,fun y hy=>⟨fun e=> ?_,fun e=>⟨by omega,trivial,⟨by omega,by omega,fun j hj=> ?_⟩,by omega⟩⟩⟩,fun hge=> ?_⟩
 ·subst e;have:=List.mem_of_getElem? hy;simp [this]
 ·by_cases hji:j<i.toNat
  ·exact h3 j hji
  ·have:j=i.toNat:=by omega
   subst this;rw [hy];simpa using e
 ·have:n∉xs:=by
   intro hm;obtain ⟨j,hj⟩:=List.mem_iff_getElem?.1 hm;have hj2:=(List.getElem?_eq_some_iff.1 hj).1;exact h3 j (by omega) hj
  simp [this]
set_option maxRecDepth 20000
theorem has_pure (xs:List Int) (n:Int) (h:xs.length<=1000000000):Pure Tryz.prog 132 [.list .tmp I xs, .int .i64 n] (.bool (xs.contains n)):=
 by have k:=Pure.of_cond (g_has_eq xs n) (g_has_ok xs n h) (specs_ok rfl [] [] rfl rfl) mixed Tryz.func132;exact k
noncomputable def q_has (xs:List Int) (n:Int):Prop×V:=(xs.length<=1000000000,(.bool (xs.contains n)))
noncomputable def sp_has:FSpec Tryz.prog where
 f:=132
 run:=fun
  |[v0, .int .i64 n]=>(asL I v0:Option (List Int)).bind fun xs=>some (q_has xs n)
  |_=>none
 ok:=fun args pre r h hp=>by
  split at h
  ·rename_i v0 n;obtain ⟨xs,h0,h⟩:=Option.bind_eq_some_iff.1 h;exact of_q h hp fun h=>(has_pure xs n h).weak (.cons (asL_weak h0) (.cons (.refl _) .nil))
  ·cases h
noncomputable def env_sameInts (xs ys:List Int):Env where
 P:=Tryz.prog
 heads:=fun|4=>some {slots:=[(5, .int .i64)],boxes:=[],inv:=fun _ (x:Int×Unit)=>0<=x.1/\x.1<=xs.length/\∀j:Nat,j<x.1.toNat->xs[j]? =ys[j]?,measure:=fun _ (x:Int×Unit)=>(xs.length-x.1).toNat}|_=>none
def g_sameInts_vc (xs:List Int) (ys:List Int):Prop:=
 ((!decide ((↑xs.length:Int)=(↑ys.length:Int)))=true->(false,())=(decide (xs=ys),()))/\((!decide ((↑xs.length:Int)=(↑ys.length:Int)))=false->(True/\0<=(0:Int)/\0<=(↑xs.length:Int)/\∀(j:Nat),j<Int.toNat (0:Int)->xs[j]? =ys[j]?)/\∀(x:Int×Unit),(0<=x.1/\x.1<=(↑xs.length:Int)/\∀(j:Nat),j<x.1.toNat->xs[j]? =ys[j]?)->(decide (x.1<(↑xs.length:Int))=true->(0<=x.1/\x.1<(↑xs.length:Int))/\∀(x_1:Int),xs[x.1.toNat]? =some x_1->(0<=x.1/\x.1<(↑ys.length:Int))/\∀(x_2:Int),ys[x.1.toNat]? =some x_2->((!decide (x_1=x_2))=true->(false,())=(decide (xs=ys),()))/\((!decide (x_1=x_2))=false->(-9223372036854775808<=x.1+1/\x.1+1<=9223372036854775807)/\True/\(0<=x.1+1/\x.1+1<=(↑xs.length:Int)/\∀(j:Nat),j<(x.1+1).toNat->xs[j]? =ys[j]?)/\((↑xs.length:Int)-(x.1+1)).toNat<((↑xs.length:Int)-x.1).toNat))/\(decide (x.1<(↑xs.length:Int))=false->(true,())=(decide (xs=ys),())))
theorem g_sameInts_eq (xs ys:List Int):Cond (env_sameInts xs ys) Tryz.f17 [.list .tmp I xs, .list .tmp I ys] [.bool] (decide (xs=ys),())=g_sameInts_vc xs ys:=by kernel_rfl
theorem g_sameInts_ok (xs ys:List Int) (h:xs.length<=1000000000):g_sameInts_vc xs ys:=by
 unfold g_sameInts_vc;simp only [Bool.not_eq_true',decide_eq_false_iff_not,Bool.not_eq_false',decide_eq_true_eq,true_and,Int.ofNat_inj,Int.toNat_zero,Nat.not_lt_zero];refine ⟨fun hne=> ?_,fun hlen=>⟨⟨by omega,by omega,fun j hj=>hj.elim⟩, ?_⟩⟩
 ·have:xs≠ys:=fun e=>hne (by rw [e]);simp [this]
 rintro ⟨i,_⟩ ⟨h1,h2,h3⟩;simp only at*;refine ⟨fun hlt=>⟨⟨h1,hlt⟩,fun x hx=>⟨⟨h1,by omega⟩,fun y hy=>⟨fun e=> ?_,fun e=>⟨by omega,⟨by omega,by omega,fun j hj=> ?_⟩,by omega⟩⟩⟩⟩,fun hge=> ?_⟩
 ·have:xs≠ys:=by
   rintro rfl;rw [hx] at hy;cases hy;exact e rfl
  simp [this]
 ·by_cases hji:j<i.toNat
  ·exact h3 j hji
  ·have:j=i.toNat:=by omega
   subst this;rw [hx,hy,e]
 ·have:xs=ys:=by
   apply List.ext_getElem?;intro j;by_cases hj:j<i.toNat
   ·exact h3 j hj
   ·rw [List.getElem?_eq_none (by omega),List.getElem?_eq_none (by omega)]
  simp [this]
theorem sameInts_pure (xs ys:List Int) (h:xs.length<=1000000000):Pure Tryz.prog 17 [.list .tmp I xs, .list .tmp I ys] (.bool (decide (xs=ys))):=
 by have k:=Pure.of_cond (g_sameInts_eq xs ys) (g_sameInts_ok xs ys h) (specs_ok rfl [] [] rfl rfl) mixed Tryz.func17;exact k
noncomputable def q_sameInts (xs ys:List Int):Prop×V:=(xs.length<=1000000000,(.bool (decide (xs=ys))))
noncomputable def sp_sameInts:FSpec Tryz.prog where
 f:=17
 run:=fun
  |[v0,v1]=>(asL I v0:Option (List Int)).bind fun xs=>(asL I v1:Option (List Int)).bind fun ys=>some (q_sameInts xs ys)
  |_=>none
 ok:=fun args pre r h hp=>by
  split at h
  ·rename_i v0 v1;obtain ⟨xs,h0,h⟩:=Option.bind_eq_some_iff.1 h;obtain ⟨ys,h1,h⟩:=Option.bind_eq_some_iff.1 h;exact of_q h hp fun h=>(sameInts_pure xs ys h).weak (.cons (asL_weak h0) (.cons (asL_weak h1) .nil))
  ·cases h
noncomputable def env_inAt (_a _b _c _d _e _p:Int):Env where
 P:=Tryz.prog
def g_inAt_vc (a:Int) (b:Int) (c:Int) (d:Int) (e:Int) (p:Int):Prop:=
 (decide (a=e)=true->(decide (d<=p),())=(decide (a=e)&&decide (d<=p),()))/\(decide (a=e)= !true->(false,())=(decide (a=e)&&decide (d<=p),()))
theorem g_inAt_eq (a b c d e p:Int):Cond (env_inAt a b c d e p) Tryz.f189 [.agg [.int .i64 a, .int .i64 b, .int .i64 c, .int .i64 d], .fptr [.int .i64 e], .fptr [.int .i64 p]] [.bool] (decide (a=e)&&decide (d<=p),())=g_inAt_vc a b c d e p:=by kernel_rfl
theorem g_inAt_ok (a b c d e p:Int):g_inAt_vc a b c d e p:=by
 refine ⟨fun h=>by simp [h],fun h=> ?_⟩;have:decide (a=e)=false:=by simpa using h
 simp [this]
theorem inAt_pure (a b c d e p:Int):Pure Tryz.prog 189 [.agg [.int .i64 a, .int .i64 b, .int .i64 c, .int .i64 d], .fptr [.int .i64 e], .fptr [.int .i64 p]] (.bool (decide (a=e)&&decide (d<=p))):=
 by have k:=Pure.of_cond (g_inAt_eq a b c d e p) (g_inAt_ok a b c d e p) (specs_ok rfl [] [] rfl rfl) mixed Tryz.func189;exact k
noncomputable def q_inAt (a b c d e p:Int):Prop×V:=(True,(.bool (decide (a=e)&&decide (d<=p))))
noncomputable def sp_inAt:FSpec Tryz.prog where
 f:=189
 run:=fun
  |[.agg [.int .i64 a, .int .i64 b, .int .i64 c, .int .i64 d], .fptr [.int .i64 e], .fptr [.int .i64 p]]=>some (q_inAt a b c d e p)
  |_=>none
 ok:=fun args pre r h hp=>by
  split at h
  ·rename_i a b c d e p;exact of_q h hp fun h=>(inAt_pure a b c d e p).weak (.cons (.refl _) (.cons (.refl _) (.cons (.refl _) .nil)))
  ·cases h
def take (e p:Int) (b:Option Stk) (s:Stk):Option Stk:=
 if s.1=e/\s.2.2.2<=p then match b with
  |none=>some s
  |some q=>if q.2.2.2<=s.2.2.2 then some s else b
 else b
def best (l:List Stk) (e p:Int):Option Stk:=l.foldl (take e p) none
def atF (l:List Stk) (e p:Int):Int×Int:=match best l e p with
 |none=>(0,10000)
 |some s=>(s.2.1,s.2.2.1)
theorem best_take {l:List Stk} {e p:Int} {i:Nat} {x:Stk} (h:l[i]? =some x):best (l.take (i+1)) e p=take e p (best (l.take i) e p) x:=by
 unfold best;rw [List.take_add_one,h];simp
def Inv14 (l:List Stk) (e p:Int) (i f:Int):Prop:=
 0<=i/\i<=l.length/\((f= -1/\best (l.take i.toNat) e p=none)∨(0<=f/\f<l.length/\∃s,l[f.toNat]? =some s/\best (l.take i.toNat) e p=some s))
noncomputable def env_at_ (l:List Stk) (e p:Int):Env where
 P:=Tryz.prog
 ty:=fun|24=>some STy|_=>none
 frz:=fun|22=>true|_=>false
 specs:=specsOf [sp_inAt]
 heads:=fun
  |4=>some {slots:=[(15, .int .i64),(8, .int .i64)],boxes:=[],keep:=[4,5],inv:=fun _ (x:Int×Int×Unit)=>Inv14 l e p x.1 x.2.1,measure:=fun _ (x:Int×Int×Unit)=>(l.length-x.1).toNat}
  |_=>none
def g_at__vc (l:List Stk) (e:Int) (p:Int):Prop:=
 ((some (Obj.box [V.int IntKind.i64 e])=some (Obj.box [V.int IntKind.i64 e])/\some (Obj.box [V.int IntKind.i64 p])=some (Obj.box [V.int IntKind.i64 p])/\True)/\Inv14 l e p (0:Int) (-1:Int))/\∀(x:Int×Int×Unit),Inv14 l e p x.1 x.2.1->(decide (x.1<(↑l.length:Int))=true->(0<=x.1/\x.1<(↑l.length:Int))/\∀(x_1:Int×Int×Int×Int),l[x.1.toNat]? =some x_1->True/\((decide (x_1.1=e)&&decide (x_1.2.2.2<=p))=true->(decide (x.2.1<(0:Int))=false->(0<=x.2.1/\x.2.1<(↑l.length:Int))/\∀(x_2:Int×Int×Int×Int),l[x.2.1.toNat]? =some x_2->(decide (x_2.2.2.2<=x_1.2.2.2)=true->(-9223372036854775808<=x.1+1/\x.1+1<=9223372036854775807)/\(some (Obj.box [V.int IntKind.i64 e])=some (Obj.box [V.int IntKind.i64 e])/\some (Obj.box [V.int IntKind.i64 p])=some (Obj.box [V.int IntKind.i64 p])/\True)/\Inv14 l e p (x.1+1) x.1/\((↑l.length:Int)-(x.1+1)).toNat<((↑l.length:Int)-x.1).toNat)/\(decide (x_2.2.2.2<=x_1.2.2.2)=false->(-9223372036854775808<=x.1+1/\x.1+1<=9223372036854775807)/\(some (Obj.box [V.int IntKind.i64 e])=some (Obj.box [V.int IntKind.i64 e])/\some (Obj.box [V.int IntKind.i64 p])=some (Obj.box [V.int IntKind.i64 p])/\True)/\Inv14 l e p (x.1+1) x.2.1/\((↑l.length:Int)-(x.1+1)).toNat<((↑l.length:Int)-x.1).toNat))/\(decide (x.2.1<(0:Int))= !false->(-9223372036854775808<=x.1+1/\x.1+1<=9223372036854775807)/\(some (Obj.box [V.int IntKind.i64 e])=some (Obj.box [V.int IntKind.i64 e])/\some (Obj.box [V.int IntKind.i64 p])=some (Obj.box [V.int IntKind.i64 p])/\True)/\Inv14 l e p (x.1+1) x.1/\((↑l.length:Int)-(x.1+1)).toNat<((↑l.length:Int)-x.1).toNat))/\((decide (x_1.1=e)&&decide (x_1.2.2.2<=p))= !true->(-9223372036854775808<=x.1+1/\x.1+1<=9223372036854775807)/\(some (Obj.box [V.int IntKind.i64 e])=some (Obj.box [V.int IntKind.i64 e])/\some (Obj.box [V.int IntKind.i64 p])=some (Obj.box [V.int IntKind.i64 p])/\True)/\Inv14 l e p (x.1+1) x.2.1/\((↑l.length:Int)-(x.1+1)).toNat<((↑l.length:Int)-x.1).toNat))/\(decide (x.1<(↑l.length:Int))=false->(decide (x.2.1<(0:Int))=true->((0:Int),(10000:Int),())=((atF l e p).1,(atF l e p).2,()))/\(decide (x.2.1<(0:Int))=false->(0<=x.2.1/\x.2.1<(↑l.length:Int))/\∀(x_1:Int×Int×Int×Int),l[x.2.1.toNat]? =some x_1->(0<=x.2.1/\x.2.1<(↑l.length:Int))/\∀(x_2:Int×Int×Int×Int),l[x.2.1.toNat]? =some x_2->(x_1.2.1,x_2.2.2.1,())=((atF l e p).1,(atF l e p).2,())))
theorem g_at__eq (l:List Stk) (e p:Int):Cond (env_at_ l e p) Tryz.f176 [.list .tmp STy l, .int .i64 e, .int .i64 p] [.int .i64, .int .i64] ((atF l e p).1,(atF l e p).2,())=g_at__vc l e p:=by kernel_rfl
theorem toNat_next {i:Int} (h:0<=i):(i+1).toNat=i.toNat+1:=by omega
theorem inv14_skip {l:List Stk} {e p i f:Int} {x:Stk} (hI:Inv14 l e p i f) (hi:i<l.length) (hx:l[i.toNat]? =some x) (hk:take e p (best (l.take i.toNat) e p) x=best (l.take i.toNat) e p):Inv14 l e p (i+1) f:=by
 obtain ⟨h1,h2,h3⟩:=hI;have hn:best (l.take (i+1).toNat) e p=best (l.take i.toNat) e p:=by rw [toNat_next h1,best_take hx,hk]
 exact ⟨by omega,by omega,by rw [hn];exact h3⟩
theorem inv14_take {l:List Stk} {e p i f:Int} {x:Stk} (hI:Inv14 l e p i f) (hi:i<l.length) (hx:l[i.toNat]? =some x) (hk:take e p (best (l.take i.toNat) e p) x=some x):Inv14 l e p (i+1) i:=by
 obtain ⟨h1,h2,h3⟩:=hI;have hn:best (l.take (i+1).toNat) e p=some x:=by rw [toNat_next h1,best_take hx,hk]
 exact ⟨by omega,by omega, .inr ⟨h1,hi,x,hx,hn⟩⟩
theorem g_at__ok (l:List Stk) (e p:Int) (h:l.length<=1000000000):g_at__vc l e p:=by
 unfold g_at__vc;refine ⟨⟨⟨rfl,rfl,trivial⟩,by omega,by omega, .inl ⟨rfl,rfl⟩⟩, ?_⟩;rintro ⟨i,f,_⟩ hI;have hI0:=hI;obtain ⟨h1,h2,h3⟩:=hI0;simp only [decide_eq_true_eq,decide_eq_false_iff_not,true_and,and_self] at*;refine ⟨fun hi=>⟨⟨h1,hi⟩,fun x hx=>⟨fun hc=>⟨fun hf=> ?_,fun hf=> ?_⟩,fun hc=> ?_⟩⟩,fun hi=>⟨fun hf=> ?_,fun hf=> ?_⟩⟩
 ·simp only [Bool.and_eq_true,decide_eq_true_eq] at hc;rcases h3 with ⟨rfl,h3⟩|⟨h4,h5,s,hs,h3⟩
  ·omega
  ·refine ⟨⟨h4,h5⟩,fun y hy=> ?_⟩;rw [hs] at hy;cases hy;refine ⟨fun hle=>⟨by omega,inv14_take hI hi hx ?_,by omega⟩,fun hle=>⟨by omega,inv14_skip hI hi hx ?_,by omega⟩⟩
   ·rw [h3,take,if_pos hc];simp [hle]
   ·rw [h3,take,if_pos hc];simp [hle]
 ·simp only [Bool.and_eq_true,decide_eq_true_eq] at hc;have hf2:f<0:=by simpa using hf
  rcases h3 with ⟨rfl,h3⟩|⟨h4,h5,s,hs,h3⟩
  ·refine ⟨by omega,inv14_take hI hi hx ?_,by omega⟩;rw [h3];simp [take,hc]
  ·omega
 ·have hc2: ¬(x.1=e/\x.2.2.2<=p):=by
   intro hh;simp [hh.1,hh.2] at hc
  exact ⟨by omega,inv14_skip hI hi hx (by simp only [take];rw [if_neg hc2]),by omega⟩
 ·have hl:l.take i.toNat=l:=List.take_of_length_le (by omega);rw [hl] at h3;rcases h3 with ⟨rfl,h3⟩|⟨h4,h5,s,hs,h3⟩
  ·simp [atF,h3]
  ·omega
 ·have hl:l.take i.toNat=l:=List.take_of_length_le (by omega);rw [hl] at h3;rcases h3 with ⟨rfl,h3⟩|⟨h4,h5,s,hs,h3⟩
  ·omega
  ·refine ⟨⟨h4,h5⟩,fun x hx=>⟨⟨h4,h5⟩,fun y hy=> ?_⟩⟩;rw [hs] at hx hy;cases hx;cases hy;simp [atF,h3]
theorem at__pure (l:List Stk) (e p:Int) (h:l.length<=1000000000):Pure Tryz.prog 176 [.list .tmp STy l, .int .i64 e, .int .i64 p] (.tuple [.int .i64 (atF l e p).1, .int .i64 (atF l e p).2]):=
 by have k:=Pure.of_cond (g_at__eq l e p) (g_at__ok l e p h) (specs_ok rfl [sp_inAt] [] rfl rfl) mixed Tryz.func176;exact k
noncomputable def q_at_ (l:List Stk) (e p:Int):Prop×V:=(l.length<=1000000000,(.tuple [.int .i64 (atF l e p).1, .int .i64 (atF l e p).2]))
noncomputable def sp_at_:FSpec Tryz.prog where
 f:=176
 run:=fun
  |[v0, .int .i64 e, .int .i64 p]=>(asL STy v0:Option (List Stk)).bind fun l=>some (q_at_ l e p)
  |_=>none
 ok:=fun args pre r h hp=>by
  split at h
  ·rename_i v0 e p;obtain ⟨l,h0,h⟩:=Option.bind_eq_some_iff.1 h;exact of_q h hp fun h=>(at__pure l e p h).weak (.cons (asL_weak h0) (.cons (.refl _) (.cons (.refl _) .nil)))
  ·cases h
end Go.Proofs.YtabicbgeoiilmaaGreat.Stk
end
section
namespace Go.Proofs.YtabicbgeoiilmaaGreat.Eql
open Go.Vm
set_option maxRecDepth 20000
noncomputable def env_racc (l m:List (Int×Int×Bool×Bool)):Env where
 P:=Tryz.prog
 ty:=tys0
 heads:=fun|4=>some {slots:=[(5, .int .i64)],boxes:=[],inv:=fun _ (x:Int×Unit)=>0<=x.1/\x.1<=l.length/\l.take x.1.toNat=m.take x.1.toNat,measure:=fun _ (x:Int×Unit)=>(l.length-x.1).toNat}|_=>none
def g_racc_vc (l:List (Int×Int×Bool×Bool)) (m:List (Int×Int×Bool×Bool)):Prop:=
 ((!decide ((↑l.length:Int)=(↑m.length:Int)))=true->(false,())=(decide (l=m),()))/\((!decide ((↑l.length:Int)=(↑m.length:Int)))=false->(True/\0<=(0:Int)/\0<=(↑l.length:Int)/\List.take (Int.toNat (0:Int)) l=List.take (Int.toNat (0:Int)) m)/\∀(x:Int×Unit),0<=x.1/\x.1<=(↑l.length:Int)/\List.take x.1.toNat l=List.take x.1.toNat m->(decide (x.1<(↑l.length:Int))=true->(0<=x.1/\x.1<(↑l.length:Int))/\∀(x_1:Int×Int×Bool×Bool),l[x.1.toNat]? =some x_1->(0<=x.1/\x.1<(↑m.length:Int))/\∀(x_2:Int×Int×Bool×Bool),m[x.1.toNat]? =some x_2->((!(decide (x_1.1=x_2.1)&&(decide (x_1.2.1=x_2.2.1)&&(x_1.2.2.1==x_2.2.2.1&&(x_1.2.2.2==x_2.2.2.2&&true)))))=true->(false,())=(decide (l=m),()))/\((!(decide (x_1.1=x_2.1)&&(decide (x_1.2.1=x_2.2.1)&&(x_1.2.2.1==x_2.2.2.1&&(x_1.2.2.2==x_2.2.2.2&&true)))))=false->(-9223372036854775808<=x.1+1/\x.1+1<=9223372036854775807)/\True/\(0<=x.1+1/\x.1+1<=(↑l.length:Int)/\List.take (x.1+1).toNat l=List.take (x.1+1).toNat m)/\((↑l.length:Int)-(x.1+1)).toNat<((↑l.length:Int)-x.1).toNat))/\(decide (x.1<(↑l.length:Int))=false->(true,())=(decide (l=m),())))
theorem g_racc_eq (l m:List (Int×Int×Bool×Bool)):Cond (env_racc l m) Tryz.f42 [.list .tmp AcT l, .list .tmp AcT m] [.bool] (decide (l=m),())=g_racc_vc l m:=by kernel_rfl
theorem g_racc_ok (l m:List (Int×Int×Bool×Bool)) (h:l.length<=1000000000):g_racc_vc l m:=by
 unfold g_racc_vc;simp only [decide_eq_true_eq,decide_eq_false_iff_not,Bool.not_eq_true',Bool.not_eq_false',Bool.and_true,Bool.and_eq_true,Bool.and_eq_false_iff];refine ⟨fun k=> ?_,fun k=>⟨⟨trivial,by omega,by omega,rfl⟩, ?_⟩⟩
 ·rw [decide_eq_false (fun e=>k (by rw [e]))]
 rintro ⟨i,⟨⟩⟩ ⟨i0,i1,ht⟩;dsimp only at i0 i1 ht⊢;refine ⟨fun c=>⟨⟨i0,c⟩,fun x hx=>⟨⟨i0,by omega⟩,fun y hy=>⟨fun d=> ?_,fun d=>⟨by omega,trivial,⟨by omega,by omega, ?_⟩,by omega⟩⟩⟩⟩,fun c=> ?_⟩
 ·rw [decide_eq_false];intro e;subst e;rw [hx] at hy;cases hy;simp at d
 ·rw [show (i+1).toNat=i.toNat+1 by omega];refine Rts.take_eq ht hx hy ?_;obtain ⟨x1,x2,x3,x4⟩:=x;obtain ⟨y1,y2,y3,y4⟩:=y;simp at d;simp [d]
 ·rw [List.take_of_length_le (by omega),List.take_of_length_le (by omega)] at ht;rw [decide_eq_true ht]
theorem racc_pure (l m:List (Int×Int×Bool×Bool)) (h:l.length<=1000000000):Pure Tryz.prog 42 [.list .tmp AcT l, .list .tmp AcT m] (.bool (decide (l=m))):=
 by have k:=Pure.of_cond (g_racc_eq l m) (g_racc_ok l m h) (specs_ok rfl [] [] rfl rfl) mixed Tryz.func42;exact k
noncomputable def q_racc (l m:List (Int×Int×Bool×Bool)):Prop×V:=(l.length<=1000000000,(.bool (decide (l=m))))
noncomputable def sp_racc:FSpec Tryz.prog where
 f:=42
 run:=fun
  |[v0,v1]=>(asL AcT v0:Option (List (Int×Int×Bool×Bool))).bind fun l=>(asL AcT v1:Option (List (Int×Int×Bool×Bool))).bind fun m=>some (q_racc l m)
  |_=>none
 ok:=fun args pre r h hp=>by
  split at h
  ·rename_i v0 v1;obtain ⟨l,h0,h⟩:=Option.bind_eq_some_iff.1 h;obtain ⟨m,h1,h⟩:=Option.bind_eq_some_iff.1 h;exact of_q h hp fun h=>(racc_pure l m h).weak (.cons (asL_weak h0) (.cons (asL_weak h1) .nil))
  ·cases h
noncomputable def env_rlck (l m:List (Int×Int)):Env where
 P:=Tryz.prog
 ty:=tys0
 heads:=fun|4=>some {slots:=[(5, .int .i64)],boxes:=[],inv:=fun _ (x:Int×Unit)=>0<=x.1/\x.1<=l.length/\l.take x.1.toNat=m.take x.1.toNat,measure:=fun _ (x:Int×Unit)=>(l.length-x.1).toNat}|_=>none
def g_rlck_vc (l:List (Int×Int)) (m:List (Int×Int)):Prop:=
 ((!decide ((↑l.length:Int)=(↑m.length:Int)))=true->(false,())=(decide (l=m),()))/\((!decide ((↑l.length:Int)=(↑m.length:Int)))=false->(True/\0<=(0:Int)/\0<=(↑l.length:Int)/\List.take (Int.toNat (0:Int)) l=List.take (Int.toNat (0:Int)) m)/\∀(x:Int×Unit),0<=x.1/\x.1<=(↑l.length:Int)/\List.take x.1.toNat l=List.take x.1.toNat m->(decide (x.1<(↑l.length:Int))=true->(0<=x.1/\x.1<(↑l.length:Int))/\∀(x_1:Int×Int),l[x.1.toNat]? =some x_1->(0<=x.1/\x.1<(↑m.length:Int))/\∀(x_2:Int×Int),m[x.1.toNat]? =some x_2->((!(decide (x_1.1=x_2.1)&&(decide (x_1.2=x_2.2)&&true)))=true->(false,())=(decide (l=m),()))/\((!(decide (x_1.1=x_2.1)&&(decide (x_1.2=x_2.2)&&true)))=false->(-9223372036854775808<=x.1+1/\x.1+1<=9223372036854775807)/\True/\(0<=x.1+1/\x.1+1<=(↑l.length:Int)/\List.take (x.1+1).toNat l=List.take (x.1+1).toNat m)/\((↑l.length:Int)-(x.1+1)).toNat<((↑l.length:Int)-x.1).toNat))/\(decide (x.1<(↑l.length:Int))=false->(true,())=(decide (l=m),())))
theorem g_rlck_eq (l m:List (Int×Int)):Cond (env_rlck l m) Tryz.f45 [.list .tmp Vl l, .list .tmp Vl m] [.bool] (decide (l=m),())=g_rlck_vc l m:=by kernel_rfl
theorem g_rlck_ok (l m:List (Int×Int)) (h:l.length<=1000000000):g_rlck_vc l m:=by
 unfold g_rlck_vc;simp only [decide_eq_true_eq,decide_eq_false_iff_not,Bool.not_eq_true',Bool.not_eq_false',Bool.and_true,Bool.and_eq_true,Bool.and_eq_false_iff];refine ⟨fun k=> ?_,fun k=>⟨⟨trivial,by omega,by omega,rfl⟩, ?_⟩⟩
 ·rw [decide_eq_false (fun e=>k (by rw [e]))]
 rintro ⟨i,⟨⟩⟩ ⟨i0,i1,ht⟩;dsimp only at i0 i1 ht⊢;refine ⟨fun c=>⟨⟨i0,c⟩,fun x hx=>⟨⟨i0,by omega⟩,fun y hy=>⟨fun d=> ?_,fun d=>⟨by omega,trivial,⟨by omega,by omega, ?_⟩,by omega⟩⟩⟩⟩,fun c=> ?_⟩
 ·rw [decide_eq_false];intro e;subst e;rw [hx] at hy;cases hy;simp at d
 ·rw [show (i+1).toNat=i.toNat+1 by omega];refine Rts.take_eq ht hx hy ?_;obtain ⟨x1,x2⟩:=x;obtain ⟨y1,y2⟩:=y;simp at d;simp [d]
 ·rw [List.take_of_length_le (by omega),List.take_of_length_le (by omega)] at ht;rw [decide_eq_true ht]
theorem rlck_pure (l m:List (Int×Int)) (h:l.length<=1000000000):Pure Tryz.prog 45 [.list .tmp Vl l, .list .tmp Vl m] (.bool (decide (l=m))):=
 by have k:=Pure.of_cond (g_rlck_eq l m) (g_rlck_ok l m h) (specs_ok rfl [] [] rfl rfl) mixed Tryz.func45;exact k
noncomputable def q_rlck (l m:List (Int×Int)):Prop×V:=(l.length<=1000000000,(.bool (decide (l=m))))
noncomputable def sp_rlck:FSpec Tryz.prog where
 f:=45
 run:=fun
  |[v0,v1]=>(asL Vl v0:Option (List (Int×Int))).bind fun l=>(asL Vl v1:Option (List (Int×Int))).bind fun m=>some (q_rlck l m)
  |_=>none
 ok:=fun args pre r h hp=>by
  split at h
  ·rename_i v0 v1;obtain ⟨l,h0,h⟩:=Option.bind_eq_some_iff.1 h;obtain ⟨m,h1,h⟩:=Option.bind_eq_some_iff.1 h;exact of_q h hp fun h=>(rlck_pure l m h).weak (.cons (asL_weak h0) (.cons (asL_weak h1) .nil))
  ·cases h
end Go.Proofs.YtabicbgeoiilmaaGreat.Eql
end
section
namespace Go.Proofs.YtabicbgeoiilmaaGreat.Acc
open Go.Vm
def badA (n:Int):List AcD->Int->Option (Int×Int)
 |[],_=>none
 |x::r,i=>if mayA x n=0 then badA n r (i+1) else some (i,mayA x n)
theorem bad_next {n:Int} {l:List AcD} {i:Int} {x:AcD} (h0:0<=i) (hx:l[i.toNat]? =some x):badA n (l.drop i.toNat) i=if mayA x n=0 then badA n (l.drop (i+1).toNat) (i+1) else some (i,mayA x n):=by
 obtain ⟨h1,h2⟩:=List.getElem?_eq_some_iff.1 hx;rw [List.drop_eq_getElem_cons h1,h2,show (i+1).toNat=i.toNat+1 by omega];rfl
theorem bad_end {n:Int} {l:List AcD} {i:Int} (h: ¬i<(l.length:Int)):badA n (l.drop i.toNat) i=none:=by
 rw [List.drop_of_length_le (by omega)];rfl
def cirF (l:List Int) (n:Int):Int×Int:=match l with
 |[]=>(n,0)
 |a::_=>(a-1,26)
def endF (p:Int->Bool) (l:List AcD):Int×Int:=cirF (thoseF p l.length) l.length
def checkG (p:Int->Bool) (l:List AcD):Int×Int:=
 if 60<(l.length:Int) then (0,3) else if l.take 3≠ownL then (0,28) else match badA l.length l 0 with
  |some r=>r
  |none=>endF p l
theorem check_full {p:Int->Bool} {l:List AcD} (h:60<(l.length:Int)):checkG p l=(0,3):=by unfold checkG;rw [if_pos h]
theorem check_own {p:Int->Bool} {l:List AcD} (h: ¬60<(l.length:Int)) (k:l.take 3≠ownL):checkG p l=(0,28):=by unfold checkG;rw [if_neg h,if_pos k]
theorem check_bad {p:Int->Bool} {l:List AcD} {r:Int×Int} (h: ¬60<(l.length:Int)) (k:l.take 3=ownL) (hb:badA l.length l 0=some r):checkG p l=r:=by unfold checkG;rw [if_neg h,if_neg (fun c=>c k),hb]
theorem check_end {p:Int->Bool} {l:List AcD} (h: ¬60<(l.length:Int)) (k:l.take 3=ownL) (hb:badA l.length l 0=none):checkG p l=endF p l:=by unfold checkG;rw [if_neg h,if_neg (fun c=>c k),hb]
def checkF (l:List AcD):Int×Int:=checkG (roundF l) l
theorem th_congr {p q:Int->Bool} {n:Nat} (h: ∀a:Int,1<=a->a<=n->p a=q a): ∀(f:Nat) (i:Int),1<=i->i+f<=n+1->thGo p f i=thGo q f i
 |0,_,_,_=>rfl
 |f+1,i,h1,h2=>by
  rw [thGo,thGo,th_congr h f (i+1) (by omega) (by omega),h i h1 (by omega)]
theorem check_round (l:List AcD):checkG (roundR l) l=checkF l:=by
 unfold checkF checkG endF thoseF;rw [th_congr (p:=roundR l) (q:=roundF l) (n:=l.length) (fun a h1 h2=>(round_eq ⟨h1,h2⟩).symm) l.length 1 (by omega) (by omega)]
theorem its_len (l:List AcD) (a:Int) (m:Nat):(its l a m).length=m:=by simp [its]
set_option maxRecDepth 20000
noncomputable def env_up (l:List AcD) (a:Int):Env where
 P:=Tryz.prog
 ty:=tys0
 specs:=specsOf [sp_ris,Stk.sp_has]
 heads:=fun|5=>some {slots:=[(5, .slc 9000 I),(6, .int .i64)],boxes:=[],inv:=fun _ (x:List Int×Int×Unit)=> ∃m,x.1=its l a m/\x.2.1=it l a (m+1)/\Way l a m/\isIn l a/\upF l a=upGo l a (l.length+1-m) (it l a (m+1)) (its l a m),measure:=fun _ (x:List Int×Int×Unit)=>l.length+1-x.1.length}|_=>none
def g_up_vc (l:List AcD) (a:Int):Prop:=
 True/\((!decide (isIn l a))=true->([],())=(upF l a,()))/\((!decide (isIn l a))=false->(-9223372036854775808<=a-(1:Int)/\a-(1:Int)<=9223372036854775807)/\(0<=a-(1:Int)/\a-(1:Int)<(↑l.length:Int))/\∀(x:Int×Int×Bool×Bool),l[(a-(1:Int)).toNat]? =some x->(True/\∃m,[]=its l a m/\x.1=it l a (m+(1:Nat))/\Way l a m/\isIn l a/\upF l a=upGo l a (l.length+(1:Nat)-m) (it l a (m+(1:Nat))) (its l a m))/\∀(x:List Int×Int×Unit),(∃m,x.1=its l a m/\x.2.1=it l a (m+(1:Nat))/\Way l a m/\isIn l a/\upF l a=upGo l a (l.length+(1:Nat)-m) (it l a (m+(1:Nat))) (its l a m))->True/\(decide (isIn l x.2.1)=true->((!decide (x.2.1=a))=true->x.1.length<=(1000000000:Nat)/\((!x.1.contains x.2.1)=true->((x.1.length+(1:Nat))*(8:Nat)<=(140737488355328:Nat)/\x.1.length+(1:Nat)<=(4611686018427387904:Nat))/\(-9223372036854775808<=x.2.1-(1:Int)/\x.2.1-(1:Int)<=9223372036854775807)/\(0<=x.2.1-(1:Int)/\x.2.1-(1:Int)<(↑l.length:Int))/\∀(x_1:Int×Int×Bool×Bool),l[(x.2.1-(1:Int)).toNat]? =some x_1->True/\(∃m,x.1++[x.2.1]=its l a m/\x_1.1=it l a (m+(1:Nat))/\Way l a m/\isIn l a/\upF l a=upGo l a (l.length+(1:Nat)-m) (it l a (m+(1:Nat))) (its l a m))/\l.length+(1:Nat)-(x.1++[x.2.1]).length<l.length+(1:Nat)-x.1.length)/\((!x.1.contains x.2.1)=false->(x.1,())=(upF l a,())))/\((!decide (x.2.1=a))= !true->(x.1,())=(upF l a,())))/\(decide (isIn l x.2.1)= !true->(x.1,())=(upF l a,())))
theorem g_up_eq (l:List AcD) (a:Int):Cond (env_up l a) Tryz.f131 [.list .tmp AcT l, .int .i64 a] [.slc 0 I] (upF l a,())=g_up_vc l a:=by kernel_rfl
theorem g_up_ok (l:List AcD) (a:Int) (h:l.length<=1000000):g_up_vc l a:=by
 unfold g_up_vc;simp only [decide_eq_true_eq,decide_eq_false_iff_not];refine ⟨trivial,fun c=> ?_,fun c=> ?_⟩
 ·have c: ¬isIn l a:=by simpa using c
  unfold upF;rw [if_neg c]
 have c:isIn l a:=by simpa using c
 have c1:=c.1;have c2:=c.2;refine ⟨by omega,by omega,fun x hx=>⟨⟨trivial,0,rfl,(parA_at hx).symm, .zero l a,c, ?_⟩, ?_⟩⟩
 ·unfold upF;rw [if_pos c];rfl
 rintro ⟨out,p,⟨⟩⟩ ⟨m,h1,h2,h3,h4,h5⟩;dsimp only at h1 h2⊢;have hlen:=h3.len h4;have hl:out.length=m:=by rw [h1,its_len]
 have hf:l.length+1-m=(l.length-m)+1:=by omega
 rw [hf,upGo,<-h1,<-h2] at h5;refine ⟨trivial,fun d=>⟨fun e=>⟨by omega,fun f=>⟨by omega,by have:=d.1;have:=d.2;omega,by have:=d.1;have:=d.2;omega,fun y hy=>⟨trivial,⟨m+1, ?_, ?_, ?_,h4, ?_⟩, ?_⟩⟩,fun f=> ?_⟩,fun e=> ?_⟩,fun d=> ?_⟩
 ·rw [its_succ,h1,h2]
 ·show y.1=parA l (it l a (m+1));rw [<-h2,parA_at hy]
 ·refine h3.next (h2▸d) (h2▸(by simpa using e)) ?_;rw [<-h1,<-h2];simpa using f
 ·rw [h5,if_pos ⟨d,by simpa using e,by simpa using f⟩,its_succ,h1,h2,show l.length+1-(m+1)=l.length-m by omega];rfl
 ·simp only [List.length_append,List.length_singleton];omega
 ·rw [h5,if_neg (fun k=>k.2.2 (by simpa using f))]
 ·rw [h5,if_neg (fun k=>k.2.1 (by simpa using e))]
 ·rw [h5,if_neg (fun k=>by simp at d;exact d k.1)]
theorem up_pure (l:List AcD) (a:Int) (h:l.length<=1000000):Pure Tryz.prog 131 [.list .tmp AcT l, .int .i64 a] (.olist I (upF l a)):=
 by have k:=Pure.of_cond (g_up_eq l a) (g_up_ok l a h) (specs_ok rfl [sp_ris,Stk.sp_has] [] rfl rfl) mixed Tryz.func131;exact k
noncomputable def q_up (l:List AcD) (a:Int):Prop×V:=(l.length<=1000000,(.olist I (upF l a)))
noncomputable def sp_up:FSpec Tryz.prog where
 f:=131
 run:=fun
  |[v0, .int .i64 a]=>(asL AcT v0:Option (List AcD)).bind fun l=>some (q_up l a)
  |_=>none
 ok:=fun args pre r h hp=>by
  split at h
  ·rename_i v0 a;obtain ⟨l,h0,h⟩:=Option.bind_eq_some_iff.1 h;exact of_q h hp fun h=>(up_pure l a h).weak (.cons (asL_weak h0) (.cons (.refl _) .nil))
  ·cases h
noncomputable def env_rround (l:List AcD) (a:Int):Env where
 P:=Tryz.prog
 ty:=tys0
 specs:=specsOf [sp_up]
def g_rround_vc (l:List AcD) (a:Int):Prop:=
 l.length<=(1000000:Nat)/\(decide ((0:Int)<(↑(upF l a).length:Int))=true->(-9223372036854775808<=(↑(upF l a).length:Int)-(1:Int)/\(↑(upF l a).length:Int)-(1:Int)<=9223372036854775807)/\(0<=(↑(upF l a).length:Int)-(1:Int)/\(↑(upF l a).length:Int)-(1:Int)<(↑(upF l a).length:Int))/\((↑(upF l a).length:Int)-(1:Int)).toNat<(upF l a).length/\∀(x:Int),(upF l a)[((↑(upF l a).length:Int)-(1:Int)).toNat]? =some x->(-9223372036854775808<=x-(1:Int)/\x-(1:Int)<=9223372036854775807)/\(0<=x-(1:Int)/\x-(1:Int)<(↑l.length:Int))/\∀(x_1:Int×Int×Bool×Bool),l[(x-(1:Int)).toNat]? =some x_1->(decide (x_1.1=a),())=(roundR l a,()))/\(decide ((0:Int)<(↑(upF l a).length:Int))=false->(-9223372036854775808<=a-(1:Int)/\a-(1:Int)<=9223372036854775807)/\(0<=a-(1:Int)/\a-(1:Int)<(↑l.length:Int))/\∀(x:Int×Int×Bool×Bool),l[(a-(1:Int)).toNat]? =some x->(decide (x.1=a),())=(roundR l a,()))
theorem g_rround_eq (l:List AcD) (a:Int):Cond (env_rround l a) Tryz.f71 [.list .tmp AcT l, .int .i64 a] [.bool] (roundR l a,())=g_rround_vc l a:=by kernel_rfl
theorem g_rround_ok (l:List AcD) (a:Int) (h:isIn l a/\l.length<=1000000):g_rround_vc l a:=by
 unfold g_rround_vc;simp only [decide_eq_true_eq,decide_eq_false_iff_not];obtain ⟨⟨a1,a2⟩,hl⟩:=h;obtain ⟨k,e,hw, -⟩:=up_its ⟨a1,a2⟩;have hk:=hw.len ⟨a1,a2⟩;have hn:(upF l a).length=k:=by rw [e,its_len]
 unfold roundR;refine ⟨hl,fun c=>⟨by omega,by omega,by omega,fun x hx=> ?_⟩,fun c=>⟨by omega,by omega,fun x hx=> ?_⟩⟩
 ·have hi:=(hw.inn x (e▸List.mem_of_getElem? hx)).1;obtain ⟨i1,i2⟩:=hi;refine ⟨by omega,by omega,fun y hy=> ?_⟩;rw [List.getLast?_eq_getElem?,show (upF l a).length-1=(((upF l a).length:Int)-1).toNat by omega,hx,Option.getD_some,parA_at hy]
 ·rw [show upF l a=[] from List.eq_nil_of_length_eq_zero (by omega),List.getLast?_nil,Option.getD_none,parA_at hx]
theorem rround_pure (l:List AcD) (a:Int) (h:isIn l a/\l.length<=1000000):Pure Tryz.prog 71 [.list .tmp AcT l, .int .i64 a] (.bool (roundR l a)):=
 by have k:=Pure.of_cond (g_rround_eq l a) (g_rround_ok l a h) (specs_ok rfl [sp_up] [] rfl rfl) mixed Tryz.func71;exact k
noncomputable def q_rround (l:List AcD) (a:Int):Prop×V:=(isIn l a/\l.length<=1000000,(.bool (roundR l a)))
noncomputable def sp_rround:FSpec Tryz.prog where
 f:=71
 run:=fun
  |[v0, .int .i64 a]=>(asL AcT v0:Option (List AcD)).bind fun l=>some (q_rround l a)
  |_=>none
 ok:=fun args pre r h hp=>by
  split at h
  ·rename_i v0 a;obtain ⟨l,h0,h⟩:=Option.bind_eq_some_iff.1 h;exact of_q h hp fun h=>(rround_pure l a h).weak (.cons (asL_weak h0) (.cons (.refl _) .nil))
  ·cases h
def chGo (a:Int):List AcD->Int->List Int
 |[],_=>[]
 |x::r,i=>if x.1=a then (i+1)::chGo a r (i+1) else chGo a r (i+1)
def chF (l:List AcD) (a:Int):List Int:=if isIn l a then chGo a l 0 else []
theorem ch_next {a:Int} {l:List AcD} {i:Int} {x:AcD} (h0:0<=i) (hx:l[i.toNat]? =some x):chGo a (l.drop i.toNat) i=if x.1=a then (i+1)::chGo a (l.drop (i+1).toNat) (i+1) else chGo a (l.drop (i+1).toNat) (i+1):=by
 obtain ⟨h1,h2⟩:=List.getElem?_eq_some_iff.1 hx;rw [List.drop_eq_getElem_cons h1,h2,show (i+1).toNat=i.toNat+1 by omega];rfl
theorem ch_any (a:Int): ∀(l:List AcD) (i:Int),chGo a l i=[]↔l.any (upLf a)=false
 |[],_=>by simp [chGo]
 |x::r,i=>by
  rw [chGo,List.any_cons];by_cases c:x.1=a
  ·simp [c,upLf]
  ·simp [c,upLf,ch_any a r (i+1)]
noncomputable def env_children (l:List AcD) (a:Int):Env where
 P:=Tryz.prog
 ty:=tys0
 specs:=specsOf [sp_ris]
 heads:=fun|3=>some {slots:=[(6, .int .i64),(5, .slc 9000 I)],boxes:=[],inv:=fun _ (x:Int×List Int×Unit)=>0<=x.1/\x.1<=l.length/\x.2.1.length<=x.1.toNat/\chF l a=x.2.1++(if isIn l a then chGo a (l.drop x.1.toNat) x.1 else []),measure:=fun _ (x:Int×List Int×Unit)=>(l.length-x.1).toNat}|_=>none
def g_children_vc (l:List AcD) (a:Int):Prop:=
 (True/\0<=(0:Int)/\0<=(↑l.length:Int)/\(0:Nat)<=Int.toNat (0:Int)/\chF l a=if isIn l a then chGo a (List.drop (Int.toNat (0:Int)) l) (0:Int) else [])/\∀(x:Int×List Int×Unit),(0<=x.1/\x.1<=(↑l.length:Int)/\x.2.1.length<=x.1.toNat/\chF l a=x.2.1++if isIn l a then chGo a (List.drop x.1.toNat l) x.1 else [])->(decide (x.1<(↑l.length:Int))=true->True/\(decide (isIn l a)=true->(0<=x.1/\x.1<(↑l.length:Int))/\∀(x_1:Int×Int×Bool×Bool),l[x.1.toNat]? =some x_1->(decide (x_1.1=a)=true->(-9223372036854775808<=x.1+1/\x.1+1<=9223372036854775807)/\((x.2.1.length+(1:Nat))*(8:Nat)<=(140737488355328:Nat)/\x.2.1.length+(1:Nat)<=(4611686018427387904:Nat))/\(-9223372036854775808<=x.1+1/\x.1+1<=9223372036854775807)/\True/\(0<=x.1+1/\x.1+1<=(↑l.length:Int)/\(x.2.1++[x.1+1]).length<=(x.1+1).toNat/\chF l a=x.2.1++[x.1+1]++if isIn l a then chGo a (List.drop (x.1+1).toNat l) (x.1+1) else [])/\((↑l.length:Int)-(x.1+1)).toNat<((↑l.length:Int)-x.1).toNat)/\(decide (x_1.1=a)=false->(-9223372036854775808<=x.1+1/\x.1+1<=9223372036854775807)/\True/\(0<=x.1+1/\x.1+1<=(↑l.length:Int)/\x.2.1.length<=(x.1+1).toNat/\chF l a=x.2.1++if isIn l a then chGo a (List.drop (x.1+1).toNat l) (x.1+1) else [])/\((↑l.length:Int)-(x.1+1)).toNat<((↑l.length:Int)-x.1).toNat))/\(decide (isIn l a)= !true->(-9223372036854775808<=x.1+1/\x.1+1<=9223372036854775807)/\True/\(0<=x.1+1/\x.1+1<=(↑l.length:Int)/\x.2.1.length<=(x.1+1).toNat/\chF l a=x.2.1++if isIn l a then chGo a (List.drop (x.1+1).toNat l) (x.1+1) else [])/\((↑l.length:Int)-(x.1+1)).toNat<((↑l.length:Int)-x.1).toNat))/\(decide (x.1<(↑l.length:Int))=false->(x.2.1,())=(chF l a,()))
theorem g_children_eq (l:List AcD) (a:Int):Cond (env_children l a) Tryz.f155 [.list .tmp AcT l, .int .i64 a] [.slc 0 I] (chF l a,())=g_children_vc l a:=by kernel_rfl
theorem g_children_ok (l:List AcD) (a:Int) (h:l.length<=1000000):g_children_vc l a:=by
 unfold g_children_vc;simp only [decide_eq_true_eq,decide_eq_false_iff_not];refine ⟨⟨trivial,by omega,by omega,by omega,rfl⟩, ?_⟩;rintro ⟨i,out,⟨⟩⟩ ⟨h0,h1,h2,hb⟩;dsimp only at h0 h1 h2 hb⊢;refine ⟨fun c=>⟨trivial,fun d=>⟨⟨h0,c⟩,fun x hx=>⟨fun k=>⟨by omega,by omega,by omega,trivial,⟨by omega,by omega,by simp only [List.length_append,List.length_singleton];omega, ?_⟩,by omega⟩,fun k=>⟨by omega,trivial,⟨by omega,by omega,by omega, ?_⟩,by omega⟩⟩⟩,fun d=>⟨by omega,trivial,⟨by omega,by omega,by omega, ?_⟩,by omega⟩⟩,fun c=> ?_⟩
 ·rw [hb,if_pos d,if_pos d,ch_next h0 hx,if_pos k,List.append_assoc];rfl
 ·rw [hb,if_pos d,if_pos d,ch_next h0 hx,if_neg k]
 ·have d: ¬isIn l a:=by simpa using d
  rw [hb,if_neg d,if_neg d]
 ·rw [hb];split
  ·rw [List.drop_of_length_le (by omega)];simp [chGo]
  ·simp
theorem children_pure (l:List AcD) (a:Int) (h:l.length<=1000000):Pure Tryz.prog 155 [.list .tmp AcT l, .int .i64 a] (.olist I (chF l a)):=
 by have k:=Pure.of_cond (g_children_eq l a) (g_children_ok l a h) (specs_ok rfl [sp_ris] [] rfl rfl) mixed Tryz.func155;exact k
noncomputable def q_children (l:List AcD) (a:Int):Prop×V:=(l.length<=1000000,(.olist I (chF l a)))
noncomputable def sp_children:FSpec Tryz.prog where
 f:=155
 run:=fun
  |[v0, .int .i64 a]=>(asL AcT v0:Option (List AcD)).bind fun l=>some (q_children l a)
  |_=>none
 ok:=fun args pre r h hp=>by
  split at h
  ·rename_i v0 a;obtain ⟨l,h0,h⟩:=Option.bind_eq_some_iff.1 h;exact of_q h hp fun h=>(children_pure l a h).weak (.cons (asL_weak h0) (.cons (.refl _) .nil))
  ·cases h
noncomputable def env_rleaf (l:List AcD) (a:Int):Env where
 P:=Tryz.prog
 ty:=tys0
 specs:=specsOf [sp_ris,sp_children]
def g_rleaf_vc (l:List AcD) (a:Int):Prop:=
 True/\(decide (isIn l a)=true->l.length<=(1000000:Nat)/\(decide ((↑(chF l a).length:Int)=(0:Int)),())=(leafF l a,()))/\(decide (isIn l a)= !true->(false,())=(leafF l a,()))
theorem g_rleaf_eq (l:List AcD) (a:Int):Cond (env_rleaf l a) Tryz.f102 [.list .tmp AcT l, .int .i64 a] [.bool] (leafF l a,())=g_rleaf_vc l a:=by kernel_rfl
theorem g_rleaf_ok (l:List AcD) (a:Int) (h:l.length<=1000000):g_rleaf_vc l a:=by
 unfold g_rleaf_vc leafF;refine ⟨trivial,fun c=>⟨h, ?_⟩,fun c=> ?_⟩
 ·rw [c,Bool.true_and];have c:isIn l a:=by simpa using c
  unfold chF;rw [if_pos c];have:=ch_any a l 0;rcases hb:l.any (upLf a) with _|_<;>rw [hb] at this<;>simp_all
 ·rw [show decide (isIn l a)=false by simpa using c,Bool.false_and]
theorem rleaf_pure (l:List AcD) (a:Int) (h:l.length<=1000000):Pure Tryz.prog 102 [.list .tmp AcT l, .int .i64 a] (.bool (leafF l a)):=
 by have k:=Pure.of_cond (g_rleaf_eq l a) (g_rleaf_ok l a h) (specs_ok rfl [sp_ris,sp_children] [] rfl rfl) mixed Tryz.func102;exact k
noncomputable def q_rleaf (l:List AcD) (a:Int):Prop×V:=(l.length<=1000000,(.bool (leafF l a)))
noncomputable def sp_rleaf:FSpec Tryz.prog where
 f:=102
 run:=fun
  |[v0, .int .i64 a]=>(asL AcT v0:Option (List AcD)).bind fun l=>some (q_rleaf l a)
  |_=>none
 ok:=fun args pre r h hp=>by
  split at h
  ·rename_i v0 a;obtain ⟨l,h0,h⟩:=Option.bind_eq_some_iff.1 h;exact of_q h hp fun h=>(rleaf_pure l a h).weak (.cons (asL_weak h0) (.cons (.refl _) .nil))
  ·cases h
theorem acc_cmp (x y:AcD):(decide (x.1=y.1)&&(decide (x.2.1=y.2.1)&&(x.2.2.1==y.2.2.1&&(x.2.2.2==y.2.2.2&&true))))=decide (x=y):=by
 obtain ⟨a,b,c,d⟩:=x;obtain ⟨e,f,g,h⟩:=y;rw [Bool.eq_iff_iff];simp
noncomputable def env_rcheck (l:List AcD):Env where
 P:=Tryz.prog
 ty:=tys0
 specs:=specsOf [sp_rnew,sp_rmay,sp_rround]
 heads:=fun|7=>some {slots:=[(5, .int .i64)],boxes:=[],inv:=fun _ (x:Int×Unit)=>0<=x.1/\x.1<=l.length/\l.take 3=ownL/\badA l.length l 0=badA l.length (l.drop x.1.toNat) x.1,measure:=fun _ (x:Int×Unit)=>(l.length-x.1).toNat}|13=>some {slots:=[(7, .int .i64)],boxes:=[],inv:=fun _ (x:Int×Unit)=>0<=x.1/\x.1<=l.length/\l.take 3=ownL/\badA l.length l 0=none/\endF (roundR l) l=cirF (thGo (roundR l) (l.length-x.1.toNat) (x.1+1)) l.length,measure:=fun _ (x:Int×Unit)=>(l.length-x.1).toNat}|_=>none
def g_rcheck_vc (l:List AcD):Prop:=
 (decide ((60:Int)<(↑l.length:Int))=true->((0:Int),(3:Int),())=((checkG (roundR l) l).1,(checkG (roundR l) l).2,()))/\(decide ((60:Int)<(↑l.length:Int))=false->True/\(decide ((↑l.length:Int)<(3:Int))=false->(0<=(0:Int)/\(0:Int)<(↑l.length:Int))/\∀(x:Int×Int×Bool×Bool),l[Int.toNat (0:Int)]? =some x->(0<=(0:Int)/\(0:Int)<(↑ownL.length:Int))/\∀(x_1:Int×Int×Bool×Bool),ownL[Int.toNat (0:Int)]? =some x_1->((!(decide (x.1=x_1.1)&&(decide (x.2.1=x_1.2.1)&&(x.2.2.1==x_1.2.2.1&&(x.2.2.2==x_1.2.2.2&&true)))))=false->(0<=(1:Int)/\(1:Int)<(↑l.length:Int))/\∀(x:Int×Int×Bool×Bool),l[Int.toNat (1:Int)]? =some x->(0<=(1:Int)/\(1:Int)<(↑ownL.length:Int))/\∀(x_2:Int×Int×Bool×Bool),ownL[Int.toNat (1:Int)]? =some x_2->((!(decide (x.1=x_2.1)&&(decide (x.2.1=x_2.2.1)&&(x.2.2.1==x_2.2.2.1&&(x.2.2.2==x_2.2.2.2&&true)))))=false->(0<=(2:Int)/\(2:Int)<(↑l.length:Int))/\∀(x:Int×Int×Bool×Bool),l[Int.toNat (2:Int)]? =some x->(0<=(2:Int)/\(2:Int)<(↑ownL.length:Int))/\∀(x_3:Int×Int×Bool×Bool),ownL[Int.toNat (2:Int)]? =some x_3->((!(decide (x.1=x_3.1)&&(decide (x.2.1=x_3.2.1)&&(x.2.2.1==x_3.2.2.1&&(x.2.2.2==x_3.2.2.2&&true)))))=true->((0:Int),(28:Int),())=((checkG (roundR l) l).1,(checkG (roundR l) l).2,()))/\((!(decide (x.1=x_3.1)&&(decide (x.2.1=x_3.2.1)&&(x.2.2.1==x_3.2.2.1&&(x.2.2.2==x_3.2.2.2&&true)))))=false->(True/\0<=(0:Int)/\0<=(↑l.length:Int)/\List.take (3:Nat) l=ownL/\badA (↑l.length:Int) l (0:Int)=badA (↑l.length:Int) (List.drop (Int.toNat (0:Int)) l) (0:Int))/\∀(x:Int×Unit),0<=x.1/\x.1<=(↑l.length:Int)/\List.take (3:Nat) l=ownL/\badA (↑l.length:Int) l (0:Int)=badA (↑l.length:Int) (List.drop x.1.toNat l) x.1->(decide (x.1<(↑l.length:Int))=true->(0<=x.1/\x.1<(↑l.length:Int))/\∀(x_4:Int×Int×Bool×Bool),l[x.1.toNat]? =some x_4->True/\((!decide (mayA (x_4.1,x_4.2.1,x_4.2.2.1,x_4.2.2.2) (↑l.length:Int)=(0:Int)))=true->(x.1,mayA (x_4.1,x_4.2.1,x_4.2.2.1,x_4.2.2.2) (↑l.length:Int),())=((checkG (roundR l) l).1,(checkG (roundR l) l).2,()))/\((!decide (mayA (x_4.1,x_4.2.1,x_4.2.2.1,x_4.2.2.2) (↑l.length:Int)=(0:Int)))=false->(-9223372036854775808<=x.1+1/\x.1+1<=9223372036854775807)/\True/\(0<=x.1+1/\x.1+1<=(↑l.length:Int)/\List.take (3:Nat) l=ownL/\badA (↑l.length:Int) l (0:Int)=badA (↑l.length:Int) (List.drop (x.1+1).toNat l) (x.1+1))/\((↑l.length:Int)-(x.1+1)).toNat<((↑l.length:Int)-x.1).toNat))/\(decide (x.1<(↑l.length:Int))=false->(True/\0<=(0:Int)/\0<=(↑l.length:Int)/\List.take (3:Nat) l=ownL/\badA (↑l.length:Int) l (0:Int)=none/\endF (roundR l) l=cirF (thGo (roundR l) (l.length-Int.toNat (0:Int)) ((0:Int)+1)) (↑l.length:Int))/\∀(x:Int×Unit),0<=x.1/\x.1<=(↑l.length:Int)/\List.take (3:Nat) l=ownL/\badA (↑l.length:Int) l (0:Int)=none/\endF (roundR l) l=cirF (thGo (roundR l) (l.length-x.1.toNat) (x.1+1)) (↑l.length:Int)->(decide (x.1<(↑l.length:Int))=true->(-9223372036854775808<=x.1+1/\x.1+1<=9223372036854775807)/\(isIn l (x.1+1)/\l.length<=(1000000:Nat))/\(roundR l (x.1+1)=true->(x.1,(26:Int),())=((checkG (roundR l) l).1,(checkG (roundR l) l).2,()))/\(roundR l (x.1+1)=false->(-9223372036854775808<=x.1+1/\x.1+1<=9223372036854775807)/\True/\(0<=x.1+1/\x.1+1<=(↑l.length:Int)/\List.take (3:Nat) l=ownL/\badA (↑l.length:Int) l (0:Int)=none/\endF (roundR l) l=cirF (thGo (roundR l) (l.length-(x.1+1).toNat) (x.1+1+1)) (↑l.length:Int))/\((↑l.length:Int)-(x.1+1)).toNat<((↑l.length:Int)-x.1).toNat))/\(decide (x.1<(↑l.length:Int))=false->((↑l.length:Int),(0:Int),())=((checkG (roundR l) l).1,(checkG (roundR l) l).2,())))))/\((!(decide (x.1=x_2.1)&&(decide (x.2.1=x_2.2.1)&&(x.2.2.1==x_2.2.2.1&&(x.2.2.2==x_2.2.2.2&&true)))))= !false->((0:Int),(28:Int),())=((checkG (roundR l) l).1,(checkG (roundR l) l).2,())))/\((!(decide (x.1=x_1.1)&&(decide (x.2.1=x_1.2.1)&&(x.2.2.1==x_1.2.2.1&&(x.2.2.2==x_1.2.2.2&&true)))))= !false->((0:Int),(28:Int),())=((checkG (roundR l) l).1,(checkG (roundR l) l).2,())))/\(decide ((↑l.length:Int)<(3:Int))= !false->((0:Int),(28:Int),())=((checkG (roundR l) l).1,(checkG (roundR l) l).2,())))
theorem g_rcheck_eq (l:List AcD):Cond (env_rcheck l) Tryz.f28 [.list .tmp AcT l] [.int .i64, .int .i64] ((checkG (roundR l) l).1,(checkG (roundR l) l).2,())=g_rcheck_vc l:=by kernel_rfl
theorem g_rcheck_ok (l:List AcD) (h:l.length<=1000000):g_rcheck_vc l:=by
 unfold g_rcheck_vc;simp only [acc_cmp,Bool.not_eq_true',Bool.not_eq_false',Bool.not_false,decide_eq_true_eq,decide_eq_false_iff_not];have far: ∀k x x1,k<3->l[k]? =some x->ownL[k]? =some x1->x≠x1->l.take 3≠ownL:=fun k x x1 h3 hx hx1 hn e=>by
  rw [<-e,List.getElem?_take,if_pos h3,hx] at hx1;cases hx1;exact hn rfl
 refine ⟨fun c=>by rw [check_full c],fun c=>⟨trivial,fun d=>⟨⟨by omega,by omega⟩,fun x hx=>⟨⟨by omega,by decide⟩,fun x1 hx1=>⟨fun e1=>⟨⟨by omega,by omega⟩,fun y hy=>⟨⟨by omega,by decide⟩,fun y1 hy1=>⟨fun e2=>⟨⟨by omega,by omega⟩,fun z hz=>⟨⟨by omega,by decide⟩,fun z1 hz1=>⟨fun e3=> ?_,fun e3=> ?_⟩⟩⟩,fun e2=> ?_⟩⟩⟩,fun e1=> ?_⟩⟩⟩,fun d=> ?_⟩⟩
 ·rw [check_own c (far 2 z z1 (by omega) hz hz1 e3)]
 ·subst e1 e2 e3;have own:l.take 3=ownL:=by
   refine List.ext_getElem? fun j=> ?_;rw [List.getElem?_take];by_cases j0:j=0
   ·subst j0;exact hx.trans hx1.symm
   by_cases j1:j=1
   ·subst j1;exact hy.trans hy1.symm
   by_cases j2:j=2
   ·subst j2;exact hz.trans hz1.symm
   rw [if_neg (by omega),List.getElem?_eq_none (by simp;omega)]
  refine ⟨⟨trivial,by omega,by omega,own,rfl⟩, ?_⟩;rintro ⟨i,⟨⟩⟩ ⟨h0,h1, -,hb⟩;dsimp only at h0 h1 hb⊢;refine ⟨fun k=>⟨⟨h0,k⟩,fun x hx=>⟨trivial,fun m=> ?_,fun m=>⟨by omega,trivial,⟨by omega,by omega,own, ?_⟩,by omega⟩⟩⟩,fun k=>⟨⟨trivial,by omega,by omega,own,by rw [hb,bad_end k],rfl⟩, ?_⟩⟩
  ·rw [check_bad c own (by rw [hb,bad_next h0 hx,if_neg m])]
  ·rw [hb,bad_next h0 hx,if_pos m]
  ·rintro ⟨i,⟨⟩⟩ ⟨h0,h1, -,hb,he⟩;dsimp only at h0 h1 he⊢;refine ⟨fun k=>⟨by omega,⟨⟨by omega,by omega⟩,h⟩,fun m=> ?_,fun m=>⟨by omega,trivial,⟨by omega,by omega,own,hb, ?_⟩,by omega⟩⟩,fun k=> ?_⟩
   ·rw [check_end c own hb,he,th_hit (by omega) m];show _=(i+1-1,26,())
    rw [show i+1-1=i by omega]
   ·rw [he,th_miss (by omega) m,show l.length-(i+1).toNat=l.length-i.toNat-1 by omega]
   ·rw [check_end c own hb,he,show l.length-i.toNat=0 by omega];rfl
 ·rw [check_own c (far 1 y y1 (by omega) hy hy1 e2)]
 ·rw [check_own c (far 0 x x1 (by omega) hx hx1 e1)]
 ·rw [check_own c (fun e=>by
   have:=congrArg List.length e;rw [List.length_take] at this;simp at this;omega)]
theorem rcheck_pure (l:List AcD) (h:l.length<=1000000):Pure Tryz.prog 28 [.list .tmp AcT l] (.tuple [.int .i64 (checkG (roundR l) l).1, .int .i64 (checkG (roundR l) l).2]):=
 by have k:=Pure.of_cond (g_rcheck_eq l) (g_rcheck_ok l h) (specs_ok rfl [sp_rnew,sp_rmay,sp_rround] [] rfl rfl) mixed Tryz.func28;exact k
noncomputable def q_rcheck (l:List AcD):Prop×V:=(l.length<=1000000,(.tuple [.int .i64 (checkG (roundR l) l).1, .int .i64 (checkG (roundR l) l).2]))
noncomputable def sp_rcheck:FSpec Tryz.prog where
 f:=28
 run:=fun
  |[v0]=>(asL AcT v0:Option (List AcD)).bind fun l=>some (q_rcheck l)
  |_=>none
 ok:=fun args pre r h hp=>by
  split at h
  ·rename_i v0;obtain ⟨l,h0,h⟩:=Option.bind_eq_some_iff.1 h;exact of_q h hp fun h=>(rcheck_pure l h).weak (.cons (asL_weak h0) .nil)
  ·cases h
end Go.Proofs.YtabicbgeoiilmaaGreat.Acc
end
