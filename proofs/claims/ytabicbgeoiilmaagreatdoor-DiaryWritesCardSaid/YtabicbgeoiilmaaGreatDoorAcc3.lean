/-
  account: whether accounts may be.
-/
import Derived.Test.YtabicbgeoiilmaaGreatDoorSeat
import Derived.Test.YtabicbgeoiilmaaGreatDoorLck1
section
namespace Go.Proofs.YtabicbgeoiilmaaGreatDoor.Stk
open Go.Vm
abbrev I:Ty:= .int .i64
abbrev STy:Ty:= .pair I (.pair I (.pair I I))
abbrev Stk:Type:=Int×Int×Int×Int
theorem mixed:Tryz.prog.follows .mixedOrders=true:=rfl
set_option maxRecDepth 20000
noncomputable def env_inAt (_a _b _c _d _e _p:Int):Env where
 P:=Tryz.prog
def g_inAt_vc (a:Int) (b:Int) (c:Int) (d:Int) (e:Int) (p:Int):Prop:=
 (decide (a=e)=true->(decide (d<=p),())=(decide (a=e)&&decide (d<=p),()))/\(decide (a=e)= !true->(false,())=(decide (a=e)&&decide (d<=p),()))
theorem g_inAt_ok (a b c d e p:Int):g_inAt_vc a b c d e p:=by
 refine ⟨fun h=>by simp [h],fun h=> ?_⟩;have:decide (a=e)=false:=by simpa using h
 simp [this]
noncomputable def sp_inAt:FSpec Tryz.prog:=mkF 244 (.c (.g (.c .j (.c .j (.c .j (.c .j .z))))) (.c (.f (.c .j .z)) (.c (.f (.c .j .z)) .z))) [.bool] (fun x=>(fun (a b c d e p:Int)=>(True,decide (a=e)&&decide (d<=p),())) x.1.1 x.1.2.1 x.1.2.2.1 x.1.2.2.2.1 x.2.1.1 x.2.2.1.1) fun ⟨⟨a,b,c,d,_⟩,⟨e,_⟩,⟨p,_⟩,_⟩ _=>Pure.of_cond (E:=env_inAt a b c d e p) (by kernel_rfl) (g_inAt_ok a b c d e p) (specs_ok rfl [] [] rfl rfl) mixed Tryz.func244
def take (e p:Int) (b:Option Stk) (s:Stk):Option Stk:=
 if s.1=e/\s.2.2.2<=p then match b with
  |none=>some s
  |some q=>if q.2.2.2<=s.2.2.2 then some s else b
 else b
def best (l:List Stk) (e p:Int):Option Stk:=l.foldl (take e p) none
def atF (l:List Stk) (e p:Int):Int×Int:=match best l e p with
 |none=>(0,10000)
 |some s=>(s.2.1,s.2.2.1)
theorem best_take {l:List Stk} {e p:Int} {i:Nat} {x:Stk} (h:l[i]? =some x):best (l.take (i+1)) e p=take e p (best (l.take i) e p) x:=by
 unfold best;rw [List.take_add_one,h];simp
def Inv14 (l:List Stk) (e p:Int) (i f:Int):Prop:=
 0<=i/\i<=l.length/\((f= -1/\best (l.take i.toNat) e p=none)∨(0<=f/\f<l.length/\∃s,l[f.toNat]? =some s/\best (l.take i.toNat) e p=some s))
noncomputable def env_at_ (l:List Stk) (e p:Int):Env where
 P:=Tryz.prog
 ty:=fun|24=>some STy|_=>none
 frz:=fun|22=>true|_=>false
 specs:=specsOf [sp_inAt]
 heads:=fun
  |4=>some {slots:=[(15, .int .i64),(8, .int .i64)],boxes:=[],keep:=[4,5],inv:=fun _ (x:Int×Int×Unit)=>Inv14 l e p x.1 x.2.1,measure:=fun _ (x:Int×Int×Unit)=>(l.length-x.1).toNat}
  |_=>none
def g_at__vc (l:List Stk) (e:Int) (p:Int):Prop:=
 ((some (Obj.box [V.int IntKind.i64 e])=some (Obj.box [V.int IntKind.i64 e])/\some (Obj.box [V.int IntKind.i64 p])=some (Obj.box [V.int IntKind.i64 p])/\True)/\Inv14 l e p (0:Int) (-1:Int))/\∀(x:Int×Int×Unit),Inv14 l e p x.1 x.2.1->(decide (x.1<(↑l.length:Int))=true->(0<=x.1/\x.1<(↑l.length:Int))/\∀(x_1:Int×Int×Int×Int),l[x.1.toNat]? =some x_1->True/\((decide (x_1.1=e)&&decide (x_1.2.2.2<=p))=true->(decide (x.2.1<(0:Int))=false->(0<=x.2.1/\x.2.1<(↑l.length:Int))/\∀(x_2:Int×Int×Int×Int),l[x.2.1.toNat]? =some x_2->(decide (x_2.2.2.2<=x_1.2.2.2)=true->(-9223372036854775808<=x.1+1/\x.1+1<=9223372036854775807)/\(some (Obj.box [V.int IntKind.i64 e])=some (Obj.box [V.int IntKind.i64 e])/\some (Obj.box [V.int IntKind.i64 p])=some (Obj.box [V.int IntKind.i64 p])/\True)/\Inv14 l e p (x.1+1) x.1/\((↑l.length:Int)-(x.1+1)).toNat<((↑l.length:Int)-x.1).toNat)/\(decide (x_2.2.2.2<=x_1.2.2.2)=false->(-9223372036854775808<=x.1+1/\x.1+1<=9223372036854775807)/\(some (Obj.box [V.int IntKind.i64 e])=some (Obj.box [V.int IntKind.i64 e])/\some (Obj.box [V.int IntKind.i64 p])=some (Obj.box [V.int IntKind.i64 p])/\True)/\Inv14 l e p (x.1+1) x.2.1/\((↑l.length:Int)-(x.1+1)).toNat<((↑l.length:Int)-x.1).toNat))/\(decide (x.2.1<(0:Int))= !false->(-9223372036854775808<=x.1+1/\x.1+1<=9223372036854775807)/\(some (Obj.box [V.int IntKind.i64 e])=some (Obj.box [V.int IntKind.i64 e])/\some (Obj.box [V.int IntKind.i64 p])=some (Obj.box [V.int IntKind.i64 p])/\True)/\Inv14 l e p (x.1+1) x.1/\((↑l.length:Int)-(x.1+1)).toNat<((↑l.length:Int)-x.1).toNat))/\((decide (x_1.1=e)&&decide (x_1.2.2.2<=p))= !true->(-9223372036854775808<=x.1+1/\x.1+1<=9223372036854775807)/\(some (Obj.box [V.int IntKind.i64 e])=some (Obj.box [V.int IntKind.i64 e])/\some (Obj.box [V.int IntKind.i64 p])=some (Obj.box [V.int IntKind.i64 p])/\True)/\Inv14 l e p (x.1+1) x.2.1/\((↑l.length:Int)-(x.1+1)).toNat<((↑l.length:Int)-x.1).toNat))/\(decide (x.1<(↑l.length:Int))=false->(decide (x.2.1<(0:Int))=true->((0:Int),(10000:Int),())=((atF l e p).1,(atF l e p).2,()))/\(decide (x.2.1<(0:Int))=false->(0<=x.2.1/\x.2.1<(↑l.length:Int))/\∀(x_1:Int×Int×Int×Int),l[x.2.1.toNat]? =some x_1->(0<=x.2.1/\x.2.1<(↑l.length:Int))/\∀(x_2:Int×Int×Int×Int),l[x.2.1.toNat]? =some x_2->(x_1.2.1,x_2.2.2.1,())=((atF l e p).1,(atF l e p).2,())))
theorem toNat_next {i:Int} (h:0<=i):(i+1).toNat=i.toNat+1:=by omega
theorem inv14_skip {l:List Stk} {e p i f:Int} {x:Stk} (hI:Inv14 l e p i f) (hi:i<l.length) (hx:l[i.toNat]? =some x) (hk:take e p (best (l.take i.toNat) e p) x=best (l.take i.toNat) e p):Inv14 l e p (i+1) f:=by
 obtain ⟨h1,h2,h3⟩:=hI;have hn:best (l.take (i+1).toNat) e p=best (l.take i.toNat) e p:=by rw [toNat_next h1,best_take hx,hk]
 exact ⟨by omega,by omega,by rw [hn];exact h3⟩
theorem inv14_take {l:List Stk} {e p i f:Int} {x:Stk} (hI:Inv14 l e p i f) (hi:i<l.length) (hx:l[i.toNat]? =some x) (hk:take e p (best (l.take i.toNat) e p) x=some x):Inv14 l e p (i+1) i:=by
 obtain ⟨h1,h2,h3⟩:=hI;have hn:best (l.take (i+1).toNat) e p=some x:=by rw [toNat_next h1,best_take hx,hk]
 exact ⟨by omega,by omega, .inr ⟨h1,hi,x,hx,hn⟩⟩
theorem g_at__ok (l:List Stk) (e p:Int) (h:l.length<=1000000000):g_at__vc l e p:=by
 unfold g_at__vc;refine ⟨⟨⟨rfl,rfl,trivial⟩,by omega,by omega, .inl ⟨rfl,rfl⟩⟩, ?_⟩;rintro ⟨i,f,_⟩ hI;have hI0:=hI;obtain ⟨h1,h2,h3⟩:=hI0;simp only [decide_eq_true_eq,decide_eq_false_iff_not,true_and,and_self] at*;refine ⟨fun hi=>⟨⟨h1,hi⟩,fun x hx=>⟨fun hc=>⟨fun hf=> ?_,fun hf=> ?_⟩,fun hc=> ?_⟩⟩,fun hi=>⟨fun hf=> ?_,fun hf=> ?_⟩⟩
 ·simp only [Bool.and_eq_true,decide_eq_true_eq] at hc;rcases h3 with ⟨rfl,h3⟩|⟨h4,h5,s,hs,h3⟩
  ·omega
  ·refine ⟨⟨h4,h5⟩,fun y hy=> ?_⟩;rw [hs] at hy;cases hy;refine ⟨fun hle=>⟨by omega,inv14_take hI hi hx ?_,by omega⟩,fun hle=>⟨by omega,inv14_skip hI hi hx ?_,by omega⟩⟩
   ·rw [h3,take,if_pos hc];simp [hle]
   ·rw [h3,take,if_pos hc];simp [hle]
 ·simp only [Bool.and_eq_true,decide_eq_true_eq] at hc;have hf2:f<0:=by simpa using hf
  rcases h3 with ⟨rfl,h3⟩|⟨h4,h5,s,hs,h3⟩
  ·refine ⟨by omega,inv14_take hI hi hx ?_,by omega⟩;rw [h3];simp [take,hc]
  ·omega
 ·have hc2: ¬(x.1=e/\x.2.2.2<=p):=by
   intro hh;simp [hh.1,hh.2] at hc
  exact ⟨by omega,inv14_skip hI hi hx (by simp only [take];rw [if_neg hc2]),by omega⟩
 ·have hl:l.take i.toNat=l:=List.take_of_length_le (by omega);rw [hl] at h3;rcases h3 with ⟨rfl,h3⟩|⟨h4,h5,s,hs,h3⟩
  ·simp [atF,h3]
  ·omega
 ·have hl:l.take i.toNat=l:=List.take_of_length_le (by omega);rw [hl] at h3;rcases h3 with ⟨rfl,h3⟩|⟨h4,h5,s,hs,h3⟩
  ·omega
  ·refine ⟨⟨h4,h5⟩,fun x hx=>⟨⟨h4,h5⟩,fun y hy=> ?_⟩⟩;rw [hs] at hx hy;cases hx;cases hy;simp [atF,h3]
noncomputable def sp_at_:FSpec Tryz.prog:=mkF 238 (.c (.l STy) (.c .j (.c .j .z))) [.int .i64, .int .i64] (fun x=>(fun (l:List Stk) (e p:Int)=>(l.length<=1000000000,(atF l e p).1,(atF l e p).2,())) x.1 x.2.1 x.2.2.1) fun ⟨l,e,p,_⟩ h=>Pure.of_cond (E:=env_at_ l e p) (by kernel_rfl) (g_at__ok l e p h) (specs_ok rfl _ [] rfl rfl) mixed Tryz.func238
end Go.Proofs.YtabicbgeoiilmaaGreatDoor.Stk
end
section
namespace Go.Proofs.YtabicbgeoiilmaaGreatDoor.Eql
open Go.Vm
set_option maxRecDepth 20000
end Go.Proofs.YtabicbgeoiilmaaGreatDoor.Eql
end
section
namespace Go.Proofs.YtabicbgeoiilmaaGreatDoor.Acc
open Go.Vm
theorem its_len (l:List AcD) (a:Int) (m:Nat):(its l a m).length=m:=by simp [its]
set_option maxRecDepth 20000
end Go.Proofs.YtabicbgeoiilmaaGreatDoor.Acc
end
