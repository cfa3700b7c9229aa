import Derived.Test.YtabicbgeoiilmaaGreatDoorSeat
import Derived.Test.YtabicbgeoiilmaaGreatDoorLck1
namespace Go.Proofs.YtabicbgeoiilmaaGreatDoor
noncomputable section
section
namespace Stk
open Go.Vm
abbrev I:Ty:= .int .i64
abbrev STy:Ty:= .pair I (.pair I (.pair I I))
abbrev Stk:Type:=Int×Int×Int×Int
theorem mixed:Tryz.prog.follows .mixedOrders=true:=rfl
def LL (xs:List Int) (n:Int):Env where
 P:=Tryz.prog
 heads:=fun|2=>some {slots:=[(5, .int .i64)],boxes:=[],inv:=fun _ (x:Int×Unit)=>0<=x.1/\x.1<=xs.length/\∀j:Nat,j<x.1.toNat->xs[j]? ≠some n,measure:=fun _ (x:Int×Unit)=>(xs.length-x.1).toNat}|_=>none
def G4 (xs:List Int) (n:Int):Prop:=
 (True/\0<=(0:Int)/\0<=(↑xs.length:Int)/\∀(j:Nat),j<Int.toNat 0->xs[j]? ≠some n)/\∀(x:Int×Unit),(0<=x.1/\x.1<=xs.length/\∀(j:Nat),j<x.1.toNat->xs[j]? ≠some n)->(decide (x.1<xs.length)=true->(0<=x.1/\x.1<xs.length)/\∀(x_1:Int),xs[x.1.toNat]? =some x_1->(decide (x_1=n)=true->(true,())=(xs.contains n,()))/\(decide (x_1=n)=false->(au (x.1+1))/\True/\(0<=x.1+1/\x.1+1<=xs.length/\∀(j:Nat),j<(x.1+1).toNat->xs[j]? ≠some n)/\(xs.length-(x.1+1)).toNat<(xs.length-x.1).toNat))/\(decide (x.1<xs.length)=false->(false,())=(xs.contains n,()))
theorem G5 (xs:List Int) (n:Int) (h:xs.length<=1000000000):G4 xs n:=by
 refine ⟨⟨trivial,by omega,by omega,fun j hj=>by simp at hj⟩, ?_⟩;rintro ⟨i,_⟩ ⟨h1,h2,h3⟩;simp only [Q7,Q6] at*;refine ⟨fun hlt=>⟨⟨h1,hlt⟩,fun y hy=>⟨fun e=> ?_,fun e=>⟨by omega,trivial,⟨by omega,by omega,fun j hj=> ?_⟩,by omega⟩⟩⟩,fun hge=> ?_⟩
 ·subst e;have:=Rr hy;simp [this]
 ·by_cases hji:j<i.toNat
  ·exact h3 j hji
  ·have:j=i.toNat:=by omega
   subst this;rw [hy];simpa using e
 ·have:n∉xs:=by
   intro hm;obtain ⟨j,hj⟩:=Sh.1 hm;have hj2:=(List.getElem?_eq_some_iff.1 hj).1;exact h3 j (by omega) hj
  simp [this]
set_option maxRecDepth 20000
def tN:FSpec Tryz.prog:=mkF 168 (.c (.l I) (.c .j .z)) [.bool] (fun x=>(fun (xs:List Int) (n:Int)=>(xs.length<=1000000000,xs.contains n,())) x.1 x.2.1) fun ⟨xs,n,_⟩ h=>av (E:=LL xs n) (G5 xs n h) (ab rfl [] [] rfl rfl) Tryz.func168
def tO (xs ys:List Int):Env where
 P:=Tryz.prog
 heads:=fun|4=>some {slots:=[(5, .int .i64)],boxes:=[],inv:=fun _ (x:Int×Unit)=>0<=x.1/\x.1<=xs.length/\∀j:Nat,j<x.1.toNat->xs[j]? =ys[j]?,measure:=fun _ (x:Int×Unit)=>(xs.length-x.1).toNat}|_=>none
def jU (xs:List Int) (ys:List Int):Prop:=
 ((!decide ((↑xs.length:Int)=(↑ys.length:Int)))=true->(false,())=(decide (xs=ys),()))/\((!decide ((↑xs.length:Int)=(↑ys.length:Int)))=false->(True/\0<=(0:Int)/\0<=(↑xs.length:Int)/\∀(j:Nat),j<Int.toNat 0->xs[j]? =ys[j]?)/\∀(x:Int×Unit),(0<=x.1/\x.1<=xs.length/\∀(j:Nat),j<x.1.toNat->xs[j]? =ys[j]?)->(ag (x.1<xs.length)->(0<=x.1/\x.1<xs.length)/\∀(x_1:Int),xs[x.1.toNat]? =some x_1->(0<=x.1/\x.1<ys.length)/\∀(x_2:Int),ys[x.1.toNat]? =some x_2->((!decide (x_1=x_2))=true->(false,())=(decide (xs=ys),()))/\((!decide (x_1=x_2))=false->(au (x.1+1))/\True/\(0<=x.1+1/\x.1+1<=xs.length/\∀(j:Nat),j<(x.1+1).toNat->xs[j]? =ys[j]?)/\(xs.length-(x.1+1)).toNat<(xs.length-x.1).toNat))/\(aj (x.1<xs.length)->(true,())=(decide (xs=ys),())))
theorem rF (xs ys:List Int) (h:xs.length<=1000000000):jU xs ys:=by
 unfold jU aj ag;simp only [Rb,Q6,Rd,Q7,true_and,Int.ofNat_inj,Int.toNat_zero,Nat.not_lt_zero];refine ⟨fun hne=> ?_,fun hlen=>⟨⟨by omega,by omega,fun j hj=>hj.elim⟩, ?_⟩⟩
 ·have:xs≠ys:=fun e=>hne (by rw [e]);simp [this]
 rintro ⟨i,_⟩ ⟨h1,h2,h3⟩;simp only at*;refine ⟨fun hlt=>⟨⟨h1,hlt⟩,fun x hx=>⟨⟨h1,by omega⟩,fun y hy=>⟨fun e=> ?_,fun e=>⟨by omega,⟨by omega,by omega,fun j hj=> ?_⟩,by omega⟩⟩⟩⟩,fun hge=> ?_⟩
 ·have:xs≠ys:=by
   rintro rfl;rw [hx] at hy;cases hy;exact e rfl
  simp [this]
 ·by_cases hji:j<i.toNat
  ·exact h3 j hji
  ·have:j=i.toNat:=by omega
   subst this;rw [hx,hy,e]
 ·have:xs=ys:=by
   apply Sv;intro j;by_cases hj:j<i.toNat
   ·exact h3 j hj
   ·rw [List.getElem?_eq_none (by omega),List.getElem?_eq_none (by omega)]
  simp [this]
def vV:FSpec Tryz.prog:=mkF 36 (.c (.l I) (.c (.l I) .z)) [.bool] (fun x=>(fun (xs ys:List Int)=>(xs.length<=1000000000,decide (xs=ys),())) x.1 x.2.1) fun ⟨xs,ys,_⟩ h=>av (E:=tO xs ys) (rF xs ys h) (ab rfl [] [] rfl rfl) Tryz.func36
def G6 (_a _b _c _d _e _p:Int):Env where
 P:=Tryz.prog
def DT (a:Int) (b:Int) (c:Int) (d:Int) (e:Int) (p:Int):Prop:=
 (decide (a=e)=true->(decide (d<=p),())=(decide (a=e)&&decide (d<=p),()))/\(decide (a=e)= !true->(false,())=(decide (a=e)&&decide (d<=p),()))
theorem DU (a b c d e p:Int):DT a b c d e p:=by
 refine ⟨fun h=>by simp [h],fun h=> ?_⟩;have:decide (a=e)=false:=by simpa using h
 simp [this]
def LM:FSpec Tryz.prog:=mkF 244 (.c (.g (.c .j (.c .j (.c .j (.c .j .z))))) (.c (.f (.c .j .z)) (.c (.f (.c .j .z)) .z))) [.bool] (fun x=>(fun (a b c d e p:Int)=>(True,decide (a=e)&&decide (d<=p),())) x.1.1 x.1.2.1 x.1.2.2.1 x.1.2.2.2.1 x.2.1.1 x.2.2.1.1) fun ⟨⟨a,b,c,d,_⟩,⟨e,_⟩,⟨p,_⟩,_⟩ _=>av (E:=G6 a b c d e p) (DU a b c d e p) (ab rfl [] [] rfl rfl) Tryz.func244
def take (e p:Int) (b:Option Stk) (s:Stk):Option Stk:=
 if s.1=e/\s.2.2.2<=p then match b with
  |none=>some s
  |some q=>if q.2.2.2<=s.2.2.2 then some s else b
 else b
def iJ (l:List Stk) (e p:Int):Option Stk:=l.foldl (take e p) none
def atF (l:List Stk) (e p:Int):Int×Int:=match iJ l e p with
 |none=>(0,10000)
 |some s=>(s.2.1,s.2.2.1)
theorem mh {l:List Stk} {e p:Int} {i:Nat} {x:Stk} (h:l[i]? =some x):iJ (l.take (i+1)) e p=take e p (iJ (l.take i) e p) x:=by
 unfold iJ;rw [RD,h];simp
def iK (l:List Stk) (e p:Int) (i f:Int):Prop:=
 0<=i/\i<=l.length/\((f= -1/\iJ (l.take i.toNat) e p=none)∨(0<=f/\f<l.length/\∃s,l[f.toNat]? =some s/\iJ (l.take i.toNat) e p=some s))
def LN (l:List Stk) (e p:Int):Env where
 P:=Tryz.prog
 ty:=fun|24=>some STy|_=>none
 frz:=fun|22=>true|_=>false
 specs:=ai [LM]
 heads:=fun
  |4=>some {slots:=[(15, .int .i64),(8, .int .i64)],boxes:=[],keep:=[4,5],inv:=fun _ (x:Int×Int×Unit)=>iK l e p x.1 x.2.1,measure:=fun _ (x:Int×Int×Unit)=>(l.length-x.1).toNat}
  |_=>none
def vW (l:List Stk) (e:Int) (p:Int):Prop:=
 ((some (Obj.box [V.int IntKind.i64 e])=some (Obj.box [V.int IntKind.i64 e])/\some (Obj.box [V.int IntKind.i64 p])=some (Obj.box [V.int IntKind.i64 p])/\True)/\iK l e p 0 (-1))/\∀(x:Int×Int×Unit),iK l e p x.1 x.2.1->(ag (x.1<l.length)->(0<=x.1/\x.1<l.length)/\∀(x_1:Int×Int×Int×Int),l[x.1.toNat]? =some x_1->True/\((decide (x_1.1=e)&&decide (x_1.2.2.2<=p))=true->(aj (x.2.1<0)->(0<=x.2.1/\x.2.1<l.length)/\∀(x_2:Int×Int×Int×Int),l[x.2.1.toNat]? =some x_2->(ag (x_2.2.2.2<=x_1.2.2.2)->(au (x.1+1))/\(some (Obj.box [V.int IntKind.i64 e])=some (Obj.box [V.int IntKind.i64 e])/\some (Obj.box [V.int IntKind.i64 p])=some (Obj.box [V.int IntKind.i64 p])/\True)/\iK l e p (x.1+1) x.1/\(l.length-(x.1+1)).toNat<(l.length-x.1).toNat)/\(aj (x_2.2.2.2<=x_1.2.2.2)->(au (x.1+1))/\(some (Obj.box [V.int IntKind.i64 e])=some (Obj.box [V.int IntKind.i64 e])/\some (Obj.box [V.int IntKind.i64 p])=some (Obj.box [V.int IntKind.i64 p])/\True)/\iK l e p (x.1+1) x.2.1/\(l.length-(x.1+1)).toNat<(l.length-x.1).toNat))/\(bu (x.2.1<0)->(au (x.1+1))/\(some (Obj.box [V.int IntKind.i64 e])=some (Obj.box [V.int IntKind.i64 e])/\some (Obj.box [V.int IntKind.i64 p])=some (Obj.box [V.int IntKind.i64 p])/\True)/\iK l e p (x.1+1) x.1/\(l.length-(x.1+1)).toNat<(l.length-x.1).toNat))/\((decide (x_1.1=e)&&decide (x_1.2.2.2<=p))= !true->(au (x.1+1))/\(some (Obj.box [V.int IntKind.i64 e])=some (Obj.box [V.int IntKind.i64 e])/\some (Obj.box [V.int IntKind.i64 p])=some (Obj.box [V.int IntKind.i64 p])/\True)/\iK l e p (x.1+1) x.2.1/\(l.length-(x.1+1)).toNat<(l.length-x.1).toNat))/\(aj (x.1<l.length)->(ag (x.2.1<0)->((0:Int),(10000:Int),())=((atF l e p).1,(atF l e p).2,()))/\(aj (x.2.1<0)->(0<=x.2.1/\x.2.1<l.length)/\∀(x_1:Int×Int×Int×Int),l[x.2.1.toNat]? =some x_1->(0<=x.2.1/\x.2.1<l.length)/\∀(x_2:Int×Int×Int×Int),l[x.2.1.toNat]? =some x_2->(x_1.2.1,x_2.2.2.1,())=((atF l e p).1,(atF l e p).2,())))
theorem aM {i:Int} (h:0<=i):(i+1).toNat=i.toNat+1:=by omega
theorem o6 {l:List Stk} {e p i f:Int} {x:Stk} (hI:iK l e p i f) (hi:i<l.length) (hx:l[i.toNat]? =some x) (hk:take e p (iJ (l.take i.toNat) e p) x=iJ (l.take i.toNat) e p):iK l e p (i+1) f:=by
 obtain ⟨h1,h2,h3⟩:=hI;have hn:iJ (l.take (i+1).toNat) e p=iJ (l.take i.toNat) e p:=by rw [aM h1,mh hx,hk]
 exact ⟨by omega,by omega,by rw [hn];exact h3⟩
theorem o7 {l:List Stk} {e p i f:Int} {x:Stk} (hI:iK l e p i f) (hi:i<l.length) (hx:l[i.toNat]? =some x) (hk:take e p (iJ (l.take i.toNat) e p) x=some x):iK l e p (i+1) i:=by
 obtain ⟨h1,h2,h3⟩:=hI;have hn:iJ (l.take (i+1).toNat) e p=some x:=by rw [aM h1,mh hx,hk]
 exact ⟨by omega,by omega, .inr ⟨h1,hi,x,hx,hn⟩⟩
theorem G7 (l:List Stk) (e p:Int) (h:l.length<=1000000000):vW l e p:=by
 unfold vW aj bu ag;refine ⟨⟨⟨rfl,rfl,trivial⟩,by omega,by omega, .inl ⟨rfl,rfl⟩⟩, ?_⟩;rintro ⟨i,f,_⟩ hI;have hI0:=hI;obtain ⟨h1,h2,h3⟩:=hI0;simp only [Q7,Q6,true_and,and_self] at*;refine ⟨fun hi=>⟨⟨h1,hi⟩,fun x hx=>⟨fun hc=>⟨fun hf=> ?_,fun hf=> ?_⟩,fun hc=> ?_⟩⟩,fun hi=>⟨fun hf=> ?_,fun hf=> ?_⟩⟩
 ·simp only [Ri,Q7] at hc;rcases h3 with ⟨rfl,h3⟩|⟨h4,h5,s,hs,h3⟩
  ·omega
  ·refine ⟨⟨h4,h5⟩,fun y hy=> ?_⟩;rw [hs] at hy;cases hy;refine ⟨fun hle=>⟨by omega,o7 hI hi hx ?_,by omega⟩,fun hle=>⟨by omega,o6 hI hi hx ?_,by omega⟩⟩
   ·rw [h3,take,Q_ hc];simp [hle]
   ·rw [h3,take,Q_ hc];simp [hle]
 ·simp only [Ri,Q7] at hc;have hf2:f<0:=by simpa using hf
  rcases h3 with ⟨rfl,h3⟩|⟨h4,h5,s,hs,h3⟩
  ·refine ⟨by omega,o7 hI hi hx ?_,by omega⟩;rw [h3];simp [take,hc]
  ·omega
 ·have hc2: ¬(x.1=e/\x.2.2.2<=p):=by
   intro hh;simp [hh.1,hh.2] at hc
  exact ⟨by omega,o6 hI hi hx (by simp only [take];rw [Q8 hc2]),by omega⟩
 ·have hl:l.take i.toNat=l:=Rh (by omega);rw [hl] at h3;rcases h3 with ⟨rfl,h3⟩|⟨h4,h5,s,hs,h3⟩
  ·simp [atF,h3]
  ·omega
 ·have hl:l.take i.toNat=l:=Rh (by omega);rw [hl] at h3;rcases h3 with ⟨rfl,h3⟩|⟨h4,h5,s,hs,h3⟩
  ·omega
  ·refine ⟨⟨h4,h5⟩,fun x hx=>⟨⟨h4,h5⟩,fun y hy=> ?_⟩⟩;rw [hs] at hx hy;cases hx;cases hy;simp [atF,h3]
def O0:FSpec Tryz.prog:=mkF 238 (.c (.l STy) (.c .j (.c .j .z))) [.int .i64, .int .i64] (fun x=>(fun (l:List Stk) (e p:Int)=>(l.length<=1000000000,(atF l e p).1,(atF l e p).2,())) x.1 x.2.1 x.2.2.1) fun ⟨l,e,p,_⟩ h=>av (E:=LN l e p) (G7 l e p h) (ab rfl _ [] rfl rfl) Tryz.func238
end Stk
end
section
namespace Eql
open Go.Vm
def G8 (l m:List (Int×Int×Bool×Bool)):Env where
 P:=Tryz.prog
 ty:=aJ
 heads:=fun|4=>some {slots:=[(5, .int .i64)],boxes:=[],inv:=fun _ (x:Int×Unit)=>0<=x.1/\x.1<=l.length/\l.take x.1.toNat=m.take x.1.toNat,measure:=fun _ (x:Int×Unit)=>(l.length-x.1).toNat}|_=>none
def rZ (l:List (Int×Int×Bool×Bool)) (m:List (Int×Int×Bool×Bool)):Prop:=
 ((!decide ((↑l.length:Int)=(↑m.length:Int)))=true->(false,())=(decide (l=m),()))/\((!decide ((↑l.length:Int)=(↑m.length:Int)))=false->(True/\0<=(0:Int)/\0<=(↑l.length:Int)/\List.take (Int.toNat 0) l=List.take (Int.toNat 0) m)/\∀(x:Int×Unit),0<=x.1/\x.1<=l.length/\List.take x.1.toNat l=List.take x.1.toNat m->(ag (x.1<l.length)->(0<=x.1/\x.1<l.length)/\∀(x_1:Int×Int×Bool×Bool),l[x.1.toNat]? =some x_1->(0<=x.1/\x.1<m.length)/\∀(x_2:Int×Int×Bool×Bool),m[x.1.toNat]? =some x_2->((!(decide (x_1.1=x_2.1)&&(decide (x_1.2.1=x_2.2.1)&&(x_1.2.2.1==x_2.2.2.1&&(x_1.2.2.2==x_2.2.2.2&&true)))))=true->(false,())=(decide (l=m),()))/\((!(decide (x_1.1=x_2.1)&&(decide (x_1.2.1=x_2.2.1)&&(x_1.2.2.1==x_2.2.2.1&&(x_1.2.2.2==x_2.2.2.2&&true)))))=false->(au (x.1+1))/\True/\(0<=x.1+1/\x.1+1<=l.length/\List.take (x.1+1).toNat l=List.take (x.1+1).toNat m)/\(l.length-(x.1+1)).toNat<(l.length-x.1).toNat))/\(aj (x.1<l.length)->(true,())=(decide (l=m),())))
theorem DV (l m:List (Int×Int×Bool×Bool)) (h:l.length<=1000000000):rZ l m:=by
 unfold rZ aj ag;simp only [Q7,Q6,Rb,Rd,Bool.and_true,Ri,RZ];refine ⟨fun k=> ?_,fun k=>⟨⟨trivial,by omega,by omega,rfl⟩, ?_⟩⟩
 ·rw [Rs (fun e=>k (by rw [e]))]
 rintro ⟨i,⟨⟩⟩ ⟨i0,i1,ht⟩;dsimp only at i0 i1 ht⊢;refine ⟨fun c=>⟨⟨i0,c⟩,fun x hx=>⟨⟨i0,by omega⟩,fun y hy=>⟨fun d=> ?_,fun d=>⟨by omega,trivial,⟨by omega,by omega, ?_⟩,by omega⟩⟩⟩⟩,fun c=> ?_⟩
 ·rw [Rs];intro e;subst e;rw [hx] at hy;cases hy;simp at d
 ·rw [show (i+1).toNat=i.toNat+1 by omega];refine Rts.oL ht hx hy ?_;obtain ⟨x1,x2,x3,x4⟩:=x;obtain ⟨y1,y2,y3,y4⟩:=y;simp at d;simp [d]
 ·rw [Rh (by omega),Rh (by omega)] at ht;rw [RB ht]
set_option maxRecDepth 20000
def LO:FSpec Tryz.prog:=mkF 37 (.c (.l AcT) (.c (.l AcT) .z)) [.bool] (fun x=>(fun (l m:List (Int×Int×Bool×Bool))=>(l.length<=1000000000,decide (l=m),())) x.1 x.2.1) fun ⟨l,m,_⟩ h=>av (E:=G8 l m) (DV l m h) (ab rfl [] [] rfl rfl) Tryz.func37
def G9 (l m:List (Int×Int)):Env where
 P:=Tryz.prog
 ty:=aJ
 heads:=fun|4=>some {slots:=[(5, .int .i64)],boxes:=[],inv:=fun _ (x:Int×Unit)=>0<=x.1/\x.1<=l.length/\l.take x.1.toNat=m.take x.1.toNat,measure:=fun _ (x:Int×Unit)=>(l.length-x.1).toNat}|_=>none
def r_ (l:List (Int×Int)) (m:List (Int×Int)):Prop:=
 ((!decide ((↑l.length:Int)=(↑m.length:Int)))=true->(false,())=(decide (l=m),()))/\((!decide ((↑l.length:Int)=(↑m.length:Int)))=false->(True/\0<=(0:Int)/\0<=(↑l.length:Int)/\List.take (Int.toNat 0) l=List.take (Int.toNat 0) m)/\∀(x:Int×Unit),0<=x.1/\x.1<=l.length/\List.take x.1.toNat l=List.take x.1.toNat m->(ag (x.1<l.length)->(0<=x.1/\x.1<l.length)/\∀(x_1:Int×Int),l[x.1.toNat]? =some x_1->(0<=x.1/\x.1<m.length)/\∀(x_2:Int×Int),m[x.1.toNat]? =some x_2->((!(decide (x_1.1=x_2.1)&&(decide (x_1.2=x_2.2)&&true)))=true->(false,())=(decide (l=m),()))/\((!(decide (x_1.1=x_2.1)&&(decide (x_1.2=x_2.2)&&true)))=false->(au (x.1+1))/\True/\(0<=x.1+1/\x.1+1<=l.length/\List.take (x.1+1).toNat l=List.take (x.1+1).toNat m)/\(l.length-(x.1+1)).toNat<(l.length-x.1).toNat))/\(aj (x.1<l.length)->(true,())=(decide (l=m),())))
theorem DW (l m:List (Int×Int)) (h:l.length<=1000000000):r_ l m:=by
 unfold r_ aj ag;simp only [Q7,Q6,Rb,Rd,Bool.and_true,Ri,RZ];refine ⟨fun k=> ?_,fun k=>⟨⟨trivial,by omega,by omega,rfl⟩, ?_⟩⟩
 ·rw [Rs (fun e=>k (by rw [e]))]
 rintro ⟨i,⟨⟩⟩ ⟨i0,i1,ht⟩;dsimp only at i0 i1 ht⊢;refine ⟨fun c=>⟨⟨i0,c⟩,fun x hx=>⟨⟨i0,by omega⟩,fun y hy=>⟨fun d=> ?_,fun d=>⟨by omega,trivial,⟨by omega,by omega, ?_⟩,by omega⟩⟩⟩⟩,fun c=> ?_⟩
 ·rw [Rs];intro e;subst e;rw [hx] at hy;cases hy;simp at d
 ·rw [show (i+1).toNat=i.toNat+1 by omega];refine Rts.oL ht hx hy ?_;obtain ⟨x1,x2⟩:=x;obtain ⟨y1,y2⟩:=y;simp at d;simp [d]
 ·rw [Rh (by omega),Rh (by omega)] at ht;rw [RB ht]
def LP:FSpec Tryz.prog:=mkF 40 (.c (.l Vl) (.c (.l Vl) .z)) [.bool] (fun x=>(fun (l m:List (Int×Int))=>(l.length<=1000000000,decide (l=m),())) x.1 x.2.1) fun ⟨l,m,_⟩ h=>av (E:=G9 l m) (DW l m h) (ab rfl [] [] rfl rfl) Tryz.func40
end Eql
end
section
namespace Acc
open Go.Vm
theorem tP (l:List AcD) (a:Int) (m:Nat):(its l a m).length=m:=by simp [its]
def O1 (l:List AcD) (a:Int):Env where
 P:=Tryz.prog
 ty:=aJ
 specs:=ai [tQ,Stk.tN]
 heads:=fun|5=>some {slots:=[(5, .slc 9000 I),(6, .int .i64)],boxes:=[],inv:=fun _ (x:List Int×Int×Unit)=> ∃m,x.1=its l a m/\x.2.1=it l a (m+1)/\Way l a m/\aQ l a/\upF l a=kS l a (l.length+1-m) (it l a (m+1)) (its l a m),measure:=fun _ (x:List Int×Int×Unit)=>l.length+1-x.1.length}|_=>none
def Cl (l:List AcD) (a:Int):Prop:=
 True/\((!decide (aQ l a))=true->([],())=(upF l a,()))/\((!decide (aQ l a))=false->(au (a-(1:Int)))/\(0<=a-(1:Int)/\a-(1:Int)<(↑l.length:Int))/\∀(x:Int×Int×Bool×Bool),l[(a-(1:Int)).toNat]? =some x->(True/\∃m,[]=its l a m/\x.1=it l a (m+(1:Nat))/\Way l a m/\aQ l a/\upF l a=kS l a (l.length+(1:Nat)-m) (it l a (m+(1:Nat))) (its l a m))/\∀(x:List Int×Int×Unit),(∃m,x.1=its l a m/\x.2.1=it l a (m+(1:Nat))/\Way l a m/\aQ l a/\upF l a=kS l a (l.length+(1:Nat)-m) (it l a (m+(1:Nat))) (its l a m))->True/\(ag (aQ l x.2.1)->((!decide (x.2.1=a))=true->x.1.length<=(1000000000:Nat)/\((!x.1.contains x.2.1)=true->((x.1.length+(1:Nat))*(8:Nat)<=(140737488355328:Nat)/\x.1.length+(1:Nat)<=(4611686018427387904:Nat))/\(au (x.2.1-(1:Int)))/\(0<=x.2.1-(1:Int)/\x.2.1-(1:Int)<(↑l.length:Int))/\∀(x_1:Int×Int×Bool×Bool),l[(x.2.1-(1:Int)).toNat]? =some x_1->True/\(∃m,x.1++[x.2.1]=its l a m/\x_1.1=it l a (m+(1:Nat))/\Way l a m/\aQ l a/\upF l a=kS l a (l.length+(1:Nat)-m) (it l a (m+(1:Nat))) (its l a m))/\l.length+(1:Nat)-(x.1++[x.2.1]).length<l.length+(1:Nat)-x.1.length)/\((!x.1.contains x.2.1)=false->(x.1,())=(upF l a,())))/\((!decide (x.2.1=a))= !true->(x.1,())=(upF l a,())))/\(aP (aQ l x.2.1)->(x.1,())=(upF l a,())))
theorem LQ (l:List AcD) (a:Int) (h:l.length<=1000000):Cl l a:=by
 unfold Cl aP ag;simp only [Q7,Q6];refine ⟨trivial,fun c=> ?_,fun c=> ?_⟩
 ·have c: ¬aQ l a:=by simpa using c
  unfold upF;rw [Q8 c]
 have c:aQ l a:=by simpa using c
 have c1:=c.1;have c2:=c.2;refine ⟨by omega,by omega,fun x hx=>⟨⟨trivial,0,rfl,(oM hx).symm, .zero l a,c, ?_⟩, ?_⟩⟩
 ·unfold upF;rw [Q_ c];rfl
 rintro ⟨out,p,⟨⟩⟩ ⟨m,h1,h2,h3,h4,h5⟩;dsimp only at h1 h2⊢;have hlen:=h3.len h4;have hl:out.length=m:=by rw [h1,tP]
 have hf:l.length+1-m=(l.length-m)+1:=by omega
 rw [hf,kS,<-h1,<-h2] at h5;refine ⟨trivial,fun d=>⟨fun e=>⟨by omega,fun f=>⟨by omega,by have:=d.1;have:=d.2;omega,by have:=d.1;have:=d.2;omega,fun y hy=>⟨trivial,⟨m+1, ?_, ?_, ?_,h4, ?_⟩, ?_⟩⟩,fun f=> ?_⟩,fun e=> ?_⟩,fun d=> ?_⟩
 ·rw [fw,h1,h2]
 ·show y.1=zl l (it l a (m+1));rw [<-h2,oM hy]
 ·refine h3.next (h2▸d) (h2▸(by simpa using e)) ?_;rw [<-h1,<-h2];simpa using f
 ·rw [h5,Q_ ⟨d,by simpa using e,by simpa using f⟩,fw,h1,h2,show l.length+1-(m+1)=l.length-m by omega];rfl
 ·simp only [Re,Rm];omega
 ·rw [h5,Q8 (fun k=>k.2.2 (by simpa using f))]
 ·rw [h5,Q8 (fun k=>k.2.1 (by simpa using e))]
 ·rw [h5,Q8 (fun k=>by simp at d;exact d k.1)]
set_option maxRecDepth 20000
def Qy:FSpec Tryz.prog:=mkF 169 (.c (.l AcT) (.c .j .z)) [.slc 0 I] (fun x=>(fun (l:List AcD) (a:Int)=>(l.length<=1000000,upF l a,())) x.1 x.2.1) fun ⟨l,a,_⟩ h=>av (E:=O1 l a) (LQ l a h) (ab rfl _ [] rfl rfl) Tryz.func169
def jS (a:Int):List AcD->Int->List Int
 |[],_=>[]
 |x::r,i=>if x.1=a then (i+1)::jS a r (i+1) else jS a r (i+1)
def chF (l:List AcD) (a:Int):List Int:=if aQ l a then jS a l 0 else []
theorem Cn {a:Int} {l:List AcD} {i:Int} {x:AcD} (h0:0<=i) (hx:l[i.toNat]? =some x):jS a (l.drop i.toNat) i=if x.1=a then (i+1)::jS a (l.drop (i+1).toNat) (i+1) else jS a (l.drop (i+1).toNat) (i+1):=by
 obtain ⟨h1,h2⟩:=List.getElem?_eq_some_iff.1 hx;rw [Rw h1,h2,show (i+1).toNat=i.toNat+1 by omega];rfl
theorem G_ (a:Int): ∀(l:List AcD) (i:Int),jS a l i=[]↔l.any (eX a)=false
 |[],_=>by simp [jS]
 |x::r,i=>by
  rw [jS,Sr];by_cases c:x.1=a
  ·simp [c,eX]
  ·simp [c,eX,G_ a r (i+1)]
def tR (l:List AcD) (a:Int):Env where
 P:=Tryz.prog
 ty:=aJ
 specs:=ai [tQ]
 heads:=fun|3=>some {slots:=[(6, .int .i64),(5, .slc 9000 I)],boxes:=[],inv:=fun _ (x:Int×List Int×Unit)=>0<=x.1/\x.1<=l.length/\x.2.1.length<=x.1.toNat/\chF l a=x.2.1++(if aQ l a then jS a (l.drop x.1.toNat) x.1 else []),measure:=fun _ (x:Int×List Int×Unit)=>(l.length-x.1).toNat}|_=>none
def jV (l:List AcD) (a:Int):Prop:=
 (True/\0<=(0:Int)/\0<=(↑l.length:Int)/\(0:Nat)<=Int.toNat 0/\chF l a=if aQ l a then jS a (List.drop (Int.toNat 0) l) 0 else [])/\∀(x:Int×List Int×Unit),(0<=x.1/\x.1<=l.length/\x.2.1.length<=x.1.toNat/\chF l a=x.2.1++if aQ l a then jS a (List.drop x.1.toNat l) x.1 else [])->(ag (x.1<l.length)->True/\(ag (aQ l a)->(0<=x.1/\x.1<l.length)/\∀(x_1:Int×Int×Bool×Bool),l[x.1.toNat]? =some x_1->(ag (x_1.1=a)->(au (x.1+1))/\((x.2.1.length+(1:Nat))*(8:Nat)<=(140737488355328:Nat)/\x.2.1.length+(1:Nat)<=(4611686018427387904:Nat))/\(au (x.1+1))/\True/\(0<=x.1+1/\x.1+1<=l.length/\(x.2.1++[x.1+1]).length<=(x.1+1).toNat/\chF l a=x.2.1++[x.1+1]++if aQ l a then jS a (List.drop (x.1+1).toNat l) (x.1+1) else [])/\(l.length-(x.1+1)).toNat<(l.length-x.1).toNat)/\(aj (x_1.1=a)->(au (x.1+1))/\True/\(0<=x.1+1/\x.1+1<=l.length/\x.2.1.length<=(x.1+1).toNat/\chF l a=x.2.1++if aQ l a then jS a (List.drop (x.1+1).toNat l) (x.1+1) else [])/\(l.length-(x.1+1)).toNat<(l.length-x.1).toNat))/\(aP (aQ l a)->(au (x.1+1))/\True/\(0<=x.1+1/\x.1+1<=l.length/\x.2.1.length<=(x.1+1).toNat/\chF l a=x.2.1++if aQ l a then jS a (List.drop (x.1+1).toNat l) (x.1+1) else [])/\(l.length-(x.1+1)).toNat<(l.length-x.1).toNat))/\(aj (x.1<l.length)->(x.2.1,())=(chF l a,()))
theorem rG (l:List AcD) (a:Int) (h:l.length<=1000000):jV l a:=by
 unfold jV aj aP ag;simp only [Q7,Q6];refine ⟨⟨trivial,by omega,by omega,by omega,rfl⟩, ?_⟩;rintro ⟨i,out,⟨⟩⟩ ⟨h0,h1,h2,hb⟩;dsimp only at h0 h1 h2 hb⊢;refine ⟨fun c=>⟨trivial,fun d=>⟨⟨h0,c⟩,fun x hx=>⟨fun k=>⟨by omega,by omega,by omega,trivial,⟨by omega,by omega,by simp only [Re,Rm];omega, ?_⟩,by omega⟩,fun k=>⟨by omega,trivial,⟨by omega,by omega,by omega, ?_⟩,by omega⟩⟩⟩,fun d=>⟨by omega,trivial,⟨by omega,by omega,by omega, ?_⟩,by omega⟩⟩,fun c=> ?_⟩
 ·rw [hb,Q_ d,Q_ d,Cn h0 hx,Q_ k,RA];rfl
 ·rw [hb,Q_ d,Q_ d,Cn h0 hx,Q8 k]
 ·have d: ¬aQ l a:=by simpa using d
  rw [hb,Q8 d,Q8 d]
 ·rw [hb];split
  ·rw [RC (by omega)];simp [jS]
  ·simp
def vX:FSpec Tryz.prog:=mkF 177 (.c (.l AcT) (.c .j .z)) [.slc 0 I] (fun x=>(fun (l:List AcD) (a:Int)=>(l.length<=1000000,chF l a,())) x.1 x.2.1) fun ⟨l,a,_⟩ h=>av (E:=tR l a) (rG l a h) (ab rfl _ [] rfl rfl) Tryz.func177
def DX (l:List AcD) (a:Int):Env where
 P:=Tryz.prog
 ty:=aJ
 specs:=ai [tQ,vX]
def o8 (l:List AcD) (a:Int):Prop:=
 True/\(ag (aQ l a)->l.length<=(1000000:Nat)/\(decide ((↑(chF l a).length:Int)=(0:Int)),())=(bf l a,()))/\(aP (aQ l a)->(false,())=(bf l a,()))
theorem zm (l:List AcD) (a:Int) (h:l.length<=1000000):o8 l a:=by
 unfold o8 aP ag bf;refine ⟨trivial,fun c=>⟨h, ?_⟩,fun c=> ?_⟩
 ·rw [c,SG];have c:aQ l a:=by simpa using c
  unfold chF;rw [Q_ c];have:=G_ a l 0;rcases hb:l.any (eX a) with _|_<;>rw [hb] at this<;>simp_all
 ·rw [show decide (aQ l a)=false by simpa using c,Bool.false_and]
def Ha:FSpec Tryz.prog:=mkF 126 (.c (.l AcT) (.c .j .z)) [.bool] (fun x=>(fun (l:List AcD) (a:Int)=>(l.length<=1000000,bf l a,())) x.1 x.2.1) fun ⟨l,a,_⟩ h=>av (E:=DX l a) (zm l a h) (ab rfl _ [] rfl rfl) Tryz.func126
end Acc
end
end
end Go.Proofs.YtabicbgeoiilmaaGreatDoor
