import Derived.Test.YtabicbgeoiilmaaGreatDoorNum2
import Derived.Test.YtabicbgeoiilmaaGreatDoorShelf
namespace Go.Proofs.YtabicbgeoiilmaaGreatDoor
noncomputable section
set_option linter.unusedVariables false
section
namespace Ent
open Go.Vm
abbrev LTy:Ty:= .pair I (.pair I (.pair I I))
abbrev Ln:=Int×Int×Int×Int
abbrev tys:TypeId->Option Ty:=aJ
theorem aM {i:Int} (h:0<=i):(i+1).toNat=i.toNat+1:=by omega
def Nc:UFSpec Tryz.prog:=Jt 220 ⟨fun blk off cap zs w h1 h2 h3=>Tryz.slices_Sort_int blk off cap zs w h1 h2 h3,Tryz.slices_Sort_int_none⟩
def AB:UFSpec Tryz.prog:=xt 221 ⟨fun blk off cap zs w h1 h2 h3=>Tryz.slices_Compact_int blk off cap zs w h1 h2 h3,Tryz.slices_Compact_int_empty⟩
def Nd (l:List Int) (n:Int) (k:Int):Prop:=0<=k/\k<=l.length/\∀j:Nat,j<k.toNat->∀x,l[j]? =some x->x<n
def Ju (l:List Int) (n:Int):Env where
 P:=Tryz.prog
 ty:=tys
 heads:=fun
  |2=>some {slots:=[(5, .int .i64)],boxes:=[],inv:=fun _ (x:Int×Unit)=>Nd l n x.1,measure:=fun _ (x:Int×Unit)=>(l.length-x.1).toNat}
  |_=>none
def sA (l:List Int) (n:Int):Prop:=
 (True/\Nd l n 0)/\∀(x:Int×Unit),Nd l n x.1->(ag (x.1<l.length)->(0<=x.1/\x.1<l.length)/\∀(x_1:Int),l[x.1.toNat]? =some x_1->(ag (x_1<n)->(au (x.1+1))/\True/\Nd l n (x.1+1)/\(l.length-(x.1+1)).toNat<(l.length-x.1).toNat)/\(aj (x_1<n)->(ag (x.1<l.length)->(0<=x.1/\x.1<l.length)/\∀(x_2:Int),l[x.1.toNat]? =some x_2->(ag (x_2=n)->(l,())=(cd l n,()))/\(aj (x_2=n)->(0<=x.1/\x.1<=l.length)/\(((0:Nat)+(List.take x.1.toNat l).length)*(8:Nat)<=(140737488355328:Nat)/\(0:Nat)+(List.take x.1.toNat l).length<=(4611686018427387904:Nat)/\((0:Nat)<(List.take x.1.toNat l).length∨(0:Nat)=(0:Nat)))/\(((List.take x.1.toNat l).length+(1:Nat))*(8:Nat)<=(140737488355328:Nat)/\(List.take x.1.toNat l).length+(1:Nat)<=(4611686018427387904:Nat))/\(0<=x.1/\x.1<=l.length)/\(((List.take x.1.toNat l++[n]).length+(List.drop x.1.toNat l).length)*(8:Nat)<=(140737488355328:Nat)/\(List.take x.1.toNat l++[n]).length+(List.drop x.1.toNat l).length<=(4611686018427387904:Nat))/\(List.take x.1.toNat l++[n]++List.drop x.1.toNat l,())=(cd l n,())))/\(aP (x.1<l.length)->(0<=x.1/\x.1<=l.length)/\(((0:Nat)+(List.take x.1.toNat l).length)*(8:Nat)<=(140737488355328:Nat)/\(0:Nat)+(List.take x.1.toNat l).length<=(4611686018427387904:Nat)/\((0:Nat)<(List.take x.1.toNat l).length∨(0:Nat)=(0:Nat)))/\(((List.take x.1.toNat l).length+(1:Nat))*(8:Nat)<=(140737488355328:Nat)/\(List.take x.1.toNat l).length+(1:Nat)<=(4611686018427387904:Nat))/\(0<=x.1/\x.1<=l.length)/\(((List.take x.1.toNat l++[n]).length+(List.drop x.1.toNat l).length)*(8:Nat)<=(140737488355328:Nat)/\(List.take x.1.toNat l++[n]).length+(List.drop x.1.toNat l).length<=(4611686018427387904:Nat))/\(List.take x.1.toNat l++[n]++List.drop x.1.toNat l,())=(cd l n,()))))/\(aP (x.1<l.length)->(ag (x.1<l.length)->(0<=x.1/\x.1<l.length)/\∀(x_1:Int),l[x.1.toNat]? =some x_1->(ag (x_1=n)->(l,())=(cd l n,()))/\(aj (x_1=n)->(0<=x.1/\x.1<=l.length)/\(((0:Nat)+(List.take x.1.toNat l).length)*(8:Nat)<=(140737488355328:Nat)/\(0:Nat)+(List.take x.1.toNat l).length<=(4611686018427387904:Nat)/\((0:Nat)<(List.take x.1.toNat l).length∨(0:Nat)=(0:Nat)))/\(((List.take x.1.toNat l).length+(1:Nat))*(8:Nat)<=(140737488355328:Nat)/\(List.take x.1.toNat l).length+(1:Nat)<=(4611686018427387904:Nat))/\(0<=x.1/\x.1<=l.length)/\(((List.take x.1.toNat l++[n]).length+(List.drop x.1.toNat l).length)*(8:Nat)<=(140737488355328:Nat)/\(List.take x.1.toNat l++[n]).length+(List.drop x.1.toNat l).length<=(4611686018427387904:Nat))/\(List.take x.1.toNat l++[n]++List.drop x.1.toNat l,())=(cd l n,())))/\(aP (x.1<l.length)->(0<=x.1/\x.1<=l.length)/\(((0:Nat)+(List.take x.1.toNat l).length)*(8:Nat)<=(140737488355328:Nat)/\(0:Nat)+(List.take x.1.toNat l).length<=(4611686018427387904:Nat)/\((0:Nat)<(List.take x.1.toNat l).length∨(0:Nat)=(0:Nat)))/\(((List.take x.1.toNat l).length+(1:Nat))*(8:Nat)<=(140737488355328:Nat)/\(List.take x.1.toNat l).length+(1:Nat)<=(4611686018427387904:Nat))/\(0<=x.1/\x.1<=l.length)/\(((List.take x.1.toNat l++[n]).length+(List.drop x.1.toNat l).length)*(8:Nat)<=(140737488355328:Nat)/\(List.take x.1.toNat l++[n]).length+(List.drop x.1.toNat l).length<=(4611686018427387904:Nat))/\(List.take x.1.toNat l++[n]++List.drop x.1.toNat l,())=(cd l n,())))
theorem qc: ∀(l:List Int) (n:Int) (k:Nat),k<=l.length->(∀j,j<k->∀x,l[j]? =some x->x<n)->(∀x,l[k]? =some x->¬x<n)->
 cd l n=if l[k]? =some n then l else l.take k++[n]++l.drop k
 |[],n,k,hk,_,_=>by
  have:k=0:=by simpa using hk
  subst this;simp [cd]
 |x::r,n,0,_,_,h=>by
  have:=h x (by simp);simp only [cd,Q8 this];by_cases e:x=n<;>simp [e]
 |x::r,n,k+1,hk,hj,h=>by
  have h0:=hj 0 (by omega) x (by simp);have ih:=qc r n k (by simpa using hk) (fun j hjk y hy=>hj (j+1) (by omega) y (by simpa using hy)) (fun y hy=>h y (by simpa using hy));simp only [cd,Q_ h0,ih];by_cases e:r[k]? =some n<;>simp [e]
theorem Fq (l:List Int) (n:Int) (h:l.length<=1000000000):sA l n:=by
 unfold sA aj aP ag;refine ⟨⟨trivial,by omega,by omega,fun j hj=>by simp at hj⟩, ?_⟩;rintro ⟨k,_⟩ ⟨h1,h2,h3⟩;have fin:(∀x,l[k.toNat]? =some x->¬x<n)->l[k.toNat]? ≠some n->l.take k.toNat++[n]++l.drop k.toNat=cd l n:=by
  intro a b;rw [qc l n k.toNat (by omega) h3 a,Q8 b]
 have fin2:l[k.toNat]? =some n->l=cd l n:=by
  intro b;rw [qc l n k.toNat (by omega) h3 (fun x hx=>by rw [b] at hx;cases hx;omega),Q_ b]
 have lens:(l.take k.toNat).length<=l.length/\(l.drop k.toNat).length<=l.length:=by simp;omega
 simp only [Q7,Q6,Rl,Re,Rm] at*;refine ⟨fun c=>⟨⟨h1,c⟩,fun x hx=>⟨fun hlt=>⟨by omega,trivial,⟨by omega,by omega,fun j hj y hy=> ?_⟩,by omega⟩,fun hge=>⟨fun _=>⟨⟨h1,c⟩,fun y hy=>⟨fun e=> ?_,fun e=> ?_⟩⟩,fun hn=>absurd c hn⟩⟩⟩,fun c=>⟨fun hn=>absurd hn c,fun _=> ?_⟩⟩
 ·by_cases hji:j<k.toNat
  ·exact h3 j hji y hy
  ·have:j=k.toNat:=by omega
   subst this;rw [hx] at hy;cases hy;exact hlt
 ·subst e;rw [<-fin2 hy]
 ·refine ⟨by omega,⟨by omega,by omega, .inr trivial⟩,by omega,by omega,by omega, ?_⟩;rw [fin (fun z hz=>by rw [hx] at hz;cases hz;exact hge) (by rw [hy];simpa using e)]
 ·refine ⟨by omega,⟨by omega,by omega, .inr trivial⟩,by omega,by omega,by omega, ?_⟩;have e0:l[k.toNat]? =none:=List.getElem?_eq_none (by omega);rw [fin (fun z hz=>by rw [e0] at hz;cases hz) (by rw [e0];simp)]
set_option maxRecDepth 20000
def Nf:FSpec Tryz.prog:=mkF 179 (.c (.p I) (.c .j .z)) [.list .part I] (fun x=>(fun (l:List Int) (n:Int)=>(l.length<=1000000000,cd l n,())) x.1 x.2.1) fun ⟨l,n,_⟩ h=>av (E:=Ju l n) (Fq l n h) (ab rfl [] [] rfl rfl) Tryz.func179
def gJ (l:List Ln):Env where
 P:=Tryz.prog
 ty:=tys
def dc (l:List Ln):Prop:=
 ((true=true->l.length=(0:Nat))->([],())=(l,()))/\((false=true->l.length=(0:Nat))->(((0:Nat)+l.length)*(32:Nat)<=(140737488355328:Nat)/\(0:Nat)+l.length<=(4611686018427387904:Nat)/\((0:Nat)<l.length∨(0:Nat)=(0:Nat)))/\(l,())=(l,()))
theorem fH (l:List Ln) (h:l.length<=1000000000):dc l:=by
 unfold dc;refine ⟨fun e=> ?_,fun _=>⟨⟨by omega,by omega, .inr rfl⟩,rfl⟩⟩;have:=Rk (e rfl);rw [this]
def bV:FSpec Tryz.prog:=mkF 77 (.c (.l LTy) .z) [.slc 0 LTy] (fun x=>(fun (l:List Ln)=>(l.length<=1000000000,l,())) x.1) fun ⟨l,_⟩ h=>av (E:=gJ l) (fH l h) (ab rfl [] [] rfl rfl) Tryz.func77
def Ng (l:List Int):Env where
 P:=Tryz.prog
 ty:=tys
 specs:=ai [PK]
def Jv (l:List Int):Prop:=
 (l.length<=(1000000000:Nat)/\(0:Nat)<=(1000000000:Nat))/\((eR l []).1,(eR l []).2,())=((eR l []).1,(eR l []).2,())
theorem Jw (l:List Int) (h:l.length<=1000000000):Jv l:=by
 exact ⟨⟨h,RV _⟩,rfl⟩
def PL:FSpec Tryz.prog:=mkF 222 (.c (.l I) .z) [.int .i64, .int .i64] (fun x=>(fun (l:List Int)=>(l.length<=1000000000,(eR l []).1,(eR l []).2,())) x.1) fun ⟨l,_⟩ h=>av (E:=Ng l) (Jw l h) (ab rfl _ [] rfl rfl) Tryz.func222
def f5 (a b:Int):Int×Int:=if -9223372036854775808<=a-b/\a-b<=9223372036854775807 then (a-b,0) else (0,10)
def Nh (a b:Int):Env where
 P:=Tryz.prog
 ty:=tys
 wrap:=fun|9=>true|_=>false
def xu (a:Int) (b:Int):Prop:=
 ((!decide (IntKind.i64.wrap (a-b)<a)==decide (0<b))=true->((!decide (b=0))=true->((0:Int),(10:Int),())=((f5 a b).1,(f5 a b).2,()))/\((!decide (b=0))=false->(IntKind.i64.wrap (a-b),(0:Int),())=((f5 a b).1,(f5 a b).2,())))/\((!decide (IntKind.i64.wrap (a-b)<a)==decide (0<b))= !true->(IntKind.i64.wrap (a-b),(0:Int),())=((f5 a b).1,(f5 a b).2,()))
theorem Jy (a b:Int) (h:InI a/\InI b):xu a b:=by
 obtain ⟨⟨h1,h2⟩,h3,h4⟩:=h;have hw:=IntKind.wrap_i64 (a-b);unfold xu f5;generalize IntKind.i64.wrap (a-b)=w at hw;by_cases hin: -9223372036854775808<=a-b/\a-b<=9223372036854775807
 ·have ew:w=a-b:=by omega
  have e1:decide (w<a)=decide (0<b):=decide_eq_decide.2 (by omega);rw [Q_ hin,e1,ew];refine ⟨fun c=> ?_,fun _=>rfl⟩;simp at c
 ·have e1:decide (w<a)≠decide (0<b):=fun e=>by
   have:=decide_eq_decide.1 e;omega
  rw [Q8 hin];refine ⟨fun _=>⟨fun _=>rfl,fun d=> ?_⟩,fun c=> ?_⟩
  ·have:b=0:=by simpa using d
   omega
  ·exact absurd (by simpa using c) e1
def PM:FSpec Tryz.prog:=mkF 230 (.c .j (.c .j .z)) [.int .i64, .int .i64] (fun x=>(fun (a b:Int)=>(InI a/\InI b,(f5 a b).1,(f5 a b).2,())) x.1 x.2.1) fun ⟨a,b,_⟩ h=>av (E:=Nh a b) (Jy a b h) (ab rfl [] [] rfl rfl) Tryz.func230
def Ni (a:Int):Env where
 P:=Tryz.prog
 ty:=tys
 specs:=ai [PM]
def Jz (a:Int):Prop:=
 (InI 0/\InI a)/\((f5 0 a).1,(f5 0 a).2,())=((f5 0 a).1,(f5 0 a).2,())
theorem JA (a:Int) (h:InI a):Jz a:=by
 exact ⟨⟨⟨by decide,by decide⟩,h⟩,rfl⟩
def PN:FSpec Tryz.prog:=mkF 197 (.c .j .z) [.int .i64, .int .i64] (fun x=>(fun (a:Int)=>(InI a,(f5 0 a).1,(f5 0 a).2,())) x.1) fun ⟨a,_⟩ h=>av (E:=Ni a) (JA a h) (ab rfl _ [] rfl rfl) Tryz.func197
def f7 (p r:Int) (L:List Ln) (q s:Int) (M:List Ln):Bool:=decide (p=q/\r=s/\L=M)
def qd (p r q s:Int) (L M:List Ln):Env where
 P:=Tryz.prog
 ty:=tys
 heads:=fun
  |4=>some {slots:=[(5, .int .i64)],boxes:=[],keep:=[2,3],inv:=fun _ (x:Int×Unit)=>0<=x.1/\x.1<=L.length/\L.length=M.length/\p=q/\r=s/\L.take x.1.toNat=M.take x.1.toNat,measure:=fun _ (x:Int×Unit)=>(L.length-x.1).toNat}
  |_=>none
abbrev jz (p:Int) (r:Int) (L:List Ln):_root_.Go.Vm.Obj:=Obj.box [V.int IntKind.i64 p,V.int IntKind.i64 r,V.list LK.tmp LTy L]
abbrev jA (q:Int) (s:Int) (M:List Ln):_root_.Go.Vm.Obj:=Obj.box [V.int IntKind.i64 q,V.int IntKind.i64 s,V.list LK.tmp LTy M]
def gK (p:Int) (r:Int) (q:Int) (s:Int) (L:List Ln) (M:List Ln):Prop:=
 ((!decide (p=q))=false->((!decide (r=s))=false->((!decide ((↑L.length:Int)=(↑M.length:Int)))=true->(false,())=(f7 p r L q s M,()))/\((!decide ((↑L.length:Int)=(↑M.length:Int)))=false->((some (jz p r L)=some (jz p r L)/\some (jA q s M)=some (jA q s M)/\True)/\0<=(0:Int)/\0<=(↑L.length:Int)/\L.length=M.length/\p=q/\r=s/\List.take (Int.toNat 0) L=List.take (Int.toNat 0) M)/\∀(x:Int×Unit),0<=x.1/\x.1<=L.length/\L.length=M.length/\p=q/\r=s/\List.take x.1.toNat L=List.take x.1.toNat M->(ag (x.1<L.length)->(0<=x.1/\x.1<L.length)/\∀(x_1:Int×Int×Int×Int),L[x.1.toNat]? =some x_1->(0<=x.1/\x.1<M.length)/\∀(x_2:Int×Int×Int×Int),M[x.1.toNat]? =some x_2->((!(decide (x_1.1=x_2.1)&&(decide (x_1.2.1=x_2.2.1)&&(decide (x_1.2.2.1=x_2.2.2.1)&&(decide (x_1.2.2.2=x_2.2.2.2)&&true)))))=true->(false,())=(f7 p r L q s M,()))/\((!(decide (x_1.1=x_2.1)&&(decide (x_1.2.1=x_2.2.1)&&(decide (x_1.2.2.1=x_2.2.2.1)&&(decide (x_1.2.2.2=x_2.2.2.2)&&true)))))=false->(au (x.1+1))/\(some (jz p r L)=some (jz p r L)/\some (jA q s M)=some (jA q s M)/\True)/\(0<=x.1+1/\x.1+1<=L.length/\L.length=M.length/\p=q/\r=s/\List.take (x.1+1).toNat L=List.take (x.1+1).toNat M)/\(L.length-(x.1+1)).toNat<(L.length-x.1).toNat))/\(aj (x.1<L.length)->(true,())=(f7 p r L q s M,()))))/\((!decide (r=s))= !false->(false,())=(f7 p r L q s M,())))/\((!decide (p=q))= !false->(false,())=(f7 p r L q s M,()))
theorem mO (p r q s:Int) (L M:List Ln) (h:L.length<=1000000000):gK p r q s L M:=by
 unfold gK aj ag f7;have kf: ¬(p=q/\r=s/\L=M)->(false,())=(decide (p=q/\r=s/\L=M),()):=fun hn=>by rw [Rs hn]
 simp only [Q7,Q6,Rb,Rd,Rg];refine ⟨fun c1=>⟨fun c2=>⟨fun c=>kf fun e=>c (by rw [e.2.2]),fun c=>⟨⟨⟨trivial,trivial,trivial⟩,by omega,by omega,by omega,c1,c2,by simp⟩, ?_⟩⟩,fun c2=>kf fun e=>c2 e.2.1⟩,fun c1=>kf fun e=>c1 e.1⟩;rintro ⟨i,⟨⟩⟩ ⟨h1,h2,h3,h4,h5,h6⟩;dsimp only at h1 h2 h3 h6⊢;refine ⟨fun c2=>⟨⟨h1,c2⟩,fun x hx=>⟨⟨h1,by omega⟩,fun y hy=>⟨fun e=>kf fun e2=> ?_,fun e=>⟨⟨by omega,by omega⟩,⟨trivial,trivial,trivial⟩,⟨by omega,by omega,h3,h4,h5, ?_⟩,by omega⟩⟩⟩⟩,fun c2=> ?_⟩
 ·have exy:x=y:=by
   obtain ⟨_,_,rfl⟩:=e2;rw [hx] at hy;exact Option.some.inj hy
  subst exy;simp at e
 ·have exy:x=y:=by
   obtain ⟨x1,x2,x3,x4⟩:=x;obtain ⟨y1,y2,y3,y4⟩:=y;simp only [Ri,Q7,and_true] at e;obtain ⟨rfl,rfl,rfl,rfl⟩:=e;rfl
  rw [aM h1,RD,RD,hx,hy,h6,exy]
 ·rw [Rh (by omega),Rh (by omega)] at h6;rw [RB ⟨h4,h5,h6⟩]
def oQ:FSpec Tryz.prog:=mkF 41 (.c (.g (.c .j (.c .j (.c (.l LTy) .z)))) (.c (.g (.c .j (.c .j (.c (.l LTy) .z)))) .z)) [.bool] (fun x=>(fun (p r q s:Int) (L M:List Ln)=>(L.length<=1000000000,f7 p r L q s M,())) x.1.1 x.1.2.1 x.2.1.1 x.2.1.2.1 x.1.2.2.1 x.2.1.2.2.1) fun ⟨⟨p,r,L,_⟩,⟨q,s,M,_⟩,_⟩ h=>av (E:=qd p r q s L M) (mO p r q s L M h) (ab rfl [] [] rfl rfl) Tryz.func41
def qe (L:List Ln):List Int:=L.map (·.1)
def bh (L:List Ln):List Int:=(qe L).foldl cd []
def C3 (L:List Ln) (i:Int) (acc:List Int):Prop:=0<=i/\i<=L.length/\acc=qe (L.take i.toNat)
def JB (p r:Int) (L:List Ln):Env where
 P:=Tryz.prog
 ty:=tys
 upd:=bJ [Nc,AB]
 heads:=fun
  |3=>some {slots:=[(9, .int .i64),(3, .slc 5000 I),(5, .any)],boxes:=[],keep:=[1],inv:=fun _ (x:Int×List Int×Unit×Unit)=>C3 L x.1 x.2.1,measure:=fun _ (x:Int×List Int×Unit×Unit)=>(L.length-x.1).toNat}
  |_=>none
abbrev jB (p:Int) (r:Int) (L:List Ln):_root_.Go.Vm.Obj:=Obj.box [V.int IntKind.i64 p,V.int IntKind.i64 r,V.list LK.tmp LTy L]
def sB (p:Int) (r:Int) (L:List Ln):Prop:=
 ((some (jB p r L)=some (jB p r L)/\True)/\C3 L 0 [])/\∀(x:Int×List Int×Unit×Unit),C3 L x.1 x.2.1->(ag (x.1<L.length)->(0<=x.1/\x.1<L.length)/\∀(x_1:Int×Int×Int×Int),L[x.1.toNat]? =some x_1->((x.2.1.length+(1:Nat))*(8:Nat)<=(140737488355328:Nat)/\x.2.1.length+(1:Nat)<=(4611686018427387904:Nat))/\(au (x.1+1))/\(some (jB p r L)=some (jB p r L)/\True)/\C3 L (x.1+1) (x.2.1++[x_1.1])/\(L.length-(x.1+1)).toNat<(L.length-x.1).toNat)/\(aj (x.1<L.length)->x.2.1.length<=(1000000000:Nat)/\(x.2.1.mergeSort fun x y=>decide (x<=y)).length<=(1000000000:Nat)/\(List.take (Lib.compact (x.2.1.mergeSort fun x y=>decide (x<=y))).length (List.drop 0 (Lib.compact (x.2.1.mergeSort fun x y=>decide (x<=y))++List.replicate ((x.2.1.mergeSort fun x y=>decide (x<=y)).length-(Lib.compact (x.2.1.mergeSort fun x y=>decide (x<=y))).length) 0)),())=(bh L,()))
theorem qf {L:List Ln} {i:Nat} {x:Ln} (h:L[i]? =some x):qe (L.take (i+1))=qe (L.take i)++[x.1]:=by
 unfold qe;rw [RD,h];simp
theorem sC (L:List Ln):(qe L).length=L.length:=RI ..
theorem AC {L:List Ln} {i:Nat} {x:Ln} (h:L[i]? =some x):bh (L.take (i+1))=cd (bh (L.take i)) x.1:=by
 unfold bh;rw [qf h,List.foldl_append];rfl
theorem gI (L:List Ln):(bh L).length<=L.length:=by
 have h1:=xv (m:=qe L) (l:=[]);rw [sC] at h1;simpa [bh] using h1
theorem JC (l:List Int):(l.mergeSort fun x y=>decide (x<=y))=eh l:=rfl
theorem Fs (p r:Int) (L:List Ln) (h:L.length<=1000000000):sB p r L:=by
 unfold sB aj ag;refine ⟨⟨⟨rfl,trivial⟩,by omega,by omega,rfl⟩, ?_⟩;rintro ⟨i,acc,⟨⟩,⟨⟩⟩ ⟨h1,h2,h3⟩;dsimp only at h1 h2 h3⊢;have hlen:acc.length<=L.length:=by rw [h3,sC,Rz];omega
 simp only [Q7,Q6];refine ⟨fun hi=>⟨⟨h1,hi⟩,fun x hx=>⟨⟨by omega,by omega⟩,⟨by omega,by omega⟩,⟨trivial,trivial⟩,⟨by omega,by omega, ?_⟩,by omega⟩⟩,fun hi=>⟨by omega, ?_, ?_⟩⟩
 ·rw [aM h1,qf hx,h3]
 ·rw [List.length_mergeSort];omega
 ·rw [JC,uD,Sz,List.take_left' rfl,h3,Rh (by omega)];rfl
def ux:FSpec Tryz.prog:=mkF 191 (.c (.g (.c .j (.c .j (.c (.l LTy) .z)))) .z) [.list .part I] (fun x=>(fun (p r:Int) (L:List Ln)=>(L.length<=1000000000,bh L,())) x.1.1 x.1.2.1 x.1.2.2.1) fun ⟨⟨p,r,L,_⟩,_⟩ h=>av (E:=JB p r L) (Fs p r L h) (ab rfl [] _ rfl rfl) Tryz.func191
def uE (L:List Ln) (i:Int) (acc:List Int):Prop:=0<=i/\i<=L.length/\acc=bh (L.take i.toNat)
def xw (p r:Int) (L:List Ln):Env where
 P:=Tryz.prog
 ty:=tys
 specs:=ai [Nf]
 heads:=fun
  |3=>some {slots:=[(4, .int .i64),(3, .list .part I)],boxes:=[],keep:=[1],inv:=fun _ (x:Int×List Int×Unit)=>uE L x.1 x.2.1,measure:=fun _ (x:Int×List Int×Unit)=>(L.length-x.1).toNat}
  |_=>none
abbrev eZ (p:Int) (r:Int) (L:List Ln):_root_.Go.Vm.Obj:=Obj.box [V.int IntKind.i64 p,V.int IntKind.i64 r,V.list LK.tmp LTy L]
def lq (p:Int) (r:Int) (L:List Ln):Prop:=
 ((some (eZ p r L)=some (eZ p r L)/\True)/\uE L 0 [])/\∀(x:Int×List Int×Unit),uE L x.1 x.2.1->(ag (x.1<L.length)->(0<=x.1/\x.1<L.length)/\∀(x_1:Int×Int×Int×Int),L[x.1.toNat]? =some x_1->x.2.1.length<=(1000000000:Nat)/\(au (x.1+1))/\(some (eZ p r L)=some (eZ p r L)/\True)/\uE L (x.1+1) (cd x.2.1 x_1.1)/\(L.length-(x.1+1)).toNat<(L.length-x.1).toNat)/\(aj (x.1<L.length)->(x.2.1,())=(bh L,()))
theorem uF (p r:Int) (L:List Ln) (h:L.length<=1000000000):lq p r L:=by
 unfold lq aj ag;refine ⟨⟨⟨rfl,trivial⟩,by omega,by omega,rfl⟩, ?_⟩;rintro ⟨i,acc,⟨⟩⟩ ⟨h1,h2,h3⟩;dsimp only at h1 h2 h3⊢;have hlen:acc.length<=L.length:=by
  rw [h3];have:=gI (L.take i.toNat);rw [Rz] at this;omega
 simp only [Q7,Q6];refine ⟨fun hi=>⟨⟨h1,hi⟩,fun x hx=>⟨by omega,⟨by omega,by omega⟩,⟨trivial,trivial⟩,⟨by omega,by omega, ?_⟩,by omega⟩⟩,fun hi=> ?_⟩
 ·rw [aM h1,AC hx,h3]
 ·rw [h3,Rh (by omega)]
def p_:FSpec Tryz.prog:=mkF 130 (.c (.g (.c .j (.c .j (.c (.l LTy) .z)))) .z) [.list .part I] (fun x=>(fun (p r:Int) (L:List Ln)=>(L.length<=1000000000,bh L,())) x.1.1 x.1.2.1 x.1.2.2.1) fun ⟨⟨p,r,L,_⟩,_⟩ h=>av (E:=xw p r L) (uF p r L h) (ab rfl _ [] rfl rfl) Tryz.func130
def cA (L:List Ln) (e:Int):List Int:=(L.filter fun x=>decide (x.1=e)).map (·.2.2.2)
def aS (L:List Ln) (e:Int):Int:=(cA L e).foldl (· + ·) 0
theorem kI {L:List Ln} {e:Int} {i:Nat} {x:Ln} (h:L[i]? =some x):cA (L.take (i+1)) e=cA (L.take i) e++if x.1=e then [x.2.2.2] else []:=by
 unfold cA;rw [RD,h];by_cases hx:x.1=e<;>simp [hx]
theorem Ft (L:List Ln) (e:Int):(cA L e).length<=L.length:=by
 unfold cA;rw [RI];exact List.length_filter_le _ _
theorem gd {L:List Ln} {e:Int} {i:Nat} {x:Ln} (h:L[i]? =some x):aS (L.take (i+1)) e=aS (L.take i) e+if x.1=e then x.2.2.2 else 0:=by
 unfold aS;rw [kI h,List.foldl_append];by_cases hx:x.1=e<;>simp [hx]
def Fu (p r:Int) (L:List Ln) (e:Int):Env where
 P:=Tryz.prog
 ty:=tys
 specs:=ai [PL]
 heads:=fun
  |3=>some {slots:=[(12, .int .i64),(6, .slc 5000 I),(8, .any)],boxes:=[],keep:=[2],inv:=fun _ (x:Int×List Int×Unit×Unit)=>0<=x.1/\x.1<=L.length/\x.2.1=cA (L.take x.1.toNat) e,measure:=fun _ (x:Int×List Int×Unit×Unit)=>(L.length-x.1).toNat}
  |_=>none
abbrev eo (p:Int) (r:Int) (L:List Ln):_root_.Go.Vm.Obj:=Obj.box [V.int IntKind.i64 p,V.int IntKind.i64 r,V.list LK.tmp LTy L]
def qg (p:Int) (r:Int) (L:List Ln) (e:Int):Prop:=
 ((some (eo p r L)=some (eo p r L)/\True)/\0<=(0:Int)/\0<=(↑L.length:Int)/\[]=cA (List.take (Int.toNat 0) L) e)/\∀(x:Int×List Int×Unit×Unit),0<=x.1/\x.1<=L.length/\x.2.1=cA (List.take x.1.toNat L) e->(ag (x.1<L.length)->(0<=x.1/\x.1<L.length)/\∀(x_1:Int×Int×Int×Int),L[x.1.toNat]? =some x_1->(ag (x_1.1=e)->((x.2.1.length+(1:Nat))*(8:Nat)<=(140737488355328:Nat)/\x.2.1.length+(1:Nat)<=(4611686018427387904:Nat))/\(au (x.1+1))/\(some (eo p r L)=some (eo p r L)/\True)/\(0<=x.1+1/\x.1+1<=L.length/\x.2.1++[x_1.2.2.2]=cA (List.take (x.1+1).toNat L) e)/\(L.length-(x.1+1)).toNat<(L.length-x.1).toNat)/\(aj (x_1.1=e)->(au (x.1+1))/\(some (eo p r L)=some (eo p r L)/\True)/\(0<=x.1+1/\x.1+1<=L.length/\x.2.1=cA (List.take (x.1+1).toNat L) e)/\(L.length-(x.1+1)).toNat<(L.length-x.1).toNat))/\(aj (x.1<L.length)->x.2.1.length<=(1000000000:Nat)/\((eR x.2.1 []).1,(eR x.2.1 []).2,())=((eR (cA L e) []).1,(eR (cA L e) []).2,()))
theorem AD (p r:Int) (L:List Ln) (e:Int) (h:L.length<=1000000000):qg p r L e:=by
 unfold qg aj ag;refine ⟨⟨⟨rfl,trivial⟩,by omega,by omega,rfl⟩, ?_⟩;rintro ⟨i,acc,⟨⟩,⟨⟩⟩ ⟨h1,h2,h3⟩;dsimp only at h1 h2 h3⊢;have hlen:acc.length<=L.length:=by
  rw [h3];have:=Ft (L.take i.toNat) e;rw [Rz] at this;omega
 simp only [Q7,Q6];refine ⟨fun hi=>⟨⟨h1,hi⟩,fun x hx=>⟨fun c=>⟨⟨by omega,by omega⟩,⟨by omega,by omega⟩,⟨trivial,trivial⟩,⟨by omega,by omega, ?_⟩,by omega⟩,fun c=>⟨⟨by omega,by omega⟩,⟨trivial,trivial⟩,⟨by omega,by omega, ?_⟩,by omega⟩⟩⟩,fun hi=>⟨by omega, ?_⟩⟩
 ·rw [aM h1,kI hx,Q_ c,h3]
 ·rw [aM h1,kI hx,Q8 c,h3,RH]
 ·rw [h3,Rh (by omega)]
def JD:FSpec Tryz.prog:=mkF 192 (.c (.g (.c .j (.c .j (.c (.l LTy) .z)))) (.c .j .z)) [.int .i64, .int .i64] (fun x=>(fun (p r:Int) (L:List Ln) (e:Int)=>(L.length<=1000000000,(eR (cA L e) []).1,(eR (cA L e) []).2,())) x.1.1 x.1.2.1 x.1.2.2.1 x.2.1) fun ⟨⟨p,r,L,_⟩,e,_⟩ h=>av (E:=Fu p r L e) (AD p r L e h) (ab rfl _ [] rfl rfl) Tryz.func192
def InL (L:List Ln):Prop:= ∀x∈L,InI x.2.2.2
theorem InL.get {L:List Ln} (h:InL L) {i:Nat} {x:Ln} (hx:L[i]? =some x):InI x.2.2.2:=h x (Rr hx)
theorem rL {L:List Ln} {P:Int} (h0:0<=P) (h: ∀x∈L, -P<=x.2.2.2/\x.2.2.2<=P) (e:Int) (i:Nat): -(i*P)<=aS (L.take i) e/\aS (L.take i) e<=i*P:=by
 induction i with
 |zero=>simp [aS,cA]
 |succ i ih=>
  have e1:((i+1:Nat):Int)*P=i*P+P:=by
   rw [Int.natCast_add,Int.add_mul];simp
  rw [e1];cases hx:L[i]? with
  |none=>
   have hl:=List.getElem?_eq_none_iff.1 hx;rw [Rh (show L.length<=i+1 by omega)];rw [Rh hl] at ih;omega
  |some x=>
   rw [gd hx];obtain ⟨h1,h2⟩:=h x (Rr hx);split<;>omega
theorem il {L:List Ln} (h:InL L) (e:Int) (i:Nat): -(i*9223372036854775808)<=aS (L.take i) e/\aS (L.take i) e<=i*9223372036854775808:=
 rL (by omega) (fun x hx=>by obtain ⟨h1,h2⟩:=h x hx;omega) e i
theorem AE {L:List Ln} (h:InL L) (e:Int) (hl:L.length<=1000) (i:Nat):(aD (aS (L.take i) e).natAbs).length<=30:=by
 refine eN (k:=30) ?_;by_cases hi:i<=1000
 ·have:=il h e i;omega
 ·have:=il h e 1000;rw [Rh (by omega)] at this⊢;omega
theorem i6 {n:Int} (h:InI n):(aD n.natAbs).length<=30:=by
 obtain ⟨h1,h2⟩:=h;exact eN (k:=30) (by omega)
def Fv (p r:Int) (L:List Ln) (e:Int):Env where
 P:=Tryz.prog
 ty:=tys
 specs:=ai [JE,qh]
 frz:=fun|29=>true|30=>true|_=>false
 heads:=fun
  |3=>some {slots:=[(6, .int .i64)],boxes:=[(5,[.bool, .list .part I])],keep:=[2,4],inv:=fun _ (x:Int×Bool×List Int×Unit)=>0<=x.1/\x.1<=L.length/\x.2.1=decide (aS (L.take x.1.toNat) e<0)/\x.2.2.1=aD (aS (L.take x.1.toNat) e).natAbs,measure:=fun _ (x:Int×Bool×List Int×Unit)=>(L.length-x.1).toNat}
  |_=>none
abbrev Fw:Ann:={slots:=bB 0 [.bool, .list .part I],boxes:=[],inv:=fun _ _=>True}
abbrev eq (p:Int) (r:Int) (L:List Ln):_root_.Go.Vm.Obj:=Obj.box [V.int IntKind.i64 p,V.int IntKind.i64 r,V.list LK.tmp LTy L]
def qi (p:Int) (r:Int) (L:List Ln) (e:Int):Prop:=
 ((some (eq p r L)=some (eq p r L)/\some (Obj.box [V.kb false,V.nils])=some (Obj.box [V.kb false,V.nils])/\True)/\0<=(0:Int)/\0<=(↑L.length:Int)/\false=decide (aS (List.take (Int.toNat 0) L) e<0)/\[]=aD (aS (List.take (Int.toNat 0) L) e).natAbs)/\∀(x:Int×Bool×List Int×Unit),0<=x.1/\x.1<=L.length/\x.2.1=decide (aS (List.take x.1.toNat L) e<0)/\x.2.2.1=aD (aS (List.take x.1.toNat L) e).natAbs->(decide (x.1<L.length)=true->(0<=x.1/\x.1<L.length)/\∀(x_1:Int×Int×Int×Int),L[x.1.toNat]? =some x_1->(decide (x_1.1=e)=true->(0<=x.1/\x.1<L.length)/\∀(x_2:Int×Int×Int×Int),L[x.1.toNat]? =some x_2->InI x_2.2.2.2/\(Big x.2.1 x.2.2.1/\Big (decide (x_2.2.2.2<0)) (aD x_2.2.2.2.natAbs)/\x.2.2.1.length<=(1000000:Nat)/\(aD x_2.2.2.2.natAbs).length<=(1000000:Nat))/\(au (x.1+1))/\(some (eq p r L)=some (eq p r L)/\some (Obj.box [V.kb false,V.nils])=some (Obj.box [V.kb false,V.nils])/\True)/\(0<=x.1+1/\x.1+1<=L.length/\decide (big x.2.1 x.2.2.1+big (decide (x_2.2.2.2<0)) (aD x_2.2.2.2.natAbs)<0)=decide (aS (List.take (x.1+1).toNat L) e<0)/\aD (big x.2.1 x.2.2.1+big (decide (x_2.2.2.2<0)) (aD x_2.2.2.2.natAbs)).natAbs=aD (aS (List.take (x.1+1).toNat L) e).natAbs)/\(L.length-(x.1+1)).toNat<(L.length-x.1).toNat)/\(decide (x_1.1=e)=false->(au (x.1+1))/\(some (eq p r L)=some (eq p r L)/\some (Obj.box [V.kb false,V.nils])=some (Obj.box [V.kb false,V.nils])/\True)/\(0<=x.1+1/\x.1+1<=L.length/\x.2.1=decide (aS (List.take (x.1+1).toNat L) e<0)/\x.2.2.1=aD (aS (List.take (x.1+1).toNat L) e).natAbs)/\(L.length-(x.1+1)).toNat<(L.length-x.1).toNat))/\(decide (x.1<L.length)=false->True/\(x.2.1,x.2.2.1,())=(decide (aS L e<0),aD (aS L e).natAbs,()))
theorem AF (p r:Int) (L:List Ln) (e:Int) (h:InL L/\L.length<=1000):qi p r L e:=by
 obtain ⟨hL,hl⟩:=h;unfold qi;refine ⟨⟨⟨rfl,rfl,trivial⟩,by omega,by omega,by simp [aS,cA],by simp [aS,cA,bT]⟩, ?_⟩;rintro ⟨i,s,D,⟨⟩⟩ ⟨h1,h2,h3,h4⟩;dsimp only at h1 h2 h3 h4⊢;rw [h3,h4];simp only [Q7,Q6];refine ⟨fun hi=>⟨⟨h1,hi⟩,fun x hx=>⟨fun c=>⟨⟨h1,hi⟩,fun y hy=> ?_⟩,fun c=>⟨⟨by omega,by omega⟩,⟨trivial,trivial,trivial⟩,⟨by omega,by omega, ?_, ?_⟩,by omega⟩⟩⟩,fun hi=>⟨trivial, ?_⟩⟩
 ·rw [hx] at hy;cases hy;have e1:aS (L.take (i+1).toNat) e=aS (L.take i.toNat) e+x.2.2.2:=by rw [aM h1,gd hx,Q_ c]
  rw [fI,fI,e1];exact ⟨hL.get hx,⟨bO _,bO _,Ro (AE hL e hl _) (by omega),Ro (i6 (hL.get hx)) (by omega)⟩,⟨by omega,by omega⟩,⟨trivial,trivial,trivial⟩,⟨by omega,by omega,rfl,rfl⟩,by omega⟩
 ·rw [aM h1,gd hx,Q8 c,Sc]
 ·rw [aM h1,gd hx,Q8 c,Sc]
 ·rw [Rh (by omega)]
def JF:FSpec Tryz.prog:=mkG 176 (.c (.g (.c .j (.c .j (.c (.l LTy) .z)))) (.c .j .z)) (fun x=>(fun (p r:Int) (L:List Ln) (e:Int)=>(InL L/\L.length<=1000,(.agg [.bool (decide (aS L e<0)), .list .part I (aD (aS L e).natAbs)]))) x.1.1 x.1.2.1 x.1.2.2.1 x.2.1) fun ⟨⟨p,r,L,_⟩,e,_⟩ h=>Pure.of_condG (E:=Fv p r L e) (sh:=[some 2]) (ann:=Fw) (x:=(fun (p r:Int) (L:List Ln) (e:Int)=>(decide (aS L e<0),aD (aS L e).natAbs,())) p r L e) (by kernel_rfl) (AF p r L e h) rfl (ab rfl _ [] rfl rfl) mixed Tryz.func176
end Ent
end
section
namespace Ent
open Go.Vm
abbrev Nj:Int:=340282366920938463463374607431768211456
def prW (s:Int×Int):Int:=s.1*M64+s.2
theorem Nk {s:Int×Int} {n:Int} (hn:InI n): ∃k,prW (dT s n)=prW s+n+k*Nj:=by
 obtain ⟨h1,h2⟩:=hn;obtain ⟨a,b⟩:=s;simp only [prW,dT,hiW,M64,Nj];split
 ·exact ⟨1-(a+18446744073709551615+(b+n%18446744073709551616)/18446744073709551616)/18446744073709551616,by omega⟩
 ·exact ⟨0-(a+0+(b+n%18446744073709551616)/18446744073709551616)/18446744073709551616,by omega⟩
theorem C4: ∀{l:List Int} {s:Int×Int},(∀n∈l,InI n)->∃k,prW (l.foldl dT s)=prW s+l.foldl (· + ·) 0+k*Nj
 |[],s,_=>⟨0,by simp⟩
 |n::r,s,h=>by
  obtain ⟨k1,e1⟩:=Nk (s:=s) (h n (by simp));obtain ⟨k2,e2⟩:=C4 (l:=r) (s:=dT s n) (fun x hx=>h x (by simp [hx]));have e3: ∀(l:List Int) (a:Int),l.foldl (· + ·) a=a+l.foldl (· + ·) 0:=by
   intro l;induction l with
   |nil=>intro a;simp
   |cons x r ih=>intro a;simp only [Sf];rw [ih (a+x),ih (0+x)];omega
  refine ⟨k1+k2, ?_⟩;simp only [Sf,Int.zero_add];rw [e2,e1,e3 r n,Int.add_mul];omega
theorem JG {l:List Int} (h: ∀n∈l,InI n) (z:Int) (hz:z=l.foldl (· + ·) 0) (hb: -1267650600228229401496703205376<=z/\z<=1267650600228229401496703205376):eR l []=(fJ z,dX z):=by
 obtain ⟨k,hk⟩:=C4 (s:=(0,0)) h;have h0:InW 0:=⟨by decide,by decide⟩
 obtain ⟨⟨w1,w2⟩,w3,w4⟩:=JH (l:=l) (s:=(0,0)) ⟨h0,h0⟩;rw [<-hz] at hk;unfold eR PO;simp only [List.foldl_nil];generalize l.foldl dT (0,0)=s at*;obtain ⟨a,b⟩:=s;simp only [prW,M64,Nj,Int.zero_mul,Int.zero_add] at*;have hw:=IntKind.wrap_i64 b;unfold oH fJ dX okB;generalize IntKind.i64.wrap b=n at hw;simp only [M64];by_cases hin: -9223372036854775808<=z/\z<=9223372036854775807
 ·have hc:hiW n=a/\n%18446744073709551616=b:=by
   unfold hiW;split<;>omega
  have en:n=z:=by
   obtain ⟨c1,c2⟩:=hc;unfold hiW at c1;split at c1<;>omega
  rw [Q_ hc,Q_ hin,RB hin.1,RB hin.2,en];rfl
 ·have hc: ¬(hiW n=a/\n%18446744073709551616=b):=by
   rintro ⟨c1,c2⟩;unfold hiW at c1;split at c1<;>omega
  have hd:(decide (-9223372036854775808<=z)&&decide (z<=9223372036854775807))=false:=by
   rw [RZ,Q6,Q6];omega
  rw [Q8 hc,Q8 hin,hd];rfl
theorem Nl {L:List Ln} (h:InL L) (e:Int): ∀n∈cA L e,InI n:=by
 intro n hn;simp only [cA,RS,List.mem_filter] at hn;obtain ⟨x,⟨hx,_⟩,rfl⟩:=hn;exact h x hx
theorem Fx {L:List Ln} (h:InL L) (hl:L.length<=1000) (e:Int):eR (cA L e) []=(fJ (aS L e),dX (aS L e)):=by
 have hb:=il h e L.length;rw [Ss] at hb;exact JG (Nl h e) _ rfl (by omega)
def al (x:Ln) (n m:Int):Int:=
 if x.1<1∨n<x.1 then 20 else if x.2.1<1∨m<x.2.1 then 21 else if x.2.2.1<0∨n<x.2.2.1∨x.2.2.1=x.1 then 24 else if x.2.2.2=0 then 31 else 0
def qj (e a p m n k:Int):Env where
 P:=Tryz.prog
 ty:=tys
def gL (e:Int) (a:Int) (p:Int) (m:Int) (n:Int) (k:Int):Prop:=
 (aj (e<1)->(ag (n<e)->((20:Int),())=(al (e,a,p,m) n k,()))/\(aj (n<e)->(aj (a<1)->(ag (k<a)->((21:Int),())=(al (e,a,p,m) n k,()))/\(aj (k<a)->(aj (p<0)->(aj (n<p)->(ag (p=e)->((24:Int),())=(al (e,a,p,m) n k,()))/\(aj (p=e)->(ag (m=0)->((31:Int),())=(al (e,a,p,m) n k,()))/\(aj (m=0)->((0:Int),())=(al (e,a,p,m) n k,()))))/\(bu (n<p)->((24:Int),())=(al (e,a,p,m) n k,())))/\(bu (p<0)->((24:Int),())=(al (e,a,p,m) n k,()))))/\(bu (a<1)->((21:Int),())=(al (e,a,p,m) n k,()))))/\(bu (e<1)->((20:Int),())=(al (e,a,p,m) n k,()))
theorem mP (e a p m n k:Int):gL e a p m n k:=by
 unfold gL aj bu ag al;dsimp only;simp only [Q7,Q6,Rg];refine ⟨fun c1=>⟨fun c2=> ?_,fun c2=>⟨fun c3=>⟨fun c4=> ?_,fun c4=>⟨fun c5=>⟨fun c6=>⟨fun c7=> ?_,fun c7=>⟨fun c8=> ?_,fun c8=> ?_⟩⟩,fun c6=> ?_⟩,fun c5=> ?_⟩⟩,fun c3=> ?_⟩⟩,fun c1=> ?_⟩
 ·rw [Q_ (by omega)]
 ·rw [Q8 (by omega),Q_ (by omega)]
 ·rw [Q8 (by omega),Q8 (by omega),Q_ (by omega)]
 ·rw [Q8 (by omega),Q8 (by omega),Q8 (by omega),Q_ c8]
 ·rw [Q8 (by omega),Q8 (by omega),Q8 (by omega),Q8 c8]
 ·rw [Q8 (by omega),Q8 (by omega),Q_ (by omega)]
 ·rw [Q8 (by omega),Q8 (by omega),Q_ (by omega)]
 ·rw [Q8 (by omega),Q_ (by omega)]
 ·rw [Q_ (by omega)]
set_option maxRecDepth 20000
def uh:FSpec Tryz.prog:=mkF 175 (.c (.g (.c .j (.c .j (.c .j (.c .j .z))))) (.c .j (.c .j .z))) [.int .i64] (fun x=>(fun (e a p m n k:Int)=>(True,al (e,a,p,m) n k,())) x.1.1 x.1.2.1 x.1.2.2.1 x.1.2.2.2.1 x.2.1 x.2.2.1) fun ⟨⟨e,a,p,m,_⟩,n,k,_⟩ _=>av (E:=qj e a p m n k) (mP e a p m n k) (ab rfl [] [] rfl rfl) Tryz.func175
def PP (e a p m n:Int):Env where
 P:=Tryz.prog
 ty:=tys
def C5 (e:Int) (a:Int) (p:Int) (m:Int) (n:Int):Prop:=
 (aj (e<1)->(decide (n<e),())=(decide (e<1∨n<e),()))/\(bu (e<1)->(true,())=(decide (e<1∨n<e),()))
theorem Nm (e a p m n:Int):C5 e a p m n:=by
 unfold C5 aj bu;simp only [Q6,Rg,Q7];refine ⟨fun c=> ?_,fun c=> ?_⟩
 ·rw [decide_eq_decide.2 (show (n<e)↔(e<1∨n<e) by omega)]
 ·rw [RB (.inl c)]
def QP:FSpec Tryz.prog:=mkF 216 (.c (.g (.c .j (.c .j (.c .j (.c .j .z))))) (.c (.f (.c .j .z)) .z)) [.bool] (fun x=>(fun (e a p m n:Int)=>(True,decide (e<1∨n<e),())) x.1.1 x.1.2.1 x.1.2.2.1 x.1.2.2.2.1 x.2.1.1) fun ⟨⟨e,a,p,m,_⟩,⟨n,_⟩,_⟩ _=>av (E:=PP e a p m n) (Nm e a p m n) (ab rfl [] [] rfl rfl) Tryz.func216
def PQ (e a p m n:Int):Env where
 P:=Tryz.prog
 ty:=tys
def C6 (e:Int) (a:Int) (p:Int) (m:Int) (n:Int):Prop:=
 (aj (a<1)->(decide (n<a),())=(decide (a<1∨n<a),()))/\(bu (a<1)->(true,())=(decide (a<1∨n<a),()))
theorem Nn (e a p m n:Int):C6 e a p m n:=by
 unfold C6 aj bu;simp only [Q6,Rg,Q7];refine ⟨fun c=> ?_,fun c=> ?_⟩
 ·rw [decide_eq_decide.2 (show (n<a)↔(a<1∨n<a) by omega)]
 ·rw [RB (.inl c)]
def QQ:FSpec Tryz.prog:=mkF 217 (.c (.g (.c .j (.c .j (.c .j (.c .j .z))))) (.c (.f (.c .j .z)) .z)) [.bool] (fun x=>(fun (e a p m n:Int)=>(True,decide (a<1∨n<a),())) x.1.1 x.1.2.1 x.1.2.2.1 x.1.2.2.2.1 x.2.1.1) fun ⟨⟨e,a,p,m,_⟩,⟨n,_⟩,_⟩ _=>av (E:=PQ e a p m n) (Nn e a p m n) (ab rfl [] [] rfl rfl) Tryz.func217
def PR (e a p m n:Int):Env where
 P:=Tryz.prog
 ty:=tys
def C8 (e:Int) (a:Int) (p:Int) (m:Int) (n:Int):Prop:=
 (decide (p<0)=false->(decide (n<p)=false->(decide (p=e),())=(decide (p<0∨n<p∨p=e),()))/\(decide (n<p)= !false->(true,())=(decide (p<0∨n<p∨p=e),())))/\(decide (p<0)= !false->(true,())=(decide (p<0∨n<p∨p=e),()))
theorem Np (e a p m n : Int) : C8 e a p m n := by
  unfold C8
  simp only [Q6, Rg, Q7]
  first
    | (refine ⟨fun c => ⟨fun d => ?_, fun d => ?_⟩, fun c => ?_⟩
       · rw [decide_eq_decide.2 (show (p = e) ↔ (p < 0 ∨ n < p ∨ p = e) by omega)]
       · rw [RB (.inr (.inl d))]
       · rw [RB (.inl c)])
def QR:FSpec Tryz.prog:=mkF 218 (.c (.g (.c .j (.c .j (.c .j (.c .j .z))))) (.c (.f (.c .j .z)) .z)) [.bool] (fun x=>(fun (e a p m n:Int)=>(True,decide (p<0∨n<p∨p=e),())) x.1.1 x.1.2.1 x.1.2.2.1 x.1.2.2.2.1 x.2.1.1) fun ⟨⟨e,a,p,m,_⟩,⟨n,_⟩,_⟩ _=>av (E:=PR e a p m n) (Np e a p m n) (ab rfl [] [] rfl rfl) Tryz.func218
def PS (e a p m:Int):Env where
 P:=Tryz.prog
 ty:=tys
def Nq (e:Int) (a:Int) (p:Int) (m:Int):Prop:=
 (decide (m=0),())=(decide (m=0),())
theorem Nr (e a p m:Int):Nq e a p m:=by
 exact rfl
def QS:FSpec Tryz.prog:=mkF 219 (.c (.g (.c .j (.c .j (.c .j (.c .j .z))))) .z) [.bool] (fun x=>(fun (e a p m:Int)=>(True,decide (m=0),())) x.1.1 x.1.2.1 x.1.2.2.1 x.1.2.2.2.1) fun ⟨⟨e,a,p,m,_⟩,_⟩ _=>av (E:=PS e a p m) (Nr e a p m) (ab rfl [] [] rfl rfl) Tryz.func219
def Fy (n k:Int):Env where
 P:=Tryz.prog
 ty:=tys
 asRows:=fun|12=>true|_=>false
def AH (n:Int) (k:Int):Prop:=
 some (V.rows 2 [V.fn (Fn.func 216) [] [V.optr [V.int IntKind.i64 n]],V.int IntKind.i64 20,V.fn (Fn.func 217) [] [V.optr [V.int IntKind.i64 k]],V.int IntKind.i64 21,V.fn (Fn.func 218) [] [V.optr [V.int IntKind.i64 n]],V.int IntKind.i64 24,V.fn (Fn.func 219) [] [],V.int IntKind.i64 31])=some (V.rows 2 [V.fn (Fn.func (216:FuncId)) [] [V.optr [V.int IntKind.i64 n]],V.int IntKind.i64 20,V.fn (Fn.func (217:FuncId)) [] [V.optr [V.int IntKind.i64 k]],V.int IntKind.i64 21,V.fn (Fn.func (218:FuncId)) [] [V.optr [V.int IntKind.i64 n]],V.int IntKind.i64 24,V.fn (Fn.func (219:FuncId)) [] [],V.int IntKind.i64 31])
theorem AJ (n k:Int):AH n k:=by
 exact rfl
def JI:ZSpec Tryz.prog:=mkZ 190 (.c .j (.c .j .z)) (fun x=>(fun (n k:Int)=>(True,(.rows 2 [.fn (.func 216) [] [.optr [.int .i64 n]], .int .i64 20, .fn (.func 217) [] [.optr [.int .i64 k]], .int .i64 21, .fn (.func 218) [] [.optr [.int .i64 n]], .int .i64 24, .fn (.func 219) [] [], .int .i64 31]))) x.1 x.2.1) fun ⟨n,k,_⟩ _=>PureZ.of_cond (E:=Fy n k) (by kernel_rfl) (AJ n k) (ab rfl [] [] rfl rfl) mixed Tryz.func190
end Ent
end
section
namespace Ent
open Go.Vm
def cq:List Ln->Int->Int->Int->Option (Int×Int)
 |[],_,_,_=>none
 |x::r,n,k,i=>if al x n k≠0 then some (i,al x n k) else cq r n k (i+1)
def qk (L:List Ln):Bool:=(bh L).any fun e=>decide (aS L e≠0)
def ah (p:Int) (L:List Ln) (n k:Int):Int×Int:=
 if p<0∨23<p then (-1,22) else if (L.length:Int)<2∨50<(L.length:Int) then (-1,30) else match cq L n k 0 with
  |some x=>x
  |none=>if qk L then (-1,32) else (L.length,0)
def uG (p r:Int) (L:List Ln) (n k:Int):Env where
 P:=Tryz.prog
 ty:=tys
 specs:=ai [uh,p_,JF]
 frz:=fun|62=>true|_=>false
 heads:=fun
  |6=>some {slots:=[(8, .int .i64),(9, .any)],boxes:=[],keep:=[3],inv:=fun _ (x:Int×Unit×Unit)=>0<=x.1/\x.1<=L.length/\cq L n k 0=cq (L.drop x.1.toNat) n k x.1,measure:=fun _ (x:Int×Unit×Unit)=>(L.length-x.1).toNat}
  |13=>some {slots:=[(11, .int .i64)],boxes:=[],keep:=[3],inv:=fun _ (x:Int×Unit)=>0<=x.1/\x.1<=(bh L).length/\cq L n k 0=none/\∀e∈(bh L).take x.1.toNat,aS L e=0,measure:=fun _ (x:Int×Unit)=>((bh L).length-x.1).toNat}
  |_=>none
abbrev b_ (p:Int) (r:Int) (L:List Ln):_root_.Go.Vm.Obj:=Obj.box [V.int IntKind.i64 p,V.int IntKind.i64 r,V.list LK.tmp LTy L]
def j6 (p:Int) (r:Int) (L:List Ln) (n:Int) (k:Int):Prop:=
 (aj (p<0)->(ag (23<p)->((-1:Int),(22:Int),())=((ah p L n k).1,(ah p L n k).2,()))/\(aj (23<p)->(aj ((↑L.length:Int)<(2:Int))->(ag ((50:Int)<(↑L.length:Int))->((-1:Int),(30:Int),())=((ah p L n k).1,(ah p L n k).2,()))/\(aj ((50:Int)<(↑L.length:Int))->((some (b_ p r L)=some (b_ p r L)/\True)/\0<=(0:Int)/\0<=(↑L.length:Int)/\cq L n k 0=cq (List.drop (Int.toNat 0) L) n k 0)/\∀(x:Int×Unit×Unit),0<=x.1/\x.1<=L.length/\cq L n k 0=cq (List.drop x.1.toNat L) n k x.1->(ag (x.1<L.length)->(0<=x.1/\x.1<L.length)/\∀(x_1:Int×Int×Int×Int),L[x.1.toNat]? =some x_1->True/\((!decide (al (x_1.1,x_1.2.1,x_1.2.2.1,x_1.2.2.2) n k=0))=true->(x.1,al (x_1.1,x_1.2.1,x_1.2.2.1,x_1.2.2.2) n k,())=((ah p L n k).1,(ah p L n k).2,()))/\((!decide (al (x_1.1,x_1.2.1,x_1.2.2.1,x_1.2.2.2) n k=0))=false->(au (x.1+1))/\(some (b_ p r L)=some (b_ p r L)/\True)/\(0<=x.1+1/\x.1+1<=L.length/\cq L n k 0=cq (List.drop (x.1+1).toNat L) n k (x.1+1))/\(L.length-(x.1+1)).toNat<(L.length-x.1).toNat))/\(aj (x.1<L.length)->L.length<=(1000000000:Nat)/\((some (b_ p r L)=some (b_ p r L)/\True)/\0<=(0:Int)/\0<=(↑(bh L).length:Int)/\cq L n k 0=none/\∀(e:Int),e∈List.take (Int.toNat 0) (bh L)->aS L e=0)/\∀(x:Int×Unit),(0<=x.1/\x.1<=(↑(bh L).length:Int)/\cq L n k 0=none/\∀(e:Int),e∈List.take x.1.toNat (bh L)->aS L e=0)->(ag (x.1<(↑(bh L).length:Int))->(0<=x.1/\x.1<(↑(bh L).length:Int))/\∀(x_1:Int),(bh L)[x.1.toNat]? =some x_1->(InL L/\L.length<=(1000:Nat))/\(ag ((0:Int)<(↑(aD (aS L x_1).natAbs).length:Int))->((-1:Int),(32:Int),())=((ah p L n k).1,(ah p L n k).2,()))/\(aj ((0:Int)<(↑(aD (aS L x_1).natAbs).length:Int))->(au (x.1+1))/\(some (b_ p r L)=some (b_ p r L)/\True)/\(0<=x.1+1/\x.1+1<=(↑(bh L).length:Int)/\cq L n k 0=none/\∀(e:Int),e∈List.take (x.1+1).toNat (bh L)->aS L e=0)/\((↑(bh L).length:Int)-(x.1+1)).toNat<((↑(bh L).length:Int)-x.1).toNat))/\(aj (x.1<(↑(bh L).length:Int))->((↑L.length:Int),(0:Int),())=((ah p L n k).1,(ah p L n k).2,())))))/\(bu ((↑L.length:Int)<(2:Int))->((-1:Int),(30:Int),())=((ah p L n k).1,(ah p L n k).2,()))))/\(bu (p<0)->((-1:Int),(22:Int),())=((ah p L n k).1,(ah p L n k).2,()))
theorem ge {α:Type} {L:List α} {i:Nat} {x:α} (h:L[i]? =some x):L.drop i=x::L.drop (i+1):=by
 obtain ⟨hi,e⟩:=List.getElem?_eq_some_iff.1 h;rw [Rw hi,e]
theorem jC {L:List Ln} {n k i:Int} {x:Ln} (h0:0<=i) (h:L[i.toNat]? =some x):cq (L.drop i.toNat) n k i=if al x n k≠0 then some (i,al x n k) else cq (L.drop (i+1).toNat) n k (i+1):=by
 rw [ge h,aM h0];rfl
theorem xx {L:List Ln} {n k i:Int} (h: ¬i<L.length):cq (L.drop i.toNat) n k i=none:=by
 rw [RC (by omega)];rfl
theorem nV {L:List Ln} (h: ∀e∈bh L,aS L e=0):qk L=false:=by
 simp only [qk,Sw,Q7,Decidable.not_not];exact h
theorem kJ {L:List Ln} {e:Int} (h:e∈bh L) (hz:aS L e≠0):qk L=true:=by
 simp only [qk,Sd,Q7];exact ⟨e,h,hz⟩
theorem C9 {z:Int}:(0:Int)<((aD z.natAbs).length:Int)↔z≠0:=by
 have h1:= @fK z.natAbs;have h2:= @List.length_eq_zero_iff _ (aD z.natAbs);have h3:z.natAbs=0↔z=0:=Int.natAbs_eq_zero;rw [<-h2,h3] at h1;omega
theorem lr {p n k:Int} {L:List Ln} (h:p<0∨23<p):ah p L n k=(-1,22):=by unfold ah;rw [Q_ h]
theorem lu {p n k:Int} {L:List Ln} (h: ¬(p<0∨23<p)) (g:(L.length:Int)<2∨50<(L.length:Int)):ah p L n k=(-1,30):=by unfold ah;rw [Q8 h,Q_ g]
theorem i7 {p n k:Int} {L:List Ln} (h: ¬(p<0∨23<p)) (g: ¬((L.length:Int)<2∨50<(L.length:Int))) {x:Int×Int} (e:cq L n k 0=some x):ah p L n k=x:=by unfold ah;rw [Q8 h,Q8 g,e]
theorem ql {p n k:Int} {L:List Ln} (h: ¬(p<0∨23<p)) (g: ¬((L.length:Int)<2∨50<(L.length:Int))) (e:cq L n k 0=none) (u:qk L=true):ah p L n k=(-1,32):=by unfold ah;rw [Q8 h,Q8 g,e];simp only [u,if_true]
theorem xy {p n k:Int} {L:List Ln} (h: ¬(p<0∨23<p)) (g: ¬((L.length:Int)<2∨50<(L.length:Int))) (e:cq L n k 0=none) (u:qk L=false):ah p L n k=((L.length:Int),0):=by unfold ah;rw [Q8 h,Q8 g,e];simp [u]
theorem j7 {α:Type} {l:List α} {i:Int} {x e:α} (h0:0<=i) (h:l[i.toNat]? =some x) (he:e∈l.take (i+1).toNat):e∈l.take i.toNat∨e=x:=by
 rw [aM h0,RD,h] at he;simpa using he
theorem rM (p r:Int) (L:List Ln) (n k:Int) (h:InL L/\L.length<=1000):j6 p r L n k:=by
 unfold j6 aj bu ag;have hel:=gI L;obtain ⟨hI,hl⟩:=h;simp only [Q7,Q6,Rg,Rb,Rd];refine ⟨fun c1=>⟨fun c2=> ?_,fun c2=>⟨fun c3=>⟨fun c4=> ?_,fun c4=>⟨⟨⟨trivial,trivial⟩,by omega,by omega,by simp⟩,fun x hx=>⟨fun c5=>⟨⟨hx.1,c5⟩,fun y hy=>⟨trivial,fun c6=> ?_,fun c6=>⟨by omega,⟨trivial,trivial⟩,⟨by omega,by omega, ?_⟩,by omega⟩⟩⟩,fun c5=>⟨by omega,⟨⟨trivial,trivial⟩,by omega,by omega, ?_,by simp⟩,fun z hz=>⟨fun c6=>⟨⟨hz.1,c6⟩,fun e he=>⟨⟨hI,hl⟩,fun c7=> ?_,fun c7=>⟨by omega,⟨trivial,trivial⟩,⟨by omega,by omega,hz.2.2.1, ?_⟩,by omega⟩⟩⟩,fun c6=> ?_⟩⟩⟩⟩⟩,fun c3=> ?_⟩⟩,fun c1=> ?_⟩
 ·rw [lr (by omega)]
 ·rw [lu (by omega) (by omega)]
 ·rw [i7 (by omega) (by omega) (hx.2.2.trans ((jC hx.1 hy).trans (Q_ c6)))]
 ·exact hx.2.2.trans ((jC hx.1 hy).trans (Q8 (fun c=>c c6)))
 ·exact hx.2.2.trans (xx c5)
 ·rw [ql (by omega) (by omega) hz.2.2.1 (kJ (Rr he) (C9.1 c7))]
 ·intro e' he';rcases j7 hz.1 he he' with g|g
  ·exact hz.2.2.2 _ g
  ·subst g;exact Decidable.not_not.1 (fun c=>c7 (C9.2 c))
 ·rw [xy (by omega) (by omega) hz.2.2.1 (nV (fun e he=>hz.2.2.2 e (by rw [Rh (by omega)];exact he)))]
 ·rw [lu (by omega) (by omega)]
 ·rw [lr (by omega)]
set_option maxRecDepth 20000
def wc:FSpec Tryz.prog:=mkF 125 (.c (.g (.c .j (.c .j (.c (.l LTy) .z)))) (.c .j (.c .j .z))) [.int .i64, .int .i64] (fun x=>(fun (p r:Int) (L:List Ln) (n k:Int)=>(InL L/\L.length<=1000,(ah p L n k).1,(ah p L n k).2,())) x.1.1 x.1.2.1 x.1.2.2.1 x.2.1 x.2.2.1) fun ⟨⟨p,r,L,_⟩,n,k,_⟩ h=>av (E:=uG p r L n k) (rM p r L n k h) (ab rfl _ [] rfl rfl) Tryz.func125
end Ent
end
section
namespace Ent
open Go.Vm
def brk (x:Ln) (n k:Int):Int->Bool
 |0=>decide (x.1<1∨n<x.1)
 |1=>decide (x.2.1<1∨k<x.2.1)
 |2=>decide (x.2.2.1<0∨n<x.2.2.1∨x.2.2.1=x.1)
 |3=>decide (x.2.2.2=0)
 |_=>false
def mz (p r:Int) (L:List Ln) (n k:Int):Env where
 P:=Tryz.prog
 ty:=tys
 specs:=ai [QP,QQ,QR,QS,ux,JD]
 zspecs:=rJ [JI]
 frz:=fun|39=>true|64=>true|_=>false
 heads:=fun
  |7=>some {slots:=[(43, .int .i64),(9, .any),(10, .any),(12, .any)],boxes:=[],keep:=[3],inv:=fun _ (x:Int×Unit×Unit×Unit×Unit)=>0<=x.1/\x.1<=L.length/\cq L n k 0=cq (L.drop x.1.toNat) n k x.1,measure:=fun _ (x:Int×Unit×Unit×Unit×Unit)=>(L.length-x.1).toNat}
  |10=>some {slots:=[(50, .int .i64),(12, .any)],boxes:=[(10,[.int .i64, .int .i64, .int .i64, .int .i64])],keep:=[3],inv:=fun st (x:Int×Unit×Int×Int×Int×Int×Unit)=>0<=x.1/\x.1<=4/\L[(st.int 9).toNat]? =some (x.2.2.1,x.2.2.2.1,x.2.2.2.2.1,x.2.2.2.2.2.1)/\∀j:Int,0<=j->j<x.1->brk (x.2.2.1,x.2.2.2.1,x.2.2.2.2.1,x.2.2.2.2.2.1) n k j=false,measure:=fun _ (x:Int×Unit×Int×Int×Int×Int×Unit)=>(4-x.1).toNat}
  |17=>some {slots:=[(66, .int .i64),(14, .any),(15, .any),(16, .any)],boxes:=[],keep:=[3],inv:=fun _ (x:Int×Unit×Unit×Unit×Unit)=>0<=x.1/\x.1<=(bh L).length/\cq L n k 0=none/\∀e∈(bh L).take x.1.toNat,aS L e=0,measure:=fun _ (x:Int×Unit×Unit×Unit×Unit)=>((bh L).length-x.1).toNat}
  |_=>none
abbrev aN (p:Int) (r:Int) (L:List Ln):_root_.Go.Vm.Obj:=Obj.box [V.int IntKind.i64 p,V.int IntKind.i64 r,V.list LK.tmp LTy L]
def fC (p:Int) (r:Int) (L:List Ln) (n:Int) (k:Int):Prop:=
 (aj (p<0)->(ag (24<=p)->((-1:Int),(22:Int),())=((ah p L n k).1,(ah p L n k).2,()))/\(aj (24<=p)->(aj ((↑L.length:Int)<(2:Int))->(ag ((50:Int)<(↑L.length:Int))->((-1:Int),(30:Int),())=((ah p L n k).1,(ah p L n k).2,()))/\(aj ((50:Int)<(↑L.length:Int))->True/\((some (aN p r L)=some (aN p r L)/\True)/\0<=(0:Int)/\0<=(↑L.length:Int)/\cq L n k 0=cq (List.drop (Int.toNat 0) L) n k 0)/\∀(x:Int×Unit×Unit×Unit×Unit),0<=x.1/\x.1<=L.length/\cq L n k 0=cq (List.drop x.1.toNat L) n k x.1->(ag (x.1<L.length)->(0<=x.1/\x.1<L.length)/\∀(x_1:Int×Int×Int×Int),L[x.1.toNat]? =some x_1->((some (aN p r L)=some (aN p r L)/\True)/\0<=(0:Int)/\0<=(4:Int)/\L[x.1.toNat]? =some (x_1.1,x_1.2.1,x_1.2.2.1,x_1.2.2.2)/\∀(j:Int),0<=j->j<0->brk (x_1.1,x_1.2.1,x_1.2.2.1,x_1.2.2.2) n k j=false)/\∀(x_2:Int×Unit×Int×Int×Int×Int×Unit),(0<=x_2.1/\x_2.1<=4/\L[x.1.toNat]? =some (x_2.2.2.1,x_2.2.2.2.1,x_2.2.2.2.2.1,x_2.2.2.2.2.2.1)/\∀(j:Int),0<=j->j<x_2.1->brk (x_2.2.2.1,x_2.2.2.2.1,x_2.2.2.2.2.1,x_2.2.2.2.2.2.1) n k j=false)->(ag (x_2.1<(↑(8/2:Nat):Int))->(0<=x_2.1/\x_2.1<(↑(8/2:Nat):Int))/\(x_2.1=(↑(0:Nat):Int)->True/\(ag (x_2.2.2.1<1∨n<x_2.2.2.1)->(x.1,(20:Int),())=((ah p L n k).1,(ah p L n k).2,()))/\(aj (x_2.2.2.1<1∨n<x_2.2.2.1)->(au (x_2.1+1))/\(some (aN p r L)=some (aN p r L)/\True)/\(0<=x_2.1+1/\x_2.1+1<=4/\L[x.1.toNat]? =some (x_2.2.2.1,x_2.2.2.2.1,x_2.2.2.2.2.1,x_2.2.2.2.2.2.1)/\∀(j:Int),0<=j->j<x_2.1+1->brk (x_2.2.2.1,x_2.2.2.2.1,x_2.2.2.2.2.1,x_2.2.2.2.2.2.1) n k j=false)/\((4:Int)-(x_2.1+1)).toNat<((4:Int)-x_2.1).toNat))/\(x_2.1=(↑(1:Nat):Int)->True/\(ag (x_2.2.2.2.1<1∨k<x_2.2.2.2.1)->(x.1,(21:Int),())=((ah p L n k).1,(ah p L n k).2,()))/\(aj (x_2.2.2.2.1<1∨k<x_2.2.2.2.1)->(au (x_2.1+1))/\(some (aN p r L)=some (aN p r L)/\True)/\(0<=x_2.1+1/\x_2.1+1<=4/\L[x.1.toNat]? =some (x_2.2.2.1,x_2.2.2.2.1,x_2.2.2.2.2.1,x_2.2.2.2.2.2.1)/\∀(j:Int),0<=j->j<x_2.1+1->brk (x_2.2.2.1,x_2.2.2.2.1,x_2.2.2.2.2.1,x_2.2.2.2.2.2.1) n k j=false)/\((4:Int)-(x_2.1+1)).toNat<((4:Int)-x_2.1).toNat))/\(x_2.1=(↑(2:Nat):Int)->True/\(ag (x_2.2.2.2.2.1<0∨n<x_2.2.2.2.2.1∨x_2.2.2.2.2.1=x_2.2.2.1)->(x.1,(24:Int),())=((ah p L n k).1,(ah p L n k).2,()))/\(aj (x_2.2.2.2.2.1<0∨n<x_2.2.2.2.2.1∨x_2.2.2.2.2.1=x_2.2.2.1)->(au (x_2.1+1))/\(some (aN p r L)=some (aN p r L)/\True)/\(0<=x_2.1+1/\x_2.1+1<=4/\L[x.1.toNat]? =some (x_2.2.2.1,x_2.2.2.2.1,x_2.2.2.2.2.1,x_2.2.2.2.2.2.1)/\∀(j:Int),0<=j->j<x_2.1+1->brk (x_2.2.2.1,x_2.2.2.2.1,x_2.2.2.2.2.1,x_2.2.2.2.2.2.1) n k j=false)/\((4:Int)-(x_2.1+1)).toNat<((4:Int)-x_2.1).toNat))/\(x_2.1=(↑(3:Nat):Int)->True/\(ag (x_2.2.2.2.2.2.1=0)->(x.1,(31:Int),())=((ah p L n k).1,(ah p L n k).2,()))/\(aj (x_2.2.2.2.2.2.1=0)->(au (x_2.1+1))/\(some (aN p r L)=some (aN p r L)/\True)/\(0<=x_2.1+1/\x_2.1+1<=4/\L[x.1.toNat]? =some (x_2.2.2.1,x_2.2.2.2.1,x_2.2.2.2.2.1,x_2.2.2.2.2.2.1)/\∀(j:Int),0<=j->j<x_2.1+1->brk (x_2.2.2.1,x_2.2.2.2.1,x_2.2.2.2.2.1,x_2.2.2.2.2.2.1) n k j=false)/\((4:Int)-(x_2.1+1)).toNat<((4:Int)-x_2.1).toNat))/\True)/\(aj (x_2.1<(↑(8/2:Nat):Int))->(au (x.1+1))/\(some (aN p r L)=some (aN p r L)/\True)/\(0<=x.1+1/\x.1+1<=L.length/\cq L n k 0=cq (List.drop (x.1+1).toNat L) n k (x.1+1))/\(L.length-(x.1+1)).toNat<(L.length-x.1).toNat))/\(aj (x.1<L.length)->L.length<=(1000000000:Nat)/\((some (aN p r L)=some (aN p r L)/\True)/\0<=(0:Int)/\0<=(↑(bh L).length:Int)/\cq L n k 0=none/\∀(e:Int),e∈List.take (Int.toNat 0) (bh L)->aS L e=0)/\∀(x:Int×Unit×Unit×Unit×Unit),(0<=x.1/\x.1<=(↑(bh L).length:Int)/\cq L n k 0=none/\∀(e:Int),e∈List.take x.1.toNat (bh L)->aS L e=0)->(ag (x.1<(↑(bh L).length:Int))->(0<=x.1/\x.1<(↑(bh L).length:Int))/\∀(x_1:Int),(bh L)[x.1.toNat]? =some x_1->L.length<=(1000000000:Nat)/\((!decide ((eR (cA L x_1) []).1=0))=false->((!decide ((eR (cA L x_1) []).2=0))=true->((-1:Int),(32:Int),())=((ah p L n k).1,(ah p L n k).2,()))/\((!decide ((eR (cA L x_1) []).2=0))=false->(au (x.1+1))/\(some (aN p r L)=some (aN p r L)/\True)/\(0<=x.1+1/\x.1+1<=(↑(bh L).length:Int)/\cq L n k 0=none/\∀(e:Int),e∈List.take (x.1+1).toNat (bh L)->aS L e=0)/\((↑(bh L).length:Int)-(x.1+1)).toNat<((↑(bh L).length:Int)-x.1).toNat))/\((!decide ((eR (cA L x_1) []).1=0))= !false->((-1:Int),(32:Int),())=((ah p L n k).1,(ah p L n k).2,())))/\(aj (x.1<(↑(bh L).length:Int))->((↑L.length:Int),(0:Int),())=((ah p L n k).1,(ah p L n k).2,())))))/\(bu ((↑L.length:Int)<(2:Int))->((-1:Int),(30:Int),())=((ah p L n k).1,(ah p L n k).2,()))))/\(bu (p<0)->((-1:Int),(22:Int),())=((ah p L n k).1,(ah p L n k).2,()))
theorem Fz {x:Ln} {n k:Int} (h: ∀j:Int,0<=j->j<4->brk x n k j=false):al x n k=0:=by
 have h0:=h 0 (by omega) (by omega);have h1:=h 1 (by omega) (by omega);have h2:=h 2 (by omega) (by omega);have h3:=h 3 (by omega) (by omega);simp only [brk,Q6] at h0 h1 h2 h3;unfold al;rw [Q8 h0,Q8 h1,Q8 h2,Q8 h3]
theorem Ns {x:Ln} {n k:Int} (c:x.1<1∨n<x.1):al x n k=20:=by unfold al;rw [Q_ c]
theorem Nt {x:Ln} {n k:Int} (h: ∀j:Int,0<=j->j<1->brk x n k j=false) (c:x.2.1<1∨k<x.2.1):al x n k=21:=by
 have h0:=h 0 (by omega) (by omega);simp only [brk,Q6] at h0;unfold al;rw [Q8 h0,Q_ c]
theorem Nu {x:Ln} {n k:Int} (h: ∀j:Int,0<=j->j<2->brk x n k j=false) (c:x.2.2.1<0∨n<x.2.2.1∨x.2.2.1=x.1):al x n k=24:=by
 have h0:=h 0 (by omega) (by omega);have h1:=h 1 (by omega) (by omega);simp only [brk,Q6] at h0 h1;unfold al;rw [Q8 h0,Q8 h1,Q_ c]
theorem Nv {x:Ln} {n k:Int} (h: ∀j:Int,0<=j->j<3->brk x n k j=false) (c:x.2.2.2=0):al x n k=31:=by
 have h0:=h 0 (by omega) (by omega);have h1:=h 1 (by omega) (by omega);have h2:=h 2 (by omega) (by omega);simp only [brk,Q6] at h0 h1 h2;unfold al;rw [Q8 h0,Q8 h1,Q8 h2,Q_ c]
theorem lw {L:List Ln} {n k i:Int} {x:Ln} {f:Int} (h0:0<=i) (h:L[i.toNat]? =some x) (e:al x n k=f) (hf:f≠0):cq (L.drop i.toNat) n k i=some (i,f):=by
 rw [jC h0 h,e,Q_ hf]
theorem lx {x:Ln} {n k i:Int} (h: ∀j:Int,0<=j->j<i->brk x n k j=false) (c:brk x n k i=false): ∀j:Int,0<=j->j<i+1->brk x n k j=false:=by
 intro j h1 h2;by_cases e:j=i
 ·rw [e];exact c
 ·exact h j h1 (by omega)
theorem mQ {L:List Ln} (hI:InL L) (hl:L.length<=1000) (e:Int):((eR (cA L e) []).1=0/\(eR (cA L e) []).2=0)↔aS L e=0:=by
 rw [Fx hI hl];simp only [fJ,dX];by_cases c: -9223372036854775808<=aS L e/\aS L e<=9223372036854775807
 ·have h:okB (aS L e)=true:=by unfold okB;rw [RB c.1,RB c.2];rfl
  rw [Q_ c,Q_ h];omega
 ·have h:okB (aS L e)=false:=by
   unfold okB;rw [RZ,Q6,Q6];omega
  rw [Q8 c,Q8 (by rw [h];decide)];omega
theorem kA (p r:Int) (L:List Ln) (n k:Int) (h:InL L/\L.length<=1000):fC p r L n k:=by
 unfold fC aj bu ag;have hel:=gI L;obtain ⟨hI,hl⟩:=h;simp only [Q7,Q6,Rg,Rb,Rd];refine ⟨fun c1=>⟨fun c2=> ?_,fun c2=>⟨fun c3=>⟨fun c4=> ?_,fun c4=>⟨trivial,⟨⟨trivial,trivial⟩,by omega,by omega,by simp⟩,fun x hx=>⟨fun c5=>⟨⟨hx.1,c5⟩,fun y hy=>⟨⟨⟨trivial,trivial⟩,by omega,by omega,hy,fun j j1 j2=>absurd j2 (by omega)⟩,fun z hz=>⟨fun c6=>⟨⟨hz.1,c6⟩,fun cr=>⟨trivial,fun c7=> ?_,fun c7=>⟨by omega,⟨trivial,trivial⟩,⟨by omega,by omega,hz.2.2.1, ?_⟩,by omega⟩⟩,fun cr=>⟨trivial,fun c7=> ?_,fun c7=>⟨by omega,⟨trivial,trivial⟩,⟨by omega,by omega,hz.2.2.1, ?_⟩,by omega⟩⟩,fun cr=>⟨trivial,fun c7=> ?_,fun c7=>⟨by omega,⟨trivial,trivial⟩,⟨by omega,by omega,hz.2.2.1, ?_⟩,by omega⟩⟩,fun cr=>⟨trivial,fun c7=> ?_,fun c7=>⟨by omega,⟨trivial,trivial⟩,⟨by omega,by omega,hz.2.2.1, ?_⟩,by omega⟩⟩,trivial⟩,fun c6=>⟨by omega,⟨trivial,trivial⟩,⟨by omega,by omega, ?_⟩,by omega⟩⟩⟩⟩,fun c5=>⟨by omega,⟨⟨trivial,trivial⟩,by omega,by omega, ?_,by simp⟩,fun z hz=>⟨fun c6=>⟨⟨hz.1,c6⟩,fun e he=>⟨by omega,fun c7=>⟨fun c8=> ?_,fun c8=>⟨by omega,⟨trivial,trivial⟩,⟨by omega,by omega,hz.2.2.1, ?_⟩,by omega⟩⟩,fun c7=> ?_⟩⟩,fun c6=> ?_⟩⟩⟩⟩⟩,fun c3=> ?_⟩⟩,fun c1=> ?_⟩
 ·rw [lr (by omega)]
 ·rw [lu (by omega) (by omega)]
 ·rw [i7 (by omega) (by omega) (hx.2.2.trans (lw hx.1 hz.2.2.1 (Ns c7) (by decide)))]
 ·exact lx hz.2.2.2 (by rw [cr];exact Rs c7)
 ·rw [i7 (by omega) (by omega) (hx.2.2.trans (lw hx.1 hz.2.2.1 (Nt (fun j j1 j2=>hz.2.2.2 j j1 (by omega)) c7) (by decide)))]
 ·exact lx hz.2.2.2 (by rw [cr];exact Rs c7)
 ·rw [i7 (by omega) (by omega) (hx.2.2.trans (lw hx.1 hz.2.2.1 (Nu (fun j j1 j2=>hz.2.2.2 j j1 (by omega)) c7) (by decide)))]
 ·exact lx hz.2.2.2 (by rw [cr];exact Rs c7)
 ·rw [i7 (by omega) (by omega) (hx.2.2.trans (lw hx.1 hz.2.2.1 (Nv (fun j j1 j2=>hz.2.2.2 j j1 (by omega)) c7) (by decide)))]
 ·exact lx hz.2.2.2 (by rw [cr];exact Rs c7)
 ·exact hx.2.2.trans ((jC hx.1 hz.2.2.1).trans (Q8 (fun c=>c (Fz (fun j j1 j2=>hz.2.2.2 j j1 (by omega))))))
 ·exact hx.2.2.trans (xx c5)
 ·rw [ql (by omega) (by omega) hz.2.2.1 (kJ (Rr he) (fun c=>c8 ((mQ hI hl e).2 c).2))]
 ·intro e' he';rcases j7 hz.1 he he' with g|g
  ·exact hz.2.2.2 _ g
  ·subst g;exact (mQ hI hl _).1 ⟨c7,c8⟩
 ·rw [ql (by omega) (by omega) hz.2.2.1 (kJ (Rr he) (fun c=>c7 ((mQ hI hl e).2 c).1))]
 ·rw [xy (by omega) (by omega) hz.2.2.1 (nV (fun e he=>hz.2.2.2 e (by rw [Rh (by omega)];exact he)))]
 ·rw [lu (by omega) (by omega)]
 ·rw [lr (by omega)]
set_option maxRecDepth 20000
def bA:FSpec Tryz.prog:=mkF 139 (.c (.g (.c .j (.c .j (.c (.l LTy) .z)))) (.c .j (.c .j .z))) [.int .i64, .int .i64] (fun x=>(fun (p r:Int) (L:List Ln) (n k:Int)=>(InL L/\L.length<=1000,(ah p L n k).1,(ah p L n k).2,())) x.1.1 x.1.2.1 x.1.2.2.1 x.2.1 x.2.2.1) fun ⟨⟨p,r,L,_⟩,n,k,_⟩ h=>av (E:=mz p r L n k) (kA p r L n k h) (fm rfl _ [] [] _ rfl rfl rfl rfl) Tryz.func139
end Ent
end
section
namespace Ent
open Go.Vm
def dz (x:Ln):Ln:=(x.1,x.2.1,x.2.2.1, -x.2.2.2)
def bD (L:List Ln):Bool:=L.any fun x=>decide (x.2.2.2= -9223372036854775808)
def bt (p r:Int) (L:List Ln):(Int×Int×List Ln)×Int:=if bD L then ((0,0,[]),10) else ((p,r,L.map dz),0)
theorem qm {α:Type} {l:List α} {i:Nat} {d:α} (hd:l[i]? =some d):l.take (i+1)=l.take i++[d]:=by
 rw [RD,hd];rfl
theorem qn {L:List Ln} {i:Nat} {x:Ln} (h:L[i]? =some x):bD (L.take (i+1))=(bD (L.take i)||decide (x.2.2.2= -9223372036854775808)):=by
 unfold bD;rw [qm h,List.any_append];simp
theorem sD {L:List Ln} {i:Nat} {x:Ln} (h:L[i]? =some x) (e:x.2.2.2= -9223372036854775808):bD L=true:=by
 simp only [bD,Sd,Q7];exact ⟨x,Rr h,e⟩
theorem xz {L:List Ln} {i:Nat} {x:Ln} (h:L[i]? =some x):(L.take (i+1)).map dz=(L.take i).map dz++[dz x]:=by
 rw [qm h,RW];rfl
theorem C_ {L:List Ln} (i:Nat):((L.take i).map dz++L.drop i).length=L.length:=by
 simp;omega
theorem Nw {L:List Ln} {i:Nat} {x:Ln} (h:L[i]? =some x):((L.take i).map dz++L.drop i)[i]? =some x:=by
 have hi:=(List.getElem?_eq_some_iff.1 h).1;rw [List.getElem?_append_right (by simp;omega)];simp only [RI,Rz,Sg (Nat.le_of_lt hi),Nat.sub_self,List.getElem?_drop];exact h
theorem Nx {L:List Ln} {i:Nat} {x:Ln} (h:L[i]? =some x):((L.take i).map dz++L.drop i).set i (dz x)=(L.take (i+1)).map dz++L.drop (i+1):=by
 have hi:=(List.getElem?_eq_some_iff.1 h).1;rw [xz h,ge h,List.set_append_right _ _ (by simp;omega)];simp only [RI,Rz,Sg (Nat.le_of_lt hi),Nat.sub_self,List.set_cons_zero,RA];rfl
theorem PT {a:Int} (h:InI a):(a= -9223372036854775808/\f5 0 a=(0,10))∨(a≠ -9223372036854775808/\f5 0 a=(-a,0)):=by
 obtain ⟨h1,h2⟩:=h;unfold f5;by_cases c:a= -9223372036854775808
 ·exact .inl ⟨c,Q8 (by omega)⟩
 ·exact .inr ⟨c,by rw [Q_ (by omega),Int.zero_sub]⟩
theorem xA {p r:Int} {L:List Ln} (h:bD L=true):bt p r L=((0,0,[]),10):=by unfold bt;rw [Q_ h]
theorem sE {p r:Int} {L:List Ln} (h:bD L=false):bt p r L=((p,r,L.map dz),0):=by unfold bt;rw [Q8 (by rw [h];decide)]
def Ny (p r:Int) (L:List Ln):Env where
 P:=Tryz.prog
 ty:=tys
 specs:=ai [bV,PN]
 heads:=fun
  |4=>some {slots:=[(17, .int .i64),(12, .any),(5, .any),(6, .any),(7, .any),(8, .any)],boxes:=[(4,[.int .i64, .int .i64, .slc 5000 LTy])],keep:=[1,2],inv:=fun _ (x:Int×Unit×Unit×Unit×Unit×Unit×Int×Int×List Ln×Unit)=>0<=x.1/\x.1<=L.length/\x.2.2.2.2.2.2.1=p/\x.2.2.2.2.2.2.2.1=r/\x.2.2.2.2.2.2.2.2.1=(L.take x.1.toNat).map dz++L.drop x.1.toNat/\bD (L.take x.1.toNat)=false,measure:=fun _ (x:Int×Unit×Unit×Unit×Unit×Unit×Int×Int×List Ln×Unit)=>(L.length-x.1).toNat}
  |_=>none
abbrev Nz:Ann:={slots:=bB 0 [.int .i64, .int .i64, .list .part LTy, .int .i64],boxes:=[],inv:=fun _ _=>True}
abbrev ly:_root_.Go.Vm.Obj:=Obj.box [V.int IntKind.i64 (0:Int),V.int IntKind.i64 (0:Int),V.nils]
abbrev lz (p:Int) (r:Int) (L:List Ln):_root_.Go.Vm.Obj:=Obj.box [V.int IntKind.i64 p,V.int IntKind.i64 r,V.list LK.tmp LTy L]
def xB (p:Int) (r:Int) (L:List Ln):Prop:=
 L.length<=(1000000000:Nat)/\((some (lz p r L)=some (lz p r L)/\some ly=some ly/\True)/\0<=(0:Int)/\0<=(↑L.length:Int)/\p=p/\r=r/\L=List.map dz (List.take (Int.toNat 0) L)++List.drop (Int.toNat 0) L/\bD (List.take (Int.toNat 0) L)=false)/\∀(x:Int×Unit×Unit×Unit×Unit×Unit×Int×Int×List (Int×Int×Int×Int)×Unit),0<=x.1/\x.1<=L.length/\x.2.2.2.2.2.2.1=p/\x.2.2.2.2.2.2.2.1=r/\x.2.2.2.2.2.2.2.2.1=List.map dz (List.take x.1.toNat L)++List.drop x.1.toNat L/\bD (List.take x.1.toNat L)=false->(decide (x.1<L.length)=true->(0<=x.1/\x.1<L.length)/\∀(x_1:Int×Int×Int×Int),L[x.1.toNat]? =some x_1->InI x_1.2.2.2/\((!decide ((f5 0 x_1.2.2.2).2=0))=true->True/\((0:Int),(0:Int),[],(f5 0 x_1.2.2.2).2,())=((bt p r L).1.1,(bt p r L).1.2.1,(bt p r L).1.2.2,(bt p r L).2,()))/\((!decide ((f5 0 x_1.2.2.2).2=0))=false->(0<=x.1/\x.1<x.2.2.2.2.2.2.2.2.1.length)/\x.1.toNat<x.2.2.2.2.2.2.2.2.1.length/\∀(y:Int×Int×Int×Int),x.2.2.2.2.2.2.2.2.1[x.1.toNat]? =some y->(au (x.1+1))/\(some (lz p r L)=some (lz p r L)/\some ly=some ly/\True)/\(0<=x.1+1/\x.1+1<=L.length/\x.2.2.2.2.2.2.1=p/\x.2.2.2.2.2.2.2.1=r/\x.2.2.2.2.2.2.2.2.1.set x.1.toNat (y.1,y.2.1,y.2.2.1,(f5 0 x_1.2.2.2).1)=List.map dz (List.take (x.1+1).toNat L)++List.drop (x.1+1).toNat L/\bD (List.take (x.1+1).toNat L)=false)/\(L.length-(x.1+1)).toNat<(L.length-x.1).toNat))/\(decide (x.1<L.length)=false->True/\(x.2.2.2.2.2.2.1,x.2.2.2.2.2.2.2.1,x.2.2.2.2.2.2.2.2.1,(0:Int),())=((bt p r L).1.1,(bt p r L).1.2.1,(bt p r L).1.2.2,(bt p r L).2,()))
theorem JJ (p r:Int) (L:List Ln) (h:InL L/\L.length<=1000):xB p r L:=by
 obtain ⟨hI,hl⟩:=h;unfold xB;refine ⟨by omega,⟨⟨rfl,rfl,trivial⟩,by omega,by omega,rfl,rfl,by simp,by simp [bD]⟩, ?_⟩;rintro ⟨i,_,_,_,_,_,q,s,M,⟨⟩⟩ ⟨h1,h2,h3,h4,h5,h6⟩;dsimp only at h1 h2 h3 h4 h5 h6⊢;subst h3 h4 h5;simp only [Q7,Q6,Rb,Rd];refine ⟨fun hi=>⟨⟨h1,hi⟩,fun x hx=>⟨hI.get hx,fun c=>⟨trivial, ?_⟩,fun c=>⟨⟨h1,by rw [C_];exact hi⟩,by rw [C_];omega,fun y hy=>⟨by omega,⟨trivial,trivial,trivial⟩,⟨by omega,by omega,trivial,trivial, ?_, ?_⟩,by omega⟩⟩⟩⟩,fun hi=>⟨trivial, ?_⟩⟩
 ·rcases PT (hI.get hx) with ⟨e1,e2⟩|⟨e1,e2⟩
  ·rw [e2,xA (sD hx e1)]
  ·rw [e2] at c;exact absurd rfl c
 ·rw [Nw hx] at hy;cases hy;rcases PT (hI.get hx) with ⟨e1,e2⟩|⟨e1,e2⟩
  ·rw [e2] at c;exact absurd c (by decide)
  ·rw [e2,aM h1];exact Nx hx
 ·rcases PT (hI.get hx) with ⟨e1,e2⟩|⟨e1,e2⟩
  ·rw [e2] at c;exact absurd c (by decide)
  ·rw [aM h1,qn hx,h6,Rs e1];rfl
 ·have e1:L.take i.toNat=L:=Rh (by omega);have e2:L.drop i.toNat=[]:=RC (by omega);rw [e1] at h6⊢;rw [e2,sE h6,RH]
set_option maxRecDepth 20000
def Ak:FSpec Tryz.prog:=mkG 146 (.c (.g (.c .j (.c .j (.c (.l LTy) .z)))) .z) (fun x=>(fun (p r:Int) (L:List Ln)=>(InL L/\L.length<=1000,(.tuple [.agg [.int .i64 (bt p r L).1.1, .int .i64 (bt p r L).1.2.1, .list .part LTy (bt p r L).1.2.2], .int .i64 (bt p r L).2]))) x.1.1 x.1.2.1 x.1.2.2.1) fun ⟨⟨p,r,L,_⟩,_⟩ h=>Pure.of_condG (E:=Ny p r L) (sh:=[some 3,none]) (ann:=Nz) (x:=(fun (p r:Int) (L:List Ln)=>((bt p r L).1.1,(bt p r L).1.2.1,(bt p r L).1.2.2,(bt p r L).2,())) p r L) (by kernel_rfl) (JJ p r L h) rfl (ab rfl _ [] rfl rfl) mixed Tryz.func146
def AK (p r:Int) (L:List Ln):Env where
 P:=Tryz.prog
 ty:=tys
 heads:=fun
  |3=>some {slots:=[(5, .int .i64),(6, .any)],boxes:=[(4,[.int .i64, .int .i64, .slc 5000 LTy])],keep:=[1,2],inv:=fun _ (x:Int×Unit×Int×Int×List Ln×Unit)=>0<=x.1/\x.1<=L.length/\x.2.2.1=p/\x.2.2.2.1=r/\x.2.2.2.2.1=(L.take x.1.toNat).map dz/\bD (L.take x.1.toNat)=false,measure:=fun _ (x:Int×Unit×Int×Int×List Ln×Unit)=>(L.length-x.1).toNat}
  |_=>none
abbrev AL:Ann:={slots:=bB 0 [.int .i64, .int .i64, .list .part LTy, .int .i64],boxes:=[],inv:=fun _ _=>True}
abbrev gg:_root_.Go.Vm.Obj:=Obj.box [V.int IntKind.i64 (0:Int),V.int IntKind.i64 (0:Int),V.nils]
abbrev gh (p:Int) (r:Int) (L:List Ln):_root_.Go.Vm.Obj:=Obj.box [V.int IntKind.i64 p,V.int IntKind.i64 r,V.list LK.tmp LTy L]
def nW (p:Int) (r:Int) (L:List Ln):Prop:=
 ((some (gh p r L)=some (gh p r L)/\some gg=some gg/\True)/\0<=(0:Int)/\0<=(↑L.length:Int)/\p=p/\r=r/\[]=List.map dz (List.take (Int.toNat 0) L)/\bD (List.take (Int.toNat 0) L)=false)/\∀(x:Int×Unit×Int×Int×List (Int×Int×Int×Int)×Unit),0<=x.1/\x.1<=L.length/\x.2.2.1=p/\x.2.2.2.1=r/\x.2.2.2.2.1=List.map dz (List.take x.1.toNat L)/\bD (List.take x.1.toNat L)=false->(decide (x.1<L.length)=true->(0<=x.1/\x.1<L.length)/\∀(x_1:Int×Int×Int×Int),L[x.1.toNat]? =some x_1->(decide (x_1.2.2.2=(-9223372036854775808:Int))=true->True/\((0:Int),(0:Int),[],(10:Int),())=((bt p r L).1.1,(bt p r L).1.2.1,(bt p r L).1.2.2,(bt p r L).2,()))/\(decide (x_1.2.2.2=(-9223372036854775808:Int))=false->(au ((0:Int)-x_1.2.2.2))/\((x.2.2.2.2.1.length+(1:Nat))*(32:Nat)<=(140737488355328:Nat)/\x.2.2.2.2.1.length+(1:Nat)<=(4611686018427387904:Nat))/\(au (x.1+1))/\(some (gh p r L)=some (gh p r L)/\some gg=some gg/\True)/\(0<=x.1+1/\x.1+1<=L.length/\x.2.2.1=p/\x.2.2.2.1=r/\x.2.2.2.2.1++[(x_1.1,x_1.2.1,x_1.2.2.1,(0:Int)-x_1.2.2.2)]=List.map dz (List.take (x.1+1).toNat L)/\bD (List.take (x.1+1).toNat L)=false)/\(L.length-(x.1+1)).toNat<(L.length-x.1).toNat))/\(decide (x.1<L.length)=false->True/\(x.2.2.1,x.2.2.2.1,x.2.2.2.2.1,(0:Int),())=((bt p r L).1.1,(bt p r L).1.2.1,(bt p r L).1.2.2,(bt p r L).2,()))
theorem xC (p r:Int) (L:List Ln) (h:InL L/\L.length<=1000):nW p r L:=by
 obtain ⟨hI,hl⟩:=h;unfold nW;refine ⟨⟨⟨rfl,rfl,trivial⟩,by omega,by omega,rfl,rfl,by simp,by simp [bD]⟩, ?_⟩;rintro ⟨i,_,q,s,M,⟨⟩⟩ ⟨h1,h2,h3,h4,h5,h6⟩;dsimp only at h1 h2 h3 h4 h5 h6⊢;subst h3 h4 h5;have hm:((L.take i.toNat).map dz).length<=1000:=by simp;omega
 simp only [Q7,Q6];refine ⟨fun hi=>⟨⟨h1,hi⟩,fun x hx=>⟨fun c=>⟨trivial, ?_⟩,fun c=>⟨?_,⟨by omega,by omega⟩,by omega,⟨trivial,trivial,trivial⟩,⟨by omega,by omega,trivial,trivial, ?_, ?_⟩,by omega⟩⟩⟩,fun hi=>⟨trivial, ?_⟩⟩
 ·rw [xA (sD hx c)]
 ·obtain ⟨b1,b2⟩:=hI.get hx;omega
 ·rw [aM h1,xz hx,Int.zero_sub];rfl
 ·rw [aM h1,qn hx,h6,Rs c];rfl
 ·have e1:L.take i.toNat=L:=Rh (by omega);rw [e1] at h6⊢;rw [sE h6]
def mm:FSpec Tryz.prog:=mkG 95 (.c (.g (.c .j (.c .j (.c (.l LTy) .z)))) .z) (fun x=>(fun (p r:Int) (L:List Ln)=>(InL L/\L.length<=1000,(.tuple [.agg [.int .i64 (bt p r L).1.1, .int .i64 (bt p r L).1.2.1, .list .part LTy (bt p r L).1.2.2], .int .i64 (bt p r L).2]))) x.1.1 x.1.2.1 x.1.2.2.1) fun ⟨⟨p,r,L,_⟩,_⟩ h=>Pure.of_condG (E:=AK p r L) (sh:=[some 3,none]) (ann:=AL) (x:=(fun (p r:Int) (L:List Ln)=>((bt p r L).1.1,(bt p r L).1.2.1,(bt p r L).1.2.2,(bt p r L).2,())) p r L) (by kernel_rfl) (xC p r L h) rfl (ab rfl [] [] rfl rfl) mixed Tryz.func95
end Ent
end
end
end Go.Proofs.YtabicbgeoiilmaaGreatDoor
