import Derived.Test.YtabicbgeoiilmaaGreatDoorBks8
namespace Go.Proofs.YtabicbgeoiilmaaGreatDoor
noncomputable section
set_option linter.unusedVariables false
section
namespace Cur
open Go.Vm
open Rts (bo jp)
def aw (l:List Int) (c:Int):List Int×Int:=if bo c=false then ([],23) else if 40<=(l.length:Int) then ([],3) else (l++[c],0)
def g8 (l:List Int) (c:Int):Env where
 P:=Tryz.prog
 ty:=aJ
 specs:=ai [o9,Bks.o_]
def cX (l:List Int) (c:Int):Prop:=
 True/\((!bo c)=true->([],(23:Int),())=((aw l c).1,(aw l c).2,()))/\((!bo c)=false->(decide ((40:Int)<=(↑l.length:Int))=true->([],(3:Int),())=((aw l c).1,(aw l c).2,()))/\(decide ((40:Int)<=(↑l.length:Int))=false->l.length<=(1000000:Nat)/\((l.length+(1:Nat))*(8:Nat)<=(140737488355328:Nat)/\l.length+(1:Nat)<=(4611686018427387904:Nat))/\(l++[c],(0:Int),())=((aw l c).1,(aw l c).2,())))
theorem fx (l:List Int) (c:Int) (h:l.length<=1000000):cX l c:=by
 unfold cX aw;simp only [Q7,Q6,Rb,Rd,Rl,Rg];repeat' (first|with_reducible apply And.intro|intro _)
 all_goals (try simp only [*,if_true,if_false])
 all_goals first|trivial|rfl|omega|(simp_all;done)
set_option maxRecDepth 20000
def fy:FSpec Tryz.prog:=mkF 132 (.c (.l I) (.c .j .z)) [.list .part I, .int .i64] (fun x=>(fun (l:List Int) (c:Int)=>(l.length<=1000000,(aw l c).1,(aw l c).2,())) x.1 x.2.1) fun ⟨l,c,_⟩ h=>av (E:=g8 l c) (fx l c h) (ab rfl _ [] rfl rfl) Tryz.func132
def iL (l:List Int) (c:Int):Env where
 P:=Tryz.prog
 ty:=aJ
 specs:=ai [jp]
def dK (l:List Int) (c:Int):Prop:=
 True/\((!bo c)=true->([],(23:Int),())=((aw l c).1,(aw l c).2,()))/\((!bo c)=false->(decide ((40:Int)<=(↑l.length:Int))=true->([],(3:Int),())=((aw l c).1,(aw l c).2,()))/\(decide ((40:Int)<=(↑l.length:Int))=false->(((0:Nat)+l.length)*(8:Nat)<=(140737488355328:Nat)/\(0:Nat)+l.length<=(4611686018427387904:Nat)/\((0:Nat)<l.length∨(0:Nat)=(0:Nat)))/\((l.length+(1:Nat))*(8:Nat)<=(140737488355328:Nat)/\l.length+(1:Nat)<=(4611686018427387904:Nat))/\(l++[c],(0:Int),())=((aw l c).1,(aw l c).2,())))
theorem gz (l:List Int) (c:Int) (h:l.length<=1000000):dK l c:=by
 unfold dK aw;simp only [Q7,Q6,Rb,Rd,Rl,Rg];repeat' (first|with_reducible apply And.intro|intro _)
 all_goals (try simp only [*,if_true,if_false])
 all_goals first|trivial|rfl|omega|(simp_all;done)
def kT:FSpec Tryz.prog:=mkF 118 (.c (.l I) (.c .j .z)) [.list .part I, .int .i64] (fun x=>(fun (l:List Int) (c:Int)=>(l.length<=1000000,(aw l c).1,(aw l c).2,())) x.1 x.2.1) fun ⟨l,c,_⟩ h=>av (E:=iL l c) (gz l c h) (ab rfl _ [] rfl rfl) Tryz.func118
end Cur
end
section
namespace Lck
open Go.Vm
def aw (l:List Lk) (a b n:Int):List Lk×Int:=if 400<=(l.length:Int) then ([],3) else if bz l a b n=0 then (l++[(a,b)],0) else ([],bz l a b n)
def g8 (l:List Lk) (a b n:Int):Env where
 P:=Tryz.prog
 ty:=aJ
 specs:=ai [iM,Bks.pb]
def cX (l:List Lk) (a:Int) (b:Int) (n:Int):Prop:=
 (decide ((400:Int)<=(↑l.length:Int))=true->([],(3:Int),())=((aw l a b n).1,(aw l a b n).2,()))/\(decide ((400:Int)<=(↑l.length:Int))=false->l.length<=(1000000000:Nat)/\((!decide (bz l a b n=0))=true->([],bz l a b n,())=((aw l a b n).1,(aw l a b n).2,()))/\((!decide (bz l a b n=0))=false->l.length<=(1000000:Nat)/\((l.length+(1:Nat))*(16:Nat)<=(140737488355328:Nat)/\l.length+(1:Nat)<=(4611686018427387904:Nat))/\(l++[(a,b)],(0:Int),())=((aw l a b n).1,(aw l a b n).2,())))
theorem fx (l:List Lk) (a b n:Int) (h:l.length<=1000000):cX l a b n:=by
 unfold cX aw;simp only [Q7,Q6,Rb,Rd,Rl,Rg];repeat' (first|with_reducible apply And.intro|intro _)
 all_goals (try simp only [*,if_true,if_false])
 all_goals first|trivial|rfl|omega|(simp_all;done)
set_option maxRecDepth 20000
def fy:FSpec Tryz.prog:=mkF 138 (.c (.l Vl) (.c (.g (.c .j (.c .j .z))) (.c .j .z))) [.list .part Vl, .int .i64] (fun x=>(fun (l:List Lk) (a b n:Int)=>(l.length<=1000000,(aw l a b n).1,(aw l a b n).2,())) x.1 x.2.1.1 x.2.1.2.1 x.2.2.1) fun ⟨l,⟨a,b,_⟩,n,_⟩ h=>av (E:=g8 l a b n) (fx l a b n h) (ab rfl _ [] rfl rfl) Tryz.func138
def iL (l:List Lk) (a b n:Int):Env where
 P:=Tryz.prog
 ty:=aJ
 specs:=ai [g9]
def dK (l:List Lk) (a:Int) (b:Int) (n:Int):Prop:=
 (decide ((400:Int)<=(↑l.length:Int))=true->([],(3:Int),())=((aw l a b n).1,(aw l a b n).2,()))/\(decide ((400:Int)<=(↑l.length:Int))=false->l.length<=(1000000000:Nat)/\((!decide (bz l a b n=0))=true->([],bz l a b n,())=((aw l a b n).1,(aw l a b n).2,()))/\((!decide (bz l a b n=0))=false->(((0:Nat)+l.length)*(16:Nat)<=(140737488355328:Nat)/\(0:Nat)+l.length<=(4611686018427387904:Nat)/\((0:Nat)<l.length∨(0:Nat)=(0:Nat)))/\((l.length+(1:Nat))*(16:Nat)<=(140737488355328:Nat)/\l.length+(1:Nat)<=(4611686018427387904:Nat))/\(l++[(a,b)],(0:Int),())=((aw l a b n).1,(aw l a b n).2,())))
theorem gz (l:List Lk) (a b n:Int) (h:l.length<=1000000):dK l a b n:=by
 unfold dK aw;simp only [Q7,Q6,Rb,Rd,Rl,Rg];repeat' (first|with_reducible apply And.intro|intro _)
 all_goals (try simp only [*,if_true,if_false])
 all_goals first|trivial|rfl|omega|(simp_all;done)
def kT:FSpec Tryz.prog:=mkF 123 (.c (.l Vl) (.c (.g (.c .j (.c .j .z))) (.c .j .z))) [.list .part Vl, .int .i64] (fun x=>(fun (l:List Lk) (a b n:Int)=>(l.length<=1000000,(aw l a b n).1,(aw l a b n).2,())) x.1 x.2.1.1 x.2.1.2.1 x.2.2.1) fun ⟨l,⟨a,b,_⟩,n,_⟩ h=>av (E:=iL l a b n) (gz l a b n h) (ab rfl _ [] rfl rfl) Tryz.func123
theorem O2 (l:List Lk) (p e:Int):lkR l p e=lkP l p e:=by
 by_cases h:0<=p
 ·exact OM l p e h
 ·have h1:lkP l p e=true:=by
   unfold lkP aE;rw [Q7,mj];exact .inl (by omega)
  have h2:lkR l p e=true:=by
   unfold lkR;rw [RB (by omega),Bool.true_or]
  rw [h1,h2]
theorem Hb {α:Type} {l:List α} {p:α->Bool} {i:Int} {x:α} (hx:l[i.toNat]? =some x) (hp:p x=true):(l.drop i.toNat).any p=true:=by
 obtain ⟨h1,h2⟩:=List.getElem?_eq_some_iff.1 hx;rw [Rw h1,h2,Sr,hp,Bool.true_or]
theorem DY {α:Type} {l:List α} {p:α->Bool} {i:Int} {x:α} (h0:0<=i) (hx:l[i.toNat]? =some x) (hp:p x=false):(l.drop i.toNat).any p=(l.drop (i+1).toNat).any p:=by
 obtain ⟨h1,h2⟩:=List.getElem?_eq_some_iff.1 hx;rw [Rw h1,h2,Sr,hp,Bool.false_or,show (i+1).toNat=i.toNat+1 by omega]
theorem Hc {α:Type} {l:List α} {p:α->Bool} {i:Int} (h: ¬i<(l.length:Int)):(l.drop i.toNat).any p=false:=by
 rw [RC (by omega),List.any_nil]
def Hd (l:List Lk) (p:Int) (xs:List Int):Env where
 P:=Tryz.prog
 ty:=aJ
 specs:=ai [pc]
 heads:=fun|2=>some {slots:=[(7, .int .i64)],boxes:=[],inv:=fun _ (x:Int×Unit)=>0<=x.1/\x.1<=xs.length/\xs.any (lkP l p)=(xs.drop x.1.toNat).any (lkP l p),measure:=fun _ (x:Int×Unit)=>(xs.length-x.1).toNat}|_=>none
def sa (l:List Lk) (p:Int) (xs:List Int):Prop:=
 (True/\0<=(0:Int)/\0<=(↑xs.length:Int)/\xs.any (lkP l p)=(List.drop (Int.toNat 0) xs).any (lkP l p))/\∀(x:Int×Unit),0<=x.1/\x.1<=xs.length/\xs.any (lkP l p)=(List.drop x.1.toNat xs).any (lkP l p)->(ag (x.1<xs.length)->(0<=x.1/\x.1<xs.length)/\∀(x_1:Int),xs[x.1.toNat]? =some x_1->l.length<=(1000000000:Nat)/\(lkR l p x_1=true->(true,())=(xs.any (lkP l p),()))/\(lkR l p x_1=false->(au (x.1+1))/\True/\(0<=x.1+1/\x.1+1<=xs.length/\xs.any (lkP l p)=(List.drop (x.1+1).toNat xs).any (lkP l p))/\(xs.length-(x.1+1)).toNat<(xs.length-x.1).toNat))/\(aj (x.1<xs.length)->(false,())=(xs.any (lkP l p),()))
theorem DZ (l:List Lk) (p:Int) (xs:List Int) (h:l.length<=1000000/\xs.length<=1000000):sa l p xs:=by
 unfold sa aj ag;simp only [Q7,Q6,Rb,Rd,Rl,Rg];repeat' (first|with_reducible apply And.intro|(intro (x:Int×Unit);obtain ⟨i,⟨⟩⟩:=x;rintro ⟨h0,h1,h2⟩;dsimp only at h0 h1 h2⊢)|intro _)
 all_goals try (first|trivial|rfl|omega)
 all_goals (try simp only [O2] at*)
 all_goals try (first
  |(rename_i x hx hp;rw [h2,Hb hx hp])
  |(rename_i x hx hp;rw [h2,DY h0 hx hp])
  |(rw [h2,Hc (by assumption)]))
def LR:FSpec Tryz.prog:=mkF 129 (.c (.l Vl) (.c .j (.c (.l I) .z))) [.bool] (fun x=>(fun (l:List Lk) (p:Int) (xs:List Int)=>(l.length<=1000000/\xs.length<=1000000,xs.any (lkP l p),())) x.1 x.2.1 x.2.2.1) fun ⟨l,p,xs,_⟩ h=>av (E:=Hd l p xs) (DZ l p xs h) (ab rfl _ [] rfl rfl) Tryz.func129
end Lck
end
section
namespace Rts
open Go.Vm
def bL (x k:Rt):Bool:=decide (x.1=k.1/\x.2.1=k.2.1/\x.2.2.1=k.2.2.1/\x.2.2.2.1=k.2.2.2.1)
def cj (k:Rt) (st:Int×Int) (x:Rt):Int×Int:=(st.1+1,if bL x k then st.1 else st.2)
def aE (l:List Rt) (k:Rt):Int:=(l.foldl (cj k) (0, -1)).2
theorem He (l:List Rt) (k:Rt):(l.foldl (cj k) (0, -1)).1=l.length:=by
 have h: ∀(l:List Rt) (st:Int×Int),(l.foldl (cj k) st).1=st.1+l.length:=by
  intro l;induction l with
  |nil=>intro st;simp
  |cons x r ih=>
   intro st;rw [Sf,ih,Rj];show st.1+1+(r.length:Int)=st.1+((r.length+1:Nat):Int);omega
 rw [h];simp
theorem D0 (l:List Rt) (k x:Rt):aE (l++[x]) k=if bL x k then (l.length:Int) else aE l k:=by
 unfold aE;rw [List.foldl_append];show (if bL x k then (l.foldl (cj k) (0, -1)).1 else (l.foldl (cj k) (0, -1)).2)=_;rw [He]
theorem dL {l:List Rt} {k x:Rt} {i:Nat} (h:l[i]? =some x):aE (l.take (i+1)) k=if bL x k then (i:Int) else aE (l.take i) k:=by
 have hl:=(List.getElem?_eq_some_iff.1 h).1;rw [RD,h];show aE (l.take i++[x]) k=_;rw [D0,Rz,Sg (by omega)]
theorem D1 (k:Rt): ∀l:List Rt,(aE l k= -1/\∀x∈l,bL x k=false)∨(0<=aE l k/\aE l k<l.length/\∃x,l[(aE l k).toNat]? =some x/\bL x k=true):=by
 intro l;have h: ∀i,i<=l.length->(aE (l.take i) k= -1/\∀x∈l.take i,bL x k=false)∨(0<=aE (l.take i) k/\aE (l.take i) k<i/\∃x,l[(aE (l.take i) k).toNat]? =some x/\bL x k=true):=by
  intro i;induction i with
  |zero=>intro _;exact .inl ⟨rfl,fun x hx=>by simp at hx⟩
  |succ i ih=>
   intro hi;have hx:l[i]? =some l[i]:=List.getElem?_eq_getElem (by omega);rw [dL hx];by_cases c:bL l[i] k=true
   ·rw [Q_ c];exact .inr ⟨by omega,by omega,l[i],by rw [R3];exact hx,c⟩
   ·rw [Q8 c];rcases ih (by omega) with ⟨h1,h2⟩|⟨h1,h2,h3⟩
    ·refine .inl ⟨h1,fun x hm=> ?_⟩;rw [RD,hx,Rn] at hm;rcases hm with hm|hm
     ·exact h2 x hm
     ·rw [show x=l[i] by simpa using hm];simpa using c
    ·exact .inr ⟨h1,by omega,h3⟩
 have:=h l.length (Rf _);rw [Ss] at this;exact this
def LS (a b c p n d:Int):Env:=ee
abbrev LT:Ann:={slots:=bB 0 [.int .i64, .int .i64, .int .i64, .int .i64, .int .i64, .int .i64],boxes:=[],inv:=fun _ _=>True}
def Hf (a:Int) (b:Int) (c:Int) (p:Int) (n:Int) (d:Int):Prop:=
 True/\(a,b,c,p,(0:Int),(0:Int),())=(a,b,c,p,(0:Int),(0:Int),())
theorem Hg (a b c p n d:Int):Hf a b c p n d:=by
 exact ⟨trivial,rfl⟩
set_option maxRecDepth 20000
def O3:FSpec Tryz.prog:=mkG 215 (.c (.g (.c .j (.c .j (.c .j (.c .j (.c .j (.c .j .z))))))) .z) (fun x=>(fun (a b c p n d:Int)=>(True,(.agg [.int .i64 a, .int .i64 b, .int .i64 c, .int .i64 p, .int .i64 0, .int .i64 0]))) x.1.1 x.1.2.1 x.1.2.2.1 x.1.2.2.2.1 x.1.2.2.2.2.1 x.1.2.2.2.2.2.1) fun ⟨⟨a,b,c,p,n,d,_⟩,_⟩ _=>Pure.of_condG (E:=LS a b c p n d) (sh:=[some 6]) (ann:=LT) (x:=(fun (a b c p n d:Int)=>(a,b,c,p,(0:Int),(0:Int),())) a b c p n d) (by kernel_rfl) (Hg a b c p n d) rfl (ab rfl [] [] rfl rfl) mixed Tryz.func215
def iN (l:List Rt) (a b c p n d:Int):Env where
 P:=Tryz.prog
 ty:=aJ
 specs:=ai [O3]
 frz:=fun|19=>true|_=>false
 heads:=fun
  |3=>some {slots:=[(5, .int .i64)],boxes:=[],keep:=[3],inv:=fun _ (x:Int×Unit)=> -1<=x.1/\x.1<l.length/\aE l (a,b,c,p,n,d)=aE (l.take (x.1+1).toNat) (a,b,c,p,n,d),measure:=fun _ (x:Int×Unit)=>(x.1+1).toNat}
  |_=>none
abbrev jq (a:Int) (b:Int) (c:Int) (p:Int):_root_.Go.Vm.Obj:=Obj.box [V.int IntKind.i64 a,V.int IntKind.i64 b,V.int IntKind.i64 c,V.int IntKind.i64 p,V.int IntKind.i64 (0:Int),V.int IntKind.i64 (0:Int)]
def dM (l:List Rt) (a:Int) (b:Int) (c:Int) (p:Int) (n:Int) (d:Int):Prop:=
 True/\(au ((↑l.length:Int)-(1:Int)))/\((some (jq a b c p)=some (jq a b c p)/\True)/\(-1:Int)<=(↑l.length:Int)-(1:Int)/\(↑l.length:Int)-(1:Int)<(↑l.length:Int)/\aE l (a,b,c,p,n,d)=aE (List.take ((↑l.length:Int)-(1:Int)+1).toNat l) (a,b,c,p,n,d))/\∀(x:Int×Unit),-1<=x.1/\x.1<l.length/\aE l (a,b,c,p,n,d)=aE (List.take (x.1+1).toNat l) (a,b,c,p,n,d)->(ag (0<=x.1)->(0<=x.1/\x.1<l.length)/\∀(x_1:Int×Int×Int×Int×Int×Int),l[x.1.toNat]? =some x_1->True/\((decide (x_1.1=a)&&(decide (x_1.2.1=b)&&(decide (x_1.2.2.1=c)&&(decide (x_1.2.2.2.1=p)&&(decide ((0:Int)=(0:Int))&&(decide ((0:Int)=(0:Int))&&true)&&true)))))=true->(x.1,())=(aE l (a,b,c,p,n,d),()))/\((decide (x_1.1=a)&&(decide (x_1.2.1=b)&&(decide (x_1.2.2.1=c)&&(decide (x_1.2.2.2.1=p)&&(decide ((0:Int)=(0:Int))&&(decide ((0:Int)=(0:Int))&&true)&&true)))))=false->(au (x.1-(1:Int)))/\(some (jq a b c p)=some (jq a b c p)/\True)/\(-1<=x.1-(1:Int)/\x.1-(1:Int)<(↑l.length:Int)/\aE l (a,b,c,p,n,d)=aE (List.take (x.1-(1:Int)+1).toNat l) (a,b,c,p,n,d))/\(x.1-(1:Int)+1).toNat<(x.1+1).toNat))/\(aj (0<=x.1)->((-1:Int),())=(aE l (a,b,c,p,n,d),()))
theorem Co {x:Rt} {a b c p n d:Int}:(decide (x.1=a)&&(decide (x.2.1=b)&&(decide (x.2.2.1=c)&&decide (x.2.2.2.1=p))))=bL x (a,b,c,p,n,d):=by
 unfold bL;rw [<-Bool.decide_and,<-Bool.decide_and,<-Bool.decide_and]
theorem gA (l:List Rt) (a b c p n d:Int) (h:l.length<=1000000):dM l a b c p n d:=by
 unfold dM aj ag;simp only [decide_true,Bool.and_true];refine ⟨trivial,by omega,⟨⟨trivial,trivial⟩,by omega,by omega, ?_⟩, ?_⟩
 ·rw [Rh (by omega)]
 rintro ⟨i,⟨⟩⟩ ⟨h0,h1,hb⟩;dsimp only at h0 h1 hb⊢;rw [Q7,Q6];refine ⟨fun e=>⟨⟨e,h1⟩,fun x hx=>⟨trivial,fun k=> ?_,fun k=>⟨by omega,⟨trivial,trivial⟩,⟨by omega,by omega, ?_⟩,by omega⟩⟩⟩,fun e=> ?_⟩
 ·rw [Co (n:=n) (d:=d)] at k;rw [hb,show (i+1).toNat=i.toNat+1 by omega,dL hx,Q_ k,show ((i.toNat:Nat):Int)=i by omega]
 ·rw [Co (n:=n) (d:=d)] at k;rw [hb,show (i+1).toNat=i.toNat+1 by omega,dL hx,Q8 (by rw [k];decide),show (i-1+1).toNat=i.toNat by omega]
 ·have:i= -1:=by omega
  subst this;rw [hb];rfl
def kU:FSpec Tryz.prog:=mkF 188 (.c (.l RTy) (.c (.g (.c .j (.c .j (.c .j (.c .j (.c .j (.c .j .z))))))) .z)) [.int .i64] (fun x=>(fun (l:List Rt) (a b c p n d:Int)=>(l.length<=1000000,aE l (a,b,c,p,n,d),())) x.1 x.2.1.1 x.2.1.2.1 x.2.1.2.2.1 x.2.1.2.2.2.1 x.2.1.2.2.2.2.1 x.2.1.2.2.2.2.2.1) fun ⟨l,⟨a,b,c,p,n,d,_⟩,_⟩ h=>av (E:=iN l a b c p n d) (gA l a b c p n d h) (ab rfl _ [] rfl rfl) Tryz.func188
def LU (a b c p n d e f g q m t:Int):Env:=ee
def vY (a:Int) (b:Int) (c:Int) (p:Int) (n:Int) (d:Int) (e:Int) (f:Int) (g:Int) (q:Int) (m:Int) (t:Int):Prop:=
 (ag (a=e)->(ag (b=f)->(ag (c=g)->(decide (p=q),())=(bL (a,b,c,p,n,d) (e,f,g,q,m,t),()))/\(aP (c=g)->(false,())=(bL (a,b,c,p,n,d) (e,f,g,q,m,t),())))/\(aP (b=f)->(false,())=(bL (a,b,c,p,n,d) (e,f,g,q,m,t),())))/\(aP (a=e)->(false,())=(bL (a,b,c,p,n,d) (e,f,g,q,m,t),()))
theorem Hh (a b c p n d e f g q m t:Int):vY a b c p n d e f g q m t:=by
 unfold vY aP ag bL;simp only [Q7,Q6,Rl,Prod.mk.injEq,and_true];refine ⟨fun h1=>⟨fun h2=>⟨fun h3=>decide_eq_decide.2 ⟨fun h=>⟨h1,h2,h3,h⟩,fun h=>h.2.2.2⟩,fun h3=> ?_⟩,fun h2=> ?_⟩,fun h1=> ?_⟩
 ·rw [Rs (fun h=>h3 h.2.2.1)]
 ·rw [Rs (fun h=>h2 h.2.1)]
 ·rw [Rs (fun h=>h1 h.1)]
def O4:FSpec Tryz.prog:=mkF 172 (.c (.g (.c .j (.c .j (.c .j (.c .j (.c .j (.c .j .z))))))) (.c (.g (.c .j (.c .j (.c .j (.c .j (.c .j (.c .j .z))))))) .z)) [.bool] (fun x=>(fun (a b c p n d e f g q m t:Int)=>(True,bL (a,b,c,p,n,d) (e,f,g,q,m,t),())) x.1.1 x.1.2.1 x.1.2.2.1 x.1.2.2.2.1 x.1.2.2.2.2.1 x.1.2.2.2.2.2.1 x.2.1.1 x.2.1.2.1 x.2.1.2.2.1 x.2.1.2.2.2.1 x.2.1.2.2.2.2.1 x.2.1.2.2.2.2.2.1) fun ⟨⟨a,b,c,p,n,d,_⟩,⟨e,f,g,q,m,t,_⟩,_⟩ _=>av (E:=LU a b c p n d e f g q m t) (Hh a b c p n d e f g q m t) (ab rfl [] [] rfl rfl) Tryz.func172
def bR (l:List Rt) (r:Rt):List Rt×Int:=
 if cL r=0 then (if 0<=aE l r then (l.set (aE l r).toNat r,0) else if 2000<=(l.length:Int) then ([],3) else (l++[r],0)) else ([],cL r)
def LV (l:List Rt) (a b c p n d:Int):Env where
 P:=Tryz.prog
 ty:=aJ
 specs:=ai [iM,kU,bV]
def vZ (l:List Rt) (a:Int) (b:Int) (c:Int) (p:Int) (n:Int) (d:Int):Prop:=
 True/\((!decide (cL (a,b,c,p,n,d)=(0:Int)))=true->([],cL (a,b,c,p,n,d),())=((bR l (a,b,c,p,n,d)).1,(bR l (a,b,c,p,n,d)).2,()))/\((!decide (cL (a,b,c,p,n,d)=(0:Int)))=false->l.length<=(1000000:Nat)/\l.length<=(1000000:Nat)/\(decide (0<=aE l (a,b,c,p,n,d))=true->(0<=aE l (a,b,c,p,n,d)/\aE l (a,b,c,p,n,d)<l.length)/\(aE l (a,b,c,p,n,d)).toNat<l.length/\∀(y:Int×Int×Int×Int×Int×Int),l[(aE l (a,b,c,p,n,d)).toNat]? =some y->(l.set (aE l (a,b,c,p,n,d)).toNat (a,b,c,p,n,d),(0:Int),())=((bR l (a,b,c,p,n,d)).1,(bR l (a,b,c,p,n,d)).2,()))/\(decide (0<=aE l (a,b,c,p,n,d))=false->(decide ((2000:Int)<=(↑l.length:Int))=true->([],(3:Int),())=((bR l (a,b,c,p,n,d)).1,(bR l (a,b,c,p,n,d)).2,()))/\(decide ((2000:Int)<=(↑l.length:Int))=false->((l.length+(1:Nat))*(48:Nat)<=(140737488355328:Nat)/\l.length+(1:Nat)<=(4611686018427387904:Nat))/\(l++[(a,b,c,p,n,d)],(0:Int),())=((bR l (a,b,c,p,n,d)).1,(bR l (a,b,c,p,n,d)).2,()))))
def Hi (l:List Rt) (a b c p n d:Int):Env where
 P:=Tryz.prog
 ty:=aJ
 specs:=ai [g9,O4]
 frz:=fun|26=>true|_=>false
 asArr:=fun|28=>true|_=>false
 heads:=fun
  |6=>some {slots:=[(8, .int .i64),(7, .int .i64)],boxes:=[],keep:=[3],inv:=fun _ (x:Int×Int×Unit)=>0<=x.1/\x.1<=l.length/\x.2.1=aE (l.take x.1.toNat) (a,b,c,p,n,d),measure:=fun _ (x:Int×Int×Unit)=>(l.length-x.1).toNat}
  |_=>none
abbrev fj (a:Int) (b:Int) (c:Int) (p:Int) (n:Int) (d:Int):_root_.Go.Vm.Obj:=Obj.box [V.int IntKind.i64 a,V.int IntKind.i64 b,V.int IntKind.i64 c,V.int IntKind.i64 p,V.int IntKind.i64 n,V.int IntKind.i64 d]
def sb (l:List Rt) (a:Int) (b:Int) (c:Int) (p:Int) (n:Int) (d:Int):Prop:=
 True/\((!decide (cL (a,b,c,p,n,d)=(0:Int)))=true->([],cL (a,b,c,p,n,d),())=((bR l (a,b,c,p,n,d)).1,(bR l (a,b,c,p,n,d)).2,()))/\((!decide (cL (a,b,c,p,n,d)=(0:Int)))=false->((some (fj a b c p n d)=some (fj a b c p n d)/\True)/\0<=(0:Int)/\0<=(↑l.length:Int)/\(-1:Int)=aE (List.take (Int.toNat 0) l) (a,b,c,p,n,d))/\∀(x:Int×Int×Unit),0<=x.1/\x.1<=l.length/\x.2.1=aE (List.take x.1.toNat l) (a,b,c,p,n,d)->(decide (x.1<l.length)=true->(0<=x.1/\x.1<l.length)/\∀(x_1:Int×Int×Int×Int×Int×Int),l[x.1.toNat]? =some x_1->True/\(bL x_1 (a,b,c,p,n,d)=true->(au (x.1+1))/\(some (fj a b c p n d)=some (fj a b c p n d)/\True)/\(0<=x.1+1/\x.1+1<=l.length/\x.1=aE (List.take (x.1+1).toNat l) (a,b,c,p,n,d))/\(l.length-(x.1+1)).toNat<(l.length-x.1).toNat)/\(bL x_1 (a,b,c,p,n,d)=false->(au (x.1+1))/\(some (fj a b c p n d)=some (fj a b c p n d)/\True)/\(0<=x.1+1/\x.1+1<=l.length/\x.2.1=aE (List.take (x.1+1).toNat l) (a,b,c,p,n,d))/\(l.length-(x.1+1)).toNat<(l.length-x.1).toNat))/\(decide (x.1<l.length)=false->(((0:Nat)+l.length)*(48:Nat)<=(140737488355328:Nat)/\(0:Nat)+l.length<=(4611686018427387904:Nat))/\(decide (0<=x.2.1)=true->(0<=x.2.1/\x.2.1<l.length)/\x.2.1.toNat<l.length/\∀(y:Int×Int×Int×Int×Int×Int),l[x.2.1.toNat]? =some y->(l.set x.2.1.toNat (a,b,c,p,n,d),(0:Int),())=((bR l (a,b,c,p,n,d)).1,(bR l (a,b,c,p,n,d)).2,()))/\(decide (0<=x.2.1)=false->(decide ((2000:Int)<=(↑l.length:Int))=true->([],(3:Int),())=((bR l (a,b,c,p,n,d)).1,(bR l (a,b,c,p,n,d)).2,()))/\(decide ((2000:Int)<=(↑l.length:Int))=false->((l.length+(1:Nat))*(48:Nat)<=(140737488355328:Nat)/\l.length+(1:Nat)<=(4611686018427387904:Nat))/\(l++[(a,b,c,p,n,d)],(0:Int),())=((bR l (a,b,c,p,n,d)).1,(bR l (a,b,c,p,n,d)).2,())))))
theorem Cp {l:List Rt} {r:Rt} (h: ¬cL r=0):bR l r=([],cL r):=by unfold bR;rw [Q8 h]
theorem sc {l:List Rt} {r:Rt} (h:cL r=0) (k:0<=aE l r):bR l r=(l.set (aE l r).toNat r,0):=by unfold bR;rw [Q_ h,Q_ k]
theorem v_ {l:List Rt} {r:Rt} (h:cL r=0) (k: ¬0<=aE l r) (m:2000<=(l.length:Int)):bR l r=([],3):=by unfold bR;rw [Q_ h,Q8 k,Q_ m]
theorem Cq {l:List Rt} {r:Rt} (h:cL r=0) (k: ¬0<=aE l r) (m: ¬2000<=(l.length:Int)):bR l r=(l++[r],0):=by unfold bR;rw [Q_ h,Q8 k,Q8 m]
theorem Cr (l:List Rt) (k:Rt):aE l k<l.length/\ -1<=aE l k:=by
 rcases D1 k l with ⟨h1,_⟩|⟨h1,h2,_⟩<;>omega
theorem Hj (l:List Rt) (a b c p n d:Int) (h:l.length<=1000000):vZ l a b c p n d:=by
 have hl:=Cr l (a,b,c,p,n,d);unfold vZ;simp only [Q7,Q6,Rb,Rd];refine ⟨trivial,fun k=>by rw [Cp k],fun k=>⟨h,h,fun e=>⟨⟨e,hl.1⟩,by omega,fun _ _=>by rw [sc k e]⟩,fun e=>⟨fun f=>by rw [v_ k e f],fun f=>⟨⟨by omega,by omega⟩,by rw [Cq k e f]⟩⟩⟩⟩
def Hk:FSpec Tryz.prog:=mkF 137 (.c (.l RTy) (.c (.g (.c .j (.c .j (.c .j (.c .j (.c .j (.c .j .z))))))) .z)) [.list .part RTy, .int .i64] (fun x=>(fun (l:List Rt) (a b c p n d:Int)=>(l.length<=1000000,(bR l (a,b,c,p,n,d)).1,(bR l (a,b,c,p,n,d)).2,())) x.1 x.2.1.1 x.2.1.2.1 x.2.1.2.2.1 x.2.1.2.2.2.1 x.2.1.2.2.2.2.1 x.2.1.2.2.2.2.2.1) fun ⟨l,⟨a,b,c,p,n,d,_⟩,_⟩ h=>av (E:=LV l a b c p n d) (Hj l a b c p n d h) (ab rfl _ [] rfl rfl) Tryz.func137
theorem D2 (l:List Rt) (a b c p n d:Int) (h:l.length<=1000000):sb l a b c p n d:=by
 have hl:=Cr l (a,b,c,p,n,d);unfold sb;simp only [Q7,Q6,Rb,Rd];refine ⟨trivial,fun k=>by rw [Cp k],fun k=>⟨⟨⟨trivial,trivial⟩,by omega,by omega,rfl⟩, ?_⟩⟩;rintro ⟨i,v,⟨⟩⟩ ⟨h0,h1,hv⟩;dsimp only at h0 h1 hv⊢;refine ⟨fun e=>⟨⟨h0,e⟩,fun x hx=>⟨trivial,fun m=>⟨by omega,⟨trivial,trivial⟩,⟨by omega,by omega, ?_⟩,by omega⟩,fun m=>⟨by omega,⟨trivial,trivial⟩,⟨by omega,by omega, ?_⟩,by omega⟩⟩⟩,fun e=> ?_⟩
 ·rw [show (i+1).toNat=i.toNat+1 by omega,dL hx,Q_ m];omega
 ·rw [show (i+1).toNat=i.toNat+1 by omega,dL hx,Q8 (by rw [m];decide)];exact hv
 ·rw [Rh (by omega)] at hv;subst hv;exact ⟨⟨by omega,by omega⟩,fun f=>⟨⟨f,hl.1⟩,by omega,fun _ _=>by rw [sc k f]⟩,fun f=>⟨fun g=>by rw [v_ k f g],fun g=>⟨⟨by omega,by omega⟩,by rw [Cq k f g]⟩⟩⟩
def LW:FSpec Tryz.prog:=mkF 122 (.c (.l RTy) (.c (.g (.c .j (.c .j (.c .j (.c .j (.c .j (.c .j .z))))))) .z)) [.list .part RTy, .int .i64] (fun x=>(fun (l:List Rt) (a b c p n d:Int)=>(l.length<=1000000,(bR l (a,b,c,p,n,d)).1,(bR l (a,b,c,p,n,d)).2,())) x.1 x.2.1.1 x.2.1.2.1 x.2.1.2.2.1 x.2.1.2.2.2.1 x.2.1.2.2.2.2.1 x.2.1.2.2.2.2.2.1) fun ⟨l,⟨a,b,c,p,n,d,_⟩,_⟩ h=>av (E:=Hi l a b c p n d) (D2 l a b c p n d h) (ab rfl _ [] rfl rfl) Tryz.func122
end Rts
end
section
namespace Acc
open Go.Vm
def aw (l:List AcD) (x:AcD):List AcD×Int:=if 60<=(l.length:Int) then ([],3) else if gq x l.length=0 then (l++[x],0) else ([],gq x l.length)
def g8 (l:List AcD) (a k:Int) (s q:Bool):Env where
 P:=Tryz.prog
 ty:=aJ
 specs:=ai [wa,tS,Bks.ml]
def cX (l:List AcD) (a:Int) (k:Int) (s:Bool) (q:Bool):Prop:=
 (decide ((60:Int)<=(↑l.length:Int))=true->([],(3:Int),())=((aw l (a,k,s,q)).1,(aw l (a,k,s,q)).2,()))/\(decide ((60:Int)<=(↑l.length:Int))=false->True/\((!decide (bx a (↑l.length:Int)=(0:Int)))=true->([],bx a (↑l.length:Int),())=((aw l (a,k,s,q)).1,(aw l (a,k,s,q)).2,()))/\((!decide (bx a (↑l.length:Int)=(0:Int)))=false->True/\((!decide (ac k s q=0))=true->([],ac k s q,())=((aw l (a,k,s,q)).1,(aw l (a,k,s,q)).2,()))/\((!decide (ac k s q=0))=false->l.length<=(1000000:Nat)/\((l.length+(1:Nat))*(24:Nat)<=(140737488355328:Nat)/\l.length+(1:Nat)<=(4611686018427387904:Nat))/\(l++[(a,k,s,q)],(0:Int),())=((aw l (a,k,s,q)).1,(aw l (a,k,s,q)).2,()))))
theorem fx (l:List AcD) (a k:Int) (s q:Bool) (h:l.length<=1000000):cX l a k s q:=by
 unfold cX aw gq;simp only [Q7,Q6,Rb,Rd,Rl,Rg];repeat' (first|with_reducible apply And.intro|intro _)
 all_goals (try simp only [*,if_true,if_false])
 all_goals first|trivial|rfl|omega|(simp_all;done)
set_option maxRecDepth 20000
def fy:FSpec Tryz.prog:=mkF 133 (.c (.l AcT) (.c (.g (.c .j (.c .j (.c .b (.c .b .z))))) .z)) [.list .part AcT, .int .i64] (fun x=>(fun (l:List AcD) (a k:Int) (s q:Bool)=>(l.length<=1000000,(aw l (a,k,s,q)).1,(aw l (a,k,s,q)).2,())) x.1 x.2.1.1 x.2.1.2.1 x.2.1.2.2.1 x.2.1.2.2.2.1) fun ⟨l,⟨a,k,s,q,_⟩,_⟩ h=>av (E:=g8 l a k s q) (fx l a k s q h) (ab rfl _ [] rfl rfl) Tryz.func133
def iL (l:List AcD) (a k:Int) (s q:Bool):Env where
 P:=Tryz.prog
 ty:=aJ
 specs:=ai [g9]
def dK (l:List AcD) (a:Int) (k:Int) (s:Bool) (q:Bool):Prop:=
 (decide ((60:Int)<=(↑l.length:Int))=true->([],(3:Int),())=((aw l (a,k,s,q)).1,(aw l (a,k,s,q)).2,()))/\(decide ((60:Int)<=(↑l.length:Int))=false->True/\((!decide (gq (a,k,s,q) (↑l.length:Int)=(0:Int)))=true->([],gq (a,k,s,q) (↑l.length:Int),())=((aw l (a,k,s,q)).1,(aw l (a,k,s,q)).2,()))/\((!decide (gq (a,k,s,q) (↑l.length:Int)=(0:Int)))=false->(((0:Nat)+l.length)*(24:Nat)<=(140737488355328:Nat)/\(0:Nat)+l.length<=(4611686018427387904:Nat)/\((0:Nat)<l.length∨(0:Nat)=(0:Nat)))/\((l.length+(1:Nat))*(24:Nat)<=(140737488355328:Nat)/\l.length+(1:Nat)<=(4611686018427387904:Nat))/\(l++[(a,k,s,q)],(0:Int),())=((aw l (a,k,s,q)).1,(aw l (a,k,s,q)).2,())))
theorem gz (l:List AcD) (a k:Int) (s q:Bool) (h:l.length<=1000000):dK l a k s q:=by
 unfold dK aw;simp only [Q7,Q6,Rb,Rd,Rl,Rg];repeat' (first|with_reducible apply And.intro|intro _)
 all_goals (try simp only [*,if_true,if_false])
 all_goals first|trivial|rfl|omega|(simp_all;done)
def kT:FSpec Tryz.prog:=mkF 119 (.c (.l AcT) (.c (.g (.c .j (.c .j (.c .b (.c .b .z))))) .z)) [.list .part AcT, .int .i64] (fun x=>(fun (l:List AcD) (a k:Int) (s q:Bool)=>(l.length<=1000000,(aw l (a,k,s,q)).1,(aw l (a,k,s,q)).2,())) x.1 x.2.1.1 x.2.1.2.1 x.2.1.2.2.1 x.2.1.2.2.2.1) fun ⟨l,⟨a,k,s,q,_⟩,_⟩ h=>av (E:=iL l a k s q) (gz l a k s q h) (ab rfl _ [] rfl rfl) Tryz.func119
theorem oN {l:List Int} {n:Int}:l.any (Bks.eqP n)=true↔n∈l:=by
 simp [Bks.eqP,Sd]
theorem oO {l:List Int} {n:Int}:l.any (Bks.eqP n)=false↔n∉l:=by
 rw [<-oN];simp
def LX (l:List AcD) (a:Int):Env where
 P:=Tryz.prog
 ty:=aJ
 specs:=ai [Hl,Bks.oP]
 heads:=fun|5=>some {slots:=[(5, .slc 9000 I),(6, .int .i64)],boxes:=[],inv:=fun _ (x:List Int×Int×Unit)=> ∃m,x.1=its l a m/\x.2.1=it l a (m+1)/\Way l a m/\aQ l a/\upF l a=kS l a (l.length+1-m) (it l a (m+1)) (its l a m),measure:=fun _ (x:List Int×Int×Unit)=>l.length+1-x.1.length}|_=>none
def wb (l:List AcD) (a:Int):Prop:=
 True/\((!decide (aQ l a))=true->([],())=(upF l a,()))/\((!decide (aQ l a))=false->(au (a-(1:Int)))/\(0<=a-(1:Int)/\a-(1:Int)<(↑l.length:Int))/\∀(x:Int×Int×Bool×Bool),l[(a-(1:Int)).toNat]? =some x->(True/\∃m,[]=its l a m/\x.1=it l a (m+(1:Nat))/\Way l a m/\aQ l a/\upF l a=kS l a (l.length+(1:Nat)-m) (it l a (m+(1:Nat))) (its l a m))/\∀(x:List Int×Int×Unit),(∃m,x.1=its l a m/\x.2.1=it l a (m+(1:Nat))/\Way l a m/\aQ l a/\upF l a=kS l a (l.length+(1:Nat)-m) (it l a (m+(1:Nat))) (its l a m))->True/\(ag (aQ l x.2.1)->((!decide (x.2.1=a))=true->x.1.length<=(1000000000:Nat)/\((!x.1.any (Bks.eqP x.2.1))=true->((x.1.length+(1:Nat))*(8:Nat)<=(140737488355328:Nat)/\x.1.length+(1:Nat)<=(4611686018427387904:Nat))/\(au (x.2.1-(1:Int)))/\(0<=x.2.1-(1:Int)/\x.2.1-(1:Int)<(↑l.length:Int))/\∀(x_1:Int×Int×Bool×Bool),l[(x.2.1-(1:Int)).toNat]? =some x_1->True/\(∃m,x.1++[x.2.1]=its l a m/\x_1.1=it l a (m+(1:Nat))/\Way l a m/\aQ l a/\upF l a=kS l a (l.length+(1:Nat)-m) (it l a (m+(1:Nat))) (its l a m))/\l.length+(1:Nat)-(x.1++[x.2.1]).length<l.length+(1:Nat)-x.1.length)/\((!x.1.any (Bks.eqP x.2.1))=false->(x.1,())=(upF l a,())))/\((!decide (x.2.1=a))= !true->(x.1,())=(upF l a,())))/\(aP (aQ l x.2.1)->(x.1,())=(upF l a,())))
theorem Hm (l:List AcD) (a:Int) (h:l.length<=1000000):wb l a:=by
 unfold wb aP ag;simp only [Q7,Q6];refine ⟨trivial,fun c=> ?_,fun c=> ?_⟩
 ·have c: ¬aQ l a:=by simpa using c
  unfold upF;rw [Q8 c]
 have c:aQ l a:=by simpa using c
 have c1:=c.1;have c2:=c.2;refine ⟨by omega,by omega,fun x hx=>⟨⟨trivial,0,rfl,(oM hx).symm, .zero l a,c, ?_⟩, ?_⟩⟩
 ·unfold upF;rw [Q_ c];rfl
 rintro ⟨out,p,⟨⟩⟩ ⟨m,h1,h2,h3,h4,h5⟩;dsimp only at h1 h2⊢;have hlen:=h3.len h4;have hl:out.length=m:=by rw [h1,tP]
 have hf:l.length+1-m=(l.length-m)+1:=by omega
 rw [hf,kS,<-h1,<-h2] at h5;refine ⟨trivial,fun d=>⟨fun e=>⟨by omega,fun f=>⟨by omega,by have:=d.1;have:=d.2;omega,by have:=d.1;have:=d.2;omega,fun y hy=>⟨trivial,⟨m+1, ?_, ?_, ?_,h4, ?_⟩, ?_⟩⟩,fun f=> ?_⟩,fun e=> ?_⟩,fun d=> ?_⟩
 ·rw [fw,h1,h2]
 ·show y.1=zl l (it l a (m+1));rw [<-h2,oM hy]
 ·refine h3.next (h2▸d) (h2▸(by simpa using e)) ?_;rw [<-h1,<-h2];exact oO.1 (by simpa using f)
 ·rw [h5,Q_ ⟨d,by simpa using e,oO.1 (by simpa using f)⟩,fw,h1,h2,show l.length+1-(m+1)=l.length-m by omega];rfl
 ·simp only [Re,Rm];omega
 ·rw [h5,Q8 (fun k=>k.2.2 (oN.1 (by simpa using f)))]
 ·rw [h5,Q8 (fun k=>k.2.1 (by simpa using e))]
 ·rw [h5,Q8 (fun k=>by simp at d;exact d k.1)]
def O5:FSpec Tryz.prog:=mkF 185 (.c (.l AcT) (.c .j .z)) [.slc 0 I] (fun x=>(fun (l:List AcD) (a:Int)=>(l.length<=1000000,upF l a,())) x.1 x.2.1) fun ⟨l,a,_⟩ h=>av (E:=LX l a) (Hm l a h) (ab rfl _ [] rfl rfl) Tryz.func185
theorem Hn {l:List AcD} {a:Int}:(upF l a).length<=l.length:=by
 by_cases c:aQ l a
 ·obtain ⟨k,h1,h2,_⟩:=O6 c;have:=h2.len c;rw [h1,tP];omega
 ·unfold upF;rw [Q8 c];simp
def aG (l:List AcD) (a p:Int):List AcD×Int:=
 if¬aQ l a∨bx p l.length=21 then ([],21) else if a<=3∨bx p l.length≠0 then ([],28) else if p=a∨a∈upF l p then ([],26)
 else (l.set (a-1).toNat (p,((l[(a-1).toNat]?).getD (0,0,false,false)).2),0)
def Ho (l:List AcD) (a p:Int):Env where
 P:=Tryz.prog
 ty:=aJ
 specs:=ai [Hl,wa,O5,Bks.oP,Bks.ml]
def sd (l:List AcD) (a:Int) (p:Int):Prop:=
 True/\True/\((!decide (aQ l a))=false->(decide (bx p (↑l.length:Int)=(21:Int))=true->([],(21:Int),())=((aG l a p).1,(aG l a p).2,()))/\(decide (bx p (↑l.length:Int)=(21:Int))=false->(decide (a<=3)=false->((!decide (bx p (↑l.length:Int)=(0:Int)))=true->([],(28:Int),())=((aG l a p).1,(aG l a p).2,()))/\((!decide (bx p (↑l.length:Int)=(0:Int)))=false->(decide (p=a)=false->l.length<=(1000000:Nat)/\(upF l p).length<=(1000000000:Nat)/\((upF l p).any (Bks.eqP a)=true->([],(26:Int),())=((aG l a p).1,(aG l a p).2,()))/\((upF l p).any (Bks.eqP a)=false->l.length<=(1000000:Nat)/\(au (a-(1:Int)))/\(0<=a-(1:Int)/\a-(1:Int)<(↑l.length:Int))/\(a-(1:Int)).toNat<l.length/\∀(y:Int×Int×Bool×Bool),l[(a-(1:Int)).toNat]? =some y->(l.set (a-(1:Int)).toNat (p,y.2.1,y.2.2.1,y.2.2.2),(0:Int),())=((aG l a p).1,(aG l a p).2,())))/\(decide (p=a)= !false->([],(26:Int),())=((aG l a p).1,(aG l a p).2,()))))/\(decide (a<=3)= !false->([],(28:Int),())=((aG l a p).1,(aG l a p).2,()))))/\((!decide (aQ l a))= !false->([],(21:Int),())=((aG l a p).1,(aG l a p).2,()))
def D3 (l:List AcD) (a p:Int):Env where
 P:=Tryz.prog
 ty:=aJ
 specs:=ai [tQ,Qy,Stk.tN]
def pd (l:List AcD) (a:Int) (p:Int):Prop:=
 True/\((!decide (aQ l a))=false->((!decide (p=0))=true->True/\((!decide (aQ l p))=true->([],(21:Int),())=((aG l a p).1,(aG l a p).2,()))/\((!decide (aQ l p))=false->(decide (a<=3)=false->(decide (1<=p)=true->(decide (p<=3)=true->([],(28:Int),())=((aG l a p).1,(aG l a p).2,()))/\(decide (p<=3)=false->(decide (p=a)=false->l.length<=(1000000:Nat)/\(upF l p).length<=(1000000000:Nat)/\((upF l p).contains a=true->([],(26:Int),())=((aG l a p).1,(aG l a p).2,()))/\((upF l p).contains a=false->(((0:Nat)+l.length)*(24:Nat)<=(140737488355328:Nat)/\(0:Nat)+l.length<=(4611686018427387904:Nat)/\((0:Nat)<l.length∨(0:Nat)=(0:Nat)))/\(au (a-(1:Int)))/\(0<=a-(1:Int)/\a-(1:Int)<(↑l.length:Int))/\(a-(1:Int)).toNat<l.length/\∀(y:Int×Int×Bool×Bool),l[(a-(1:Int)).toNat]? =some y->(l.set (a-(1:Int)).toNat (p,y.2.1,y.2.2.1,y.2.2.2),(0:Int),())=((aG l a p).1,(aG l a p).2,())))/\(decide (p=a)= !false->([],(26:Int),())=((aG l a p).1,(aG l a p).2,()))))/\(decide (1<=p)= !true->(decide (p=a)=false->l.length<=(1000000:Nat)/\(upF l p).length<=(1000000000:Nat)/\((upF l p).contains a=true->([],(26:Int),())=((aG l a p).1,(aG l a p).2,()))/\((upF l p).contains a=false->(((0:Nat)+l.length)*(24:Nat)<=(140737488355328:Nat)/\(0:Nat)+l.length<=(4611686018427387904:Nat)/\((0:Nat)<l.length∨(0:Nat)=(0:Nat)))/\(au (a-(1:Int)))/\(0<=a-(1:Int)/\a-(1:Int)<(↑l.length:Int))/\(a-(1:Int)).toNat<l.length/\∀(y:Int×Int×Bool×Bool),l[(a-(1:Int)).toNat]? =some y->(l.set (a-(1:Int)).toNat (p,y.2.1,y.2.2.1,y.2.2.2),(0:Int),())=((aG l a p).1,(aG l a p).2,())))/\(decide (p=a)= !false->([],(26:Int),())=((aG l a p).1,(aG l a p).2,()))))/\(decide (a<=3)= !false->([],(28:Int),())=((aG l a p).1,(aG l a p).2,()))))/\((!decide (p=0))= !true->(decide (a<=3)=false->(decide (1<=p)=true->(decide (p<=3)=true->([],(28:Int),())=((aG l a p).1,(aG l a p).2,()))/\(decide (p<=3)=false->(decide (p=a)=false->l.length<=(1000000:Nat)/\(upF l p).length<=(1000000000:Nat)/\((upF l p).contains a=true->([],(26:Int),())=((aG l a p).1,(aG l a p).2,()))/\((upF l p).contains a=false->(((0:Nat)+l.length)*(24:Nat)<=(140737488355328:Nat)/\(0:Nat)+l.length<=(4611686018427387904:Nat)/\((0:Nat)<l.length∨(0:Nat)=(0:Nat)))/\(au (a-(1:Int)))/\(0<=a-(1:Int)/\a-(1:Int)<(↑l.length:Int))/\(a-(1:Int)).toNat<l.length/\∀(y:Int×Int×Bool×Bool),l[(a-(1:Int)).toNat]? =some y->(l.set (a-(1:Int)).toNat (p,y.2.1,y.2.2.1,y.2.2.2),(0:Int),())=((aG l a p).1,(aG l a p).2,())))/\(decide (p=a)= !false->([],(26:Int),())=((aG l a p).1,(aG l a p).2,()))))/\(decide (1<=p)= !true->(decide (p=a)=false->l.length<=(1000000:Nat)/\(upF l p).length<=(1000000000:Nat)/\((upF l p).contains a=true->([],(26:Int),())=((aG l a p).1,(aG l a p).2,()))/\((upF l p).contains a=false->(((0:Nat)+l.length)*(24:Nat)<=(140737488355328:Nat)/\(0:Nat)+l.length<=(4611686018427387904:Nat)/\((0:Nat)<l.length∨(0:Nat)=(0:Nat)))/\(au (a-(1:Int)))/\(0<=a-(1:Int)/\a-(1:Int)<(↑l.length:Int))/\(a-(1:Int)).toNat<l.length/\∀(y:Int×Int×Bool×Bool),l[(a-(1:Int)).toNat]? =some y->(l.set (a-(1:Int)).toNat (p,y.2.1,y.2.2.1,y.2.2.2),(0:Int),())=((aG l a p).1,(aG l a p).2,())))/\(decide (p=a)= !false->([],(26:Int),())=((aG l a p).1,(aG l a p).2,()))))/\(decide (a<=3)= !false->([],(28:Int),())=((aG l a p).1,(aG l a p).2,()))))/\((!decide (aQ l a))= !false->([],(21:Int),())=((aG l a p).1,(aG l a p).2,()))
theorem se {l:List AcD} {a p:Int} (h: ¬aQ l a∨bx p l.length=21):aG l a p=([],21):=Q_ h
theorem iO {l:List AcD} {a p:Int} (h: ¬(¬aQ l a∨bx p l.length=21)) (k:a<=3∨bx p l.length≠0):aG l a p=([],28):=by unfold aG;rw [Q8 h,Q_ k]
theorem iP {l:List AcD} {a p:Int} (h: ¬(¬aQ l a∨bx p l.length=21)) (k: ¬(a<=3∨bx p l.length≠0)) (m:p=a∨a∈upF l p):aG l a p=([],26):=by unfold aG;rw [Q8 h,Q8 k,Q_ m]
theorem Cs {l:List AcD} {a p:Int} {x:AcD} (h: ¬(¬aQ l a∨bx p l.length=21)) (k: ¬(a<=3∨bx p l.length≠0)) (m: ¬(p=a∨a∈upF l p)) (hx:l[(a-1).toNat]? =some x):aG l a p=(l.set (a-1).toNat (p,x.2),0):=by unfold aG;rw [Q8 h,Q8 k,Q8 m,hx];rfl
theorem D4 (l:List AcD) (a p:Int) (h:l.length<=1000000):sd l a p:=by
 have hu:=Hn (l:=l) (a:=p);unfold sd;simp only [Q7,Q6,Rb,Rd,Rl,Rg];have hpA:bx p l.length=21↔(p<0∨(l.length:Int)<p):=by
  unfold bx;split
  ·simp_all
  ·split<;>simp_all
 have hpC:bx p l.length=0↔¬(p<0∨(l.length:Int)<p)/\¬(1<=p/\p<=3):=by
  unfold bx;split
  ·simp_all
  ·split<;>simp_all
 repeat' (first|with_reducible apply And.intro|intro _)
 all_goals try (first|trivial|rfl|omega|(exact .inr trivial))
 all_goals try (unfold aQ at*;omega)
 all_goals first
  |(rw [se (.inl (by assumption))])
  |(rw [se (.inr (by assumption))])
  |(rw [se (.inr (hpA.2 (by unfold aQ at*;omega)))])
  |(rw [iO (by rw [hpA] at*;unfold aQ at*;omega) (.inl (by assumption))])
  |(rw [iO (by rw [hpA];unfold aQ at*;omega) (.inl (by assumption))])
  |(rw [iO (by rw [hpA] at*;unfold aQ at*;omega) (.inr (by assumption))])
  |(rw [iO (by rw [hpA];unfold aQ at*;omega) (.inr (fun c=>absurd (hpC.1 c).2 (by omega)))])
  |(rw [iP (by rw [hpA] at*;unfold aQ at*;omega) (by omega) (.inl (by assumption))])
  |(rw [iP (by rw [hpA] at*;unfold aQ at*;omega) (by omega) (.inr (oN.1 (by assumption)))])
  |(rw [iP (by rw [hpA];unfold aQ at*;omega) (by rw [Ne,hpC];unfold aQ at*;omega) (.inl (by assumption))])
  |(rw [iP (by rw [hpA];unfold aQ at*;omega) (by rw [Ne,hpC];unfold aQ at*;omega) (.inr (by simpa using (by assumption:(upF l p).contains a=true)))])
  |(rename_i hne hn _ hx;rw [Cs (by rw [hpA] at*;unfold aQ at*;omega) (by omega) (fun c=>c.elim hne (oO.1 hn)) hx])
  |(rename_i hne hn _ hx;rw [Cs (by rw [hpA];unfold aQ at*;omega) (by rw [Ne,hpC];unfold aQ at*;omega) (fun c=>c.elim hne (by simpa using hn)) hx])
def Ct:FSpec Tryz.prog:=mkF 135 (.c (.l AcT) (.c .j (.c .j .z))) [.list .part AcT, .int .i64] (fun x=>(fun (l:List AcD) (a p:Int)=>(l.length<=1000000,(aG l a p).1,(aG l a p).2,())) x.1 x.2.1 x.2.2.1) fun ⟨l,a,p,_⟩ h=>av (E:=Ho l a p) (D4 l a p h) (ab rfl _ [] rfl rfl) Tryz.func135
theorem zn (l:List AcD) (a p:Int) (h:l.length<=1000000):pd l a p:=by
 have hu:=Hn (l:=l) (a:=p);unfold pd;simp only [Q7,Q6,Rb,Rd,Rl,Rg];have hpA:bx p l.length=21↔(p<0∨(l.length:Int)<p):=by
  unfold bx;split
  ·simp_all
  ·split<;>simp_all
 have hpC:bx p l.length=0↔¬(p<0∨(l.length:Int)<p)/\¬(1<=p/\p<=3):=by
  unfold bx;split
  ·simp_all
  ·split<;>simp_all
 repeat' (first|with_reducible apply And.intro|intro _)
 all_goals try (first|trivial|rfl|omega|(exact .inr trivial))
 all_goals try (unfold aQ at*;omega)
 all_goals first
  |(rw [se (.inl (by assumption))])
  |(rw [se (.inr (by assumption))])
  |(rw [se (.inr (hpA.2 (by unfold aQ at*;omega)))])
  |(rw [iO (by rw [hpA] at*;unfold aQ at*;omega) (.inl (by assumption))])
  |(rw [iO (by rw [hpA];unfold aQ at*;omega) (.inl (by assumption))])
  |(rw [iO (by rw [hpA] at*;unfold aQ at*;omega) (.inr (by assumption))])
  |(rw [iO (by rw [hpA];unfold aQ at*;omega) (.inr (fun c=>absurd (hpC.1 c).2 (by omega)))])
  |(rw [iP (by rw [hpA] at*;unfold aQ at*;omega) (by omega) (.inl (by assumption))])
  |(rw [iP (by rw [hpA] at*;unfold aQ at*;omega) (by omega) (.inr (oN.1 (by assumption)))])
  |(rw [iP (by rw [hpA];unfold aQ at*;omega) (by rw [Ne,hpC];unfold aQ at*;omega) (.inl (by assumption))])
  |(rw [iP (by rw [hpA];unfold aQ at*;omega) (by rw [Ne,hpC];unfold aQ at*;omega) (.inr (by simpa using (by assumption:(upF l p).contains a=true)))])
  |(rename_i hne hn _ hx;rw [Cs (by rw [hpA] at*;unfold aQ at*;omega) (by omega) (fun c=>c.elim hne (oO.1 hn)) hx])
  |(rename_i hne hn _ hx;rw [Cs (by rw [hpA];unfold aQ at*;omega) (by rw [Ne,hpC];unfold aQ at*;omega) (fun c=>c.elim hne (by simpa using hn)) hx])
def Hp:FSpec Tryz.prog:=mkF 120 (.c (.l AcT) (.c .j (.c .j .z))) [.list .part AcT, .int .i64] (fun x=>(fun (l:List AcD) (a p:Int)=>(l.length<=1000000,(aG l a p).1,(aG l a p).2,())) x.1 x.2.1 x.2.2.1) fun ⟨l,a,p,_⟩ h=>av (E:=D3 l a p) (zn l a p h) (ab rfl _ [] rfl rfl) Tryz.func120
end Acc
end
end
end Go.Proofs.YtabicbgeoiilmaaGreatDoor
