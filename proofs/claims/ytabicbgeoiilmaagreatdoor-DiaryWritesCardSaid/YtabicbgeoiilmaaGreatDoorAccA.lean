/-
  account: one more; one moved.
-/
import Derived.Test.YtabicbgeoiilmaaGreatDoorBks8
set_option linter.unusedVariables false
section
namespace Go.Proofs.YtabicbgeoiilmaaGreatDoor.Cur
open Go.Vm
open Rts (moneyB sp_rmoney)
def addF (l:List Int) (c:Int):List Int×Int:=if moneyB c=false then ([],23) else if 40<=(l.length:Int) then ([],3) else (l++[c],0)
noncomputable def env_add (l:List Int) (c:Int):Env where
 P:=Tryz.prog
 ty:=tys0
 specs:=specsOf [sp_money,Bks.sp_cli]
def g_add_vc (l:List Int) (c:Int):Prop:=
 True/\((!moneyB c)=true->([],(23:Int),())=((addF l c).1,(addF l c).2,()))/\((!moneyB c)=false->(decide ((40:Int)<=(↑l.length:Int))=true->([],(3:Int),())=((addF l c).1,(addF l c).2,()))/\(decide ((40:Int)<=(↑l.length:Int))=false->l.length<=(1000000:Nat)/\((l.length+(1:Nat))*(8:Nat)<=(140737488355328:Nat)/\l.length+(1:Nat)<=(4611686018427387904:Nat))/\(l++[c],(0:Int),())=((addF l c).1,(addF l c).2,())))
theorem g_add_ok (l:List Int) (c:Int) (h:l.length<=1000000):g_add_vc l c:=by
 unfold g_add_vc addF;simp only [decide_eq_true_eq,decide_eq_false_iff_not,Bool.not_eq_true',Bool.not_eq_false',Bool.not_true,Bool.not_false];repeat' (first|with_reducible apply And.intro|intro _)
 all_goals (try simp only [*,if_true,if_false])
 all_goals first|trivial|rfl|omega|(simp_all;done)
set_option maxRecDepth 20000
noncomputable def sp_add:FSpec Tryz.prog:=mkF 132 (.c (.l I) (.c .j .z)) [.list .part I, .int .i64] (fun x=>(fun (l:List Int) (c:Int)=>(l.length<=1000000,(addF l c).1,(addF l c).2,())) x.1 x.2.1) fun ⟨l,c,_⟩ h=>Pure.of_cond (E:=env_add l c) (by kernel_rfl) (g_add_ok l c h) (specs_ok rfl _ [] rfl rfl) mixed Tryz.func132
end Go.Proofs.YtabicbgeoiilmaaGreatDoor.Cur
end
section
namespace Go.Proofs.YtabicbgeoiilmaaGreatDoor.Lck
open Go.Vm
def addF (l:List Lk) (a b n:Int):List Lk×Int:=if 400<=(l.length:Int) then ([],3) else if mayF l a b n=0 then (l++[(a,b)],0) else ([],mayF l a b n)
noncomputable def env_add (l:List Lk) (a b n:Int):Env where
 P:=Tryz.prog
 ty:=tys0
 specs:=specsOf [sp_may,Bks.sp_clk]
def g_add_vc (l:List Lk) (a:Int) (b:Int) (n:Int):Prop:=
 (decide ((400:Int)<=(↑l.length:Int))=true->([],(3:Int),())=((addF l a b n).1,(addF l a b n).2,()))/\(decide ((400:Int)<=(↑l.length:Int))=false->l.length<=(1000000000:Nat)/\((!decide (mayF l a b n=(0:Int)))=true->([],mayF l a b n,())=((addF l a b n).1,(addF l a b n).2,()))/\((!decide (mayF l a b n=(0:Int)))=false->l.length<=(1000000:Nat)/\((l.length+(1:Nat))*(16:Nat)<=(140737488355328:Nat)/\l.length+(1:Nat)<=(4611686018427387904:Nat))/\(l++[(a,b)],(0:Int),())=((addF l a b n).1,(addF l a b n).2,())))
theorem g_add_ok (l:List Lk) (a b n:Int) (h:l.length<=1000000):g_add_vc l a b n:=by
 unfold g_add_vc addF;simp only [decide_eq_true_eq,decide_eq_false_iff_not,Bool.not_eq_true',Bool.not_eq_false',Bool.not_true,Bool.not_false];repeat' (first|with_reducible apply And.intro|intro _)
 all_goals (try simp only [*,if_true,if_false])
 all_goals first|trivial|rfl|omega|(simp_all;done)
set_option maxRecDepth 20000
noncomputable def sp_add:FSpec Tryz.prog:=mkF 138 (.c (.l Vl) (.c (.g (.c .j (.c .j .z))) (.c .j .z))) [.list .part Vl, .int .i64] (fun x=>(fun (l:List Lk) (a b n:Int)=>(l.length<=1000000,(addF l a b n).1,(addF l a b n).2,())) x.1 x.2.1.1 x.2.1.2.1 x.2.2.1) fun ⟨l,⟨a,b,_⟩,n,_⟩ h=>Pure.of_cond (E:=env_add l a b n) (by kernel_rfl) (g_add_ok l a b n h) (specs_ok rfl _ [] rfl rfl) mixed Tryz.func138
end Go.Proofs.YtabicbgeoiilmaaGreatDoor.Lck
end
section
namespace Go.Proofs.YtabicbgeoiilmaaGreatDoor.Rts
open Go.Vm
def sameB (x k:Rt):Bool:=decide (x.1=k.1/\x.2.1=k.2.1/\x.2.2.1=k.2.2.1/\x.2.2.2.1=k.2.2.2.1)
def lastS (k:Rt) (st:Int×Int) (x:Rt):Int×Int:=(st.1+1,if sameB x k then st.1 else st.2)
def lastF (l:List Rt) (k:Rt):Int:=(l.foldl (lastS k) (0, -1)).2
theorem last_fst (l:List Rt) (k:Rt):(l.foldl (lastS k) (0, -1)).1=l.length:=by
 have h: ∀(l:List Rt) (st:Int×Int),(l.foldl (lastS k) st).1=st.1+l.length:=by
  intro l;induction l with
  |nil=>intro st;simp
  |cons x r ih=>
   intro st;rw [List.foldl_cons,ih,List.length_cons];show st.1+1+(r.length:Int)=st.1+((r.length+1:Nat):Int);omega
 rw [h];simp
theorem last_snoc (l:List Rt) (k x:Rt):lastF (l++[x]) k=if sameB x k then (l.length:Int) else lastF l k:=by
 unfold lastF;rw [List.foldl_append];show (if sameB x k then (l.foldl (lastS k) (0, -1)).1 else (l.foldl (lastS k) (0, -1)).2)=_;rw [last_fst]
theorem last_next {l:List Rt} {k x:Rt} {i:Nat} (h:l[i]? =some x):lastF (l.take (i+1)) k=if sameB x k then (i:Int) else lastF (l.take i) k:=by
 have hl:=(List.getElem?_eq_some_iff.1 h).1;rw [List.take_add_one,h];show lastF (l.take i++[x]) k=_;rw [last_snoc,List.length_take,Nat.min_eq_left (by omega)]
theorem last_spec (k:Rt): ∀l:List Rt,(lastF l k= -1/\∀x∈l,sameB x k=false)∨(0<=lastF l k/\lastF l k<l.length/\∃x,l[(lastF l k).toNat]? =some x/\sameB x k=true):=by
 intro l;have h: ∀i,i<=l.length->(lastF (l.take i) k= -1/\∀x∈l.take i,sameB x k=false)∨(0<=lastF (l.take i) k/\lastF (l.take i) k<i/\∃x,l[(lastF (l.take i) k).toNat]? =some x/\sameB x k=true):=by
  intro i;induction i with
  |zero=>intro _;exact .inl ⟨rfl,fun x hx=>by simp at hx⟩
  |succ i ih=>
   intro hi;have hx:l[i]? =some l[i]:=List.getElem?_eq_getElem (by omega);rw [last_next hx];by_cases c:sameB l[i] k=true
   ·rw [if_pos c];exact .inr ⟨by omega,by omega,l[i],by rw [Int.toNat_natCast];exact hx,c⟩
   ·rw [if_neg c];rcases ih (by omega) with ⟨h1,h2⟩|⟨h1,h2,h3⟩
    ·refine .inl ⟨h1,fun x hm=> ?_⟩;rw [List.take_add_one,hx,List.mem_append] at hm;rcases hm with hm|hm
     ·exact h2 x hm
     ·rw [show x=l[i] by simpa using hm];simpa using c
    ·exact .inr ⟨h1,by omega,h3⟩
 have:=h l.length (Nat.le_refl _);rw [List.take_length] at this;exact this
noncomputable def env_key (a b c p n d:Int):Env where
 P:=Tryz.prog
 ty:=tys0
abbrev ann_key:Ann:={slots:=numP 0 [.int .i64, .int .i64, .int .i64, .int .i64, .int .i64, .int .i64],boxes:=[],inv:=fun _ _=>True}
def g_key_vc (a:Int) (b:Int) (c:Int) (p:Int) (n:Int) (d:Int):Prop:=
 True/\(a,b,c,p,(0:Int),(0:Int),())=(a,b,c,p,(0:Int),(0:Int),())
theorem g_key_ok (a b c p n d:Int):g_key_vc a b c p n d:=by
 exact ⟨trivial,rfl⟩
set_option maxRecDepth 20000
noncomputable def sp_key:FSpec Tryz.prog:=mkG 215 (.c (.g (.c .j (.c .j (.c .j (.c .j (.c .j (.c .j .z))))))) .z) (fun x=>(fun (a b c p n d:Int)=>(True,(.agg [.int .i64 a, .int .i64 b, .int .i64 c, .int .i64 p, .int .i64 0, .int .i64 0]))) x.1.1 x.1.2.1 x.1.2.2.1 x.1.2.2.2.1 x.1.2.2.2.2.1 x.1.2.2.2.2.2.1) fun ⟨⟨a,b,c,p,n,d,_⟩,_⟩ _=>Pure.of_condG (E:=env_key a b c p n d) (sh:=[some 6]) (ann:=ann_key) (x:=(fun (a b c p n d:Int)=>(a,b,c,p,(0:Int),(0:Int),())) a b c p n d) (by kernel_rfl) (g_key_ok a b c p n d) rfl (specs_ok rfl [] [] rfl rfl) mixed Tryz.func215
noncomputable def env_last (l:List Rt) (a b c p n d:Int):Env where
 P:=Tryz.prog
 ty:=tys0
 specs:=specsOf [sp_key]
 frz:=fun|19=>true|_=>false
 heads:=fun
  |3=>some {slots:=[(5, .int .i64)],boxes:=[],keep:=[3],inv:=fun _ (x:Int×Unit)=> -1<=x.1/\x.1<l.length/\lastF l (a,b,c,p,n,d)=lastF (l.take (x.1+1).toNat) (a,b,c,p,n,d),measure:=fun _ (x:Int×Unit)=>(x.1+1).toNat}
  |_=>none
abbrev bx_last_1 (a:Int) (b:Int) (c:Int) (p:Int):_root_.Go.Vm.Obj:=Obj.box [V.int IntKind.i64 a,V.int IntKind.i64 b,V.int IntKind.i64 c,V.int IntKind.i64 p,V.int IntKind.i64 (0:Int),V.int IntKind.i64 (0:Int)]
def g_last_vc (l:List Rt) (a:Int) (b:Int) (c:Int) (p:Int) (n:Int) (d:Int):Prop:=
 True/\(-9223372036854775808<=(↑l.length:Int)-(1:Int)/\(↑l.length:Int)-(1:Int)<=9223372036854775807)/\((some (bx_last_1 a b c p)=some (bx_last_1 a b c p)/\True)/\(-1:Int)<=(↑l.length:Int)-(1:Int)/\(↑l.length:Int)-(1:Int)<(↑l.length:Int)/\lastF l (a,b,c,p,n,d)=lastF (List.take ((↑l.length:Int)-(1:Int)+1).toNat l) (a,b,c,p,n,d))/\∀(x:Int×Unit),(-1:Int)<=x.1/\x.1<(↑l.length:Int)/\lastF l (a,b,c,p,n,d)=lastF (List.take (x.1+1).toNat l) (a,b,c,p,n,d)->(decide (0<=x.1)=true->(0<=x.1/\x.1<(↑l.length:Int))/\∀(x_1:Int×Int×Int×Int×Int×Int),l[x.1.toNat]? =some x_1->True/\((decide (x_1.1=a)&&(decide (x_1.2.1=b)&&(decide (x_1.2.2.1=c)&&(decide (x_1.2.2.2.1=p)&&(decide ((0:Int)=(0:Int))&&(decide ((0:Int)=(0:Int))&&true)&&true)))))=true->(x.1,())=(lastF l (a,b,c,p,n,d),()))/\((decide (x_1.1=a)&&(decide (x_1.2.1=b)&&(decide (x_1.2.2.1=c)&&(decide (x_1.2.2.2.1=p)&&(decide ((0:Int)=(0:Int))&&(decide ((0:Int)=(0:Int))&&true)&&true)))))=false->(-9223372036854775808<=x.1-(1:Int)/\x.1-(1:Int)<=9223372036854775807)/\(some (bx_last_1 a b c p)=some (bx_last_1 a b c p)/\True)/\((-1:Int)<=x.1-(1:Int)/\x.1-(1:Int)<(↑l.length:Int)/\lastF l (a,b,c,p,n,d)=lastF (List.take (x.1-(1:Int)+1).toNat l) (a,b,c,p,n,d))/\(x.1-(1:Int)+1).toNat<(x.1+1).toNat))/\(decide (0<=x.1)=false->((-1:Int),())=(lastF l (a,b,c,p,n,d),()))
theorem same_eq {x:Rt} {a b c p n d:Int}:(decide (x.1=a)&&(decide (x.2.1=b)&&(decide (x.2.2.1=c)&&decide (x.2.2.2.1=p))))=sameB x (a,b,c,p,n,d):=by
 unfold sameB;rw [<-Bool.decide_and,<-Bool.decide_and,<-Bool.decide_and]
theorem g_last_ok (l:List Rt) (a b c p n d:Int) (h:l.length<=1000000):g_last_vc l a b c p n d:=by
 unfold g_last_vc;simp only [decide_true,Bool.and_true];refine ⟨trivial,by omega,⟨⟨trivial,trivial⟩,by omega,by omega, ?_⟩, ?_⟩
 ·rw [List.take_of_length_le (by omega)]
 rintro ⟨i,⟨⟩⟩ ⟨h0,h1,hb⟩;dsimp only at h0 h1 hb⊢;rw [decide_eq_true_eq,decide_eq_false_iff_not];refine ⟨fun e=>⟨⟨e,h1⟩,fun x hx=>⟨trivial,fun k=> ?_,fun k=>⟨by omega,⟨trivial,trivial⟩,⟨by omega,by omega, ?_⟩,by omega⟩⟩⟩,fun e=> ?_⟩
 ·rw [same_eq (n:=n) (d:=d)] at k;rw [hb,show (i+1).toNat=i.toNat+1 by omega,last_next hx,if_pos k,show ((i.toNat:Nat):Int)=i by omega]
 ·rw [same_eq (n:=n) (d:=d)] at k;rw [hb,show (i+1).toNat=i.toNat+1 by omega,last_next hx,if_neg (by rw [k];decide),show (i-1+1).toNat=i.toNat by omega]
 ·have:i= -1:=by omega
  subst this;rw [hb];rfl
noncomputable def sp_last:FSpec Tryz.prog:=mkF 188 (.c (.l RTy) (.c (.g (.c .j (.c .j (.c .j (.c .j (.c .j (.c .j .z))))))) .z)) [.int .i64] (fun x=>(fun (l:List Rt) (a b c p n d:Int)=>(l.length<=1000000,lastF l (a,b,c,p,n,d),())) x.1 x.2.1.1 x.2.1.2.1 x.2.1.2.2.1 x.2.1.2.2.2.1 x.2.1.2.2.2.2.1 x.2.1.2.2.2.2.2.1) fun ⟨l,⟨a,b,c,p,n,d,_⟩,_⟩ h=>Pure.of_cond (E:=env_last l a b c p n d) (by kernel_rfl) (g_last_ok l a b c p n d h) (specs_ok rfl _ [] rfl rfl) mixed Tryz.func188
def setF (l:List Rt) (r:Rt):List Rt×Int:=
 if mayR r=0 then (if 0<=lastF l r then (l.set (lastF l r).toNat r,0) else if 2000<=(l.length:Int) then ([],3) else (l++[r],0)) else ([],mayR r)
noncomputable def env_set (l:List Rt) (a b c p n d:Int):Env where
 P:=Tryz.prog
 ty:=tys0
 specs:=specsOf [sp_may,sp_last,sp_clone]
def g_set_vc (l:List Rt) (a:Int) (b:Int) (c:Int) (p:Int) (n:Int) (d:Int):Prop:=
 True/\((!decide (mayR (a,b,c,p,n,d)=(0:Int)))=true->([],mayR (a,b,c,p,n,d),())=((setF l (a,b,c,p,n,d)).1,(setF l (a,b,c,p,n,d)).2,()))/\((!decide (mayR (a,b,c,p,n,d)=(0:Int)))=false->l.length<=(1000000:Nat)/\l.length<=(1000000:Nat)/\(decide (0<=lastF l (a,b,c,p,n,d))=true->(0<=lastF l (a,b,c,p,n,d)/\lastF l (a,b,c,p,n,d)<(↑l.length:Int))/\(lastF l (a,b,c,p,n,d)).toNat<l.length/\∀(y:Int×Int×Int×Int×Int×Int),l[(lastF l (a,b,c,p,n,d)).toNat]? =some y->(l.set (lastF l (a,b,c,p,n,d)).toNat (a,b,c,p,n,d),(0:Int),())=((setF l (a,b,c,p,n,d)).1,(setF l (a,b,c,p,n,d)).2,()))/\(decide (0<=lastF l (a,b,c,p,n,d))=false->(decide ((2000:Int)<=(↑l.length:Int))=true->([],(3:Int),())=((setF l (a,b,c,p,n,d)).1,(setF l (a,b,c,p,n,d)).2,()))/\(decide ((2000:Int)<=(↑l.length:Int))=false->((l.length+(1:Nat))*(48:Nat)<=(140737488355328:Nat)/\l.length+(1:Nat)<=(4611686018427387904:Nat))/\(l++[(a,b,c,p,n,d)],(0:Int),())=((setF l (a,b,c,p,n,d)).1,(setF l (a,b,c,p,n,d)).2,()))))
theorem set_bad {l:List Rt} {r:Rt} (h: ¬mayR r=0):setF l r=([],mayR r):=by unfold setF;rw [if_neg h]
theorem set_there {l:List Rt} {r:Rt} (h:mayR r=0) (k:0<=lastF l r):setF l r=(l.set (lastF l r).toNat r,0):=by unfold setF;rw [if_pos h,if_pos k]
theorem set_full {l:List Rt} {r:Rt} (h:mayR r=0) (k: ¬0<=lastF l r) (m:2000<=(l.length:Int)):setF l r=([],3):=by unfold setF;rw [if_pos h,if_neg k,if_pos m]
theorem set_new {l:List Rt} {r:Rt} (h:mayR r=0) (k: ¬0<=lastF l r) (m: ¬2000<=(l.length:Int)):setF l r=(l++[r],0):=by unfold setF;rw [if_pos h,if_neg k,if_neg m]
theorem last_lt (l:List Rt) (k:Rt):lastF l k<l.length/\ -1<=lastF l k:=by
 rcases last_spec k l with ⟨h1,_⟩|⟨h1,h2,_⟩<;>omega
theorem g_set_ok (l:List Rt) (a b c p n d:Int) (h:l.length<=1000000):g_set_vc l a b c p n d:=by
 have hl:=last_lt l (a,b,c,p,n,d);unfold g_set_vc;simp only [decide_eq_true_eq,decide_eq_false_iff_not,Bool.not_eq_true',Bool.not_eq_false'];refine ⟨trivial,fun k=>by rw [set_bad k],fun k=>⟨h,h,fun e=>⟨⟨e,hl.1⟩,by omega,fun _ _=>by rw [set_there k e]⟩,fun e=>⟨fun f=>by rw [set_full k e f],fun f=>⟨⟨by omega,by omega⟩,by rw [set_new k e f]⟩⟩⟩⟩
noncomputable def sp_set:FSpec Tryz.prog:=mkF 137 (.c (.l RTy) (.c (.g (.c .j (.c .j (.c .j (.c .j (.c .j (.c .j .z))))))) .z)) [.list .part RTy, .int .i64] (fun x=>(fun (l:List Rt) (a b c p n d:Int)=>(l.length<=1000000,(setF l (a,b,c,p,n,d)).1,(setF l (a,b,c,p,n,d)).2,())) x.1 x.2.1.1 x.2.1.2.1 x.2.1.2.2.1 x.2.1.2.2.2.1 x.2.1.2.2.2.2.1 x.2.1.2.2.2.2.2.1) fun ⟨l,⟨a,b,c,p,n,d,_⟩,_⟩ h=>Pure.of_cond (E:=env_set l a b c p n d) (by kernel_rfl) (g_set_ok l a b c p n d h) (specs_ok rfl _ [] rfl rfl) mixed Tryz.func137
end Go.Proofs.YtabicbgeoiilmaaGreatDoor.Rts
end
section
namespace Go.Proofs.YtabicbgeoiilmaaGreatDoor.Acc
open Go.Vm
def addF (l:List AcD) (x:AcD):List AcD×Int:=if 60<=(l.length:Int) then ([],3) else if mayA x l.length=0 then (l++[x],0) else ([],mayA x l.length)
noncomputable def env_add (l:List AcD) (a k:Int) (s q:Bool):Env where
 P:=Tryz.prog
 ty:=tys0
 specs:=specsOf [sp_place,sp_kind,Bks.sp_cla]
def g_add_vc (l:List AcD) (a:Int) (k:Int) (s:Bool) (q:Bool):Prop:=
 (decide ((60:Int)<=(↑l.length:Int))=true->([],(3:Int),())=((addF l (a,k,s,q)).1,(addF l (a,k,s,q)).2,()))/\(decide ((60:Int)<=(↑l.length:Int))=false->True/\((!decide (placeF a (↑l.length:Int)=(0:Int)))=true->([],placeF a (↑l.length:Int),())=((addF l (a,k,s,q)).1,(addF l (a,k,s,q)).2,()))/\((!decide (placeF a (↑l.length:Int)=(0:Int)))=false->True/\((!decide (kindF k s q=(0:Int)))=true->([],kindF k s q,())=((addF l (a,k,s,q)).1,(addF l (a,k,s,q)).2,()))/\((!decide (kindF k s q=(0:Int)))=false->l.length<=(1000000:Nat)/\((l.length+(1:Nat))*(24:Nat)<=(140737488355328:Nat)/\l.length+(1:Nat)<=(4611686018427387904:Nat))/\(l++[(a,k,s,q)],(0:Int),())=((addF l (a,k,s,q)).1,(addF l (a,k,s,q)).2,()))))
theorem g_add_ok (l:List AcD) (a k:Int) (s q:Bool) (h:l.length<=1000000):g_add_vc l a k s q:=by
 unfold g_add_vc addF mayA;simp only [decide_eq_true_eq,decide_eq_false_iff_not,Bool.not_eq_true',Bool.not_eq_false',Bool.not_true,Bool.not_false];repeat' (first|with_reducible apply And.intro|intro _)
 all_goals (try simp only [*,if_true,if_false])
 all_goals first|trivial|rfl|omega|(simp_all;done)
set_option maxRecDepth 20000
noncomputable def sp_add:FSpec Tryz.prog:=mkF 133 (.c (.l AcT) (.c (.g (.c .j (.c .j (.c .b (.c .b .z))))) .z)) [.list .part AcT, .int .i64] (fun x=>(fun (l:List AcD) (a k:Int) (s q:Bool)=>(l.length<=1000000,(addF l (a,k,s,q)).1,(addF l (a,k,s,q)).2,())) x.1 x.2.1.1 x.2.1.2.1 x.2.1.2.2.1 x.2.1.2.2.2.1) fun ⟨l,⟨a,k,s,q,_⟩,_⟩ h=>Pure.of_cond (E:=env_add l a k s q) (by kernel_rfl) (g_add_ok l a k s q h) (specs_ok rfl _ [] rfl rfl) mixed Tryz.func133
theorem any_mem {l:List Int} {n:Int}:l.any (Bks.eqP n)=true↔n∈l:=by
 simp [Bks.eqP,List.any_eq_true]
theorem any_non {l:List Int} {n:Int}:l.any (Bks.eqP n)=false↔n∉l:=by
 rw [<-any_mem];simp
noncomputable def env_tup (l:List AcD) (a:Int):Env where
 P:=Tryz.prog
 ty:=tys0
 specs:=specsOf [sp_is,Bks.sp_cont]
 heads:=fun|5=>some {slots:=[(5, .slc 9000 I),(6, .int .i64)],boxes:=[],inv:=fun _ (x:List Int×Int×Unit)=> ∃m,x.1=its l a m/\x.2.1=it l a (m+1)/\Way l a m/\isIn l a/\upF l a=upGo l a (l.length+1-m) (it l a (m+1)) (its l a m),measure:=fun _ (x:List Int×Int×Unit)=>l.length+1-x.1.length}|_=>none
def g_tup_vc (l:List AcD) (a:Int):Prop:=
 True/\((!decide (isIn l a))=true->([],())=(upF l a,()))/\((!decide (isIn l a))=false->(-9223372036854775808<=a-(1:Int)/\a-(1:Int)<=9223372036854775807)/\(0<=a-(1:Int)/\a-(1:Int)<(↑l.length:Int))/\∀(x:Int×Int×Bool×Bool),l[(a-(1:Int)).toNat]? =some x->(True/\∃m,[]=its l a m/\x.1=it l a (m+(1:Nat))/\Way l a m/\isIn l a/\upF l a=upGo l a (l.length+(1:Nat)-m) (it l a (m+(1:Nat))) (its l a m))/\∀(x:List Int×Int×Unit),(∃m,x.1=its l a m/\x.2.1=it l a (m+(1:Nat))/\Way l a m/\isIn l a/\upF l a=upGo l a (l.length+(1:Nat)-m) (it l a (m+(1:Nat))) (its l a m))->True/\(decide (isIn l x.2.1)=true->((!decide (x.2.1=a))=true->x.1.length<=(1000000000:Nat)/\((!x.1.any (Bks.eqP x.2.1))=true->((x.1.length+(1:Nat))*(8:Nat)<=(140737488355328:Nat)/\x.1.length+(1:Nat)<=(4611686018427387904:Nat))/\(-9223372036854775808<=x.2.1-(1:Int)/\x.2.1-(1:Int)<=9223372036854775807)/\(0<=x.2.1-(1:Int)/\x.2.1-(1:Int)<(↑l.length:Int))/\∀(x_1:Int×Int×Bool×Bool),l[(x.2.1-(1:Int)).toNat]? =some x_1->True/\(∃m,x.1++[x.2.1]=its l a m/\x_1.1=it l a (m+(1:Nat))/\Way l a m/\isIn l a/\upF l a=upGo l a (l.length+(1:Nat)-m) (it l a (m+(1:Nat))) (its l a m))/\l.length+(1:Nat)-(x.1++[x.2.1]).length<l.length+(1:Nat)-x.1.length)/\((!x.1.any (Bks.eqP x.2.1))=false->(x.1,())=(upF l a,())))/\((!decide (x.2.1=a))= !true->(x.1,())=(upF l a,())))/\(decide (isIn l x.2.1)= !true->(x.1,())=(upF l a,())))
theorem g_tup_ok (l:List AcD) (a:Int) (h:l.length<=1000000):g_tup_vc l a:=by
 unfold g_tup_vc;simp only [decide_eq_true_eq,decide_eq_false_iff_not];refine ⟨trivial,fun c=> ?_,fun c=> ?_⟩
 ·have c: ¬isIn l a:=by simpa using c
  unfold upF;rw [if_neg c]
 have c:isIn l a:=by simpa using c
 have c1:=c.1;have c2:=c.2;refine ⟨by omega,by omega,fun x hx=>⟨⟨trivial,0,rfl,(parA_at hx).symm, .zero l a,c, ?_⟩, ?_⟩⟩
 ·unfold upF;rw [if_pos c];rfl
 rintro ⟨out,p,⟨⟩⟩ ⟨m,h1,h2,h3,h4,h5⟩;dsimp only at h1 h2⊢;have hlen:=h3.len h4;have hl:out.length=m:=by rw [h1,its_len]
 have hf:l.length+1-m=(l.length-m)+1:=by omega
 rw [hf,upGo,<-h1,<-h2] at h5;refine ⟨trivial,fun d=>⟨fun e=>⟨by omega,fun f=>⟨by omega,by have:=d.1;have:=d.2;omega,by have:=d.1;have:=d.2;omega,fun y hy=>⟨trivial,⟨m+1, ?_, ?_, ?_,h4, ?_⟩, ?_⟩⟩,fun f=> ?_⟩,fun e=> ?_⟩,fun d=> ?_⟩
 ·rw [its_succ,h1,h2]
 ·show y.1=parA l (it l a (m+1));rw [<-h2,parA_at hy]
 ·refine h3.next (h2▸d) (h2▸(by simpa using e)) ?_;rw [<-h1,<-h2];exact any_non.1 (by simpa using f)
 ·rw [h5,if_pos ⟨d,by simpa using e,any_non.1 (by simpa using f)⟩,its_succ,h1,h2,show l.length+1-(m+1)=l.length-m by omega];rfl
 ·simp only [List.length_append,List.length_singleton];omega
 ·rw [h5,if_neg (fun k=>k.2.2 (any_mem.1 (by simpa using f)))]
 ·rw [h5,if_neg (fun k=>k.2.1 (by simpa using e))]
 ·rw [h5,if_neg (fun k=>by simp at d;exact d k.1)]
noncomputable def sp_tup:FSpec Tryz.prog:=mkF 185 (.c (.l AcT) (.c .j .z)) [.slc 0 I] (fun x=>(fun (l:List AcD) (a:Int)=>(l.length<=1000000,upF l a,())) x.1 x.2.1) fun ⟨l,a,_⟩ h=>Pure.of_cond (E:=env_tup l a) (by kernel_rfl) (g_tup_ok l a h) (specs_ok rfl _ [] rfl rfl) mixed Tryz.func185
theorem up_len {l:List AcD} {a:Int}:(upF l a).length<=l.length:=by
 by_cases c:isIn l a
 ·obtain ⟨k,h1,h2,_⟩:=up_its c;have:=h2.len c;rw [h1,its_len];omega
 ·unfold upF;rw [if_neg c];simp
def moveF (l:List AcD) (a p:Int):List AcD×Int:=
 if¬isIn l a∨placeF p l.length=21 then ([],21) else if a<=3∨placeF p l.length≠0 then ([],28) else if p=a∨a∈upF l p then ([],26)
 else (l.set (a-1).toNat (p,((l[(a-1).toNat]?).getD (0,0,false,false)).2),0)
noncomputable def env_move (l:List AcD) (a p:Int):Env where
 P:=Tryz.prog
 ty:=tys0
 specs:=specsOf [sp_is,sp_place,sp_tup,Bks.sp_cont,Bks.sp_cla]
def g_move_vc (l:List AcD) (a:Int) (p:Int):Prop:=
 True/\True/\((!decide (isIn l a))=false->(decide (placeF p (↑l.length:Int)=(21:Int))=true->([],(21:Int),())=((moveF l a p).1,(moveF l a p).2,()))/\(decide (placeF p (↑l.length:Int)=(21:Int))=false->(decide (a<=(3:Int))=false->((!decide (placeF p (↑l.length:Int)=(0:Int)))=true->([],(28:Int),())=((moveF l a p).1,(moveF l a p).2,()))/\((!decide (placeF p (↑l.length:Int)=(0:Int)))=false->(decide (p=a)=false->l.length<=(1000000:Nat)/\(upF l p).length<=(1000000000:Nat)/\((upF l p).any (Bks.eqP a)=true->([],(26:Int),())=((moveF l a p).1,(moveF l a p).2,()))/\((upF l p).any (Bks.eqP a)=false->l.length<=(1000000:Nat)/\(-9223372036854775808<=a-(1:Int)/\a-(1:Int)<=9223372036854775807)/\(0<=a-(1:Int)/\a-(1:Int)<(↑l.length:Int))/\(a-(1:Int)).toNat<l.length/\∀(y:Int×Int×Bool×Bool),l[(a-(1:Int)).toNat]? =some y->(l.set (a-(1:Int)).toNat (p,y.2.1,y.2.2.1,y.2.2.2),(0:Int),())=((moveF l a p).1,(moveF l a p).2,())))/\(decide (p=a)= !false->([],(26:Int),())=((moveF l a p).1,(moveF l a p).2,()))))/\(decide (a<=(3:Int))= !false->([],(28:Int),())=((moveF l a p).1,(moveF l a p).2,()))))/\((!decide (isIn l a))= !false->([],(21:Int),())=((moveF l a p).1,(moveF l a p).2,()))
theorem mv_in {l:List AcD} {a p:Int} (h: ¬isIn l a∨placeF p l.length=21):moveF l a p=([],21):=if_pos h
theorem mv_own {l:List AcD} {a p:Int} (h: ¬(¬isIn l a∨placeF p l.length=21)) (k:a<=3∨placeF p l.length≠0):moveF l a p=([],28):=by unfold moveF;rw [if_neg h,if_pos k]
theorem mv_cir {l:List AcD} {a p:Int} (h: ¬(¬isIn l a∨placeF p l.length=21)) (k: ¬(a<=3∨placeF p l.length≠0)) (m:p=a∨a∈upF l p):moveF l a p=([],26):=by unfold moveF;rw [if_neg h,if_neg k,if_pos m]
theorem mv_ok {l:List AcD} {a p:Int} {x:AcD} (h: ¬(¬isIn l a∨placeF p l.length=21)) (k: ¬(a<=3∨placeF p l.length≠0)) (m: ¬(p=a∨a∈upF l p)) (hx:l[(a-1).toNat]? =some x):moveF l a p=(l.set (a-1).toNat (p,x.2),0):=by unfold moveF;rw [if_neg h,if_neg k,if_neg m,hx];rfl
theorem g_move_ok (l:List AcD) (a p:Int) (h:l.length<=1000000):g_move_vc l a p:=by
 have hu:=up_len (l:=l) (a:=p);unfold g_move_vc;simp only [decide_eq_true_eq,decide_eq_false_iff_not,Bool.not_eq_true',Bool.not_eq_false',Bool.not_true,Bool.not_false];have hpA:placeF p l.length=21↔(p<0∨(l.length:Int)<p):=by
  unfold placeF;split
  ·simp_all
  ·split<;>simp_all
 have hpC:placeF p l.length=0↔¬(p<0∨(l.length:Int)<p)/\¬(1<=p/\p<=3):=by
  unfold placeF;split
  ·simp_all
  ·split<;>simp_all
 repeat' (first|with_reducible apply And.intro|intro _)
 all_goals try (first|trivial|rfl|omega|(exact .inr trivial))
 all_goals try (unfold isIn at*;omega)
 all_goals first
  |(rw [mv_in (.inl (by assumption))])
  |(rw [mv_in (.inr (by assumption))])
  |(rw [mv_in (.inr (hpA.2 (by unfold isIn at*;omega)))])
  |(rw [mv_own (by rw [hpA] at*;unfold isIn at*;omega) (.inl (by assumption))])
  |(rw [mv_own (by rw [hpA];unfold isIn at*;omega) (.inl (by assumption))])
  |(rw [mv_own (by rw [hpA] at*;unfold isIn at*;omega) (.inr (by assumption))])
  |(rw [mv_own (by rw [hpA];unfold isIn at*;omega) (.inr (fun c=>absurd (hpC.1 c).2 (by omega)))])
  |(rw [mv_cir (by rw [hpA] at*;unfold isIn at*;omega) (by omega) (.inl (by assumption))])
  |(rw [mv_cir (by rw [hpA] at*;unfold isIn at*;omega) (by omega) (.inr (any_mem.1 (by assumption)))])
  |(rw [mv_cir (by rw [hpA];unfold isIn at*;omega) (by rw [Ne,hpC];unfold isIn at*;omega) (.inl (by assumption))])
  |(rw [mv_cir (by rw [hpA];unfold isIn at*;omega) (by rw [Ne,hpC];unfold isIn at*;omega) (.inr (by simpa using (by assumption:(upF l p).contains a=true)))])
  |(rename_i hne hn _ hx;rw [mv_ok (by rw [hpA] at*;unfold isIn at*;omega) (by omega) (fun c=>c.elim hne (any_non.1 hn)) hx])
  |(rename_i hne hn _ hx;rw [mv_ok (by rw [hpA];unfold isIn at*;omega) (by rw [Ne,hpC];unfold isIn at*;omega) (fun c=>c.elim hne (by simpa using hn)) hx])
noncomputable def sp_move:FSpec Tryz.prog:=mkF 135 (.c (.l AcT) (.c .j (.c .j .z))) [.list .part AcT, .int .i64] (fun x=>(fun (l:List AcD) (a p:Int)=>(l.length<=1000000,(moveF l a p).1,(moveF l a p).2,())) x.1 x.2.1 x.2.2.1) fun ⟨l,a,p,_⟩ h=>Pure.of_cond (E:=env_move l a p) (by kernel_rfl) (g_move_ok l a p h) (specs_ok rfl _ [] rfl rfl) mixed Tryz.func135
end Go.Proofs.YtabicbgeoiilmaaGreatDoor.Acc
end
