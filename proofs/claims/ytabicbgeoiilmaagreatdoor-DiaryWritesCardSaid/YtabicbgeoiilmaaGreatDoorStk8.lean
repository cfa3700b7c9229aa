/-
  stake.Check, stake.Add; ref18.Check, Add.
-/
import Derived.Test.YtabicbgeoiilmaaGreatDoorAcc3
import Derived.Test.YtabicbgeoiilmaaGreatDoorEnt10
set_option linter.unusedVariables false
section
namespace Go.Proofs.YtabicbgeoiilmaaGreatDoor.Bks
open Go.Vm
abbrev Ln:=Int×Int×Int×Int
abbrev En:=Int×Int×List Ln
def InE (N:List En):Prop:= ∀x∈N,Ent.InL x.2.2/\x.2.2.length<=1000
theorem ine_at {N:List En} {i:Nat} {x:En} (h:InE N) (hx:N[i]? =some x):Ent.InL x.2.2/\x.2.2.length<=1000:=h x (List.mem_of_getElem? hx)
def revP (n:Int) (x:En):Bool:=decide (x.2.1=n)
def revF (N:List En) (n:Int):Int:=if n<1∨N.length<n then 0 else idxF (revP n) N+1
noncomputable def env_rev1 (p r:Int) (L:List Ln) (n:Int):Env where
 P:=Tryz.prog
 ty:=tys0
def g_rev1_vc (p:Int) (r:Int) (L:List Ln) (n:Int):Prop:=
 (decide (r=n),())=(revP n (p,r,L),())
theorem g_rev1_ok (p r:Int) (L:List Ln) (n:Int):g_rev1_vc p r L n:=by
 unfold g_rev1_vc;exact rfl
set_option maxRecDepth 20000
noncomputable def sp_rev1:FSpec Tryz.prog:=mkF 229 (.c (.g (.c .j (.c .j (.c (.l LnT) .z)))) (.c (.f (.c .j .z)) .z)) [.bool] (fun x=>(fun (p r:Int) (L:List Ln) (n:Int)=>(True,revP n (p,r,L),())) x.1.1 x.1.2.1 x.1.2.2.1 x.2.1.1) fun ⟨⟨p,r,L,_⟩,⟨n,_⟩,_⟩ _=>Pure.of_cond (E:=env_rev1 p r L n) (by kernel_rfl) (g_rev1_ok p r L n) (specs_ok rfl [] [] rfl rfl) mixed Tryz.func229
noncomputable def env_revi (l:List En) (n:Int):Env where
 P:=Tryz.prog
 ty:=tys0
 specs:=specsOf [sp_rev1]
 heads:=fun|2=>some {slots:=[(8, .int .i64)],boxes:=[],inv:=fun _ (x:Int×Unit)=>0<=x.1/\x.1<=l.length/\idxF (revP n) l=idxGo (revP n) (l.drop x.1.toNat) x.1,measure:=fun _ (x:Int×Unit)=>(l.length-x.1).toNat}|_=>none
def g_revi_vc (l:List En) (n:Int):Prop:=
 (True/\0<=(0:Int)/\0<=(↑l.length:Int)/\idxF (revP n) l=idxGo (revP n) (List.drop (Int.toNat (0:Int)) l) (0:Int))/\∀(x:Int×Unit),0<=x.1/\x.1<=(↑l.length:Int)/\idxF (revP n) l=idxGo (revP n) (List.drop x.1.toNat l) x.1->(decide (x.1<(↑l.length:Int))=true->(0<=x.1/\x.1<(↑l.length:Int))/\∀(x_1:Int×Int×List (Int×Int×Int×Int)),l[x.1.toNat]? =some x_1->True/\(revP n (x_1.1,x_1.2.1,x_1.2.2)=true->(x.1,())=(idxF (revP n) l,()))/\(revP n (x_1.1,x_1.2.1,x_1.2.2)=false->(-9223372036854775808<=x.1+1/\x.1+1<=9223372036854775807)/\True/\(0<=x.1+1/\x.1+1<=(↑l.length:Int)/\idxF (revP n) l=idxGo (revP n) (List.drop (x.1+1).toNat l) (x.1+1))/\((↑l.length:Int)-(x.1+1)).toNat<((↑l.length:Int)-x.1).toNat))/\(decide (x.1<(↑l.length:Int))=false->((-1:Int),())=(idxF (revP n) l,()))
theorem g_revi_ok (l:List En) (n:Int) (h:l.length<=1000000000):g_revi_vc l n:=by
 unfold g_revi_vc;simp only [decide_eq_true_eq,decide_eq_false_iff_not];refine ⟨⟨trivial,by omega,by omega,rfl⟩, ?_⟩;rintro ⟨i,⟨⟩⟩ ⟨h0,h1,hb⟩;dsimp only at h0 h1 hb⊢;rw [hb];refine ⟨fun c=>⟨⟨h0,c⟩,fun x hx=>⟨trivial,fun k=> ?_,fun k=>⟨by omega,trivial,⟨by omega,by omega, ?_⟩,by omega⟩⟩⟩,fun c=> ?_⟩
 ·rw [idx_hit h0 hx k]
 ·rw [idx_miss h0 hx k]
 ·rw [idx_end c]
noncomputable def sp_revi:FSpec Tryz.prog:=mkF 228 (.c (.l EnT) (.c (.n 229 .z (.c (.f (.c .j .z)) .z)) .z)) [.int .i64] (fun x=>(fun (l:List En) (n:Int)=>(l.length<=1000000000,idxF (revP n) l,())) x.1 x.2.1.2.1.1) fun ⟨l,⟨_,⟨⟨n,_⟩,_⟩⟩,_⟩ h=>Pure.of_cond (E:=env_revi l n) (by kernel_rfl) (g_revi_ok l n h) (specs_ok rfl _ [] rfl rfl) mixed Tryz.func228
noncomputable def env_rev (l:List En) (n:Int):Env where
 P:=Tryz.prog
 ty:=tys0
 specs:=specsOf [sp_revi]
def g_rev_vc (l:List En) (n:Int):Prop:=
 (decide (n<(1:Int))=false->(decide ((↑l.length:Int)<n)=true->((0:Int),())=(revF l n,()))/\(decide ((↑l.length:Int)<n)=false->l.length<=(1000000000:Nat)/\(-9223372036854775808<=idxF (revP n) l+1/\idxF (revP n) l+1<=9223372036854775807)/\(idxF (revP n) l+1,())=(revF l n,())))/\(decide (n<(1:Int))= !false->((0:Int),())=(revF l n,()))
theorem g_rev_ok (l:List En) (n:Int) (h:l.length<=1000000000):g_rev_vc l n:=by
 unfold g_rev_vc;simp only [decide_eq_true_eq,decide_eq_false_iff_not,Bool.not_false];have hb:=idx_bounds (revP n) l;unfold revF;refine ⟨fun c=>⟨fun d=>by rw [if_pos (.inr d)],fun d=>⟨h,by omega,by rw [if_neg (by omega)]⟩⟩,fun c=>by rw [if_pos (.inl c)]⟩
noncomputable def sp_rev:FSpec Tryz.prog:=mkF 196 (.c (.l EnT) (.c .j .z)) [.int .i64] (fun x=>(fun (l:List En) (n:Int)=>(l.length<=1000000000,revF l n,())) x.1 x.2.1) fun ⟨l,n,_⟩ h=>Pure.of_cond (E:=env_rev l n) (by kernel_rfl) (g_rev_ok l n h) (specs_ok rfl _ [] rfl rfl) mixed Tryz.func196
def ownP (x:Ln):Bool:=decide (x.2.1<=3)
def eqP (n:Int) (x:Int):Bool:=decide (n=x)
noncomputable def env_idx (l:List Int) (n:Int):Env where
 P:=Tryz.prog
 ty:=tys0
 heads:=fun|2=>some {slots:=[(8, .int .i64)],boxes:=[],inv:=fun _ (x:Int×Unit)=>0<=x.1/\x.1<=l.length/\idxF (eqP n) l=idxGo (eqP n) (l.drop x.1.toNat) x.1,measure:=fun _ (x:Int×Unit)=>(l.length-x.1).toNat}|_=>none
def g_idx_vc (l:List Int) (n:Int):Prop:=
 (True/\0<=(0:Int)/\0<=(↑l.length:Int)/\idxF (eqP n) l=idxGo (eqP n) (List.drop (Int.toNat (0:Int)) l) (0:Int))/\∀(x:Int×Unit),0<=x.1/\x.1<=(↑l.length:Int)/\idxF (eqP n) l=idxGo (eqP n) (List.drop x.1.toNat l) x.1->(decide (x.1<(↑l.length:Int))=true->(0<=x.1/\x.1<(↑l.length:Int))/\∀(x_1:Int),l[x.1.toNat]? =some x_1->(decide (n=x_1)=true->(x.1,())=(idxF (eqP n) l,()))/\(decide (n=x_1)=false->(-9223372036854775808<=x.1+1/\x.1+1<=9223372036854775807)/\True/\(0<=x.1+1/\x.1+1<=(↑l.length:Int)/\idxF (eqP n) l=idxGo (eqP n) (List.drop (x.1+1).toNat l) (x.1+1))/\((↑l.length:Int)-(x.1+1)).toNat<((↑l.length:Int)-x.1).toNat))/\(decide (x.1<(↑l.length:Int))=false->((-1:Int),())=(idxF (eqP n) l,()))
theorem g_idx_ok (l:List Int) (n:Int) (h:l.length<=1000000000):g_idx_vc l n:=by
 unfold g_idx_vc;simp only [decide_eq_true_eq,decide_eq_false_iff_not];refine ⟨⟨trivial,by omega,by omega,rfl⟩, ?_⟩;rintro ⟨i,⟨⟩⟩ ⟨h0,h1,hb⟩;dsimp only at h0 h1 hb⊢;rw [hb];refine ⟨fun c=>⟨⟨h0,c⟩,fun x hx=>⟨fun k=> ?_,fun k=>⟨by omega,trivial,⟨by omega,by omega, ?_⟩,by omega⟩⟩⟩,fun c=> ?_⟩
 ·rw [idx_hit h0 hx (by unfold eqP;rw [decide_eq_true k])]
 ·rw [idx_miss h0 hx (by unfold eqP;rw [decide_eq_false k])]
 ·rw [idx_end c]
noncomputable def sp_idx:FSpec Tryz.prog:=mkF 131 (.c (.l I) (.c .j .z)) [.int .i64] (fun x=>(fun (l:List Int) (n:Int)=>(l.length<=1000000000,idxF (eqP n) l,())) x.1 x.2.1) fun ⟨l,n,_⟩ h=>Pure.of_cond (E:=env_idx l n) (by kernel_rfl) (g_idx_ok l n h) (specs_ok rfl [] [] rfl rfl) mixed Tryz.func131
noncomputable def env_cont (l:List Int) (n:Int):Env where
 P:=Tryz.prog
 ty:=tys0
 specs:=specsOf [sp_idx]
def g_cont_vc (l:List Int) (n:Int):Prop:=
 l.length<=(1000000000:Nat)/\(decide (0<=idxF (eqP n) l),())=(l.any (eqP n),())
theorem g_cont_ok (l:List Int) (n:Int) (h:l.length<=1000000000):g_cont_vc l n:=by
 unfold g_cont_vc;exact ⟨h,by rw [idx_any]⟩
noncomputable def sp_cont:FSpec Tryz.prog:=mkF 96 (.c (.l I) (.c .j .z)) [.bool] (fun x=>(fun (l:List Int) (n:Int)=>(l.length<=1000000000,l.any (eqP n),())) x.1 x.2.1) fun ⟨l,n,_⟩ h=>Pure.of_cond (E:=env_cont l n) (by kernel_rfl) (g_cont_ok l n h) (specs_ok rfl _ [] rfl rfl) mixed Tryz.func96
end Go.Proofs.YtabicbgeoiilmaaGreatDoor.Bks
end
section
namespace Go.Proofs.YtabicbgeoiilmaaGreatDoor.Stk
open Go.Vm
set_option maxRecDepth 20000
end Go.Proofs.YtabicbgeoiilmaaGreatDoor.Stk
end
section
namespace Go.Proofs.YtabicbgeoiilmaaGreatDoor.Stk
open Go.Vm
def par (l:List Stk) (p:Int) (a:Int):Int:=(atF l a p).1
def roundGo (l:List Stk) (e p:Int):Nat->Int->Bool
 |0,at_=>decide (par l p at_=e)
 |n+1,at_=>if par l p at_≠e/\par l p at_≠0 then roundGo l e p n (par l p at_) else decide (par l p at_=e)
def roundF (l:List Stk) (e p:Int):Bool:=roundGo l e p l.length e
def Inv29 (l:List Stk) (e p a n:Int):Prop:=0<=n/\n<=l.length/\roundGo l e p (l.length-n.toNat) a=roundF l e p
noncomputable def env_round (l:List Stk) (e p:Int):Env where
 P:=Tryz.prog
 specs:=specsOf [sp_at_]
 joins:=fun
  |2000000=>some {slots:=[(7, .int .i64),(8, .int .i64)],boxes:=[],inv:=fun _ (x:Int×Int×Unit)=>Inv29 l e p x.1 x.2.1,measure:=fun _ (x:Int×Int×Unit)=>(l.length-x.2.1+1).toNat}
  |_=>none
def g_round_vc (l:List Stk) (e:Int) (p:Int):Prop:=
 l.length<=(1000000000:Nat)/\(-9223372036854775808<=(0:Int)+1/\(0:Int)+1<=9223372036854775807)/\((!decide ((atF l e p).1=e))=true->((!decide ((atF l e p).1=(0:Int)))=true->(decide ((0:Int)+1<=(↑l.length:Int))=true->(0:Nat)=(0:Nat)/\(True/\Inv29 l e p (atF l e p).1 ((0:Int)+1))/\∀(x:Int×Int×Unit),Inv29 l e p x.1 x.2.1->l.length<=(1000000000:Nat)/\(-9223372036854775808<=x.2.1+1/\x.2.1+1<=9223372036854775807)/\((!decide ((atF l x.1 p).1=e))=true->((!decide ((atF l x.1 p).1=(0:Int)))=true->(decide (x.2.1+1<=(↑l.length:Int))=true->(0:Nat)=(0:Nat)/\True/\Inv29 l e p (atF l x.1 p).1 (x.2.1+1)/\((↑l.length:Int)-(x.2.1+1)+1).toNat<((↑l.length:Int)-x.2.1+1).toNat)/\(decide (x.2.1+1<=(↑l.length:Int))=false->(decide ((atF l x.1 p).1=e),())=(roundF l e p,())))/\((!decide ((atF l x.1 p).1=(0:Int)))= !true->(decide ((atF l x.1 p).1=e),())=(roundF l e p,())))/\((!decide ((atF l x.1 p).1=e))= !true->(decide ((atF l x.1 p).1=e),())=(roundF l e p,())))/\(decide ((0:Int)+1<=(↑l.length:Int))=false->(decide ((atF l e p).1=e),())=(roundF l e p,())))/\((!decide ((atF l e p).1=(0:Int)))= !true->(decide ((atF l e p).1=e),())=(roundF l e p,())))/\((!decide ((atF l e p).1=e))= !true->(decide ((atF l e p).1=e),())=(roundF l e p,()))
theorem g_round_ok (l:List Stk) (e p:Int) (h:l.length<=1000000000):g_round_vc l e p:=by
 have step: ∀(a n:Int),Inv29 l e p a n->n+1<=l.length->par l p a≠e->par l p a≠0->Inv29 l e p (par l p a) (n+1):=by
  rintro a n ⟨h1,h2,h3⟩ hn ha hb;refine ⟨by omega,by omega, ?_⟩;rw [<-h3];obtain ⟨m,hm⟩: ∃m,l.length-n.toNat=m+1:=⟨l.length-n.toNat-1,by omega⟩
  have:l.length-(n+1).toNat=m:=by omega
  rw [this,hm];simp [roundGo,ha,hb]
 have stop: ∀(a n:Int),Inv29 l e p a n->(¬(n+1<=l.length)∨par l p a=e∨par l p a=0)->decide (par l p a=e)=roundF l e p:=by
  rintro a n ⟨h1,h2,h3⟩ hc;rw [<-h3];cases hm:l.length-n.toNat with
  |zero=>rfl
  |succ m=>
   have:n+1<=l.length:=by omega
   rcases hc with hc|hc|hc
   ·exact absurd this hc
   ·simp [roundGo,hc]
   ·simp [roundGo,hc]
 have first:Inv29 l e p e 0:=⟨by omega,by omega,by simp [roundF]⟩
 have core: ∀(a n:Int),Inv29 l e p a n->((!decide (par l p a=e))=true->
  ((!decide (par l p a=(0:Int)))=true->
   (decide (n+(1:Int)<=(↑l.length:Int))=true->Inv29 l e p (par l p a) (n+(1:Int)))/\
    (decide (n+(1:Int)<=(↑l.length:Int))=false->decide (par l p a=e)=roundF l e p))/\
   ((!decide (par l p a=(0:Int)))= !true->decide (par l p a=e)=roundF l e p))/\
  ((!decide (par l p a=e))= !true->decide (par l p a=e)=roundF l e p):=by
  intro a n hI;refine ⟨fun c1=>⟨fun c2=>⟨fun c3=>step a n hI (by simpa using c3) (by simpa using c1) (by simpa using c2),fun c3=>stop a n hI (.inl (by simpa using c3))⟩,fun c2=>stop a n hI (.inr (.inr (by simpa using c2)))⟩,fun c1=>stop a n hI (.inr (.inl (by simpa using c1)))⟩
 unfold g_round_vc;obtain ⟨k1,k2⟩:=core e 0 first
 refine ⟨h,by omega,fun c1=>⟨fun c2=>⟨fun c3=>⟨rfl,⟨trivial,((k1 c1).1 c2).1 c3⟩, ?_⟩,fun c3=>congrArg (·,()) (((k1 c1).1 c2).2 c3)⟩,fun c2=>congrArg (·,()) ((k1 c1).2 c2)⟩,fun c1=>congrArg (·,()) (k2 c1)⟩;clear c1 c2 c3 k1 k2;rintro ⟨a,n,_⟩ hI;have hI0:=hI;obtain ⟨h1,h2,_⟩:=hI0;simp only at h1 h2;obtain ⟨k1,k2⟩:=core a n hI;simp only;exact ⟨h,by omega,fun c1=>⟨fun c2=>⟨fun c3=>⟨trivial,trivial,((k1 c1).1 c2).1 c3,by simp only [decide_eq_true_eq] at c3;omega⟩,fun c3=>congrArg (·,()) (((k1 c1).1 c2).2 c3)⟩,fun c2=>congrArg (·,()) ((k1 c1).2 c2)⟩,fun c1=>congrArg (·,()) (k2 c1)⟩
set_option maxRecDepth 20000
noncomputable def sp_round:FSpec Tryz.prog:=mkF 212 (.c (.l STy) (.c .j (.c .j .z))) [.bool] (fun x=>(fun (l:List Stk) (e p:Int)=>(l.length<=1000000000,roundF l e p,())) x.1 x.2.1 x.2.2.1) fun ⟨l,e,p,_⟩ h=>Pure.of_cond (E:=env_round l e p) (by kernel_rfl) (g_round_ok l e p h) (specs_ok rfl _ [] rfl rfl) mixed Tryz.func212
end Go.Proofs.YtabicbgeoiilmaaGreatDoor.Stk
end
section
namespace Go.Proofs.YtabicbgeoiilmaaGreatDoor.Stk
open Go.Vm
set_option maxRecDepth 20000
end Go.Proofs.YtabicbgeoiilmaaGreatDoor.Stk
end
section
namespace Go.Proofs.YtabicbgeoiilmaaGreatDoor.Stk
open Go.Vm
noncomputable abbrev tys:TypeId->Option Ty:=tys0
noncomputable def env_clone (l:List Stk):Env where
 P:=Tryz.prog
 ty:=tys
def g_clone_vc (l:List Stk):Prop:=
 ((true=true->l.length=(0:Nat))->([],())=(l,()))/\((false=true->l.length=(0:Nat))->(((0:Nat)+l.length)*(32:Nat)<=(140737488355328:Nat)/\(0:Nat)+l.length<=(4611686018427387904:Nat)/\((0:Nat)<l.length∨(0:Nat)=(0:Nat)))/\(l,())=(l,()))
set_option maxRecDepth 20000
theorem g_clone_ok (l:List Stk) (h:l.length<=1000000000):g_clone_vc l:=by
 unfold g_clone_vc;refine ⟨fun e=> ?_,fun _=>⟨⟨by omega,by omega, .inr rfl⟩,rfl⟩⟩;have:=List.eq_nil_of_length_eq_zero (e rfl);rw [this]
noncomputable def sp_clone:FSpec Tryz.prog:=mkF 73 (.c (.l STy) .z) [.slc 0 STy] (fun x=>(fun (l:List Stk)=>(l.length<=1000000000,l,())) x.1) fun ⟨l,_⟩ h=>Pure.of_cond (E:=env_clone l) (by kernel_rfl) (g_clone_ok l h) (specs_ok rfl [] [] rfl rfl) mixed Tryz.func73
end Go.Proofs.YtabicbgeoiilmaaGreatDoor.Stk
end
section
namespace Go.Proofs.YtabicbgeoiilmaaGreatDoor.Stk
open Go.Vm
def lastS (l:List Stk):Stk:=l.getLastD (0,0,0,0)
def circ (l:List Stk) (e:Int):Bool:=(List.range 24).any fun p=>roundF l e p
def lastF (l:List Stk) (n:Int):Int:=
 if (lastS l).1<1∨n<(lastS l).1∨(lastS l).2.1<0∨n<(lastS l).2.1 then 20
 else if (lastS l).2.2.1<0∨10000<(lastS l).2.2.1∨((lastS l).2.1=0/\(lastS l).2.2.1≠10000) then 12
 else if (lastS l).2.2.2<0∨24<=(lastS l).2.2.2 then 22
 else if circ l (lastS l).1 then 26 else 0
theorem lastS_at {l:List Stk} (h:0<l.length):l[l.length-1]? =some (lastS l):=by
 unfold lastS;rw [List.getLastD_eq_getLast?,List.getLast?_eq_getElem?];have:l.length-1<l.length:=by omega
 rw [List.getElem?_eq_getElem this];rfl
def Inv23 (l:List Stk) (k:Int):Prop:=0<=k/\k<=24/\∀j:Nat,j<k.toNat->roundF l (lastS l).1 j=false
noncomputable def env_last (l:List Stk) (_n:Int):Env where
 P:=Tryz.prog
 ty:=tys
 specs:=specsOf [sp_round]
 heads:=fun
  |9=>some {slots:=[(62, .int .i64)],boxes:=[],keep:=[5],inv:=fun _ (x:Int×Unit)=>Inv23 l x.1,measure:=fun _ (x:Int×Unit)=>(24-x.1).toNat}
  |_=>none
def g_last_vc (l:List Stk) (n:Int):Prop:=
 (-9223372036854775808<=(↑l.length:Int)-(1:Int)/\(↑l.length:Int)-(1:Int)<=9223372036854775807)/\(0<=(↑l.length:Int)-(1:Int)/\(↑l.length:Int)-(1:Int)<(↑l.length:Int))/\∀(x:Int×Int×Int×Int),l[((↑l.length:Int)-(1:Int)).toNat]? =some x->(decide (x.1<(1:Int))=false->(decide (n<x.1)=false->(decide (x.2.1<(0:Int))=false->(decide (n<x.2.1)=true->((20:Int),())=(lastF l n,()))/\(decide (n<x.2.1)=false->(decide (x.2.2.1<(0:Int))=false->(decide ((10000:Int)<x.2.2.1)=false->(decide (x.2.1=(0:Int))=true->((!decide (x.2.2.1=(10000:Int)))=true->((12:Int),())=(lastF l n,()))/\((!decide (x.2.2.1=(10000:Int)))=false->(decide (x.2.2.2<(0:Int))=false->(decide ((24:Int)<=x.2.2.2)=true->((22:Int),())=(lastF l n,()))/\(decide ((24:Int)<=x.2.2.2)=false->((some (Obj.box [V.int IntKind.i64 x.1,V.int IntKind.i64 x.2.1,V.int IntKind.i64 x.2.2.1,V.int IntKind.i64 x.2.2.2])=some (Obj.box [V.int IntKind.i64 x.1,V.int IntKind.i64 x.2.1,V.int IntKind.i64 x.2.2.1,V.int IntKind.i64 x.2.2.2])/\True)/\Inv23 l (0:Int))/\∀(x_1:Int×Unit),Inv23 l x_1.1->(decide (x_1.1<(24:Int))=true->l.length<=(1000000000:Nat)/\(roundF l x.1 x_1.1=true->((26:Int),())=(lastF l n,()))/\(roundF l x.1 x_1.1=false->(-9223372036854775808<=x_1.1+1/\x_1.1+1<=9223372036854775807)/\(some (Obj.box [V.int IntKind.i64 x.1,V.int IntKind.i64 x.2.1,V.int IntKind.i64 x.2.2.1,V.int IntKind.i64 x.2.2.2])=some (Obj.box [V.int IntKind.i64 x.1,V.int IntKind.i64 x.2.1,V.int IntKind.i64 x.2.2.1,V.int IntKind.i64 x.2.2.2])/\True)/\Inv23 l (x_1.1+1)/\((24:Int)-(x_1.1+1)).toNat<((24:Int)-x_1.1).toNat))/\(decide (x_1.1<(24:Int))=false->((0:Int),())=(lastF l n,()))))/\(decide (x.2.2.2<(0:Int))= !false->((22:Int),())=(lastF l n,()))))/\(decide (x.2.1=(0:Int))= !true->(decide (x.2.2.2<(0:Int))=false->(decide ((24:Int)<=x.2.2.2)=true->((22:Int),())=(lastF l n,()))/\(decide ((24:Int)<=x.2.2.2)=false->((some (Obj.box [V.int IntKind.i64 x.1,V.int IntKind.i64 x.2.1,V.int IntKind.i64 x.2.2.1,V.int IntKind.i64 x.2.2.2])=some (Obj.box [V.int IntKind.i64 x.1,V.int IntKind.i64 x.2.1,V.int IntKind.i64 x.2.2.1,V.int IntKind.i64 x.2.2.2])/\True)/\Inv23 l (0:Int))/\∀(x_1:Int×Unit),Inv23 l x_1.1->(decide (x_1.1<(24:Int))=true->l.length<=(1000000000:Nat)/\(roundF l x.1 x_1.1=true->((26:Int),())=(lastF l n,()))/\(roundF l x.1 x_1.1=false->(-9223372036854775808<=x_1.1+1/\x_1.1+1<=9223372036854775807)/\(some (Obj.box [V.int IntKind.i64 x.1,V.int IntKind.i64 x.2.1,V.int IntKind.i64 x.2.2.1,V.int IntKind.i64 x.2.2.2])=some (Obj.box [V.int IntKind.i64 x.1,V.int IntKind.i64 x.2.1,V.int IntKind.i64 x.2.2.1,V.int IntKind.i64 x.2.2.2])/\True)/\Inv23 l (x_1.1+1)/\((24:Int)-(x_1.1+1)).toNat<((24:Int)-x_1.1).toNat))/\(decide (x_1.1<(24:Int))=false->((0:Int),())=(lastF l n,()))))/\(decide (x.2.2.2<(0:Int))= !false->((22:Int),())=(lastF l n,()))))/\(decide ((10000:Int)<x.2.2.1)= !false->((12:Int),())=(lastF l n,())))/\(decide (x.2.2.1<(0:Int))= !false->((12:Int),())=(lastF l n,()))))/\(decide (x.2.1<(0:Int))= !false->((20:Int),())=(lastF l n,())))/\(decide (n<x.1)= !false->((20:Int),())=(lastF l n,())))/\(decide (x.1<(1:Int))= !false->((20:Int),())=(lastF l n,()))
theorem inv23_b {l:List Stk} {k:Int} (h:Inv23 l k):0<=k/\k<=24:=⟨h.1,h.2.1⟩
theorem inv23_0 (l:List Stk):Inv23 l 0:=⟨by omega,by omega,fun j hj=>by simp at hj⟩
theorem inv23_s {l:List Stk} {k:Int} (h:Inv23 l k) (hk:k<24) (hr:roundF l (lastS l).1 k=false):Inv23 l (k+1):=by
 obtain ⟨h1,h2,h3⟩:=h;refine ⟨by omega,by omega,fun j hj=> ?_⟩;by_cases e:j<k.toNat
 ·exact h3 j e
 ·have:(j:Int)=k:=by omega
  rw [this];exact hr
theorem circ_yes {l:List Stk} {k:Int} (h:Inv23 l k) (hk:k<24) (hr:roundF l (lastS l).1 k=true):circ l (lastS l).1=true:=by
 obtain ⟨h1,h2,h3⟩:=h;refine List.any_eq_true.2 ⟨k.toNat,List.mem_range.2 (by omega), ?_⟩;rw [show ((k.toNat:Nat):Int)=k by omega];exact hr
theorem circ_no {l:List Stk} {k:Int} (h:Inv23 l k) (hk: ¬k<24):circ l (lastS l).1=false:=by
 obtain ⟨h1,h2,h3⟩:=h;refine List.any_eq_false.2 (fun j hj=> ?_);rw [h3 j (by have:=List.mem_range.1 hj;omega)];simp
theorem g_last_ok (l : List Stk) (n : Int) (h : 0 < l.length /\ l.length <= 1000000000) : g_last_vc l n := by
  unfold g_last_vc
  obtain ⟨ha, hb⟩ := h
  refine ⟨by omega, by omega, fun x hx => ?_⟩
  obtain rfl : x = lastS l := by
    rw [show ((l.length : Int) - 1).toNat = l.length - 1 by omega, lastS_at ha] at hx
    exact (Option.some.inj hx).symm
  simp only [decide_eq_true_eq, decide_eq_false_iff_not, Bool.not_true, Bool.not_false, Bool.not_eq_true', Bool.not_eq_false', true_and, and_true]
  repeat' (first | (with_reducible apply And.intro) | intro _)
  all_goals first
    | exact hb
    | exact inv23_0 l
    | exact inv23_s ‹_› ‹_› ‹_›
    | (have := inv23_b ‹Inv23 _ _›; omega)
    | (have hc := circ_yes ‹Inv23 _ _› ‹_› ‹_›
       refine congrArg (·, ()) ?_
       unfold lastF
       rw [hc]
       simp only [if_true]
       repeat' split
       all_goals first | rfl | (exfalso; omega))
    | (have hc := circ_no ‹Inv23 _ _› ‹_›
       refine congrArg (·, ()) ?_
       unfold lastF
       rw [hc]
       simp only [Bool.false_eq_true, if_false]
       repeat' split
       all_goals first | rfl | (exfalso; omega))
    | (refine congrArg (·, ()) ?_
       unfold lastF
       repeat' split
       all_goals first | rfl | (exfalso; omega))
set_option maxRecDepth 20000
noncomputable def sp_last:FSpec Tryz.prog:=mkF 186 (.c (.l STy) (.c .j .z)) [.int .i64] (fun x=>(fun (l:List Stk) (n:Int)=>(0<l.length/\l.length<=1000000000,lastF l n,())) x.1 x.2.1) fun ⟨l,n,_⟩ h=>Pure.of_cond (E:=env_last l n) (by kernel_rfl) (g_last_ok l n h) (specs_ok rfl _ [] rfl rfl) mixed Tryz.func186
end Go.Proofs.YtabicbgeoiilmaaGreatDoor.Stk
end
section
namespace Go.Proofs.YtabicbgeoiilmaaGreatDoor.Stk
open Go.Vm
def addF (l:List Stk) (s:Stk) (n:Int):List Stk×Int:=
 if 400<=l.length then ([],3) else if lastF (l++[s]) n=0 then (l++[s],0) else ([],lastF (l++[s]) n)
noncomputable def env_add (_l:List Stk) (_a _b _c _d:Int) (_n:Int):Env where
 P:=Tryz.prog
 ty:=tys
 specs:=specsOf [sp_last,sp_clone]
def g_add_vc (l:List Stk) (a:Int) (b:Int) (c:Int) (d:Int) (n:Int):Prop:=
 (decide ((400:Int)<=(↑l.length:Int))=true->([],(3:Int),())=((addF l (a,b,c,d) n).1,(addF l (a,b,c,d) n).2,()))/\(decide ((400:Int)<=(↑l.length:Int))=false->l.length<=(1000000000:Nat)/\((l.length+(1:Nat))*(32:Nat)<=(140737488355328:Nat)/\l.length+(1:Nat)<=(4611686018427387904:Nat))/\((0:Nat)<(l++[(a,b,c,d)]).length/\(l++[(a,b,c,d)]).length<=(1000000000:Nat))/\((!decide (lastF (l++[(a,b,c,d)]) n=(0:Int)))=true->([],lastF (l++[(a,b,c,d)]) n,())=((addF l (a,b,c,d) n).1,(addF l (a,b,c,d) n).2,()))/\((!decide (lastF (l++[(a,b,c,d)]) n=(0:Int)))=false->(l++[(a,b,c,d)],(0:Int),())=((addF l (a,b,c,d) n).1,(addF l (a,b,c,d) n).2,())))
theorem g_add_ok (l:List Stk) (a b c d:Int) (n:Int) (h:l.length<=1000000000):g_add_vc l a b c d n:=by
 unfold g_add_vc;simp only [decide_eq_true_eq,decide_eq_false_iff_not,Bool.not_eq_true',Bool.not_eq_false',List.length_append,List.length_singleton];refine ⟨fun hc=> ?_,fun hc=>⟨h,by omega,by omega,fun hr=> ?_,fun hr=> ?_⟩⟩
 ·rw [addF,if_pos (by omega)]
 ·rw [addF,if_neg (by omega),if_neg hr]
 ·rw [addF,if_neg (by omega),if_pos hr]
set_option maxRecDepth 20000
noncomputable def sp_add:FSpec Tryz.prog:=mkF 136 (.c (.l STy) (.c (.g (.c .j (.c .j (.c .j (.c .j .z))))) (.c .j .z))) [.list .part STy, .int .i64] (fun x=>(fun (l:List Stk) (a b c d:Int) (n:Int)=>(l.length<=1000000000,(addF l (a,b,c,d) n).1,(addF l (a,b,c,d) n).2,())) x.1 x.2.1.1 x.2.1.2.1 x.2.1.2.2.1 x.2.1.2.2.2.1 x.2.2.1) fun ⟨l,⟨a,b,c,d,_⟩,n,_⟩ h=>Pure.of_cond (E:=env_add l a b c d n) (by kernel_rfl) (g_add_ok l a b c d n h) (specs_ok rfl _ [] rfl rfl) mixed Tryz.func136
end Go.Proofs.YtabicbgeoiilmaaGreatDoor.Stk
end
