/-
  lock: whether locks may be, and whether they are the same.
-/
import Derived.Test.YtabicbgeoiilmaaGreatDoorSeat
import Derived.Test.YtabicbgeoiilmaaGreatDoorIdx
set_option linter.unusedVariables false
section
namespace Go.Proofs.YtabicbgeoiilmaaGreatDoor.Acc
open Go.Vm
abbrev AcD:=Int×Int×Bool×Bool
def isIn (l:List AcD) (a:Int):Prop:=1<=a/\a<=l.length
instance (l:List AcD) (a:Int):Decidable (isIn l a):=by unfold isIn;infer_instance
def parA (l:List AcD) (a:Int):Int:=((l[(a-1).toNat]?).map (·.1)).getD 0
theorem parA_at {l:List AcD} {a:Int} {x:AcD} (h:l[(a-1).toNat]? =some x):parA l a=x.1:=by unfold parA;rw [h];rfl
def upGo (l:List AcD) (a:Int):Nat->Int->List Int->List Int
 |0,_,out=>out
 |n+1,p,out=>if isIn l p/\p≠a/\p∉out then upGo l a n (parA l p) (out++[p]) else out
def upF (l:List AcD) (a:Int):List Int:=if isIn l a then upGo l a (l.length+1) (parA l a) [] else []
theorem nodup_le: ∀(n:Nat) (out:List Int),out.Nodup->(∀x∈out,1<=x/\x<=n)->out.length<=n
 |0,out,_,hb=>by
  cases out with
  |nil=>simp
  |cons x r=>have:=hb x (by simp);omega
 |n+1,out,hd,hb=>by
  by_cases h:((n+1:Nat):Int)∈out
  ·have h1:=nodup_le n (out.erase ((n+1:Nat):Int)) (hd.erase _) (fun x hx=>by
    have h2:=hb x (List.mem_of_mem_erase hx);have h3:x≠((n+1:Nat):Int):=((hd.mem_erase_iff).1 hx).1;omega)
   rw [List.length_erase_of_mem h] at h1;omega
  ·have:=nodup_le n out hd (fun x hx=>by
    have h2:=hb x hx;have h3:x≠((n+1:Nat):Int):=fun e=>h (e▸hx);omega)
   omega
def it (l:List AcD) (a:Int):Nat->Int
 |0=>a
 |k+1=>parA l (it l a k)
def its (l:List AcD) (a:Int) (m:Nat):List Int:=(List.range m).map fun i=>it l a (i+1)
theorem its_succ (l:List AcD) (a:Int) (m:Nat):its l a (m+1)=its l a m++[it l a (m+1)]:=by
 unfold its;rw [List.range_succ,List.map_append];rfl
structure Way (l:List AcD) (a:Int) (m:Nat):Prop where
 dup:(its l a m).Nodup
 inn: ∀x∈its l a m,isIn l x/\x≠a
theorem Way.len {l:List AcD} {a:Int} {m:Nat} (h:Way l a m) (ha:isIn l a):m+1<=l.length:=by
 have h1:(a::its l a m).Nodup:=List.nodup_cons.2 ⟨fun k=>(h.inn a k).2 rfl,h.dup⟩;have h2:=nodup_le l.length (a::its l a m) h1 (fun x hx=>by
  rcases List.mem_cons.1 hx with rfl|hx
  ·exact ha
  ·exact (h.inn x hx).1)
 simp [its] at h2;omega
theorem Way.next {l:List AcD} {a:Int} {m:Nat} (h:Way l a m) (h1:isIn l (it l a (m+1))) (h2:it l a (m+1)≠a) (h3:it l a (m+1)∉its l a m):Way l a (m+1):=by
 refine ⟨?_,fun x hx=> ?_⟩
 ·rw [its_succ];exact List.nodup_append.2 ⟨h.dup,by simp,fun x hx y hy=>by
   rw [List.mem_singleton.1 hy];exact fun e=>h3 (e▸hx)⟩
 ·rw [its_succ,List.mem_append,List.mem_singleton] at hx;rcases hx with hx|rfl
  ·exact h.inn x hx
  ·exact ⟨h1,h2⟩
theorem Way.zero (l:List AcD) (a:Int):Way l a 0:=⟨by simp [its],fun x hx=>by simp [its] at hx⟩
theorem up_way {l:List AcD} {a:Int} (ha:isIn l a): ∀(n m:Nat),l.length<=m+n->Way l a m->
 ∃k,upGo l a (n+1) (it l a (m+1)) (its l a m)=its l a k/\Way l a k/\¬(isIn l (it l a (k+1))/\it l a (k+1)≠a/\it l a (k+1)∉its l a k)
 |0,m,hn,hw=>by
  have:=hw.len ha;omega
 |n+1,m,hn,hw=>by
  rw [upGo];by_cases c:isIn l (it l a (m+1))/\it l a (m+1)≠a/\it l a (m+1)∉its l a m
  ·rw [if_pos c,<-its_succ];exact up_way ha n (m+1) (by omega) (hw.next c.1 c.2.1 c.2.2)
  ·rw [if_neg c];exact ⟨m,rfl,hw,c⟩
theorem up_its {l:List AcD} {a:Int} (ha:isIn l a): ∃k,upF l a=its l a k/\Way l a k/\¬(isIn l (it l a (k+1))/\it l a (k+1)≠a/\it l a (k+1)∉its l a k):=by
 unfold upF;rw [if_pos ha];exact up_way ha l.length 0 (by omega) (.zero l a)
end Go.Proofs.YtabicbgeoiilmaaGreatDoor.Acc
end
section
namespace Go.Proofs.YtabicbgeoiilmaaGreatDoor.Acc
open Go.Vm
noncomputable def env_is (l:List AcD) (a:Int):Env where
 P:=Tryz.prog
 ty:=tys0
def g_is_vc (l:List AcD) (a:Int):Prop:=
 (decide ((1:Int)<=a)=true->(decide (a<=(↑l.length:Int)),())=(decide (isIn l a),()))/\(decide ((1:Int)<=a)= !true->(false,())=(decide (isIn l a),()))
theorem g_is_ok (l:List AcD) (a:Int):g_is_vc l a:=by
 unfold g_is_vc;simp only [decide_eq_true_eq,decide_eq_false_iff_not,Bool.not_true,Prod.mk.injEq,and_true];refine ⟨fun h=>decide_eq_decide.2 ⟨fun k=>⟨h,k⟩,fun k=>k.2⟩,fun h=> ?_⟩;rw [decide_eq_false (fun k:isIn l a=>h k.1)]
set_option maxRecDepth 20000
noncomputable def sp_is:FSpec Tryz.prog:=mkF 184 (.c (.l AcT) (.c .j .z)) [.bool] (fun x=>(fun (l:List AcD) (a:Int)=>(True,decide (isIn l a),())) x.1 x.2.1) fun ⟨l,a,_⟩ _=>Pure.of_cond (E:=env_is l a) (by kernel_rfl) (g_is_ok l a) (specs_ok rfl [] [] rfl rfl) mixed Tryz.func184
def placeF (p n:Int):Int:=if p<0∨n<p then 21 else if 1<=p/\p<=3 then 28 else 0
def kindF (k:Int) (s q:Bool):Int:=if k<1∨3<k∨(s=true/\q=true) then 25 else 0
def mayA (x:AcD) (n:Int):Int:=if placeF x.1 n=0 then kindF x.2.1 x.2.2.1 x.2.2.2 else placeF x.1 n
noncomputable def env_place (p n:Int):Env where
 P:=Tryz.prog
 ty:=tys0
def g_place_vc (p:Int) (n:Int):Prop:=
 (decide (p<(0:Int))=false->(decide (n<p)=true->((21:Int),())=(placeF p n,()))/\(decide (n<p)=false->(decide ((1:Int)<=p)=true->(decide (p<=(3:Int))=true->((28:Int),())=(placeF p n,()))/\(decide (p<=(3:Int))=false->((0:Int),())=(placeF p n,())))/\(decide ((1:Int)<=p)= !true->((0:Int),())=(placeF p n,()))))/\(decide (p<(0:Int))= !false->((21:Int),())=(placeF p n,()))
theorem g_place_ok (p n:Int):g_place_vc p n:=by
 unfold g_place_vc placeF;simp only [decide_eq_true_eq,decide_eq_false_iff_not,Bool.not_false,Bool.not_true];repeat' (first|with_reducible apply And.intro|intro _)
 all_goals (try congr 1)
 all_goals repeat' split
 all_goals first|rfl|omega|(simp_all;done)|(simp_all;omega)
noncomputable def sp_place:FSpec Tryz.prog:=mkF 181 (.c .j (.c .j .z)) [.int .i64] (fun x=>(fun (p n:Int)=>(True,placeF p n,())) x.1 x.2.1) fun ⟨p,n,_⟩ _=>Pure.of_cond (E:=env_place p n) (by kernel_rfl) (g_place_ok p n) (specs_ok rfl [] [] rfl rfl) mixed Tryz.func181
noncomputable def env_kind (a k:Int) (s q:Bool):Env where
 P:=Tryz.prog
 ty:=tys0
def g_kind_vc (a:Int) (k:Int) (s:Bool) (q:Bool):Prop:=
 (decide (k<(1:Int))=false->(decide ((3:Int)<k)=false->(s=true->(q=true->((25:Int),())=(kindF k s q,()))/\(q=false->((0:Int),())=(kindF k s q,())))/\(s= !true->((0:Int),())=(kindF k s q,())))/\(decide ((3:Int)<k)= !false->((25:Int),())=(kindF k s q,())))/\(decide (k<(1:Int))= !false->((25:Int),())=(kindF k s q,()))
theorem g_kind_ok (a k:Int) (s q:Bool):g_kind_vc a k s q:=by
 unfold g_kind_vc kindF;simp only [decide_eq_true_eq,decide_eq_false_iff_not,Bool.not_false,Bool.not_true];repeat' (first|with_reducible apply And.intro|intro _)
 all_goals (try congr 1)
 all_goals repeat' split
 all_goals first|rfl|omega|(simp_all;done)|(simp_all;omega)
noncomputable def sp_kind:FSpec Tryz.prog:=mkF 182 (.c (.g (.c .j (.c .j (.c .b (.c .b .z))))) .z) [.int .i64] (fun x=>(fun (a k:Int) (s q:Bool)=>(True,kindF k s q,())) x.1.1 x.1.2.1 x.1.2.2.1 x.1.2.2.2.1) fun ⟨⟨a,k,s,q,_⟩,_⟩ _=>Pure.of_cond (E:=env_kind a k s q) (by kernel_rfl) (g_kind_ok a k s q) (specs_ok rfl [] [] rfl rfl) mixed Tryz.func182
abbrev ownL:List AcD:=[(0,1,true,false),(0,1,false,false),(0,1,false,false)]
noncomputable def env_new:Env where
 P:=Tryz.prog
 ty:=tys0
def g_new_vc:Prop:=
 ([((0:Int),(1:Int),true,false),((0:Int),(1:Int),false,false),((0:Int),(1:Int),false,false)],())=(ownL,())
theorem g_new_ok:g_new_vc:=rfl
noncomputable def sp_new:FSpec Tryz.prog:=mkF 44 .z [.list .full AcT] (fun x=>(True,ownL,())) fun _ _=>Pure.of_cond (E:=env_new) (by kernel_rfl) g_new_ok (specs_ok rfl [] [] rfl rfl) mixed Tryz.func44
def upLf (a:Int) (x:AcD):Bool:=decide (x.1=a)
noncomputable def env_lf1 (p k:Int) (s q:Bool) (a:Int):Env where
 P:=Tryz.prog
 ty:=tys0
def g_lf1_vc (p:Int) (k:Int) (s:Bool) (q:Bool) (a:Int):Prop:=
 (decide (p=a),())=(upLf a (p,k,s,q),())
theorem g_lf1_ok (p k:Int) (s q:Bool) (a:Int):g_lf1_vc p k s q a:=by
 unfold g_lf1_vc;exact rfl
noncomputable def sp_lf1:FSpec Tryz.prog:=mkF 224 (.c (.g (.c .j (.c .j (.c .b (.c .b .z))))) (.c (.f (.c .j .z)) .z)) [.bool] (fun x=>(fun (p k:Int) (s q:Bool) (a:Int)=>(True,upLf a (p,k,s,q),())) x.1.1 x.1.2.1 x.1.2.2.1 x.1.2.2.2.1 x.2.1.1) fun ⟨⟨p,k,s,q,_⟩,⟨a,_⟩,_⟩ _=>Pure.of_cond (E:=env_lf1 p k s q a) (by kernel_rfl) (g_lf1_ok p k s q a) (specs_ok rfl [] [] rfl rfl) mixed Tryz.func224
noncomputable def env_lidx (l:List AcD) (a:Int):Env where
 P:=Tryz.prog
 ty:=tys0
 specs:=specsOf [sp_lf1]
 heads:=fun|2=>some {slots:=[(8, .int .i64)],boxes:=[],inv:=fun _ (x:Int×Unit)=>0<=x.1/\x.1<=l.length/\idxF (upLf a) l=idxGo (upLf a) (l.drop x.1.toNat) x.1,measure:=fun _ (x:Int×Unit)=>(l.length-x.1).toNat}|_=>none
def g_lidx_vc (l:List AcD) (a:Int):Prop:=
 (True/\0<=(0:Int)/\0<=(↑l.length:Int)/\idxF (upLf a) l=idxGo (upLf a) (List.drop (Int.toNat (0:Int)) l) (0:Int))/\∀(x:Int×Unit),0<=x.1/\x.1<=(↑l.length:Int)/\idxF (upLf a) l=idxGo (upLf a) (List.drop x.1.toNat l) x.1->(decide (x.1<(↑l.length:Int))=true->(0<=x.1/\x.1<(↑l.length:Int))/\∀(x_1:Int×Int×Bool×Bool),l[x.1.toNat]? =some x_1->True/\(upLf a (x_1.1,x_1.2.1,x_1.2.2.1,x_1.2.2.2)=true->(x.1,())=(idxF (upLf a) l,()))/\(upLf a (x_1.1,x_1.2.1,x_1.2.2.1,x_1.2.2.2)=false->(-9223372036854775808<=x.1+1/\x.1+1<=9223372036854775807)/\True/\(0<=x.1+1/\x.1+1<=(↑l.length:Int)/\idxF (upLf a) l=idxGo (upLf a) (List.drop (x.1+1).toNat l) (x.1+1))/\((↑l.length:Int)-(x.1+1)).toNat<((↑l.length:Int)-x.1).toNat))/\(decide (x.1<(↑l.length:Int))=false->((-1:Int),())=(idxF (upLf a) l,()))
theorem g_lidx_ok (l:List AcD) (a:Int) (h:l.length<=1000000000):g_lidx_vc l a:=by
 unfold g_lidx_vc;simp only [decide_eq_true_eq,decide_eq_false_iff_not];refine ⟨⟨trivial,by omega,by omega,rfl⟩, ?_⟩;rintro ⟨i,⟨⟩⟩ ⟨h0,h1,hb⟩;dsimp only at h0 h1 hb⊢;rw [hb];refine ⟨fun c=>⟨⟨h0,c⟩,fun x hx=>⟨trivial,fun k=> ?_,fun k=>⟨by omega,trivial,⟨by omega,by omega, ?_⟩,by omega⟩⟩⟩,fun c=> ?_⟩
 ·rw [idx_hit h0 hx k]
 ·rw [idx_miss h0 hx k]
 ·rw [idx_end c]
noncomputable def sp_lidx:FSpec Tryz.prog:=mkF 242 (.c (.l AcT) (.c (.n 224 .z (.c (.f (.c .j .z)) .z)) .z)) [.int .i64] (fun x=>(fun (l:List AcD) (a:Int)=>(l.length<=1000000000,idxF (upLf a) l,())) x.1 x.2.1.2.1.1) fun ⟨l,⟨_,⟨⟨a,_⟩,_⟩⟩,_⟩ h=>Pure.of_cond (E:=env_lidx l a) (by kernel_rfl) (g_lidx_ok l a h) (specs_ok rfl _ [] rfl rfl) mixed Tryz.func242
noncomputable def env_lcont (l:List AcD) (a:Int):Env where
 P:=Tryz.prog
 ty:=tys0
 specs:=specsOf [sp_lidx]
def g_lcont_vc (l:List AcD) (a:Int):Prop:=
 l.length<=(1000000000:Nat)/\(decide (0<=idxF (upLf a) l),())=(l.any (upLf a),())
theorem g_lcont_ok (l:List AcD) (a:Int) (h:l.length<=1000000000):g_lcont_vc l a:=by
 unfold g_lcont_vc;exact ⟨h,by rw [idx_any]⟩
noncomputable def sp_lcont:FSpec Tryz.prog:=mkF 223 (.c (.l AcT) (.c (.n 224 .z (.c (.f (.c .j .z)) .z)) .z)) [.bool] (fun x=>(fun (l:List AcD) (a:Int)=>(l.length<=1000000000,l.any (upLf a),())) x.1 x.2.1.2.1.1) fun ⟨l,⟨_,⟨⟨a,_⟩,_⟩⟩,_⟩ h=>Pure.of_cond (E:=env_lcont l a) (by kernel_rfl) (g_lcont_ok l a h) (specs_ok rfl _ [] rfl rfl) mixed Tryz.func223
def leafF (l:List AcD) (a:Int):Bool:=decide (isIn l a)&& !l.any (upLf a)
noncomputable def env_leaf (l:List AcD) (a:Int):Env where
 P:=Tryz.prog
 ty:=tys0
 specs:=specsOf [sp_is,sp_lcont]
def g_leaf_vc (l:List AcD) (a:Int):Prop:=
 True/\(decide (isIn l a)=true->l.length<=(1000000000:Nat)/\(!l.any (upLf a),())=(leafF l a,()))/\(decide (isIn l a)= !true->(false,())=(leafF l a,()))
theorem g_leaf_ok (l:List AcD) (a:Int) (h:l.length<=1000000000):g_leaf_vc l a:=by
 unfold g_leaf_vc leafF;refine ⟨trivial,fun c=>⟨h,by rw [c,Bool.true_and]⟩,fun c=> ?_⟩;rw [show decide (isIn l a)=false by simpa using c,Bool.false_and]
noncomputable def sp_leaf:FSpec Tryz.prog:=mkF 193 (.c (.l AcT) (.c .j .z)) [.bool] (fun x=>(fun (l:List AcD) (a:Int)=>(l.length<=1000000000,leafF l a,())) x.1 x.2.1) fun ⟨l,a,_⟩ h=>Pure.of_cond (E:=env_leaf l a) (by kernel_rfl) (g_leaf_ok l a h) (specs_ok rfl _ [] rfl rfl) mixed Tryz.func193
noncomputable def env_pleaf (l:List AcD) (a:Int):Env where
 P:=Tryz.prog
 ty:=tys0
 specs:=specsOf [sp_leaf]
def g_pleaf_vc (l:List AcD) (a:Int):Prop:=
 l.length<=(1000000000:Nat)/\(leafF l a,())=(leafF l a,())
theorem g_pleaf_ok (l:List AcD) (a:Int) (h:l.length<=1000000000):g_pleaf_vc l a:=by
 unfold g_pleaf_vc;exact ⟨h,rfl⟩
noncomputable def sp_pleaf:FSpec Tryz.prog:=mkF 142 (.c (.l AcT) (.c .j .z)) [.bool] (fun x=>(fun (l:List AcD) (a:Int)=>(l.length<=1000000000,leafF l a,())) x.1 x.2.1) fun ⟨l,a,_⟩ h=>Pure.of_cond (E:=env_pleaf l a) (by kernel_rfl) (g_pleaf_ok l a h) (specs_ok rfl _ [] rfl rfl) mixed Tryz.func142
end Go.Proofs.YtabicbgeoiilmaaGreatDoor.Acc
end
section
namespace Go.Proofs.YtabicbgeoiilmaaGreatDoor.Rts
open Go.Vm
abbrev Rt:=Int×Int×Int×Int×Int×Int
def ratioF (a b:Int):Int:=if 1<=a/\1<=b/\a<=1000000000000/\b<=1000000000000 then 0 else 11
noncomputable def env_rcheck (a b:Int):Env where
 P:=Tryz.prog
 ty:=tys0
def g_rcheck_vc (a:Int) (b:Int):Prop:=
 (decide (mmI false a b<(1:Int))=false->(decide ((1000000000000:Int)<mmI true a b)=true->((11:Int),())=(ratioF a b,()))/\(decide ((1000000000000:Int)<mmI true a b)=false->((0:Int),())=(ratioF a b,())))/\(decide (mmI false a b<(1:Int))= !false->((11:Int),())=(ratioF a b,()))
theorem g_rcheck_ok (a b:Int):g_rcheck_vc a b:=by
 unfold g_rcheck_vc ratioF mmI;simp only [decide_eq_true_eq,decide_eq_false_iff_not,if_true,Bool.false_eq_true,if_false,Bool.not_false,Prod.mk.injEq,and_true];refine ⟨fun h1=>⟨fun h2=> ?_,fun h2=> ?_⟩,fun h1=> ?_⟩<;>split<;>omega
set_option maxRecDepth 20000
noncomputable def sp_rcheck:FSpec Tryz.prog:=mkF 214 (.c (.g (.c .j (.c .j .z))) .z) [.int .i64] (fun x=>(fun (a b:Int)=>(True,ratioF a b,())) x.1.1 x.1.2.1) fun ⟨⟨a,b,_⟩,_⟩ _=>Pure.of_cond (E:=env_rcheck a b) (by kernel_rfl) (g_rcheck_ok a b) (specs_ok rfl [] [] rfl rfl) mixed Tryz.func214
def moneyB (c:Int):Bool:=decide (1<=c/\c<=8)
noncomputable def env_money (c:Int):Env where
 P:=Tryz.prog
 ty:=tys0
def g_money_vc (c:Int):Prop:=
 (decide ((1:Int)<=c)=true->(decide (c<=(8:Int)),())=(moneyB c,()))/\(decide ((1:Int)<=c)= !true->(false,())=(moneyB c,()))
noncomputable def env_rmoney (c:Int):Env where
 P:=Tryz.prog
 ty:=tys0
def g_rmoney_vc (c:Int):Prop:=
 (decide ((1:Int)<=c)=true->(decide (c<=(8:Int)),())=(moneyB c,()))/\(decide ((1:Int)<=c)= !true->(false,())=(moneyB c,()))
theorem g_money_ok (c:Int):g_money_vc c:=by
 unfold g_money_vc moneyB;simp only [decide_eq_true_eq,decide_eq_false_iff_not,Bool.not_true,Prod.mk.injEq,and_true];refine ⟨fun h=>decide_eq_decide.2 (by omega),fun h=> ?_⟩;rw [decide_eq_false (by omega)]
noncomputable def sp_money:FSpec Tryz.prog:=mkF 213 (.c .j .z) [.bool] (fun x=>(fun (c:Int)=>(True,moneyB c,())) x.1) fun ⟨c,_⟩ _=>Pure.of_cond (E:=env_money c) (by kernel_rfl) (g_money_ok c) (specs_ok rfl [] [] rfl rfl) mixed Tryz.func213
theorem g_rmoney_ok (c:Int):g_rmoney_vc c:=by
 unfold g_rmoney_vc moneyB;simp only [decide_eq_true_eq,decide_eq_false_iff_not,Bool.not_true,Prod.mk.injEq,and_true];refine ⟨fun h=>decide_eq_decide.2 (by omega),fun h=> ?_⟩;rw [decide_eq_false (by omega)]
noncomputable def sp_rmoney:FSpec Tryz.prog:=mkF 165 (.c .j .z) [.bool] (fun x=>(fun (c:Int)=>(True,moneyB c,())) x.1) fun ⟨c,_⟩ _=>Pure.of_cond (E:=env_rmoney c) (by kernel_rfl) (g_rmoney_ok c) (specs_ok rfl [] [] rfl rfl) mixed Tryz.func165
def mayR (x:Rt):Int:=
 if¬(moneyB x.1=true/\moneyB x.2.1=true/\x.1≠x.2.1) then 23 else if¬(1<=x.2.2.1/\x.2.2.1<=3) then 25 else if¬(0<=x.2.2.2.1/\x.2.2.2.1<=23) then 22 else ratioF x.2.2.2.2.1 x.2.2.2.2.2
noncomputable def env_may (a b c p n d:Int):Env where
 P:=Tryz.prog
 ty:=tys0
 specs:=specsOf [sp_money,sp_rcheck]
def g_may_vc (a:Int) (b:Int) (c:Int) (p:Int) (n:Int) (d:Int):Prop:=
 True/\((!moneyB a)=false->True/\((!moneyB b)=false->(decide (a=b)=true->((23:Int),())=(mayR (a,b,c,p,n,d),()))/\(decide (a=b)=false->(decide (c<(1:Int))=false->(decide ((3:Int)<c)=true->((25:Int),())=(mayR (a,b,c,p,n,d),()))/\(decide ((3:Int)<c)=false->(decide (p<(0:Int))=false->(decide ((24:Int)<=p)=true->((22:Int),())=(mayR (a,b,c,p,n,d),()))/\(decide ((24:Int)<=p)=false->True/\(ratioF n d,())=(mayR (a,b,c,p,n,d),())))/\(decide (p<(0:Int))= !false->((22:Int),())=(mayR (a,b,c,p,n,d),()))))/\(decide (c<(1:Int))= !false->((25:Int),())=(mayR (a,b,c,p,n,d),()))))/\((!moneyB b)= !false->((23:Int),())=(mayR (a,b,c,p,n,d),())))/\((!moneyB a)= !false->((23:Int),())=(mayR (a,b,c,p,n,d),()))
theorem may_23 {x:Rt} (h: ¬(moneyB x.1=true/\moneyB x.2.1=true/\x.1≠x.2.1)):mayR x=23:=by unfold mayR;rw [if_pos h]
theorem may_25 {x:Rt} (h:moneyB x.1=true/\moneyB x.2.1=true/\x.1≠x.2.1) (k: ¬(1<=x.2.2.1/\x.2.2.1<=3)):mayR x=25:=by unfold mayR;rw [if_neg (fun c=>c h),if_pos k]
theorem may_22 {x:Rt} (h:moneyB x.1=true/\moneyB x.2.1=true/\x.1≠x.2.1) (k:1<=x.2.2.1/\x.2.2.1<=3) (m: ¬(0<=x.2.2.2.1/\x.2.2.2.1<=23)):mayR x=22:=by
 unfold mayR;rw [if_neg (fun c=>c h),if_neg (fun c=>c k),if_pos m]
theorem may_ok {x:Rt} (h:moneyB x.1=true/\moneyB x.2.1=true/\x.1≠x.2.1) (k:1<=x.2.2.1/\x.2.2.1<=3) (m:0<=x.2.2.2.1/\x.2.2.2.1<=23):mayR x=ratioF x.2.2.2.2.1 x.2.2.2.2.2:=by
 unfold mayR;rw [if_neg (fun c=>c h),if_neg (fun c=>c k),if_neg (fun c=>c m)]
theorem g_may_ok (a b c p n d:Int):g_may_vc a b c p n d:=by
 unfold g_may_vc;simp only [decide_eq_true_eq,decide_eq_false_iff_not,Bool.not_eq_true',Bool.not_eq_false',Bool.not_false];refine ⟨trivial,fun h1=>⟨trivial,fun h2=>⟨fun h3=> ?_,fun h3=>⟨fun h4=>⟨fun h5=> ?_,fun h5=>⟨fun h6=>⟨fun h7=> ?_,fun h7=>⟨trivial, ?_⟩⟩,fun h6=> ?_⟩⟩,fun h4=> ?_⟩⟩,fun h2=> ?_⟩,fun h1=> ?_⟩
 ·rw [may_23 (fun k=>k.2.2 h3)]
 ·rw [may_25 ⟨h1,h2,h3⟩ (fun k=>by have:=k.2;dsimp only at this;omega)]
 ·rw [may_22 ⟨h1,h2,h3⟩ (by dsimp only;omega) (fun k=>by have:=k.2;dsimp only at this;omega)]
 ·rw [may_ok ⟨h1,h2,h3⟩ (by dsimp only;omega) (by dsimp only;omega)]
 ·rw [may_22 ⟨h1,h2,h3⟩ (by dsimp only;omega) (fun k=>by have:=k.1;dsimp only at this;omega)]
 ·rw [may_25 ⟨h1,h2,h3⟩ (fun k=>by have:=k.1;dsimp only at this;omega)]
 ·rw [may_23 (fun k=>by have:=k.2.1;dsimp only at this;rw [h2] at this;cases this)]
 ·rw [may_23 (fun k=>by have:=k.1;dsimp only at this;rw [h1] at this;cases this)]
noncomputable def sp_may:FSpec Tryz.prog:=mkF 187 (.c (.g (.c .j (.c .j (.c .j (.c .j (.c .j (.c .j .z))))))) .z) [.int .i64] (fun x=>(fun (a b c p n d:Int)=>(True,mayR (a,b,c,p,n,d),())) x.1.1 x.1.2.1 x.1.2.2.1 x.1.2.2.2.1 x.1.2.2.2.2.1 x.1.2.2.2.2.2.1) fun ⟨⟨a,b,c,p,n,d,_⟩,_⟩ _=>Pure.of_cond (E:=env_may a b c p n d) (by kernel_rfl) (g_may_ok a b c p n d) (specs_ok rfl _ [] rfl rfl) mixed Tryz.func187
noncomputable def env_clone (l:List Rt):Env where
 P:=Tryz.prog
 ty:=tys0
def g_clone_vc (l:List Rt):Prop:=
 ((true=true->l.length=(0:Nat))->([],())=(l,()))/\((false=true->l.length=(0:Nat))->(((0:Nat)+l.length)*(48:Nat)<=(140737488355328:Nat)/\(0:Nat)+l.length<=(4611686018427387904:Nat)/\((0:Nat)<l.length∨(0:Nat)=(0:Nat)))/\(l,())=(l,()))
theorem g_clone_ok (l:List Rt) (h:l.length<=1000000):g_clone_vc l:=by
 unfold g_clone_vc;refine ⟨fun e=> ?_,fun _=>⟨⟨by omega,by omega, .inr rfl⟩,rfl⟩⟩;have:=List.eq_nil_of_length_eq_zero (e rfl);rw [this]
noncomputable def sp_clone:FSpec Tryz.prog:=mkF 74 (.c (.l RTy) .z) [.slc 0 RTy] (fun x=>(fun (l:List Rt)=>(l.length<=1000000,l,())) x.1) fun ⟨l,_⟩ h=>Pure.of_cond (E:=env_clone l) (by kernel_rfl) (g_clone_ok l h) (specs_ok rfl [] [] rfl rfl) mixed Tryz.func74
end Go.Proofs.YtabicbgeoiilmaaGreatDoor.Rts
end
section
namespace Go.Proofs.YtabicbgeoiilmaaGreatDoor.Cur
open Go.Vm
open Rts (moneyB g_rmoney_ok sp_rmoney)
noncomputable def env_money (c:Int):Env where
 P:=Tryz.prog
 ty:=tys0
def g_money_vc (c:Int):Prop:=
 (decide ((1:Int)<=c)=true->(decide (c<=(8:Int)),())=(moneyB c,()))/\(decide ((1:Int)<=c)= !true->(false,())=(moneyB c,()))
theorem g_money_ok (c:Int):g_money_vc c:=by
 unfold g_money_vc moneyB;simp only [decide_eq_true_eq,decide_eq_false_iff_not,Bool.not_true,Prod.mk.injEq,and_true];refine ⟨fun h=>decide_eq_decide.2 (by omega),fun h=> ?_⟩;rw [decide_eq_false (by omega)]
set_option maxRecDepth 20000
noncomputable def sp_money:FSpec Tryz.prog:=mkF 180 (.c .j .z) [.bool] (fun x=>(fun (c:Int)=>(True,moneyB c,())) x.1) fun ⟨c,_⟩ _=>Pure.of_cond (E:=env_money c) (by kernel_rfl) (g_money_ok c) (specs_ok rfl [] [] rfl rfl) mixed Tryz.func180
end Go.Proofs.YtabicbgeoiilmaaGreatDoor.Cur
end
section
namespace Go.Proofs.YtabicbgeoiilmaaGreatDoor.Lck
open Go.Vm
abbrev Lk:=Int×Int
def lastGo (e:Int):List Lk->Int->Int
 |[],o=>o
 |x::r,o=>lastGo e r (if x.1=e then max o x.2 else o)
theorem mm_max (a b:Int):mmI true a b=max a b:=by unfold mmI;simp only [if_true];split<;>omega
def lastF (l:List Lk) (e:Int):Int:=lastGo e l (-1)
theorem last_next {e:Int} {l:List Lk} {i o:Int} {x:Lk} (h0:0<=i) (hx:l[i.toNat]? =some x):lastGo e (l.drop i.toNat) o=lastGo e (l.drop (i+1).toNat) (if x.1=e then max o x.2 else o):=by
 obtain ⟨h1,h2⟩:=List.getElem?_eq_some_iff.1 hx;rw [List.drop_eq_getElem_cons h1,h2,show (i+1).toNat=i.toNat+1 by omega];rfl
theorem last_end {e:Int} {l:List Lk} {i o:Int} (h: ¬i<(l.length:Int)):lastGo e (l.drop i.toNat) o=o:=by
 rw [List.drop_of_length_le (by omega)];rfl
noncomputable def env_last (l:List Lk) (e:Int):Env where
 P:=Tryz.prog
 ty:=tys0
 heads:=fun|3=>some {slots:=[(10, .int .i64),(5, .int .i64)],boxes:=[],inv:=fun _ (x:Int×Int×Unit)=>0<=x.1/\x.1<=l.length/\lastF l e=lastGo e (l.drop x.1.toNat) x.2.1,measure:=fun _ (x:Int×Int×Unit)=>(l.length-x.1).toNat}|_=>none
def g_last_vc (l:List Lk) (e:Int):Prop:=
 (True/\0<=(0:Int)/\0<=(↑l.length:Int)/\lastF l e=lastGo e (List.drop (Int.toNat (0:Int)) l) (-1:Int))/\∀(x:Int×Int×Unit),0<=x.1/\x.1<=(↑l.length:Int)/\lastF l e=lastGo e (List.drop x.1.toNat l) x.2.1->(decide (x.1<(↑l.length:Int))=true->(0<=x.1/\x.1<(↑l.length:Int))/\∀(x_1:Int×Int),l[x.1.toNat]? =some x_1->(decide (x_1.1=e)=true->(-9223372036854775808<=x.1+1/\x.1+1<=9223372036854775807)/\True/\(0<=x.1+1/\x.1+1<=(↑l.length:Int)/\lastF l e=lastGo e (List.drop (x.1+1).toNat l) (mmI true x.2.1 x_1.2))/\((↑l.length:Int)-(x.1+1)).toNat<((↑l.length:Int)-x.1).toNat)/\(decide (x_1.1=e)=false->(-9223372036854775808<=x.1+1/\x.1+1<=9223372036854775807)/\True/\(0<=x.1+1/\x.1+1<=(↑l.length:Int)/\lastF l e=lastGo e (List.drop (x.1+1).toNat l) x.2.1)/\((↑l.length:Int)-(x.1+1)).toNat<((↑l.length:Int)-x.1).toNat))/\(decide (x.1<(↑l.length:Int))=false->(x.2.1,())=(lastF l e,()))
theorem g_last_ok (l:List Lk) (e:Int) (h:l.length<=1000000000):g_last_vc l e:=by
 unfold g_last_vc;simp only [decide_eq_true_eq,decide_eq_false_iff_not];refine ⟨⟨trivial,by omega,by omega,rfl⟩, ?_⟩;rintro ⟨i,o,⟨⟩⟩ ⟨h0,h1,hb⟩;dsimp only at h0 h1 hb⊢;refine ⟨fun c=>⟨⟨h0,c⟩,fun x hx=>⟨fun k=>⟨by omega,trivial,⟨by omega,by omega, ?_⟩,by omega⟩,fun k=>⟨by omega,trivial,⟨by omega,by omega, ?_⟩,by omega⟩⟩⟩,fun c=> ?_⟩
 ·rw [hb,last_next h0 hx,if_pos k,mm_max]
 ·rw [hb,last_next h0 hx,if_neg k]
 ·rw [hb,last_end c]
set_option maxRecDepth 20000
noncomputable def sp_last:FSpec Tryz.prog:=mkF 227 (.c (.l Vl) (.c .j .z)) [.int .i64] (fun x=>(fun (l:List Lk) (e:Int)=>(l.length<=1000000000,lastF l e,())) x.1 x.2.1) fun ⟨l,e,_⟩ h=>Pure.of_cond (E:=env_last l e) (by kernel_rfl) (g_last_ok l e h) (specs_ok rfl [] [] rfl rfl) mixed Tryz.func227
def lkP (l:List Lk) (p e:Int):Bool:=decide (p<=lastF l e)
noncomputable def env_lk1 (l:List Lk) (p e:Int):Env where
 P:=Tryz.prog
 ty:=tys0
 specs:=specsOf [sp_last]
 frz:=fun|8=>true|_=>false
def g_lk1_vc (l:List Lk) (p:Int) (e:Int):Prop:=
 l.length<=(1000000000:Nat)/\(decide (p<=lastF l e),())=(lkP l p e,())
theorem g_lk1_ok (l:List Lk) (p e:Int) (h:l.length<=1000000000):g_lk1_vc l p e:=by
 unfold g_lk1_vc;exact ⟨h,rfl⟩
noncomputable def sp_lk1:FSpec Tryz.prog:=mkF 226 (.c .j (.c (.f (.c .j .z)) (.c (.f (.c (.l Vl) .z)) .z))) [.bool] (fun x=>(fun (l:List Lk) (p e:Int)=>(l.length<=1000000000,lkP l p e,())) x.2.2.1.1 x.2.1.1 x.1) fun ⟨e,⟨p,_⟩,⟨l,_⟩,_⟩ h=>Pure.of_cond (E:=env_lk1 l p e) (by kernel_rfl) (g_lk1_ok l p e h) (specs_ok rfl _ [] rfl rfl) mixed Tryz.func226
noncomputable def env_idx (xs:List Int) (l:List Lk) (p:Int):Env where
 P:=Tryz.prog
 ty:=tys0
 specs:=specsOf [sp_lk1]
 heads:=fun|2=>some {slots:=[(8, .int .i64)],boxes:=[],inv:=fun _ (x:Int×Unit)=>0<=x.1/\x.1<=xs.length/\idxF (lkP l p) xs=idxGo (lkP l p) (xs.drop x.1.toNat) x.1,measure:=fun _ (x:Int×Unit)=>(xs.length-x.1).toNat}|_=>none
def g_idx_vc (xs:List Int) (l:List Lk) (p:Int):Prop:=
 (True/\0<=(0:Int)/\0<=(↑xs.length:Int)/\idxF (lkP l p) xs=idxGo (lkP l p) (List.drop (Int.toNat (0:Int)) xs) (0:Int))/\∀(x:Int×Unit),0<=x.1/\x.1<=(↑xs.length:Int)/\idxF (lkP l p) xs=idxGo (lkP l p) (List.drop x.1.toNat xs) x.1->(decide (x.1<(↑xs.length:Int))=true->(0<=x.1/\x.1<(↑xs.length:Int))/\∀(x_1:Int),xs[x.1.toNat]? =some x_1->l.length<=(1000000000:Nat)/\(lkP l p x_1=true->(x.1,())=(idxF (lkP l p) xs,()))/\(lkP l p x_1=false->(-9223372036854775808<=x.1+1/\x.1+1<=9223372036854775807)/\True/\(0<=x.1+1/\x.1+1<=(↑xs.length:Int)/\idxF (lkP l p) xs=idxGo (lkP l p) (List.drop (x.1+1).toNat xs) (x.1+1))/\((↑xs.length:Int)-(x.1+1)).toNat<((↑xs.length:Int)-x.1).toNat))/\(decide (x.1<(↑xs.length:Int))=false->((-1:Int),())=(idxF (lkP l p) xs,()))
theorem g_idx_ok (xs:List Int) (l:List Lk) (p:Int) (h:xs.length<=1000000000/\l.length<=1000000000):g_idx_vc xs l p:=by
 unfold g_idx_vc;simp only [decide_eq_true_eq,decide_eq_false_iff_not];obtain ⟨ha,hl⟩:=h;refine ⟨⟨trivial,by omega,by omega,rfl⟩, ?_⟩;rintro ⟨i,⟨⟩⟩ ⟨h0,h1,hb⟩;dsimp only at h0 h1 hb⊢;rw [hb];refine ⟨fun c=>⟨⟨h0,c⟩,fun x hx=>⟨hl,fun k=> ?_,fun k=>⟨by omega,trivial,⟨by omega,by omega, ?_⟩,by omega⟩⟩⟩,fun c=> ?_⟩
 ·rw [idx_hit h0 hx k]
 ·rw [idx_miss h0 hx k]
 ·rw [idx_end c]
noncomputable def sp_idx:FSpec Tryz.prog:=mkF 243 (.c (.l I) (.c (.n 226 .z (.c (.f (.c .j .z)) (.c (.f (.c (.l Vl) .z)) .z))) .z)) [.int .i64] (fun x=>(fun (xs:List Int) (l:List Lk) (p:Int)=>(xs.length<=1000000000/\l.length<=1000000000,idxF (lkP l p) xs,())) x.1 x.2.1.2.2.1.1 x.2.1.2.1.1) fun ⟨xs,⟨_,⟨⟨p,_⟩,⟨l,_⟩,_⟩⟩,_⟩ h=>Pure.of_cond (E:=env_idx xs l p) (by kernel_rfl) (g_idx_ok xs l p h) (specs_ok rfl _ [] rfl rfl) mixed Tryz.func243
noncomputable def env_cont (xs:List Int) (l:List Lk) (p:Int):Env where
 P:=Tryz.prog
 ty:=tys0
 specs:=specsOf [sp_idx]
def g_cont_vc (xs:List Int) (l:List Lk) (p:Int):Prop:=
 (xs.length<=(1000000000:Nat)/\l.length<=(1000000000:Nat))/\(decide (0<=idxF (lkP l p) xs),())=(xs.any (lkP l p),())
theorem g_cont_ok (xs:List Int) (l:List Lk) (p:Int) (h:xs.length<=1000000000/\l.length<=1000000000):g_cont_vc xs l p:=by
 unfold g_cont_vc;exact ⟨h,by rw [idx_any]⟩
noncomputable def sp_cont:FSpec Tryz.prog:=mkF 225 (.c (.l I) (.c (.n 226 .z (.c (.f (.c .j .z)) (.c (.f (.c (.l Vl) .z)) .z))) .z)) [.bool] (fun x=>(fun (xs:List Int) (l:List Lk) (p:Int)=>(xs.length<=1000000000/\l.length<=1000000000,xs.any (lkP l p),())) x.1 x.2.1.2.2.1.1 x.2.1.2.1.1) fun ⟨xs,⟨_,⟨⟨p,_⟩,⟨l,_⟩,_⟩⟩,_⟩ h=>Pure.of_cond (E:=env_cont xs l p) (by kernel_rfl) (g_cont_ok xs l p h) (specs_ok rfl _ [] rfl rfl) mixed Tryz.func225
noncomputable def env_locked (l:List Lk) (p:Int) (xs:List Int):Env where
 P:=Tryz.prog
 ty:=tys0
 specs:=specsOf [sp_cont]
def g_locked_vc (l:List Lk) (p:Int) (xs:List Int):Prop:=
 (xs.length<=(1000000000:Nat)/\l.length<=(1000000000:Nat))/\(xs.any (lkP l p),())=(xs.any (lkP l p),())
theorem g_locked_ok (l:List Lk) (p:Int) (xs:List Int) (h:xs.length<=1000000000/\l.length<=1000000000):g_locked_vc l p xs:=by
 unfold g_locked_vc;exact ⟨h,rfl⟩
noncomputable def sp_locked:FSpec Tryz.prog:=mkF 195 (.c (.l Vl) (.c .j (.c (.l I) .z))) [.bool] (fun x=>(fun (l:List Lk) (p:Int) (xs:List Int)=>(xs.length<=1000000000/\l.length<=1000000000,xs.any (lkP l p),())) x.1 x.2.1 x.2.2.1) fun ⟨l,p,xs,_⟩ h=>Pure.of_cond (E:=env_locked l p xs) (by kernel_rfl) (g_locked_ok l p xs h) (specs_ok rfl _ [] rfl rfl) mixed Tryz.func195
def mayF (l:List Lk) (a b n:Int):Int:=if a<1∨n<a then 20 else if b<0∨23<b then 22 else if [a].any (lkP l b) then 35 else 0
noncomputable def env_may (l:List Lk) (a b n:Int):Env where
 P:=Tryz.prog
 ty:=tys0
 specs:=specsOf [sp_locked]
def g_may_vc (l:List Lk) (a:Int) (b:Int) (n:Int):Prop:=
 (decide (a<(1:Int))=false->(decide (n<a)=true->((20:Int),())=(mayF l a b n,()))/\(decide (n<a)=false->(decide (b<(0:Int))=false->(decide ((24:Int)<=b)=true->((22:Int),())=(mayF l a b n,()))/\(decide ((24:Int)<=b)=false->((1:Nat)<=(1000000000:Nat)/\l.length<=(1000000000:Nat))/\([a].any (lkP l b)=true->((35:Int),())=(mayF l a b n,()))/\([a].any (lkP l b)=false->((0:Int),())=(mayF l a b n,()))))/\(decide (b<(0:Int))= !false->((22:Int),())=(mayF l a b n,()))))/\(decide (a<(1:Int))= !false->((20:Int),())=(mayF l a b n,()))
theorem g_may_ok (l:List Lk) (a b n:Int) (h:l.length<=1000000000):g_may_vc l a b n:=by
 unfold g_may_vc mayF;simp only [decide_eq_true_eq,decide_eq_false_iff_not];repeat' (first|with_reducible apply And.intro|intro _)
 all_goals (try congr 1)
 all_goals repeat' split
 all_goals first|rfl|omega|(simp_all;done)|(simp_all;omega)
noncomputable def sp_may:FSpec Tryz.prog:=mkF 189 (.c (.l Vl) (.c (.g (.c .j (.c .j .z))) (.c .j .z))) [.int .i64] (fun x=>(fun (l:List Lk) (a b n:Int)=>(l.length<=1000000000,mayF l a b n,())) x.1 x.2.1.1 x.2.1.2.1 x.2.2.1) fun ⟨l,⟨a,b,_⟩,n,_⟩ h=>Pure.of_cond (E:=env_may l a b n) (by kernel_rfl) (g_may_ok l a b n h) (specs_ok rfl _ [] rfl rfl) mixed Tryz.func189
end Go.Proofs.YtabicbgeoiilmaaGreatDoor.Lck
end
