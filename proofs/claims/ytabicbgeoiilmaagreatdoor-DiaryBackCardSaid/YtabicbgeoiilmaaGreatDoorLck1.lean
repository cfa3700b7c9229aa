/-
  lock: whether locks may be, and whether they are the same.
-/
import Derived.Test.YtabicbgeoiilmaaGreatDoorSeat
import Derived.Test.YtabicbgeoiilmaaGreatDoorIdx
set_option linter.unusedVariables false
section
namespace Go.Proofs.YtabicbgeoiilmaaGreatDoor.Acc
open Go.Vm
abbrev AcD:=Int×Int×Bool×Bool
def isIn (l:List AcD) (a:Int):Prop:=1<=a/\a<=l.length
instance (l:List AcD) (a:Int):Decidable (isIn l a):=by unfold isIn;infer_instance
def parA (l:List AcD) (a:Int):Int:=((l[(a-1).toNat]?).map (·.1)).getD 0
theorem parA_at {l:List AcD} {a:Int} {x:AcD} (h:l[(a-1).toNat]? =some x):parA l a=x.1:=by unfold parA;rw [h];rfl
def upGo (l:List AcD) (a:Int):Nat->Int->List Int->List Int
 |0,_,out=>out
 |n+1,p,out=>if isIn l p/\p≠a/\p∉out then upGo l a n (parA l p) (out++[p]) else out
def upF (l:List AcD) (a:Int):List Int:=if isIn l a then upGo l a (l.length+1) (parA l a) [] else []
theorem nodup_le: ∀(n:Nat) (out:List Int),out.Nodup->(∀x∈out,1<=x/\x<=n)->out.length<=n
 |0,out,_,hb=>by
  cases out with
  |nil=>simp
  |cons x r=>have:=hb x (by simp);omega
 |n+1,out,hd,hb=>by
  by_cases h:((n+1:Nat):Int)∈out
  ·have h1:=nodup_le n (out.erase ((n+1:Nat):Int)) (hd.erase _) (fun x hx=>by
    have h2:=hb x (List.mem_of_mem_erase hx);have h3:x≠((n+1:Nat):Int):=((hd.mem_erase_iff).1 hx).1;omega)
   rw [List.length_erase_of_mem h] at h1;omega
  ·have:=nodup_le n out hd (fun x hx=>by
    have h2:=hb x hx;have h3:x≠((n+1:Nat):Int):=fun e=>h (e▸hx);omega)
   omega
def it (l:List AcD) (a:Int):Nat->Int
 |0=>a
 |k+1=>parA l (it l a k)
def its (l:List AcD) (a:Int) (m:Nat):List Int:=(List.range m).map fun i=>it l a (i+1)
theorem its_succ (l:List AcD) (a:Int) (m:Nat):its l a (m+1)=its l a m++[it l a (m+1)]:=by
 unfold its;rw [List.range_succ,List.map_append];rfl
structure Way (l:List AcD) (a:Int) (m:Nat):Prop where
 dup:(its l a m).Nodup
 inn: ∀x∈its l a m,isIn l x/\x≠a
theorem Way.len {l:List AcD} {a:Int} {m:Nat} (h:Way l a m) (ha:isIn l a):m+1<=l.length:=by
 have h1:(a::its l a m).Nodup:=List.nodup_cons.2 ⟨fun k=>(h.inn a k).2 rfl,h.dup⟩;have h2:=nodup_le l.length (a::its l a m) h1 (fun x hx=>by
  rcases List.mem_cons.1 hx with rfl|hx
  ·exact ha
  ·exact (h.inn x hx).1)
 simp [its] at h2;omega
theorem Way.next {l:List AcD} {a:Int} {m:Nat} (h:Way l a m) (h1:isIn l (it l a (m+1))) (h2:it l a (m+1)≠a) (h3:it l a (m+1)∉its l a m):Way l a (m+1):=by
 refine ⟨?_,fun x hx=> ?_⟩
 ·rw [its_succ];exact List.nodup_append.2 ⟨h.dup,by simp,fun x hx y hy=>by
   rw [List.mem_singleton.1 hy];exact fun e=>h3 (e▸hx)⟩
 ·rw [its_succ,List.mem_append,List.mem_singleton] at hx;rcases hx with hx|rfl
  ·exact h.inn x hx
  ·exact ⟨h1,h2⟩
theorem Way.zero (l:List AcD) (a:Int):Way l a 0:=⟨by simp [its],fun x hx=>by simp [its] at hx⟩
theorem up_way {l:List AcD} {a:Int} (ha:isIn l a): ∀(n m:Nat),l.length<=m+n->Way l a m->
 ∃k,upGo l a (n+1) (it l a (m+1)) (its l a m)=its l a k/\Way l a k/\¬(isIn l (it l a (k+1))/\it l a (k+1)≠a/\it l a (k+1)∉its l a k)
 |0,m,hn,hw=>by
  have:=hw.len ha;omega
 |n+1,m,hn,hw=>by
  rw [upGo];by_cases c:isIn l (it l a (m+1))/\it l a (m+1)≠a/\it l a (m+1)∉its l a m
  ·rw [if_pos c,<-its_succ];exact up_way ha n (m+1) (by omega) (hw.next c.1 c.2.1 c.2.2)
  ·rw [if_neg c];exact ⟨m,rfl,hw,c⟩
theorem up_its {l:List AcD} {a:Int} (ha:isIn l a): ∃k,upF l a=its l a k/\Way l a k/\¬(isIn l (it l a (k+1))/\it l a (k+1)≠a/\it l a (k+1)∉its l a k):=by
 unfold upF;rw [if_pos ha];exact up_way ha l.length 0 (by omega) (.zero l a)
end Go.Proofs.YtabicbgeoiilmaaGreatDoor.Acc
end
section
namespace Go.Proofs.YtabicbgeoiilmaaGreatDoor.Acc
open Go.Vm
noncomputable def env_is (l:List AcD) (a:Int):Env where
 P:=Tryz.prog
 ty:=tys0
def g_is_vc (l:List AcD) (a:Int):Prop:=
 (decide ((1:Int)<=a)=true->(decide (a<=(↑l.length:Int)),())=(decide (isIn l a),()))/\(decide ((1:Int)<=a)= !true->(false,())=(decide (isIn l a),()))
theorem g_is_eq (l:List AcD) (a:Int):Cond (env_is l a) Tryz.f184 [.list .tmp AcT l, .int .i64 a] [.bool] (decide (isIn l a),())=g_is_vc l a:=by kernel_rfl
theorem g_is_ok (l:List AcD) (a:Int):g_is_vc l a:=by
 unfold g_is_vc;simp only [decide_eq_true_eq,decide_eq_false_iff_not,Bool.not_true,Prod.mk.injEq,and_true];refine ⟨fun h=>decide_eq_decide.2 ⟨fun k=>⟨h,k⟩,fun k=>k.2⟩,fun h=> ?_⟩;rw [decide_eq_false (fun k:isIn l a=>h k.1)]
set_option maxRecDepth 20000
theorem is_pure (l:List AcD) (a:Int):Pure Tryz.prog 184 [.list .tmp AcT l, .int .i64 a] (.bool (decide (isIn l a))):=
 by have k:=Pure.of_cond (g_is_eq l a) (g_is_ok l a) (specs_ok rfl [] [] rfl rfl) mixed Tryz.func184;exact k
noncomputable def q_is (l:List AcD) (a:Int):Prop×V:=(True,(.bool (decide (isIn l a))))
noncomputable def sp_is:FSpec Tryz.prog where
 f:=184
 run:=fun
  |[v0, .int .i64 a]=>(asL AcT v0:Option (List AcD)).bind fun l=>some (q_is l a)
  |_=>none
 ok:=fun args pre r h hp=>by
  split at h
  ·rename_i v0 a;obtain ⟨l,h0,h⟩:=Option.bind_eq_some_iff.1 h;exact of_q h hp fun h=>(is_pure l a).weak (.cons (asL_weak h0) (.cons (.refl _) .nil))
  ·cases h
def placeF (p n:Int):Int:=if p<0∨n<p then 21 else if 1<=p/\p<=3 then 28 else 0
def kindF (k:Int) (s q:Bool):Int:=if k<1∨3<k∨(s=true/\q=true) then 25 else 0
def mayA (x:AcD) (n:Int):Int:=if placeF x.1 n=0 then kindF x.2.1 x.2.2.1 x.2.2.2 else placeF x.1 n
noncomputable def env_place (p n:Int):Env where
 P:=Tryz.prog
 ty:=tys0
def g_place_vc (p:Int) (n:Int):Prop:=
 (decide (p<(0:Int))=false->(decide (n<p)=true->((21:Int),())=(placeF p n,()))/\(decide (n<p)=false->(decide ((1:Int)<=p)=true->(decide (p<=(3:Int))=true->((28:Int),())=(placeF p n,()))/\(decide (p<=(3:Int))=false->((0:Int),())=(placeF p n,())))/\(decide ((1:Int)<=p)= !true->((0:Int),())=(placeF p n,()))))/\(decide (p<(0:Int))= !false->((21:Int),())=(placeF p n,()))
theorem g_place_eq (p n:Int):Cond (env_place p n) Tryz.f181 [.int .i64 p, .int .i64 n] [.int .i64] (placeF p n,())=g_place_vc p n:=by kernel_rfl
theorem g_place_ok (p n:Int):g_place_vc p n:=by
 unfold g_place_vc placeF;simp only [decide_eq_true_eq,decide_eq_false_iff_not,Bool.not_false,Bool.not_true];repeat' (first|with_reducible apply And.intro|intro _)
 all_goals (try congr 1)
 all_goals repeat' split
 all_goals first|rfl|omega|(simp_all;done)|(simp_all;omega)
theorem place_pure (p n:Int):Pure Tryz.prog 181 [.int .i64 p, .int .i64 n] (.int .i64 (placeF p n)):=
 by have k:=Pure.of_cond (g_place_eq p n) (g_place_ok p n) (specs_ok rfl [] [] rfl rfl) mixed Tryz.func181;exact k
noncomputable def q_place (p n:Int):Prop×V:=(True,(.int .i64 (placeF p n)))
noncomputable def sp_place:FSpec Tryz.prog where
 f:=181
 run:=fun
  |[.int .i64 p, .int .i64 n]=>some (q_place p n)
  |_=>none
 ok:=fun args pre r h hp=>by
  split at h
  ·rename_i p n;exact of_q h hp fun h=>(place_pure p n).weak (.cons (.refl _) (.cons (.refl _) .nil))
  ·cases h
noncomputable def env_kind (a k:Int) (s q:Bool):Env where
 P:=Tryz.prog
 ty:=tys0
def g_kind_vc (a:Int) (k:Int) (s:Bool) (q:Bool):Prop:=
 (decide (k<(1:Int))=false->(decide ((3:Int)<k)=false->(s=true->(q=true->((25:Int),())=(kindF k s q,()))/\(q=false->((0:Int),())=(kindF k s q,())))/\(s= !true->((0:Int),())=(kindF k s q,())))/\(decide ((3:Int)<k)= !false->((25:Int),())=(kindF k s q,())))/\(decide (k<(1:Int))= !false->((25:Int),())=(kindF k s q,()))
theorem g_kind_eq (a k:Int) (s q:Bool):Cond (env_kind a k s q) Tryz.f182 [.agg [.int .i64 a, .int .i64 k, .bool s, .bool q]] [.int .i64] (kindF k s q,())=g_kind_vc a k s q:=by kernel_rfl
theorem g_kind_ok (a k:Int) (s q:Bool):g_kind_vc a k s q:=by
 unfold g_kind_vc kindF;simp only [decide_eq_true_eq,decide_eq_false_iff_not,Bool.not_false,Bool.not_true];repeat' (first|with_reducible apply And.intro|intro _)
 all_goals (try congr 1)
 all_goals repeat' split
 all_goals first|rfl|omega|(simp_all;done)|(simp_all;omega)
theorem kind_pure (a k:Int) (s q:Bool):Pure Tryz.prog 182 [.agg [.int .i64 a, .int .i64 k, .bool s, .bool q]] (.int .i64 (kindF k s q)):=
 by have k:=Pure.of_cond (g_kind_eq a k s q) (g_kind_ok a k s q) (specs_ok rfl [] [] rfl rfl) mixed Tryz.func182;exact k
noncomputable def q_kind (a k:Int) (s q:Bool):Prop×V:=(True,(.int .i64 (kindF k s q)))
noncomputable def sp_kind:FSpec Tryz.prog where
 f:=182
 run:=fun
  |[.agg [.int .i64 a, .int .i64 k,v0_2,v0_3]]=>(boolOf v0_2).bind fun s=>(boolOf v0_3).bind fun q=>some (q_kind a k s q)
  |_=>none
 ok:=fun args pre r h hp=>by
  split at h
  ·rename_i a k v0_2 v0_3;obtain ⟨s,h0_2,h⟩:=Option.bind_eq_some_iff.1 h;obtain ⟨q,h0_3,h⟩:=Option.bind_eq_some_iff.1 h;exact of_q h hp fun h=>(kind_pure a k s q).weak (.cons (Weak.agg (.cons (.refl _) (.cons (.refl _) (.cons (boolOf_weak h0_2) (.cons (boolOf_weak h0_3) .nil))))) .nil)
  ·cases h
abbrev ownL:List AcD:=[(0,1,true,false),(0,1,false,false),(0,1,false,false)]
noncomputable def env_new:Env where
 P:=Tryz.prog
 ty:=tys0
def g_new_vc:Prop:=
 ([((0:Int),(1:Int),true,false),((0:Int),(1:Int),false,false),((0:Int),(1:Int),false,false)],())=(ownL,())
theorem g_new_eq:Cond (env_new) Tryz.f44 [] [.list .full AcT] (ownL,())=g_new_vc:=by kernel_rfl
theorem g_new_ok:g_new_vc:=rfl
theorem new_pure:Pure Tryz.prog 44 [] (.list .full AcT ownL):=
 by have k:=Pure.of_cond (g_new_eq) (g_new_ok) (specs_ok rfl [] [] rfl rfl) mixed Tryz.func44;exact k
noncomputable def q_new:Prop×V:=(True,(.list .full AcT ownL))
noncomputable def sp_new:FSpec Tryz.prog where
 f:=44
 run:=fun
  |[]=>some (q_new)
  |_=>none
 ok:=fun args pre r h hp=>by
  split at h
  ·skip;exact of_q h hp fun h=>(new_pure).weak .nil
  ·cases h
def upLf (a:Int) (x:AcD):Bool:=decide (x.1=a)
noncomputable def env_lf1 (p k:Int) (s q:Bool) (a:Int):Env where
 P:=Tryz.prog
 ty:=tys0
def g_lf1_vc (p:Int) (k:Int) (s:Bool) (q:Bool) (a:Int):Prop:=
 (decide (p=a),())=(upLf a (p,k,s,q),())
theorem g_lf1_eq (p k:Int) (s q:Bool) (a:Int):Cond (env_lf1 p k s q a) Tryz.f224 [.agg [.int .i64 p, .int .i64 k, .bool s, .bool q], .fptr [.int .i64 a]] [.bool] (upLf a (p,k,s,q),())=g_lf1_vc p k s q a:=by kernel_rfl
theorem g_lf1_ok (p k:Int) (s q:Bool) (a:Int):g_lf1_vc p k s q a:=by
 unfold g_lf1_vc;exact rfl
theorem lf1_pure (p k:Int) (s q:Bool) (a:Int):Pure Tryz.prog 224 [.agg [.int .i64 p, .int .i64 k, .bool s, .bool q], .fptr [.int .i64 a]] (.bool (upLf a (p,k,s,q))):=
 by have k:=Pure.of_cond (g_lf1_eq p k s q a) (g_lf1_ok p k s q a) (specs_ok rfl [] [] rfl rfl) mixed Tryz.func224;exact k
noncomputable def q_lf1 (p k:Int) (s q:Bool) (a:Int):Prop×V:=(True,(.bool (upLf a (p,k,s,q))))
noncomputable def sp_lf1:FSpec Tryz.prog where
 f:=224
 run:=fun
  |[.agg [.int .i64 p, .int .i64 k,v0_2,v0_3], .fptr [.int .i64 a]]=>(boolOf v0_2).bind fun s=>(boolOf v0_3).bind fun q=>some (q_lf1 p k s q a)
  |_=>none
 ok:=fun args pre r h hp=>by
  split at h
  ·rename_i p k v0_2 v0_3 a;obtain ⟨s,h0_2,h⟩:=Option.bind_eq_some_iff.1 h;obtain ⟨q,h0_3,h⟩:=Option.bind_eq_some_iff.1 h;exact of_q h hp fun h=>(lf1_pure p k s q a).weak (.cons (Weak.agg (.cons (.refl _) (.cons (.refl _) (.cons (boolOf_weak h0_2) (.cons (boolOf_weak h0_3) .nil))))) (.cons (.refl _) .nil))
  ·cases h
noncomputable def env_lidx (l:List AcD) (a:Int):Env where
 P:=Tryz.prog
 ty:=tys0
 specs:=specsOf [sp_lf1]
 heads:=fun|2=>some {slots:=[(8, .int .i64)],boxes:=[],inv:=fun _ (x:Int×Unit)=>0<=x.1/\x.1<=l.length/\idxF (upLf a) l=idxGo (upLf a) (l.drop x.1.toNat) x.1,measure:=fun _ (x:Int×Unit)=>(l.length-x.1).toNat}|_=>none
def g_lidx_vc (l:List AcD) (a:Int):Prop:=
 (True/\0<=(0:Int)/\0<=(↑l.length:Int)/\idxF (upLf a) l=idxGo (upLf a) (List.drop (Int.toNat (0:Int)) l) (0:Int))/\∀(x:Int×Unit),0<=x.1/\x.1<=(↑l.length:Int)/\idxF (upLf a) l=idxGo (upLf a) (List.drop x.1.toNat l) x.1->(decide (x.1<(↑l.length:Int))=true->(0<=x.1/\x.1<(↑l.length:Int))/\∀(x_1:Int×Int×Bool×Bool),l[x.1.toNat]? =some x_1->True/\(upLf a (x_1.1,x_1.2.1,x_1.2.2.1,x_1.2.2.2)=true->(x.1,())=(idxF (upLf a) l,()))/\(upLf a (x_1.1,x_1.2.1,x_1.2.2.1,x_1.2.2.2)=false->(-9223372036854775808<=x.1+1/\x.1+1<=9223372036854775807)/\True/\(0<=x.1+1/\x.1+1<=(↑l.length:Int)/\idxF (upLf a) l=idxGo (upLf a) (List.drop (x.1+1).toNat l) (x.1+1))/\((↑l.length:Int)-(x.1+1)).toNat<((↑l.length:Int)-x.1).toNat))/\(decide (x.1<(↑l.length:Int))=false->((-1:Int),())=(idxF (upLf a) l,()))
theorem g_lidx_eq (l:List AcD) (a:Int):Cond (env_lidx l a) Tryz.f242 [.list .tmp AcT l, .fn (.func 224) [] [.fptr [.int .i64 a]]] [.int .i64] (idxF (upLf a) l,())=g_lidx_vc l a:=by kernel_rfl
theorem g_lidx_ok (l:List AcD) (a:Int) (h:l.length<=1000000000):g_lidx_vc l a:=by
 unfold g_lidx_vc;simp only [decide_eq_true_eq,decide_eq_false_iff_not];refine ⟨⟨trivial,by omega,by omega,rfl⟩, ?_⟩;rintro ⟨i,⟨⟩⟩ ⟨h0,h1,hb⟩;dsimp only at h0 h1 hb⊢;rw [hb];refine ⟨fun c=>⟨⟨h0,c⟩,fun x hx=>⟨trivial,fun k=> ?_,fun k=>⟨by omega,trivial,⟨by omega,by omega, ?_⟩,by omega⟩⟩⟩,fun c=> ?_⟩
 ·rw [idx_hit h0 hx k]
 ·rw [idx_miss h0 hx k]
 ·rw [idx_end c]
theorem lidx_pure (l:List AcD) (a:Int) (h:l.length<=1000000000):Pure Tryz.prog 242 [.list .tmp AcT l, .fn (.func 224) [] [.fptr [.int .i64 a]]] (.int .i64 (idxF (upLf a) l)):=
 by have k:=Pure.of_cond (g_lidx_eq l a) (g_lidx_ok l a h) (specs_ok rfl [sp_lf1] [] rfl rfl) mixed Tryz.func242;exact k
noncomputable def q_lidx (l:List AcD) (a:Int):Prop×V:=(l.length<=1000000000,(.int .i64 (idxF (upLf a) l)))
noncomputable def sp_lidx:FSpec Tryz.prog where
 f:=242
 run:=fun
  |[v0, .fn (.func 224) [] [.fptr [.int .i64 a]]]=>(asL AcT v0:Option (List AcD)).bind fun l=>some (q_lidx l a)
  |_=>none
 ok:=fun args pre r h hp=>by
  split at h
  ·rename_i v0 a;obtain ⟨l,h0,h⟩:=Option.bind_eq_some_iff.1 h;exact of_q h hp fun h=>(lidx_pure l a h).weak (.cons (asL_weak h0) (.cons (.refl _) .nil))
  ·cases h
noncomputable def env_lcont (l:List AcD) (a:Int):Env where
 P:=Tryz.prog
 ty:=tys0
 specs:=specsOf [sp_lidx]
def g_lcont_vc (l:List AcD) (a:Int):Prop:=
 l.length<=(1000000000:Nat)/\(decide (0<=idxF (upLf a) l),())=(l.any (upLf a),())
theorem g_lcont_eq (l:List AcD) (a:Int):Cond (env_lcont l a) Tryz.f223 [.list .tmp AcT l, .fn (.func 224) [] [.fptr [.int .i64 a]]] [.bool] (l.any (upLf a),())=g_lcont_vc l a:=by kernel_rfl
theorem g_lcont_ok (l:List AcD) (a:Int) (h:l.length<=1000000000):g_lcont_vc l a:=by
 unfold g_lcont_vc;exact ⟨h,by rw [idx_any]⟩
theorem lcont_pure (l:List AcD) (a:Int) (h:l.length<=1000000000):Pure Tryz.prog 223 [.list .tmp AcT l, .fn (.func 224) [] [.fptr [.int .i64 a]]] (.bool (l.any (upLf a))):=
 by have k:=Pure.of_cond (g_lcont_eq l a) (g_lcont_ok l a h) (specs_ok rfl [sp_lidx] [] rfl rfl) mixed Tryz.func223;exact k
noncomputable def q_lcont (l:List AcD) (a:Int):Prop×V:=(l.length<=1000000000,(.bool (l.any (upLf a))))
noncomputable def sp_lcont:FSpec Tryz.prog where
 f:=223
 run:=fun
  |[v0, .fn (.func 224) [] [.fptr [.int .i64 a]]]=>(asL AcT v0:Option (List AcD)).bind fun l=>some (q_lcont l a)
  |_=>none
 ok:=fun args pre r h hp=>by
  split at h
  ·rename_i v0 a;obtain ⟨l,h0,h⟩:=Option.bind_eq_some_iff.1 h;exact of_q h hp fun h=>(lcont_pure l a h).weak (.cons (asL_weak h0) (.cons (.refl _) .nil))
  ·cases h
def leafF (l:List AcD) (a:Int):Bool:=decide (isIn l a)&& !l.any (upLf a)
noncomputable def env_leaf (l:List AcD) (a:Int):Env where
 P:=Tryz.prog
 ty:=tys0
 specs:=specsOf [sp_is,sp_lcont]
def g_leaf_vc (l:List AcD) (a:Int):Prop:=
 True/\(decide (isIn l a)=true->l.length<=(1000000000:Nat)/\(!l.any (upLf a),())=(leafF l a,()))/\(decide (isIn l a)= !true->(false,())=(leafF l a,()))
theorem g_leaf_eq (l:List AcD) (a:Int):Cond (env_leaf l a) Tryz.f193 [.list .tmp AcT l, .int .i64 a] [.bool] (leafF l a,())=g_leaf_vc l a:=by kernel_rfl
theorem g_leaf_ok (l:List AcD) (a:Int) (h:l.length<=1000000000):g_leaf_vc l a:=by
 unfold g_leaf_vc leafF;refine ⟨trivial,fun c=>⟨h,by rw [c,Bool.true_and]⟩,fun c=> ?_⟩;rw [show decide (isIn l a)=false by simpa using c,Bool.false_and]
theorem leaf_pure (l:List AcD) (a:Int) (h:l.length<=1000000000):Pure Tryz.prog 193 [.list .tmp AcT l, .int .i64 a] (.bool (leafF l a)):=
 by have k:=Pure.of_cond (g_leaf_eq l a) (g_leaf_ok l a h) (specs_ok rfl [sp_is,sp_lcont] [] rfl rfl) mixed Tryz.func193;exact k
noncomputable def q_leaf (l:List AcD) (a:Int):Prop×V:=(l.length<=1000000000,(.bool (leafF l a)))
noncomputable def sp_leaf:FSpec Tryz.prog where
 f:=193
 run:=fun
  |[v0, .int .i64 a]=>(asL AcT v0:Option (List AcD)).bind fun l=>some (q_leaf l a)
  |_=>none
 ok:=fun args pre r h hp=>by
  split at h
  ·rename_i v0 a;obtain ⟨l,h0,h⟩:=Option.bind_eq_some_iff.1 h;exact of_q h hp fun h=>(leaf_pure l a h).weak (.cons (asL_weak h0) (.cons (.refl _) .nil))
  ·cases h
noncomputable def env_pleaf (l:List AcD) (a:Int):Env where
 P:=Tryz.prog
 ty:=tys0
 specs:=specsOf [sp_leaf]
def g_pleaf_vc (l:List AcD) (a:Int):Prop:=
 l.length<=(1000000000:Nat)/\(leafF l a,())=(leafF l a,())
theorem g_pleaf_eq (l:List AcD) (a:Int):Cond (env_pleaf l a) Tryz.f142 [.list .tmp AcT l, .int .i64 a] [.bool] (leafF l a,())=g_pleaf_vc l a:=by kernel_rfl
theorem g_pleaf_ok (l:List AcD) (a:Int) (h:l.length<=1000000000):g_pleaf_vc l a:=by
 unfold g_pleaf_vc;exact ⟨h,rfl⟩
theorem pleaf_pure (l:List AcD) (a:Int) (h:l.length<=1000000000):Pure Tryz.prog 142 [.list .tmp AcT l, .int .i64 a] (.bool (leafF l a)):=
 by have k:=Pure.of_cond (g_pleaf_eq l a) (g_pleaf_ok l a h) (specs_ok rfl [sp_leaf] [] rfl rfl) mixed Tryz.func142;exact k
noncomputable def q_pleaf (l:List AcD) (a:Int):Prop×V:=(l.length<=1000000000,(.bool (leafF l a)))
noncomputable def sp_pleaf:FSpec Tryz.prog where
 f:=142
 run:=fun
  |[v0, .int .i64 a]=>(asL AcT v0:Option (List AcD)).bind fun l=>some (q_pleaf l a)
  |_=>none
 ok:=fun args pre r h hp=>by
  split at h
  ·rename_i v0 a;obtain ⟨l,h0,h⟩:=Option.bind_eq_some_iff.1 h;exact of_q h hp fun h=>(pleaf_pure l a h).weak (.cons (asL_weak h0) (.cons (.refl _) .nil))
  ·cases h
end Go.Proofs.YtabicbgeoiilmaaGreatDoor.Acc
end
section
namespace Go.Proofs.YtabicbgeoiilmaaGreatDoor.Rts
open Go.Vm
abbrev Rt:=Int×Int×Int×Int×Int×Int
def ratioF (a b:Int):Int:=if 1<=a/\1<=b/\a<=1000000000000/\b<=1000000000000 then 0 else 11
noncomputable def env_rcheck (a b:Int):Env where
 P:=Tryz.prog
 ty:=tys0
def g_rcheck_vc (a:Int) (b:Int):Prop:=
 (decide (mmI false a b<(1:Int))=false->(decide ((1000000000000:Int)<mmI true a b)=true->((11:Int),())=(ratioF a b,()))/\(decide ((1000000000000:Int)<mmI true a b)=false->((0:Int),())=(ratioF a b,())))/\(decide (mmI false a b<(1:Int))= !false->((11:Int),())=(ratioF a b,()))
theorem g_rcheck_eq (a b:Int):Cond (env_rcheck a b) Tryz.f214 [.agg [.int .i64 a, .int .i64 b]] [.int .i64] (ratioF a b,())=g_rcheck_vc a b:=by kernel_rfl
theorem g_rcheck_ok (a b:Int):g_rcheck_vc a b:=by
 unfold g_rcheck_vc ratioF mmI;simp only [decide_eq_true_eq,decide_eq_false_iff_not,if_true,Bool.false_eq_true,if_false,Bool.not_false,Prod.mk.injEq,and_true];refine ⟨fun h1=>⟨fun h2=> ?_,fun h2=> ?_⟩,fun h1=> ?_⟩<;>split<;>omega
set_option maxRecDepth 20000
theorem rcheck_pure (a b:Int):Pure Tryz.prog 214 [.agg [.int .i64 a, .int .i64 b]] (.int .i64 (ratioF a b)):=
 by have k:=Pure.of_cond (g_rcheck_eq a b) (g_rcheck_ok a b) (specs_ok rfl [] [] rfl rfl) mixed Tryz.func214;exact k
noncomputable def q_rcheck (a b:Int):Prop×V:=(True,(.int .i64 (ratioF a b)))
noncomputable def sp_rcheck:FSpec Tryz.prog where
 f:=214
 run:=fun
  |[.agg [.int .i64 a, .int .i64 b]]=>some (q_rcheck a b)
  |_=>none
 ok:=fun args pre r h hp=>by
  split at h
  ·rename_i a b;exact of_q h hp fun h=>(rcheck_pure a b).weak (.cons (.refl _) .nil)
  ·cases h
def moneyB (c:Int):Bool:=decide (1<=c/\c<=8)
noncomputable def env_money (c:Int):Env where
 P:=Tryz.prog
 ty:=tys0
def g_money_vc (c:Int):Prop:=
 (decide ((1:Int)<=c)=true->(decide (c<=(8:Int)),())=(moneyB c,()))/\(decide ((1:Int)<=c)= !true->(false,())=(moneyB c,()))
theorem g_money_eq (c:Int):Cond (env_money c) Tryz.f213 [.int .i64 c] [.bool] (moneyB c,())=g_money_vc c:=by kernel_rfl
noncomputable def env_rmoney (c:Int):Env where
 P:=Tryz.prog
 ty:=tys0
def g_rmoney_vc (c:Int):Prop:=
 (decide ((1:Int)<=c)=true->(decide (c<=(8:Int)),())=(moneyB c,()))/\(decide ((1:Int)<=c)= !true->(false,())=(moneyB c,()))
theorem g_rmoney_eq (c:Int):Cond (env_rmoney c) Tryz.f165 [.int .i64 c] [.bool] (moneyB c,())=g_rmoney_vc c:=by kernel_rfl
theorem g_money_ok (c:Int):g_money_vc c:=by
 unfold g_money_vc moneyB;simp only [decide_eq_true_eq,decide_eq_false_iff_not,Bool.not_true,Prod.mk.injEq,and_true];refine ⟨fun h=>decide_eq_decide.2 (by omega),fun h=> ?_⟩;rw [decide_eq_false (by omega)]
theorem money_pure (c:Int):Pure Tryz.prog 213 [.int .i64 c] (.bool (moneyB c)):=
 by have k:=Pure.of_cond (g_money_eq c) (g_money_ok c) (specs_ok rfl [] [] rfl rfl) mixed Tryz.func213;exact k
noncomputable def q_money (c:Int):Prop×V:=(True,(.bool (moneyB c)))
noncomputable def sp_money:FSpec Tryz.prog where
 f:=213
 run:=fun
  |[.int .i64 c]=>some (q_money c)
  |_=>none
 ok:=fun args pre r h hp=>by
  split at h
  ·rename_i c;exact of_q h hp fun h=>(money_pure c).weak (.cons (.refl _) .nil)
  ·cases h
theorem g_rmoney_ok (c:Int):g_rmoney_vc c:=by
 unfold g_rmoney_vc moneyB;simp only [decide_eq_true_eq,decide_eq_false_iff_not,Bool.not_true,Prod.mk.injEq,and_true];refine ⟨fun h=>decide_eq_decide.2 (by omega),fun h=> ?_⟩;rw [decide_eq_false (by omega)]
theorem rmoney_pure (c:Int):Pure Tryz.prog 165 [.int .i64 c] (.bool (moneyB c)):=
 by have k:=Pure.of_cond (g_rmoney_eq c) (g_rmoney_ok c) (specs_ok rfl [] [] rfl rfl) mixed Tryz.func165;exact k
noncomputable def q_rmoney (c:Int):Prop×V:=(True,(.bool (moneyB c)))
noncomputable def sp_rmoney:FSpec Tryz.prog where
 f:=165
 run:=fun
  |[.int .i64 c]=>some (q_rmoney c)
  |_=>none
 ok:=fun args pre r h hp=>by
  split at h
  ·rename_i c;exact of_q h hp fun h=>(rmoney_pure c).weak (.cons (.refl _) .nil)
  ·cases h
def mayR (x:Rt):Int:=
 if¬(moneyB x.1=true/\moneyB x.2.1=true/\x.1≠x.2.1) then 23 else if¬(1<=x.2.2.1/\x.2.2.1<=3) then 25 else if¬(0<=x.2.2.2.1/\x.2.2.2.1<=23) then 22 else ratioF x.2.2.2.2.1 x.2.2.2.2.2
noncomputable def env_may (a b c p n d:Int):Env where
 P:=Tryz.prog
 ty:=tys0
 specs:=specsOf [sp_money,sp_rcheck]
def g_may_vc (a:Int) (b:Int) (c:Int) (p:Int) (n:Int) (d:Int):Prop:=
 True/\((!moneyB a)=false->True/\((!moneyB b)=false->(decide (a=b)=true->((23:Int),())=(mayR (a,b,c,p,n,d),()))/\(decide (a=b)=false->(decide (c<(1:Int))=false->(decide ((3:Int)<c)=true->((25:Int),())=(mayR (a,b,c,p,n,d),()))/\(decide ((3:Int)<c)=false->(decide (p<(0:Int))=false->(decide ((24:Int)<=p)=true->((22:Int),())=(mayR (a,b,c,p,n,d),()))/\(decide ((24:Int)<=p)=false->True/\(ratioF n d,())=(mayR (a,b,c,p,n,d),())))/\(decide (p<(0:Int))= !false->((22:Int),())=(mayR (a,b,c,p,n,d),()))))/\(decide (c<(1:Int))= !false->((25:Int),())=(mayR (a,b,c,p,n,d),()))))/\((!moneyB b)= !false->((23:Int),())=(mayR (a,b,c,p,n,d),())))/\((!moneyB a)= !false->((23:Int),())=(mayR (a,b,c,p,n,d),()))
theorem g_may_eq (a b c p n d:Int):Cond (env_may a b c p n d) Tryz.f187 [.agg [.int .i64 a, .int .i64 b, .int .i64 c, .int .i64 p, .int .i64 n, .int .i64 d]] [.int .i64] (mayR (a,b,c,p,n,d),())=g_may_vc a b c p n d:=by kernel_rfl
theorem may_23 {x:Rt} (h: ¬(moneyB x.1=true/\moneyB x.2.1=true/\x.1≠x.2.1)):mayR x=23:=by unfold mayR;rw [if_pos h]
theorem may_25 {x:Rt} (h:moneyB x.1=true/\moneyB x.2.1=true/\x.1≠x.2.1) (k: ¬(1<=x.2.2.1/\x.2.2.1<=3)):mayR x=25:=by unfold mayR;rw [if_neg (fun c=>c h),if_pos k]
theorem may_22 {x:Rt} (h:moneyB x.1=true/\moneyB x.2.1=true/\x.1≠x.2.1) (k:1<=x.2.2.1/\x.2.2.1<=3) (m: ¬(0<=x.2.2.2.1/\x.2.2.2.1<=23)):mayR x=22:=by
 unfold mayR;rw [if_neg (fun c=>c h),if_neg (fun c=>c k),if_pos m]
theorem may_ok {x:Rt} (h:moneyB x.1=true/\moneyB x.2.1=true/\x.1≠x.2.1) (k:1<=x.2.2.1/\x.2.2.1<=3) (m:0<=x.2.2.2.1/\x.2.2.2.1<=23):mayR x=ratioF x.2.2.2.2.1 x.2.2.2.2.2:=by
 unfold mayR;rw [if_neg (fun c=>c h),if_neg (fun c=>c k),if_neg (fun c=>c m)]
theorem g_may_ok (a b c p n d:Int):g_may_vc a b c p n d:=by
 unfold g_may_vc;simp only [decide_eq_true_eq,decide_eq_false_iff_not,Bool.not_eq_true',Bool.not_eq_false',Bool.not_false];refine ⟨trivial,fun h1=>⟨trivial,fun h2=>⟨fun h3=> ?_,fun h3=>⟨fun h4=>⟨fun h5=> ?_,fun h5=>⟨fun h6=>⟨fun h7=> ?_,fun h7=>⟨trivial, ?_⟩⟩,fun h6=> ?_⟩⟩,fun h4=> ?_⟩⟩,fun h2=> ?_⟩,fun h1=> ?_⟩
 ·rw [may_23 (fun k=>k.2.2 h3)]
 ·rw [may_25 ⟨h1,h2,h3⟩ (fun k=>by have:=k.2;dsimp only at this;omega)]
 ·rw [may_22 ⟨h1,h2,h3⟩ (by dsimp only;omega) (fun k=>by have:=k.2;dsimp only at this;omega)]
 ·rw [may_ok ⟨h1,h2,h3⟩ (by dsimp only;omega) (by dsimp only;omega)]
 ·rw [may_22 ⟨h1,h2,h3⟩ (by dsimp only;omega) (fun k=>by have:=k.1;dsimp only at this;omega)]
 ·rw [may_25 ⟨h1,h2,h3⟩ (fun k=>by have:=k.1;dsimp only at this;omega)]
 ·rw [may_23 (fun k=>by have:=k.2.1;dsimp only at this;rw [h2] at this;cases this)]
 ·rw [may_23 (fun k=>by have:=k.1;dsimp only at this;rw [h1] at this;cases this)]
theorem may_pure (a b c p n d:Int):Pure Tryz.prog 187 [.agg [.int .i64 a, .int .i64 b, .int .i64 c, .int .i64 p, .int .i64 n, .int .i64 d]] (.int .i64 (mayR (a,b,c,p,n,d))):=
 by have k:=Pure.of_cond (g_may_eq a b c p n d) (g_may_ok a b c p n d) (specs_ok rfl [sp_money,sp_rcheck] [] rfl rfl) mixed Tryz.func187;exact k
noncomputable def q_may (a b c p n d:Int):Prop×V:=(True,(.int .i64 (mayR (a,b,c,p,n,d))))
noncomputable def sp_may:FSpec Tryz.prog where
 f:=187
 run:=fun
  |[.agg [.int .i64 a, .int .i64 b, .int .i64 c, .int .i64 p, .int .i64 n, .int .i64 d]]=>some (q_may a b c p n d)
  |_=>none
 ok:=fun args pre r h hp=>by
  split at h
  ·rename_i a b c p n d;exact of_q h hp fun h=>(may_pure a b c p n d).weak (.cons (.refl _) .nil)
  ·cases h
noncomputable def env_clone (l:List Rt):Env where
 P:=Tryz.prog
 ty:=tys0
def g_clone_vc (l:List Rt):Prop:=
 ((true=true->l.length=(0:Nat))->([],())=(l,()))/\((false=true->l.length=(0:Nat))->(((0:Nat)+l.length)*(48:Nat)<=(140737488355328:Nat)/\(0:Nat)+l.length<=(4611686018427387904:Nat)/\((0:Nat)<l.length∨(0:Nat)=(0:Nat)))/\(l,())=(l,()))
theorem g_clone_eq (l:List Rt):Cond (env_clone l) Tryz.f74 [.list .tmp RTy l] [.slc 0 RTy] (l,())=g_clone_vc l:=by kernel_rfl
theorem g_clone_ok (l:List Rt) (h:l.length<=1000000):g_clone_vc l:=by
 unfold g_clone_vc;refine ⟨fun e=> ?_,fun _=>⟨⟨by omega,by omega, .inr rfl⟩,rfl⟩⟩;have:=List.eq_nil_of_length_eq_zero (e rfl);rw [this]
theorem clone_pure (l:List Rt) (h:l.length<=1000000):Pure Tryz.prog 74 [.list .tmp RTy l] (.olist RTy l):=
 by have k:=Pure.of_cond (g_clone_eq l) (g_clone_ok l h) (specs_ok rfl [] [] rfl rfl) mixed Tryz.func74;exact k
noncomputable def q_clone (l:List Rt):Prop×V:=(l.length<=1000000,(.olist RTy l))
noncomputable def sp_clone:FSpec Tryz.prog where
 f:=74
 run:=fun
  |[v0]=>(asL RTy v0:Option (List Rt)).bind fun l=>some (q_clone l)
  |_=>none
 ok:=fun args pre r h hp=>by
  split at h
  ·rename_i v0;obtain ⟨l,h0,h⟩:=Option.bind_eq_some_iff.1 h;exact of_q h hp fun h=>(clone_pure l h).weak (.cons (asL_weak h0) .nil)
  ·cases h
end Go.Proofs.YtabicbgeoiilmaaGreatDoor.Rts
end
section
namespace Go.Proofs.YtabicbgeoiilmaaGreatDoor.Cur
open Go.Vm
open Rts (moneyB g_rmoney_ok sp_rmoney)
noncomputable def env_money (c:Int):Env where
 P:=Tryz.prog
 ty:=tys0
def g_money_vc (c:Int):Prop:=
 (decide ((1:Int)<=c)=true->(decide (c<=(8:Int)),())=(moneyB c,()))/\(decide ((1:Int)<=c)= !true->(false,())=(moneyB c,()))
theorem g_money_eq (c:Int):Cond (env_money c) Tryz.f180 [.int .i64 c] [.bool] (moneyB c,())=g_money_vc c:=by kernel_rfl
theorem g_money_ok (c:Int):g_money_vc c:=by
 unfold g_money_vc moneyB;simp only [decide_eq_true_eq,decide_eq_false_iff_not,Bool.not_true,Prod.mk.injEq,and_true];refine ⟨fun h=>decide_eq_decide.2 (by omega),fun h=> ?_⟩;rw [decide_eq_false (by omega)]
set_option maxRecDepth 20000
theorem money_pure (c:Int):Pure Tryz.prog 180 [.int .i64 c] (.bool (moneyB c)):=
 by have k:=Pure.of_cond (g_money_eq c) (g_money_ok c) (specs_ok rfl [] [] rfl rfl) mixed Tryz.func180;exact k
noncomputable def q_money (c:Int):Prop×V:=(True,(.bool (moneyB c)))
noncomputable def sp_money:FSpec Tryz.prog where
 f:=180
 run:=fun
  |[.int .i64 c]=>some (q_money c)
  |_=>none
 ok:=fun args pre r h hp=>by
  split at h
  ·rename_i c;exact of_q h hp fun h=>(money_pure c).weak (.cons (.refl _) .nil)
  ·cases h
end Go.Proofs.YtabicbgeoiilmaaGreatDoor.Cur
end
section
namespace Go.Proofs.YtabicbgeoiilmaaGreatDoor.Lck
open Go.Vm
abbrev Lk:=Int×Int
def lastGo (e:Int):List Lk->Int->Int
 |[],o=>o
 |x::r,o=>lastGo e r (if x.1=e then max o x.2 else o)
theorem mm_max (a b:Int):mmI true a b=max a b:=by unfold mmI;simp only [if_true];split<;>omega
def lastF (l:List Lk) (e:Int):Int:=lastGo e l (-1)
theorem last_next {e:Int} {l:List Lk} {i o:Int} {x:Lk} (h0:0<=i) (hx:l[i.toNat]? =some x):lastGo e (l.drop i.toNat) o=lastGo e (l.drop (i+1).toNat) (if x.1=e then max o x.2 else o):=by
 obtain ⟨h1,h2⟩:=List.getElem?_eq_some_iff.1 hx;rw [List.drop_eq_getElem_cons h1,h2,show (i+1).toNat=i.toNat+1 by omega];rfl
theorem last_end {e:Int} {l:List Lk} {i o:Int} (h: ¬i<(l.length:Int)):lastGo e (l.drop i.toNat) o=o:=by
 rw [List.drop_of_length_le (by omega)];rfl
noncomputable def env_last (l:List Lk) (e:Int):Env where
 P:=Tryz.prog
 ty:=tys0
 heads:=fun|3=>some {slots:=[(10, .int .i64),(5, .int .i64)],boxes:=[],inv:=fun _ (x:Int×Int×Unit)=>0<=x.1/\x.1<=l.length/\lastF l e=lastGo e (l.drop x.1.toNat) x.2.1,measure:=fun _ (x:Int×Int×Unit)=>(l.length-x.1).toNat}|_=>none
def g_last_vc (l:List Lk) (e:Int):Prop:=
 (True/\0<=(0:Int)/\0<=(↑l.length:Int)/\lastF l e=lastGo e (List.drop (Int.toNat (0:Int)) l) (-1:Int))/\∀(x:Int×Int×Unit),0<=x.1/\x.1<=(↑l.length:Int)/\lastF l e=lastGo e (List.drop x.1.toNat l) x.2.1->(decide (x.1<(↑l.length:Int))=true->(0<=x.1/\x.1<(↑l.length:Int))/\∀(x_1:Int×Int),l[x.1.toNat]? =some x_1->(decide (x_1.1=e)=true->(-9223372036854775808<=x.1+1/\x.1+1<=9223372036854775807)/\True/\(0<=x.1+1/\x.1+1<=(↑l.length:Int)/\lastF l e=lastGo e (List.drop (x.1+1).toNat l) (mmI true x.2.1 x_1.2))/\((↑l.length:Int)-(x.1+1)).toNat<((↑l.length:Int)-x.1).toNat)/\(decide (x_1.1=e)=false->(-9223372036854775808<=x.1+1/\x.1+1<=9223372036854775807)/\True/\(0<=x.1+1/\x.1+1<=(↑l.length:Int)/\lastF l e=lastGo e (List.drop (x.1+1).toNat l) x.2.1)/\((↑l.length:Int)-(x.1+1)).toNat<((↑l.length:Int)-x.1).toNat))/\(decide (x.1<(↑l.length:Int))=false->(x.2.1,())=(lastF l e,()))
theorem g_last_eq (l:List Lk) (e:Int):Cond (env_last l e) Tryz.f227 [.list .tmp Vl l, .int .i64 e] [.int .i64] (lastF l e,())=g_last_vc l e:=by kernel_rfl
theorem g_last_ok (l:List Lk) (e:Int) (h:l.length<=1000000000):g_last_vc l e:=by
 unfold g_last_vc;simp only [decide_eq_true_eq,decide_eq_false_iff_not];refine ⟨⟨trivial,by omega,by omega,rfl⟩, ?_⟩;rintro ⟨i,o,⟨⟩⟩ ⟨h0,h1,hb⟩;dsimp only at h0 h1 hb⊢;refine ⟨fun c=>⟨⟨h0,c⟩,fun x hx=>⟨fun k=>⟨by omega,trivial,⟨by omega,by omega, ?_⟩,by omega⟩,fun k=>⟨by omega,trivial,⟨by omega,by omega, ?_⟩,by omega⟩⟩⟩,fun c=> ?_⟩
 ·rw [hb,last_next h0 hx,if_pos k,mm_max]
 ·rw [hb,last_next h0 hx,if_neg k]
 ·rw [hb,last_end c]
set_option maxRecDepth 20000
theorem last_pure (l:List Lk) (e:Int) (h:l.length<=1000000000):Pure Tryz.prog 227 [.list .tmp Vl l, .int .i64 e] (.int .i64 (lastF l e)):=
 by have k:=Pure.of_cond (g_last_eq l e) (g_last_ok l e h) (specs_ok rfl [] [] rfl rfl) mixed Tryz.func227;exact k
noncomputable def q_last (l:List Lk) (e:Int):Prop×V:=(l.length<=1000000000,(.int .i64 (lastF l e)))
noncomputable def sp_last:FSpec Tryz.prog where
 f:=227
 run:=fun
  |[v0, .int .i64 e]=>(asL Vl v0:Option (List Lk)).bind fun l=>some (q_last l e)
  |_=>none
 ok:=fun args pre r h hp=>by
  split at h
  ·rename_i v0 e;obtain ⟨l,h0,h⟩:=Option.bind_eq_some_iff.1 h;exact of_q h hp fun h=>(last_pure l e h).weak (.cons (asL_weak h0) (.cons (.refl _) .nil))
  ·cases h
def lkP (l:List Lk) (p e:Int):Bool:=decide (p<=lastF l e)
noncomputable def env_lk1 (l:List Lk) (p e:Int):Env where
 P:=Tryz.prog
 ty:=tys0
 specs:=specsOf [sp_last]
 frz:=fun|8=>true|_=>false
def g_lk1_vc (l:List Lk) (p:Int) (e:Int):Prop:=
 l.length<=(1000000000:Nat)/\(decide (p<=lastF l e),())=(lkP l p e,())
theorem g_lk1_eq (l:List Lk) (p e:Int):Cond (env_lk1 l p e) Tryz.f226 [.int .i64 e, .fptr [.int .i64 p], .fptr [.list .tmp Vl l]] [.bool] (lkP l p e,())=g_lk1_vc l p e:=by kernel_rfl
theorem g_lk1_ok (l:List Lk) (p e:Int) (h:l.length<=1000000000):g_lk1_vc l p e:=by
 unfold g_lk1_vc;exact ⟨h,rfl⟩
theorem lk1_pure (l:List Lk) (p e:Int) (h:l.length<=1000000000):Pure Tryz.prog 226 [.int .i64 e, .fptr [.int .i64 p], .fptr [.list .tmp Vl l]] (.bool (lkP l p e)):=
 by have k:=Pure.of_cond (g_lk1_eq l p e) (g_lk1_ok l p e h) (specs_ok rfl [sp_last] [] rfl rfl) mixed Tryz.func226;exact k
noncomputable def q_lk1 (l:List Lk) (p e:Int):Prop×V:=(l.length<=1000000000,(.bool (lkP l p e)))
noncomputable def sp_lk1:FSpec Tryz.prog where
 f:=226
 run:=fun
  |[.int .i64 e, .fptr [.int .i64 p], .fptr [v2_0]]=>(asL Vl v2_0:Option (List Lk)).bind fun l=>some (q_lk1 l p e)
  |_=>none
 ok:=fun args pre r h hp=>by
  split at h
  ·rename_i e p v2_0;obtain ⟨l,h2_0,h⟩:=Option.bind_eq_some_iff.1 h;exact of_q h hp fun h=>(lk1_pure l p e h).weak (.cons (.refl _) (.cons (.refl _) (.cons (weak_fptr (.cons (asL_weak h2_0) .nil)) .nil)))
  ·cases h
noncomputable def env_idx (xs:List Int) (l:List Lk) (p:Int):Env where
 P:=Tryz.prog
 ty:=tys0
 specs:=specsOf [sp_lk1]
 heads:=fun|2=>some {slots:=[(8, .int .i64)],boxes:=[],inv:=fun _ (x:Int×Unit)=>0<=x.1/\x.1<=xs.length/\idxF (lkP l p) xs=idxGo (lkP l p) (xs.drop x.1.toNat) x.1,measure:=fun _ (x:Int×Unit)=>(xs.length-x.1).toNat}|_=>none
def g_idx_vc (xs:List Int) (l:List Lk) (p:Int):Prop:=
 (True/\0<=(0:Int)/\0<=(↑xs.length:Int)/\idxF (lkP l p) xs=idxGo (lkP l p) (List.drop (Int.toNat (0:Int)) xs) (0:Int))/\∀(x:Int×Unit),0<=x.1/\x.1<=(↑xs.length:Int)/\idxF (lkP l p) xs=idxGo (lkP l p) (List.drop x.1.toNat xs) x.1->(decide (x.1<(↑xs.length:Int))=true->(0<=x.1/\x.1<(↑xs.length:Int))/\∀(x_1:Int),xs[x.1.toNat]? =some x_1->l.length<=(1000000000:Nat)/\(lkP l p x_1=true->(x.1,())=(idxF (lkP l p) xs,()))/\(lkP l p x_1=false->(-9223372036854775808<=x.1+1/\x.1+1<=9223372036854775807)/\True/\(0<=x.1+1/\x.1+1<=(↑xs.length:Int)/\idxF (lkP l p) xs=idxGo (lkP l p) (List.drop (x.1+1).toNat xs) (x.1+1))/\((↑xs.length:Int)-(x.1+1)).toNat<((↑xs.length:Int)-x.1).toNat))/\(decide (x.1<(↑xs.length:Int))=false->((-1:Int),())=(idxF (lkP l p) xs,()))
theorem g_idx_eq (xs:List Int) (l:List Lk) (p:Int):Cond (env_idx xs l p) Tryz.f243 [.list .tmp I xs, .fn (.func 226) [] [.fptr [.int .i64 p], .fptr [.list .tmp Vl l]]] [.int .i64] (idxF (lkP l p) xs,())=g_idx_vc xs l p:=by kernel_rfl
theorem g_idx_ok (xs:List Int) (l:List Lk) (p:Int) (h:xs.length<=1000000000/\l.length<=1000000000):g_idx_vc xs l p:=by
 unfold g_idx_vc;simp only [decide_eq_true_eq,decide_eq_false_iff_not];obtain ⟨ha,hl⟩:=h;refine ⟨⟨trivial,by omega,by omega,rfl⟩, ?_⟩;rintro ⟨i,⟨⟩⟩ ⟨h0,h1,hb⟩;dsimp only at h0 h1 hb⊢;rw [hb];refine ⟨fun c=>⟨⟨h0,c⟩,fun x hx=>⟨hl,fun k=> ?_,fun k=>⟨by omega,trivial,⟨by omega,by omega, ?_⟩,by omega⟩⟩⟩,fun c=> ?_⟩
 ·rw [idx_hit h0 hx k]
 ·rw [idx_miss h0 hx k]
 ·rw [idx_end c]
theorem idx_pure (xs:List Int) (l:List Lk) (p:Int) (h:xs.length<=1000000000/\l.length<=1000000000):Pure Tryz.prog 243 [.list .tmp I xs, .fn (.func 226) [] [.fptr [.int .i64 p], .fptr [.list .tmp Vl l]]] (.int .i64 (idxF (lkP l p) xs)):=
 by have k:=Pure.of_cond (g_idx_eq xs l p) (g_idx_ok xs l p h) (specs_ok rfl [sp_lk1] [] rfl rfl) mixed Tryz.func243;exact k
noncomputable def q_idx (xs:List Int) (l:List Lk) (p:Int):Prop×V:=(xs.length<=1000000000/\l.length<=1000000000,(.int .i64 (idxF (lkP l p) xs)))
noncomputable def sp_idx:FSpec Tryz.prog where
 f:=243
 run:=fun
  |[v0, .fn (.func 226) [] [.fptr [.int .i64 p], .fptr [v1_c1_0]]]=>(asL I v0:Option (List Int)).bind fun xs=>(asL Vl v1_c1_0:Option (List Lk)).bind fun l=>some (q_idx xs l p)
  |_=>none
 ok:=fun args pre r h hp=>by
  split at h
  ·rename_i v0 p v1_c1_0;obtain ⟨xs,h0,h⟩:=Option.bind_eq_some_iff.1 h;obtain ⟨l,h1_c1_0,h⟩:=Option.bind_eq_some_iff.1 h;exact of_q h hp fun h=>(idx_pure xs l p h).weak (.cons (asL_weak h0) (.cons (weak_fn .nil (.cons (.refl _) (.cons (weak_fptr (.cons (asL_weak h1_c1_0) .nil)) .nil))) .nil))
  ·cases h
noncomputable def env_cont (xs:List Int) (l:List Lk) (p:Int):Env where
 P:=Tryz.prog
 ty:=tys0
 specs:=specsOf [sp_idx]
def g_cont_vc (xs:List Int) (l:List Lk) (p:Int):Prop:=
 (xs.length<=(1000000000:Nat)/\l.length<=(1000000000:Nat))/\(decide (0<=idxF (lkP l p) xs),())=(xs.any (lkP l p),())
theorem g_cont_eq (xs:List Int) (l:List Lk) (p:Int):Cond (env_cont xs l p) Tryz.f225 [.list .tmp I xs, .fn (.func 226) [] [.fptr [.int .i64 p], .fptr [.list .tmp Vl l]]] [.bool] (xs.any (lkP l p),())=g_cont_vc xs l p:=by kernel_rfl
theorem g_cont_ok (xs:List Int) (l:List Lk) (p:Int) (h:xs.length<=1000000000/\l.length<=1000000000):g_cont_vc xs l p:=by
 unfold g_cont_vc;exact ⟨h,by rw [idx_any]⟩
theorem cont_pure (xs:List Int) (l:List Lk) (p:Int) (h:xs.length<=1000000000/\l.length<=1000000000):Pure Tryz.prog 225 [.list .tmp I xs, .fn (.func 226) [] [.fptr [.int .i64 p], .fptr [.list .tmp Vl l]]] (.bool (xs.any (lkP l p))):=
 by have k:=Pure.of_cond (g_cont_eq xs l p) (g_cont_ok xs l p h) (specs_ok rfl [sp_idx] [] rfl rfl) mixed Tryz.func225;exact k
noncomputable def q_cont (xs:List Int) (l:List Lk) (p:Int):Prop×V:=(xs.length<=1000000000/\l.length<=1000000000,(.bool (xs.any (lkP l p))))
noncomputable def sp_cont:FSpec Tryz.prog where
 f:=225
 run:=fun
  |[v0, .fn (.func 226) [] [.fptr [.int .i64 p], .fptr [v1_c1_0]]]=>(asL I v0:Option (List Int)).bind fun xs=>(asL Vl v1_c1_0:Option (List Lk)).bind fun l=>some (q_cont xs l p)
  |_=>none
 ok:=fun args pre r h hp=>by
  split at h
  ·rename_i v0 p v1_c1_0;obtain ⟨xs,h0,h⟩:=Option.bind_eq_some_iff.1 h;obtain ⟨l,h1_c1_0,h⟩:=Option.bind_eq_some_iff.1 h;exact of_q h hp fun h=>(cont_pure xs l p h).weak (.cons (asL_weak h0) (.cons (weak_fn .nil (.cons (.refl _) (.cons (weak_fptr (.cons (asL_weak h1_c1_0) .nil)) .nil))) .nil))
  ·cases h
noncomputable def env_locked (l:List Lk) (p:Int) (xs:List Int):Env where
 P:=Tryz.prog
 ty:=tys0
 specs:=specsOf [sp_cont]
def g_locked_vc (l:List Lk) (p:Int) (xs:List Int):Prop:=
 (xs.length<=(1000000000:Nat)/\l.length<=(1000000000:Nat))/\(xs.any (lkP l p),())=(xs.any (lkP l p),())
theorem g_locked_eq (l:List Lk) (p:Int) (xs:List Int):Cond (env_locked l p xs) Tryz.f195 [.list .tmp Vl l, .int .i64 p, .list .tmp I xs] [.bool] (xs.any (lkP l p),())=g_locked_vc l p xs:=by kernel_rfl
theorem g_locked_ok (l:List Lk) (p:Int) (xs:List Int) (h:xs.length<=1000000000/\l.length<=1000000000):g_locked_vc l p xs:=by
 unfold g_locked_vc;exact ⟨h,rfl⟩
theorem locked_pure (l:List Lk) (p:Int) (xs:List Int) (h:xs.length<=1000000000/\l.length<=1000000000):Pure Tryz.prog 195 [.list .tmp Vl l, .int .i64 p, .list .tmp I xs] (.bool (xs.any (lkP l p))):=
 by have k:=Pure.of_cond (g_locked_eq l p xs) (g_locked_ok l p xs h) (specs_ok rfl [sp_cont] [] rfl rfl) mixed Tryz.func195;exact k
noncomputable def q_locked (l:List Lk) (p:Int) (xs:List Int):Prop×V:=(xs.length<=1000000000/\l.length<=1000000000,(.bool (xs.any (lkP l p))))
noncomputable def sp_locked:FSpec Tryz.prog where
 f:=195
 run:=fun
  |[v0, .int .i64 p,v2]=>(asL Vl v0:Option (List Lk)).bind fun l=>(asL I v2:Option (List Int)).bind fun xs=>some (q_locked l p xs)
  |_=>none
 ok:=fun args pre r h hp=>by
  split at h
  ·rename_i v0 p v2;obtain ⟨l,h0,h⟩:=Option.bind_eq_some_iff.1 h;obtain ⟨xs,h2,h⟩:=Option.bind_eq_some_iff.1 h;exact of_q h hp fun h=>(locked_pure l p xs h).weak (.cons (asL_weak h0) (.cons (.refl _) (.cons (asL_weak h2) .nil)))
  ·cases h
def mayF (l:List Lk) (a b n:Int):Int:=if a<1∨n<a then 20 else if b<0∨23<b then 22 else if [a].any (lkP l b) then 35 else 0
noncomputable def env_may (l:List Lk) (a b n:Int):Env where
 P:=Tryz.prog
 ty:=tys0
 specs:=specsOf [sp_locked]
def g_may_vc (l:List Lk) (a:Int) (b:Int) (n:Int):Prop:=
 (decide (a<(1:Int))=false->(decide (n<a)=true->((20:Int),())=(mayF l a b n,()))/\(decide (n<a)=false->(decide (b<(0:Int))=false->(decide ((24:Int)<=b)=true->((22:Int),())=(mayF l a b n,()))/\(decide ((24:Int)<=b)=false->((1:Nat)<=(1000000000:Nat)/\l.length<=(1000000000:Nat))/\([a].any (lkP l b)=true->((35:Int),())=(mayF l a b n,()))/\([a].any (lkP l b)=false->((0:Int),())=(mayF l a b n,()))))/\(decide (b<(0:Int))= !false->((22:Int),())=(mayF l a b n,()))))/\(decide (a<(1:Int))= !false->((20:Int),())=(mayF l a b n,()))
theorem g_may_eq (l:List Lk) (a b n:Int):Cond (env_may l a b n) Tryz.f189 [.list .tmp Vl l, .agg [.int .i64 a, .int .i64 b], .int .i64 n] [.int .i64] (mayF l a b n,())=g_may_vc l a b n:=by kernel_rfl
theorem g_may_ok (l:List Lk) (a b n:Int) (h:l.length<=1000000000):g_may_vc l a b n:=by
 unfold g_may_vc mayF;simp only [decide_eq_true_eq,decide_eq_false_iff_not];repeat' (first|with_reducible apply And.intro|intro _)
 all_goals (try congr 1)
 all_goals repeat' split
 all_goals first|rfl|omega|(simp_all;done)|(simp_all;omega)
theorem may_pure (l:List Lk) (a b n:Int) (h:l.length<=1000000000):Pure Tryz.prog 189 [.list .tmp Vl l, .agg [.int .i64 a, .int .i64 b], .int .i64 n] (.int .i64 (mayF l a b n)):=
 by have k:=Pure.of_cond (g_may_eq l a b n) (g_may_ok l a b n h) (specs_ok rfl [sp_locked] [] rfl rfl) mixed Tryz.func189;exact k
noncomputable def q_may (l:List Lk) (a b n:Int):Prop×V:=(l.length<=1000000000,(.int .i64 (mayF l a b n)))
noncomputable def sp_may:FSpec Tryz.prog where
 f:=189
 run:=fun
  |[v0, .agg [.int .i64 a, .int .i64 b], .int .i64 n]=>(asL Vl v0:Option (List Lk)).bind fun l=>some (q_may l a b n)
  |_=>none
 ok:=fun args pre r h hp=>by
  split at h
  ·rename_i v0 a b n;obtain ⟨l,h0,h⟩:=Option.bind_eq_some_iff.1 h;exact of_q h hp fun h=>(may_pure l a b n h).weak (.cons (asL_weak h0) (.cons (.refl _) (.cons (.refl _) .nil)))
  ·cases h
end Go.Proofs.YtabicbgeoiilmaaGreatDoor.Lck
end
