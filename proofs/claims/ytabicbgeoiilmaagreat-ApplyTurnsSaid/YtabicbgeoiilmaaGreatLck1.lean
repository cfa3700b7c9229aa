/-
  lock: whether locks may be, and whether they are the same.
-/
import Derived.Test.YtabicbgeoiilmaaGreatSeat
import Derived.Test.YtabicbgeoiilmaaGreatIdx
set_option linter.unusedVariables false
section
namespace Go.Proofs.YtabicbgeoiilmaaGreat.Acc
open Go.Vm
abbrev AcD:=Int×Int×Bool×Bool
def isIn (l:List AcD) (a:Int):Prop:=1<=a/\a<=l.length
instance (l:List AcD) (a:Int):Decidable (isIn l a):=by unfold isIn;infer_instance
def parA (l:List AcD) (a:Int):Int:=((l[(a-1).toNat]?).map (·.1)).getD 0
theorem parA_at {l:List AcD} {a:Int} {x:AcD} (h:l[(a-1).toNat]? =some x):parA l a=x.1:=by unfold parA;rw [h];rfl
def upGo (l:List AcD) (a:Int):Nat->Int->List Int->List Int
 |0,_,out=>out
 |n+1,p,out=>if isIn l p/\p≠a/\p∉out then upGo l a n (parA l p) (out++[p]) else out
def upF (l:List AcD) (a:Int):List Int:=if isIn l a then upGo l a (l.length+1) (parA l a) [] else []
def rndGo (l:List AcD) (a:Int):Nat->Int->Int
 |0,p=>p
 |n+1,p=>if parA l p=a∨¬isIn l (parA l p) then parA l p else rndGo l a n (parA l p)
def roundF (l:List AcD) (a:Int):Bool:=decide (rndGo l a l.length a=a)
theorem nodup_le: ∀(n:Nat) (out:List Int),out.Nodup->(∀x∈out,1<=x/\x<=n)->out.length<=n
 |0,out,_,hb=>by
  cases out with
  |nil=>simp
  |cons x r=>have:=hb x (by simp);omega
 |n+1,out,hd,hb=>by
  by_cases h:((n+1:Nat):Int)∈out
  ·have h1:=nodup_le n (out.erase ((n+1:Nat):Int)) (hd.erase _) (fun x hx=>by
    have h2:=hb x (List.mem_of_mem_erase hx);have h3:x≠((n+1:Nat):Int):=((hd.mem_erase_iff).1 hx).1;omega)
   rw [List.length_erase_of_mem h] at h1;omega
  ·have:=nodup_le n out hd (fun x hx=>by
    have h2:=hb x hx;have h3:x≠((n+1:Nat):Int):=fun e=>h (e▸hx);omega)
   omega
def it (l:List AcD) (a:Int):Nat->Int
 |0=>a
 |k+1=>parA l (it l a k)
def its (l:List AcD) (a:Int) (m:Nat):List Int:=(List.range m).map fun i=>it l a (i+1)
theorem its_succ (l:List AcD) (a:Int) (m:Nat):its l a (m+1)=its l a m++[it l a (m+1)]:=by
 unfold its;rw [List.range_succ,List.map_append];rfl
structure Way (l:List AcD) (a:Int) (m:Nat):Prop where
 dup:(its l a m).Nodup
 inn: ∀x∈its l a m,isIn l x/\x≠a
theorem Way.len {l:List AcD} {a:Int} {m:Nat} (h:Way l a m) (ha:isIn l a):m+1<=l.length:=by
 have h1:(a::its l a m).Nodup:=List.nodup_cons.2 ⟨fun k=>(h.inn a k).2 rfl,h.dup⟩;have h2:=nodup_le l.length (a::its l a m) h1 (fun x hx=>by
  rcases List.mem_cons.1 hx with rfl|hx
  ·exact ha
  ·exact (h.inn x hx).1)
 simp [its] at h2;omega
theorem Way.next {l:List AcD} {a:Int} {m:Nat} (h:Way l a m) (h1:isIn l (it l a (m+1))) (h2:it l a (m+1)≠a) (h3:it l a (m+1)∉its l a m):Way l a (m+1):=by
 refine ⟨?_,fun x hx=> ?_⟩
 ·rw [its_succ];exact List.nodup_append.2 ⟨h.dup,by simp,fun x hx y hy=>by
   rw [List.mem_singleton.1 hy];exact fun e=>h3 (e▸hx)⟩
 ·rw [its_succ,List.mem_append,List.mem_singleton] at hx;rcases hx with hx|rfl
  ·exact h.inn x hx
  ·exact ⟨h1,h2⟩
theorem Way.zero (l:List AcD) (a:Int):Way l a 0:=⟨by simp [its],fun x hx=>by simp [its] at hx⟩
theorem up_way {l:List AcD} {a:Int} (ha:isIn l a): ∀(n m:Nat),l.length<=m+n->Way l a m->
 ∃k,upGo l a (n+1) (it l a (m+1)) (its l a m)=its l a k/\Way l a k/\¬(isIn l (it l a (k+1))/\it l a (k+1)≠a/\it l a (k+1)∉its l a k)
 |0,m,hn,hw=>by
  have:=hw.len ha;omega
 |n+1,m,hn,hw=>by
  rw [upGo];by_cases c:isIn l (it l a (m+1))/\it l a (m+1)≠a/\it l a (m+1)∉its l a m
  ·rw [if_pos c,<-its_succ];exact up_way ha n (m+1) (by omega) (hw.next c.1 c.2.1 c.2.2)
  ·rw [if_neg c];exact ⟨m,rfl,hw,c⟩
theorem up_its {l:List AcD} {a:Int} (ha:isIn l a): ∃k,upF l a=its l a k/\Way l a k/\¬(isIn l (it l a (k+1))/\it l a (k+1)≠a/\it l a (k+1)∉its l a k):=by
 unfold upF;rw [if_pos ha];exact up_way ha l.length 0 (by omega) (.zero l a)
end Go.Proofs.YtabicbgeoiilmaaGreat.Acc
end
section
namespace Go.Proofs.YtabicbgeoiilmaaGreat.Acc
open Go.Vm
noncomputable def env_is (l:List AcD) (a:Int):Env where
 P:=Tryz.prog
 ty:=tys0
def g_is_vc (l:List AcD) (a:Int):Prop:=
 (decide ((1:Int)<=a)=true->(decide (a<=(↑l.length:Int)),())=(decide (isIn l a),()))/\(decide ((1:Int)<=a)= !true->(false,())=(decide (isIn l a),()))
theorem g_is_eq (l:List AcD) (a:Int):Cond (env_is l a) Tryz.f123 [.list .tmp AcT l, .int .i64 a] [.bool] (decide (isIn l a),())=g_is_vc l a:=by kernel_rfl
theorem g_is_ok (l:List AcD) (a:Int):g_is_vc l a:=by
 unfold g_is_vc;simp only [decide_eq_true_eq,decide_eq_false_iff_not,Bool.not_true,Prod.mk.injEq,and_true];refine ⟨fun h=>decide_eq_decide.2 ⟨fun k=>⟨h,k⟩,fun k=>k.2⟩,fun h=> ?_⟩;rw [decide_eq_false (fun k:isIn l a=>h k.1)]
set_option maxRecDepth 20000
theorem is_pure (l:List AcD) (a:Int):Pure Tryz.prog 123 [.list .tmp AcT l, .int .i64 a] (.bool (decide (isIn l a))):=
 by have k:=Pure.of_cond (g_is_eq l a) (g_is_ok l a) (specs_ok rfl [] [] rfl rfl) mixed Tryz.func123;exact k
noncomputable def q_is (l:List AcD) (a:Int):Prop×V:=(True,(.bool (decide (isIn l a))))
noncomputable def sp_is:FSpec Tryz.prog where
 f:=123
 run:=fun
  |[v0, .int .i64 a]=>(asL AcT v0:Option (List AcD)).bind fun l=>some (q_is l a)
  |_=>none
 ok:=fun args pre r h hp=>by
  split at h
  ·rename_i v0 a;obtain ⟨l,h0,h⟩:=Option.bind_eq_some_iff.1 h;exact of_q h hp fun h=>(is_pure l a).weak (.cons (asL_weak h0) (.cons (.refl _) .nil))
  ·cases h
def placeF (p n:Int):Int:=if p<0∨n<p then 21 else if 1<=p/\p<=3 then 28 else 0
def kindF (k:Int) (s q:Bool):Int:=if k<1∨3<k∨(s=true/\q=true) then 25 else 0
def mayA (x:AcD) (n:Int):Int:=if placeF x.1 n=0 then kindF x.2.1 x.2.2.1 x.2.2.2 else placeF x.1 n
noncomputable def env_place (p n:Int):Env where
 P:=Tryz.prog
 ty:=tys0
def g_place_vc (p:Int) (n:Int):Prop:=
 (decide (p<(0:Int))=false->(decide (n<p)=true->((21:Int),())=(placeF p n,()))/\(decide (n<p)=false->(decide ((1:Int)<=p)=true->(decide (p<=(3:Int))=true->((28:Int),())=(placeF p n,()))/\(decide (p<=(3:Int))=false->((0:Int),())=(placeF p n,())))/\(decide ((1:Int)<=p)= !true->((0:Int),())=(placeF p n,()))))/\(decide (p<(0:Int))= !false->((21:Int),())=(placeF p n,()))
theorem g_place_eq (p n:Int):Cond (env_place p n) Tryz.f112 [.int .i64 p, .int .i64 n] [.int .i64] (placeF p n,())=g_place_vc p n:=by kernel_rfl
theorem g_place_ok (p n:Int):g_place_vc p n:=by
 unfold g_place_vc placeF;simp only [decide_eq_true_eq,decide_eq_false_iff_not,Bool.not_false,Bool.not_true];repeat' (first|with_reducible apply And.intro|intro _)
 all_goals (try congr 1)
 all_goals repeat' split
 all_goals first|rfl|omega|(simp_all;done)|(simp_all;omega)
theorem place_pure (p n:Int):Pure Tryz.prog 112 [.int .i64 p, .int .i64 n] (.int .i64 (placeF p n)):=
 by have k:=Pure.of_cond (g_place_eq p n) (g_place_ok p n) (specs_ok rfl [] [] rfl rfl) mixed Tryz.func112;exact k
noncomputable def q_place (p n:Int):Prop×V:=(True,(.int .i64 (placeF p n)))
noncomputable def sp_place:FSpec Tryz.prog where
 f:=112
 run:=fun
  |[.int .i64 p, .int .i64 n]=>some (q_place p n)
  |_=>none
 ok:=fun args pre r h hp=>by
  split at h
  ·rename_i p n;exact of_q h hp fun h=>(place_pure p n).weak (.cons (.refl _) (.cons (.refl _) .nil))
  ·cases h
noncomputable def env_kind (a k:Int) (s q:Bool):Env where
 P:=Tryz.prog
 ty:=tys0
def g_kind_vc (a:Int) (k:Int) (s:Bool) (q:Bool):Prop:=
 (decide (k<(1:Int))=false->(decide ((3:Int)<k)=false->(s=true->(q=true->((25:Int),())=(kindF k s q,()))/\(q=false->((0:Int),())=(kindF k s q,())))/\(s= !true->((0:Int),())=(kindF k s q,())))/\(decide ((3:Int)<k)= !false->((25:Int),())=(kindF k s q,())))/\(decide (k<(1:Int))= !false->((25:Int),())=(kindF k s q,()))
theorem g_kind_eq (a k:Int) (s q:Bool):Cond (env_kind a k s q) Tryz.f113 [.agg [.int .i64 a, .int .i64 k, .bool s, .bool q]] [.int .i64] (kindF k s q,())=g_kind_vc a k s q:=by kernel_rfl
theorem g_kind_ok (a k:Int) (s q:Bool):g_kind_vc a k s q:=by
 unfold g_kind_vc kindF;simp only [decide_eq_true_eq,decide_eq_false_iff_not,Bool.not_false,Bool.not_true];repeat' (first|with_reducible apply And.intro|intro _)
 all_goals (try congr 1)
 all_goals repeat' split
 all_goals first|rfl|omega|(simp_all;done)|(simp_all;omega)
theorem kind_pure (a k:Int) (s q:Bool):Pure Tryz.prog 113 [.agg [.int .i64 a, .int .i64 k, .bool s, .bool q]] (.int .i64 (kindF k s q)):=
 by have k:=Pure.of_cond (g_kind_eq a k s q) (g_kind_ok a k s q) (specs_ok rfl [] [] rfl rfl) mixed Tryz.func113;exact k
noncomputable def q_kind (a k:Int) (s q:Bool):Prop×V:=(True,(.int .i64 (kindF k s q)))
noncomputable def sp_kind:FSpec Tryz.prog where
 f:=113
 run:=fun
  |[.agg [.int .i64 a, .int .i64 k,v0_2,v0_3]]=>(boolOf v0_2).bind fun s=>(boolOf v0_3).bind fun q=>some (q_kind a k s q)
  |_=>none
 ok:=fun args pre r h hp=>by
  split at h
  ·rename_i a k v0_2 v0_3;obtain ⟨s,h0_2,h⟩:=Option.bind_eq_some_iff.1 h;obtain ⟨q,h0_3,h⟩:=Option.bind_eq_some_iff.1 h;exact of_q h hp fun h=>(kind_pure a k s q).weak (.cons (Weak.agg (.cons (.refl _) (.cons (.refl _) (.cons (boolOf_weak h0_2) (.cons (boolOf_weak h0_3) .nil))))) .nil)
  ·cases h
abbrev ownL:List AcD:=[(0,1,true,false),(0,1,false,false),(0,1,false,false)]
noncomputable def env_new:Env where
 P:=Tryz.prog
 ty:=tys0
def g_new_vc:Prop:=
 ([((0:Int),(1:Int),true,false),((0:Int),(1:Int),false,false),((0:Int),(1:Int),false,false)],())=(ownL,())
theorem g_new_eq:Cond (env_new) Tryz.f111 [] [.list .full AcT] (ownL,())=g_new_vc:=by kernel_rfl
theorem g_new_ok:g_new_vc:=rfl
theorem new_pure:Pure Tryz.prog 111 [] (.list .full AcT ownL):=
 by have k:=Pure.of_cond (g_new_eq) (g_new_ok) (specs_ok rfl [] [] rfl rfl) mixed Tryz.func111;exact k
noncomputable def q_new:Prop×V:=(True,(.list .full AcT ownL))
noncomputable def sp_new:FSpec Tryz.prog where
 f:=111
 run:=fun
  |[]=>some (q_new)
  |_=>none
 ok:=fun args pre r h hp=>by
  split at h
  ·skip;exact of_q h hp fun h=>(new_pure).weak .nil
  ·cases h
noncomputable def env_rnew:Env where
 P:=Tryz.prog
 ty:=tys0
def g_rnew_vc:Prop:=
 ([((0:Int),(1:Int),true,false),((0:Int),(1:Int),false,false),((0:Int),(1:Int),false,false)],())=(ownL,())
theorem g_rnew_eq:Cond (env_rnew) Tryz.f68 [] [.list .full AcT] (ownL,())=g_rnew_vc:=by kernel_rfl
theorem g_rnew_ok:g_rnew_vc:=rfl
theorem rnew_pure:Pure Tryz.prog 68 [] (.list .full AcT ownL):=
 by have k:=Pure.of_cond (g_rnew_eq) (g_rnew_ok) (specs_ok rfl [] [] rfl rfl) mixed Tryz.func68;exact k
noncomputable def q_rnew:Prop×V:=(True,(.list .full AcT ownL))
noncomputable def sp_rnew:FSpec Tryz.prog where
 f:=68
 run:=fun
  |[]=>some (q_rnew)
  |_=>none
 ok:=fun args pre r h hp=>by
  split at h
  ·skip;exact of_q h hp fun h=>(rnew_pure).weak .nil
  ·cases h
noncomputable def env_round (l:List AcD) (a:Int):Env where
 P:=Tryz.prog
 ty:=tys0
 specs:=specsOf [sp_is]
 heads:=fun|3=>some {slots:=[(9, .int .i64),(5, .int .i64)],boxes:=[],inv:=fun _ (x:Int×Int×Unit)=>0<=x.1/\x.1<=l.length/\isIn l x.2.1/\rndGo l a l.length a=rndGo l a (l.length-x.1.toNat) x.2.1,measure:=fun _ (x:Int×Int×Unit)=>(l.length-x.1).toNat}|_=>none
def g_round_vc (l:List AcD) (a:Int):Prop:=
 (True/\0<=(0:Int)/\0<=(↑l.length:Int)/\isIn l a/\rndGo l a l.length a=rndGo l a (l.length-Int.toNat (0:Int)) a)/\∀(x:Int×Int×Unit),0<=x.1/\x.1<=(↑l.length:Int)/\isIn l x.2.1/\rndGo l a l.length a=rndGo l a (l.length-x.1.toNat) x.2.1->(decide (x.1<(↑l.length:Int))=true->(-9223372036854775808<=x.2.1-(1:Int)/\x.2.1-(1:Int)<=9223372036854775807)/\(0<=x.2.1-(1:Int)/\x.2.1-(1:Int)<(↑l.length:Int))/\∀(x_1:Int×Int×Bool×Bool),l[(x.2.1-(1:Int)).toNat]? =some x_1->(decide (x_1.1=a)=false->True/\((!decide (isIn l x_1.1))=true->(decide (x_1.1=a),())=(roundF l a,()))/\((!decide (isIn l x_1.1))=false->(-9223372036854775808<=x.1+1/\x.1+1<=9223372036854775807)/\True/\(0<=x.1+1/\x.1+1<=(↑l.length:Int)/\isIn l x_1.1/\rndGo l a l.length a=rndGo l a (l.length-(x.1+1).toNat) x_1.1)/\((↑l.length:Int)-(x.1+1)).toNat<((↑l.length:Int)-x.1).toNat))/\(decide (x_1.1=a)= !false->(decide (x_1.1=a),())=(roundF l a,())))/\(decide (x.1<(↑l.length:Int))=false->(decide (x.2.1=a),())=(roundF l a,()))
theorem g_round_eq (l:List AcD) (a:Int):Cond (env_round l a) Tryz.f115 [.list .tmp AcT l, .int .i64 a] [.bool] (roundF l a,())=g_round_vc l a:=by kernel_rfl
theorem rnd_next {l:List AcD} {a p:Int} {f:Nat} (hf:0<f):rndGo l a f p=if parA l p=a∨¬isIn l (parA l p) then parA l p else rndGo l a (f-1) (parA l p):=by
 obtain ⟨g,rfl⟩: ∃g,f=g+1:=⟨f-1,by omega⟩
 rfl
theorem g_round_ok (l:List AcD) (a:Int) (h:isIn l a/\l.length<=1000000000):g_round_vc l a:=by
 unfold g_round_vc roundF;simp only [decide_eq_true_eq,decide_eq_false_iff_not,Bool.not_false,Bool.not_true];obtain ⟨ha,hl⟩:=h;refine ⟨⟨trivial,by omega,by omega,ha,by rw [show l.length-Int.toNat 0=l.length by omega]⟩, ?_⟩;rintro ⟨i,p,⟨⟩⟩ ⟨h0,h1,⟨hp1,hp2⟩,hb⟩;dsimp only at h0 h1 hp1 hp2 hb⊢;refine ⟨fun d=>⟨by omega,by omega,fun x hx=>⟨fun k=>⟨trivial,fun m=> ?_,fun m=>⟨by omega,trivial,⟨by omega,by omega, ?_, ?_⟩,by omega⟩⟩,fun k=> ?_⟩⟩,fun d=> ?_⟩
 ·rw [hb,rnd_next (by omega),parA_at hx,if_pos (.inr (by simpa using m))]
 ·simpa using m
 ·rw [hb,rnd_next (by omega),parA_at hx,if_neg (fun c=>c.elim k (fun c=>c (by simpa using m))),show l.length-(i+1).toNat=l.length-i.toNat-1 by omega]
 ·rw [hb,rnd_next (by omega),parA_at hx,if_pos (.inl k)]
 ·rw [hb,show l.length-i.toNat=0 by omega,rndGo]
theorem round_pure (l:List AcD) (a:Int) (h:isIn l a/\l.length<=1000000000):Pure Tryz.prog 115 [.list .tmp AcT l, .int .i64 a] (.bool (roundF l a)):=
 by have k:=Pure.of_cond (g_round_eq l a) (g_round_ok l a h) (specs_ok rfl [sp_is] [] rfl rfl) mixed Tryz.func115;exact k
noncomputable def q_round (l:List AcD) (a:Int):Prop×V:=(isIn l a/\l.length<=1000000000,(.bool (roundF l a)))
noncomputable def sp_round:FSpec Tryz.prog where
 f:=115
 run:=fun
  |[v0, .int .i64 a]=>(asL AcT v0:Option (List AcD)).bind fun l=>some (q_round l a)
  |_=>none
 ok:=fun args pre r h hp=>by
  split at h
  ·rename_i v0 a;obtain ⟨l,h0,h⟩:=Option.bind_eq_some_iff.1 h;exact of_q h hp fun h=>(round_pure l a h).weak (.cons (asL_weak h0) (.cons (.refl _) .nil))
  ·cases h
def upLf (a:Int) (x:AcD):Bool:=decide (x.1=a)
noncomputable def env_lf1 (p k:Int) (s q:Bool) (a:Int):Env where
 P:=Tryz.prog
 ty:=tys0
def g_lf1_vc (p:Int) (k:Int) (s:Bool) (q:Bool) (a:Int):Prop:=
 (decide (p=a),())=(upLf a (p,k,s,q),())
theorem g_lf1_eq (p k:Int) (s q:Bool) (a:Int):Cond (env_lf1 p k s q a) Tryz.f125 [.agg [.int .i64 p, .int .i64 k, .bool s, .bool q], .fptr [.int .i64 a]] [.bool] (upLf a (p,k,s,q),())=g_lf1_vc p k s q a:=by kernel_rfl
theorem g_lf1_ok (p k:Int) (s q:Bool) (a:Int):g_lf1_vc p k s q a:=by
 unfold g_lf1_vc;exact rfl
theorem lf1_pure (p k:Int) (s q:Bool) (a:Int):Pure Tryz.prog 125 [.agg [.int .i64 p, .int .i64 k, .bool s, .bool q], .fptr [.int .i64 a]] (.bool (upLf a (p,k,s,q))):=
 by have k:=Pure.of_cond (g_lf1_eq p k s q a) (g_lf1_ok p k s q a) (specs_ok rfl [] [] rfl rfl) mixed Tryz.func125;exact k
noncomputable def q_lf1 (p k:Int) (s q:Bool) (a:Int):Prop×V:=(True,(.bool (upLf a (p,k,s,q))))
noncomputable def sp_lf1:FSpec Tryz.prog where
 f:=125
 run:=fun
  |[.agg [.int .i64 p, .int .i64 k,v0_2,v0_3], .fptr [.int .i64 a]]=>(boolOf v0_2).bind fun s=>(boolOf v0_3).bind fun q=>some (q_lf1 p k s q a)
  |_=>none
 ok:=fun args pre r h hp=>by
  split at h
  ·rename_i p k v0_2 v0_3 a;obtain ⟨s,h0_2,h⟩:=Option.bind_eq_some_iff.1 h;obtain ⟨q,h0_3,h⟩:=Option.bind_eq_some_iff.1 h;exact of_q h hp fun h=>(lf1_pure p k s q a).weak (.cons (Weak.agg (.cons (.refl _) (.cons (.refl _) (.cons (boolOf_weak h0_2) (.cons (boolOf_weak h0_3) .nil))))) (.cons (.refl _) .nil))
  ·cases h
noncomputable def env_lidx (l:List AcD) (a:Int):Env where
 P:=Tryz.prog
 ty:=tys0
 specs:=specsOf [sp_lf1]
 heads:=fun|2=>some {slots:=[(8, .int .i64)],boxes:=[],inv:=fun _ (x:Int×Unit)=>0<=x.1/\x.1<=l.length/\idxF (upLf a) l=idxGo (upLf a) (l.drop x.1.toNat) x.1,measure:=fun _ (x:Int×Unit)=>(l.length-x.1).toNat}|_=>none
def g_lidx_vc (l:List AcD) (a:Int):Prop:=
 (True/\0<=(0:Int)/\0<=(↑l.length:Int)/\idxF (upLf a) l=idxGo (upLf a) (List.drop (Int.toNat (0:Int)) l) (0:Int))/\∀(x:Int×Unit),0<=x.1/\x.1<=(↑l.length:Int)/\idxF (upLf a) l=idxGo (upLf a) (List.drop x.1.toNat l) x.1->(decide (x.1<(↑l.length:Int))=true->(0<=x.1/\x.1<(↑l.length:Int))/\∀(x_1:Int×Int×Bool×Bool),l[x.1.toNat]? =some x_1->True/\(upLf a (x_1.1,x_1.2.1,x_1.2.2.1,x_1.2.2.2)=true->(x.1,())=(idxF (upLf a) l,()))/\(upLf a (x_1.1,x_1.2.1,x_1.2.2.1,x_1.2.2.2)=false->(-9223372036854775808<=x.1+1/\x.1+1<=9223372036854775807)/\True/\(0<=x.1+1/\x.1+1<=(↑l.length:Int)/\idxF (upLf a) l=idxGo (upLf a) (List.drop (x.1+1).toNat l) (x.1+1))/\((↑l.length:Int)-(x.1+1)).toNat<((↑l.length:Int)-x.1).toNat))/\(decide (x.1<(↑l.length:Int))=false->((-1:Int),())=(idxF (upLf a) l,()))
theorem g_lidx_eq (l:List AcD) (a:Int):Cond (env_lidx l a) Tryz.f168 [.list .tmp AcT l, .fn (.func 125) [] [.fptr [.int .i64 a]]] [.int .i64] (idxF (upLf a) l,())=g_lidx_vc l a:=by kernel_rfl
theorem g_lidx_ok (l:List AcD) (a:Int) (h:l.length<=1000000000):g_lidx_vc l a:=by
 unfold g_lidx_vc;simp only [decide_eq_true_eq,decide_eq_false_iff_not];refine ⟨⟨trivial,by omega,by omega,rfl⟩, ?_⟩;rintro ⟨i,⟨⟩⟩ ⟨h0,h1,hb⟩;dsimp only at h0 h1 hb⊢;rw [hb];refine ⟨fun c=>⟨⟨h0,c⟩,fun x hx=>⟨trivial,fun k=> ?_,fun k=>⟨by omega,trivial,⟨by omega,by omega, ?_⟩,by omega⟩⟩⟩,fun c=> ?_⟩
 ·rw [idx_hit h0 hx k]
 ·rw [idx_miss h0 hx k]
 ·rw [idx_end c]
theorem lidx_pure (l:List AcD) (a:Int) (h:l.length<=1000000000):Pure Tryz.prog 168 [.list .tmp AcT l, .fn (.func 125) [] [.fptr [.int .i64 a]]] (.int .i64 (idxF (upLf a) l)):=
 by have k:=Pure.of_cond (g_lidx_eq l a) (g_lidx_ok l a h) (specs_ok rfl [sp_lf1] [] rfl rfl) mixed Tryz.func168;exact k
noncomputable def q_lidx (l:List AcD) (a:Int):Prop×V:=(l.length<=1000000000,(.int .i64 (idxF (upLf a) l)))
noncomputable def sp_lidx:FSpec Tryz.prog where
 f:=168
 run:=fun
  |[v0, .fn (.func 125) [] [.fptr [.int .i64 a]]]=>(asL AcT v0:Option (List AcD)).bind fun l=>some (q_lidx l a)
  |_=>none
 ok:=fun args pre r h hp=>by
  split at h
  ·rename_i v0 a;obtain ⟨l,h0,h⟩:=Option.bind_eq_some_iff.1 h;exact of_q h hp fun h=>(lidx_pure l a h).weak (.cons (asL_weak h0) (.cons (.refl _) .nil))
  ·cases h
noncomputable def env_lcont (l:List AcD) (a:Int):Env where
 P:=Tryz.prog
 ty:=tys0
 specs:=specsOf [sp_lidx]
def g_lcont_vc (l:List AcD) (a:Int):Prop:=
 l.length<=(1000000000:Nat)/\(decide (0<=idxF (upLf a) l),())=(l.any (upLf a),())
theorem g_lcont_eq (l:List AcD) (a:Int):Cond (env_lcont l a) Tryz.f124 [.list .tmp AcT l, .fn (.func 125) [] [.fptr [.int .i64 a]]] [.bool] (l.any (upLf a),())=g_lcont_vc l a:=by kernel_rfl
theorem g_lcont_ok (l:List AcD) (a:Int) (h:l.length<=1000000000):g_lcont_vc l a:=by
 unfold g_lcont_vc;exact ⟨h,by rw [idx_any]⟩
theorem lcont_pure (l:List AcD) (a:Int) (h:l.length<=1000000000):Pure Tryz.prog 124 [.list .tmp AcT l, .fn (.func 125) [] [.fptr [.int .i64 a]]] (.bool (l.any (upLf a))):=
 by have k:=Pure.of_cond (g_lcont_eq l a) (g_lcont_ok l a h) (specs_ok rfl [sp_lidx] [] rfl rfl) mixed Tryz.func124;exact k
noncomputable def q_lcont (l:List AcD) (a:Int):Prop×V:=(l.length<=1000000000,(.bool (l.any (upLf a))))
noncomputable def sp_lcont:FSpec Tryz.prog where
 f:=124
 run:=fun
  |[v0, .fn (.func 125) [] [.fptr [.int .i64 a]]]=>(asL AcT v0:Option (List AcD)).bind fun l=>some (q_lcont l a)
  |_=>none
 ok:=fun args pre r h hp=>by
  split at h
  ·rename_i v0 a;obtain ⟨l,h0,h⟩:=Option.bind_eq_some_iff.1 h;exact of_q h hp fun h=>(lcont_pure l a h).weak (.cons (asL_weak h0) (.cons (.refl _) .nil))
  ·cases h
def leafF (l:List AcD) (a:Int):Bool:=decide (isIn l a)&& !l.any (upLf a)
noncomputable def env_leaf (l:List AcD) (a:Int):Env where
 P:=Tryz.prog
 ty:=tys0
 specs:=specsOf [sp_is,sp_lcont]
def g_leaf_vc (l:List AcD) (a:Int):Prop:=
 True/\(decide (isIn l a)=true->l.length<=(1000000000:Nat)/\(!l.any (upLf a),())=(leafF l a,()))/\(decide (isIn l a)= !true->(false,())=(leafF l a,()))
theorem g_leaf_eq (l:List AcD) (a:Int):Cond (env_leaf l a) Tryz.f61 [.list .tmp AcT l, .int .i64 a] [.bool] (leafF l a,())=g_leaf_vc l a:=by kernel_rfl
theorem g_leaf_ok (l:List AcD) (a:Int) (h:l.length<=1000000000):g_leaf_vc l a:=by
 unfold g_leaf_vc leafF;refine ⟨trivial,fun c=>⟨h,by rw [c,Bool.true_and]⟩,fun c=> ?_⟩;rw [show decide (isIn l a)=false by simpa using c,Bool.false_and]
theorem leaf_pure (l:List AcD) (a:Int) (h:l.length<=1000000000):Pure Tryz.prog 61 [.list .tmp AcT l, .int .i64 a] (.bool (leafF l a)):=
 by have k:=Pure.of_cond (g_leaf_eq l a) (g_leaf_ok l a h) (specs_ok rfl [sp_is,sp_lcont] [] rfl rfl) mixed Tryz.func61;exact k
noncomputable def q_leaf (l:List AcD) (a:Int):Prop×V:=(l.length<=1000000000,(.bool (leafF l a)))
noncomputable def sp_leaf:FSpec Tryz.prog where
 f:=61
 run:=fun
  |[v0, .int .i64 a]=>(asL AcT v0:Option (List AcD)).bind fun l=>some (q_leaf l a)
  |_=>none
 ok:=fun args pre r h hp=>by
  split at h
  ·rename_i v0 a;obtain ⟨l,h0,h⟩:=Option.bind_eq_some_iff.1 h;exact of_q h hp fun h=>(leaf_pure l a h).weak (.cons (asL_weak h0) (.cons (.refl _) .nil))
  ·cases h
noncomputable def env_pleaf (l:List AcD) (a:Int):Env where
 P:=Tryz.prog
 ty:=tys0
 specs:=specsOf [sp_leaf]
def g_pleaf_vc (l:List AcD) (a:Int):Prop:=
 l.length<=(1000000000:Nat)/\(leafF l a,())=(leafF l a,())
theorem g_pleaf_eq (l:List AcD) (a:Int):Cond (env_pleaf l a) Tryz.f19 [.list .tmp AcT l, .int .i64 a] [.bool] (leafF l a,())=g_pleaf_vc l a:=by kernel_rfl
theorem g_pleaf_ok (l:List AcD) (a:Int) (h:l.length<=1000000000):g_pleaf_vc l a:=by
 unfold g_pleaf_vc;exact ⟨h,rfl⟩
theorem pleaf_pure (l:List AcD) (a:Int) (h:l.length<=1000000000):Pure Tryz.prog 19 [.list .tmp AcT l, .int .i64 a] (.bool (leafF l a)):=
 by have k:=Pure.of_cond (g_pleaf_eq l a) (g_pleaf_ok l a h) (specs_ok rfl [sp_leaf] [] rfl rfl) mixed Tryz.func19;exact k
noncomputable def q_pleaf (l:List AcD) (a:Int):Prop×V:=(l.length<=1000000000,(.bool (leafF l a)))
noncomputable def sp_pleaf:FSpec Tryz.prog where
 f:=19
 run:=fun
  |[v0, .int .i64 a]=>(asL AcT v0:Option (List AcD)).bind fun l=>some (q_pleaf l a)
  |_=>none
 ok:=fun args pre r h hp=>by
  split at h
  ·rename_i v0 a;obtain ⟨l,h0,h⟩:=Option.bind_eq_some_iff.1 h;exact of_q h hp fun h=>(pleaf_pure l a h).weak (.cons (asL_weak h0) (.cons (.refl _) .nil))
  ·cases h
noncomputable def env_lv1 (l:List AcD) (a:Int):Env where
 P:=Tryz.prog
 ty:=tys0
 specs:=specsOf [sp_leaf]
def g_lv1_vc (l:List AcD) (a:Int):Prop:=
 l.length<=(1000000000:Nat)/\(leafF l a,())=(leafF l a,())
theorem g_lv1_eq (l:List AcD) (a:Int):Cond (env_lv1 l a) Tryz.f160 [.int .i64 a, .fptr [.fn (.func 61) [] []], .fptr [.list .tmp AcT l]] [.bool] (leafF l a,())=g_lv1_vc l a:=by kernel_rfl
theorem g_lv1_ok (l:List AcD) (a:Int) (h:l.length<=1000000000):g_lv1_vc l a:=by
 unfold g_lv1_vc;exact ⟨h,rfl⟩
theorem lv1_pure (l:List AcD) (a:Int) (h:l.length<=1000000000):Pure Tryz.prog 160 [.int .i64 a, .fptr [.fn (.func 61) [] []], .fptr [.list .tmp AcT l]] (.bool (leafF l a)):=
 by have k:=Pure.of_cond (g_lv1_eq l a) (g_lv1_ok l a h) (specs_ok rfl [sp_leaf] [] rfl rfl) mixed Tryz.func160;exact k
noncomputable def q_lv1 (l:List AcD) (a:Int):Prop×V:=(l.length<=1000000000,(.bool (leafF l a)))
noncomputable def sp_lv1:FSpec Tryz.prog where
 f:=160
 run:=fun
  |[.int .i64 a, .fptr [.fn (.func 61) [] []], .fptr [v2_0]]=>(asL AcT v2_0:Option (List AcD)).bind fun l=>some (q_lv1 l a)
  |_=>none
 ok:=fun args pre r h hp=>by
  split at h
  ·rename_i a v2_0;obtain ⟨l,h2_0,h⟩:=Option.bind_eq_some_iff.1 h;exact of_q h hp fun h=>(lv1_pure l a h).weak (.cons (.refl _) (.cons (.refl _) (.cons (weak_fptr (.cons (asL_weak h2_0) .nil)) .nil)))
  ·cases h
def thGo (p:Int->Bool):Nat->Int->List Int
 |0,_=>[]
 |f+1,i=>if p i=true then i::thGo p f (i+1) else thGo p f (i+1)
def thoseF (p:Int->Bool) (n:Nat):List Int:=thGo p n 1
theorem th_hit {p:Int->Bool} {f:Nat} {i:Int} (hf:0<f) (h:p i=true):thGo p f i=i::thGo p (f-1) (i+1):=by
 obtain ⟨g,rfl⟩: ∃g,f=g+1:=⟨f-1,by omega⟩
 rw [thGo,if_pos h];rfl
theorem th_miss {p:Int->Bool} {f:Nat} {i:Int} (hf:0<f) (h:p i=false):thGo p f i=thGo p (f-1) (i+1):=by
 obtain ⟨g,rfl⟩: ∃g,f=g+1:=⟨f-1,by omega⟩
 rw [thGo,if_neg (by rw [h];decide)];rfl
theorem th_len (p:Int->Bool): ∀(f:Nat) (i:Int),(thGo p f i).length<=f
 |0,_=>Nat.le_refl _
 |f+1,i=>by
  have:=th_len p f (i+1);rw [thGo];split<;>(try simp only [List.length_cons])<;>omega
noncomputable def env_thr (l m:List AcD):Env where
 P:=Tryz.prog
 ty:=tys0
 specs:=specsOf [sp_round]
 heads:=fun|3=>some {slots:=[(9, .int .i64),(5, .slc 9000 I)],boxes:=[],inv:=fun _ (x:Int×List Int×Unit)=>0<=x.1/\x.1<=l.length/\x.2.1.length<=x.1.toNat/\thoseF (roundF m) l.length=x.2.1++thGo (roundF m) (l.length-x.1.toNat) (x.1+1),measure:=fun _ (x:Int×List Int×Unit)=>(l.length-x.1).toNat}|_=>none
def g_thr_vc (l:List AcD) (m:List AcD):Prop:=
 (True/\0<=(0:Int)/\0<=(↑l.length:Int)/\(0:Nat)<=Int.toNat (0:Int)/\thoseF (roundF m) l.length=thGo (roundF m) (l.length-Int.toNat (0:Int)) ((0:Int)+1))/\∀(x:Int×List Int×Unit),0<=x.1/\x.1<=(↑l.length:Int)/\x.2.1.length<=x.1.toNat/\thoseF (roundF m) l.length=x.2.1++thGo (roundF m) (l.length-x.1.toNat) (x.1+1)->(decide (x.1<(↑l.length:Int))=true->(-9223372036854775808<=x.1+1/\x.1+1<=9223372036854775807)/\(isIn m (x.1+1)/\m.length<=(1000000000:Nat))/\(roundF m (x.1+1)=true->(-9223372036854775808<=x.1+1/\x.1+1<=9223372036854775807)/\((x.2.1.length+(1:Nat))*(8:Nat)<=(140737488355328:Nat)/\x.2.1.length+(1:Nat)<=(4611686018427387904:Nat))/\(-9223372036854775808<=x.1+1/\x.1+1<=9223372036854775807)/\True/\(0<=x.1+1/\x.1+1<=(↑l.length:Int)/\(x.2.1++[x.1+1]).length<=(x.1+1).toNat/\thoseF (roundF m) l.length=x.2.1++[x.1+1]++thGo (roundF m) (l.length-(x.1+1).toNat) (x.1+1+1))/\((↑l.length:Int)-(x.1+1)).toNat<((↑l.length:Int)-x.1).toNat)/\(roundF m (x.1+1)=false->(-9223372036854775808<=x.1+1/\x.1+1<=9223372036854775807)/\True/\(0<=x.1+1/\x.1+1<=(↑l.length:Int)/\x.2.1.length<=(x.1+1).toNat/\thoseF (roundF m) l.length=x.2.1++thGo (roundF m) (l.length-(x.1+1).toNat) (x.1+1+1))/\((↑l.length:Int)-(x.1+1)).toNat<((↑l.length:Int)-x.1).toNat))/\(decide (x.1<(↑l.length:Int))=false->(x.2.1,())=(thoseF (roundF m) l.length,()))
theorem g_thr_eq (l m:List AcD):Cond (env_thr l m) Tryz.f114 [.list .tmp AcT l, .fn (.func 115) [.list .tmp AcT m] []] [.slc 0 I] (thoseF (roundF m) l.length,())=g_thr_vc l m:=by kernel_rfl
theorem g_thr_ok (l m:List AcD) (h:m=l/\l.length<=1000000000):g_thr_vc l m:=by
 obtain ⟨rfl,h⟩:=h;unfold g_thr_vc;simp only [decide_eq_true_eq,decide_eq_false_iff_not];refine ⟨⟨trivial,by omega,by omega,by omega,by simp [thoseF]⟩, ?_⟩;rintro ⟨i,out,⟨⟩⟩ ⟨h0,h1,h2,hb⟩;dsimp only at h0 h1 h2 hb⊢;refine ⟨fun d=>⟨by omega,⟨⟨by omega,by omega⟩,h⟩,fun k=>⟨by omega,by omega,by omega,trivial,⟨by omega,by omega,by rw [List.length_append,List.length_singleton];omega, ?_⟩,by omega⟩,fun k=>⟨by omega,trivial,⟨by omega,by omega,by omega, ?_⟩,by omega⟩⟩,fun d=> ?_⟩
 ·rw [hb,th_hit (by omega) k,List.append_assoc,show m.length-(i+1).toNat=m.length-i.toNat-1 by omega];rfl
 ·rw [hb,th_miss (by omega) k,show m.length-(i+1).toNat=m.length-i.toNat-1 by omega]
 ·rw [hb,show m.length-i.toNat=0 by omega,thGo,List.append_nil]
theorem thr_pure (l m:List AcD) (h:m=l/\l.length<=1000000000):Pure Tryz.prog 114 [.list .tmp AcT l, .fn (.func 115) [.list .tmp AcT m] []] (.olist I (thoseF (roundF m) l.length)):=
 by have k:=Pure.of_cond (g_thr_eq l m) (g_thr_ok l m h) (specs_ok rfl [sp_round] [] rfl rfl) mixed Tryz.func114;exact k
noncomputable def q_thr (l m:List AcD):Prop×V:=(m=l/\l.length<=1000000000,(.olist I (thoseF (roundF m) l.length)))
noncomputable def sp_thr:FSpec Tryz.prog where
 f:=114
 run:=fun
  |[v0, .fn (.func 115) [v1_f0] []]=>(asL AcT v0:Option (List AcD)).bind fun l=>(asL AcT v1_f0:Option (List AcD)).bind fun m=>some (q_thr l m)
  |_=>none
 ok:=fun args pre r h hp=>by
  split at h
  ·rename_i v0 v1_f0;obtain ⟨l,h0,h⟩:=Option.bind_eq_some_iff.1 h;obtain ⟨m,h1_f0,h⟩:=Option.bind_eq_some_iff.1 h;exact of_q h hp fun h=>(thr_pure l m h).weak (.cons (asL_weak h0) (.cons (weak_fn (.cons (asL_weak h1_f0) .nil) .nil) .nil))
  ·cases h
noncomputable def env_thl (l m:List AcD):Env where
 P:=Tryz.prog
 ty:=tys0
 specs:=specsOf [sp_lv1]
 heads:=fun|3=>some {slots:=[(9, .int .i64),(5, .slc 9000 I)],boxes:=[],inv:=fun _ (x:Int×List Int×Unit)=>0<=x.1/\x.1<=l.length/\x.2.1.length<=x.1.toNat/\thoseF (leafF m) l.length=x.2.1++thGo (leafF m) (l.length-x.1.toNat) (x.1+1),measure:=fun _ (x:Int×List Int×Unit)=>(l.length-x.1).toNat}|_=>none
def g_thl_vc (l:List AcD) (m:List AcD):Prop:=
 (True/\0<=(0:Int)/\0<=(↑l.length:Int)/\(0:Nat)<=Int.toNat (0:Int)/\thoseF (leafF m) l.length=thGo (leafF m) (l.length-Int.toNat (0:Int)) ((0:Int)+1))/\∀(x:Int×List Int×Unit),0<=x.1/\x.1<=(↑l.length:Int)/\x.2.1.length<=x.1.toNat/\thoseF (leafF m) l.length=x.2.1++thGo (leafF m) (l.length-x.1.toNat) (x.1+1)->(decide (x.1<(↑l.length:Int))=true->(-9223372036854775808<=x.1+1/\x.1+1<=9223372036854775807)/\m.length<=(1000000000:Nat)/\(leafF m (x.1+1)=true->(-9223372036854775808<=x.1+1/\x.1+1<=9223372036854775807)/\((x.2.1.length+(1:Nat))*(8:Nat)<=(140737488355328:Nat)/\x.2.1.length+(1:Nat)<=(4611686018427387904:Nat))/\(-9223372036854775808<=x.1+1/\x.1+1<=9223372036854775807)/\True/\(0<=x.1+1/\x.1+1<=(↑l.length:Int)/\(x.2.1++[x.1+1]).length<=(x.1+1).toNat/\thoseF (leafF m) l.length=x.2.1++[x.1+1]++thGo (leafF m) (l.length-(x.1+1).toNat) (x.1+1+1))/\((↑l.length:Int)-(x.1+1)).toNat<((↑l.length:Int)-x.1).toNat)/\(leafF m (x.1+1)=false->(-9223372036854775808<=x.1+1/\x.1+1<=9223372036854775807)/\True/\(0<=x.1+1/\x.1+1<=(↑l.length:Int)/\x.2.1.length<=(x.1+1).toNat/\thoseF (leafF m) l.length=x.2.1++thGo (leafF m) (l.length-(x.1+1).toNat) (x.1+1+1))/\((↑l.length:Int)-(x.1+1)).toNat<((↑l.length:Int)-x.1).toNat))/\(decide (x.1<(↑l.length:Int))=false->(x.2.1,())=(thoseF (leafF m) l.length,()))
theorem g_thl_eq (l m:List AcD):Cond (env_thl l m) Tryz.f114 [.list .tmp AcT l, .fn (.func 160) [] [.fptr [.fn (.func 61) [] []], .fptr [.list .tmp AcT m]]] [.slc 0 I] (thoseF (leafF m) l.length,())=g_thl_vc l m:=by kernel_rfl
theorem g_thl_ok (l m:List AcD) (h:m=l/\l.length<=1000000000):g_thl_vc l m:=by
 obtain ⟨rfl,h⟩:=h;unfold g_thl_vc;simp only [decide_eq_true_eq,decide_eq_false_iff_not];refine ⟨⟨trivial,by omega,by omega,by omega,by simp [thoseF]⟩, ?_⟩;rintro ⟨i,out,⟨⟩⟩ ⟨h0,h1,h2,hb⟩;dsimp only at h0 h1 h2 hb⊢;refine ⟨fun d=>⟨by omega,h,fun k=>⟨by omega,by omega,by omega,trivial,⟨by omega,by omega,by rw [List.length_append,List.length_singleton];omega, ?_⟩,by omega⟩,fun k=>⟨by omega,trivial,⟨by omega,by omega,by omega, ?_⟩,by omega⟩⟩,fun d=> ?_⟩
 ·rw [hb,th_hit (by omega) k,List.append_assoc,show m.length-(i+1).toNat=m.length-i.toNat-1 by omega];rfl
 ·rw [hb,th_miss (by omega) k,show m.length-(i+1).toNat=m.length-i.toNat-1 by omega]
 ·rw [hb,show m.length-i.toNat=0 by omega,thGo,List.append_nil]
theorem thl_pure (l m:List AcD) (h:m=l/\l.length<=1000000000):Pure Tryz.prog 114 [.list .tmp AcT l, .fn (.func 160) [] [.fptr [.fn (.func 61) [] []], .fptr [.list .tmp AcT m]]] (.olist I (thoseF (leafF m) l.length)):=
 by have k:=Pure.of_cond (g_thl_eq l m) (g_thl_ok l m h) (specs_ok rfl [sp_lv1] [] rfl rfl) mixed Tryz.func114;exact k
noncomputable def q_thl (l m:List AcD):Prop×V:=(m=l/\l.length<=1000000000,(.olist I (thoseF (leafF m) l.length)))
noncomputable def sp_thl:FSpec Tryz.prog where
 f:=114
 run:=fun
  |[v0, .fn (.func 160) [] [.fptr [.fn (.func 61) [] []], .fptr [v1_c1_0]]]=>(asL AcT v0:Option (List AcD)).bind fun l=>(asL AcT v1_c1_0:Option (List AcD)).bind fun m=>some (q_thl l m)
  |_=>none
 ok:=fun args pre r h hp=>by
  split at h
  ·rename_i v0 v1_c1_0;obtain ⟨l,h0,h⟩:=Option.bind_eq_some_iff.1 h;obtain ⟨m,h1_c1_0,h⟩:=Option.bind_eq_some_iff.1 h;exact of_q h hp fun h=>(thl_pure l m h).weak (.cons (asL_weak h0) (.cons (weak_fn .nil (.cons (.refl _) (.cons (weak_fptr (.cons (asL_weak h1_c1_0) .nil)) .nil))) .nil))
  ·cases h
noncomputable def env_leaves (l:List AcD):Env where
 P:=Tryz.prog
 ty:=tys0
 specs:=specsOf [sp_thl]
def g_leaves_vc (l:List AcD):Prop:=
 (l=l/\l.length<=(1000000000:Nat))/\(thoseF (leafF l) l.length,())=(thoseF (leafF l) l.length,())
theorem g_leaves_eq (l:List AcD):Cond (env_leaves l) Tryz.f119 [.list .tmp AcT l] [.slc 0 I] (thoseF (leafF l) l.length,())=g_leaves_vc l:=by kernel_rfl
theorem g_leaves_ok (l:List AcD) (h:l.length<=1000000000):g_leaves_vc l:=by
 unfold g_leaves_vc;exact ⟨⟨rfl,h⟩,rfl⟩
theorem leaves_pure (l:List AcD) (h:l.length<=1000000000):Pure Tryz.prog 119 [.list .tmp AcT l] (.olist I (thoseF (leafF l) l.length)):=
 by have k:=Pure.of_cond (g_leaves_eq l) (g_leaves_ok l h) (specs_ok rfl [sp_thl] [] rfl rfl) mixed Tryz.func119;exact k
noncomputable def q_leaves (l:List AcD):Prop×V:=(l.length<=1000000000,(.olist I (thoseF (leafF l) l.length)))
noncomputable def sp_leaves:FSpec Tryz.prog where
 f:=119
 run:=fun
  |[v0]=>(asL AcT v0:Option (List AcD)).bind fun l=>some (q_leaves l)
  |_=>none
 ok:=fun args pre r h hp=>by
  split at h
  ·rename_i v0;obtain ⟨l,h0,h⟩:=Option.bind_eq_some_iff.1 h;exact of_q h hp fun h=>(leaves_pure l h).weak (.cons (asL_weak h0) .nil)
  ·cases h
end Go.Proofs.YtabicbgeoiilmaaGreat.Acc
end
section
namespace Go.Proofs.YtabicbgeoiilmaaGreat.Rts
open Go.Vm
abbrev Rt:=Int×Int×Int×Int×Int×Int
def ratioF (a b:Int):Int:=if 1<=a/\1<=b/\a<=1000000000000/\b<=1000000000000 then 0 else 11
noncomputable def env_rcheck (a b:Int):Env where
 P:=Tryz.prog
 ty:=tys0
def g_rcheck_vc (a:Int) (b:Int):Prop:=
 (decide (mmI false a b<(1:Int))=false->(decide ((1000000000000:Int)<mmI true a b)=true->((11:Int),())=(ratioF a b,()))/\(decide ((1000000000000:Int)<mmI true a b)=false->((0:Int),())=(ratioF a b,())))/\(decide (mmI false a b<(1:Int))= !false->((11:Int),())=(ratioF a b,()))
theorem g_rcheck_eq (a b:Int):Cond (env_rcheck a b) Tryz.f159 [.agg [.int .i64 a, .int .i64 b]] [.int .i64] (ratioF a b,())=g_rcheck_vc a b:=by kernel_rfl
theorem g_rcheck_ok (a b:Int):g_rcheck_vc a b:=by
 unfold g_rcheck_vc ratioF mmI;simp only [decide_eq_true_eq,decide_eq_false_iff_not,if_true,Bool.false_eq_true,if_false,Bool.not_false,Prod.mk.injEq,and_true];refine ⟨fun h1=>⟨fun h2=> ?_,fun h2=> ?_⟩,fun h1=> ?_⟩<;>split<;>omega
set_option maxRecDepth 20000
theorem rcheck_pure (a b:Int):Pure Tryz.prog 159 [.agg [.int .i64 a, .int .i64 b]] (.int .i64 (ratioF a b)):=
 by have k:=Pure.of_cond (g_rcheck_eq a b) (g_rcheck_ok a b) (specs_ok rfl [] [] rfl rfl) mixed Tryz.func159;exact k
noncomputable def q_rcheck (a b:Int):Prop×V:=(True,(.int .i64 (ratioF a b)))
noncomputable def sp_rcheck:FSpec Tryz.prog where
 f:=159
 run:=fun
  |[.agg [.int .i64 a, .int .i64 b]]=>some (q_rcheck a b)
  |_=>none
 ok:=fun args pre r h hp=>by
  split at h
  ·rename_i a b;exact of_q h hp fun h=>(rcheck_pure a b).weak (.cons (.refl _) .nil)
  ·cases h
def moneyB (c:Int):Bool:=decide (1<=c/\c<=8)
noncomputable def env_money (c:Int):Env where
 P:=Tryz.prog
 ty:=tys0
def g_money_vc (c:Int):Prop:=
 (decide ((1:Int)<=c)=true->(decide (c<=(8:Int)),())=(moneyB c,()))/\(decide ((1:Int)<=c)= !true->(false,())=(moneyB c,()))
theorem g_money_eq (c:Int):Cond (env_money c) Tryz.f158 [.int .i64 c] [.bool] (moneyB c,())=g_money_vc c:=by kernel_rfl
noncomputable def env_rmoney (c:Int):Env where
 P:=Tryz.prog
 ty:=tys0
def g_rmoney_vc (c:Int):Prop:=
 (decide ((1:Int)<=c)=true->(decide (c<=(8:Int)),())=(moneyB c,()))/\(decide ((1:Int)<=c)= !true->(false,())=(moneyB c,()))
theorem g_rmoney_eq (c:Int):Cond (env_rmoney c) Tryz.f69 [.int .i64 c] [.bool] (moneyB c,())=g_rmoney_vc c:=by kernel_rfl
theorem g_money_ok (c:Int):g_money_vc c:=by
 unfold g_money_vc moneyB;simp only [decide_eq_true_eq,decide_eq_false_iff_not,Bool.not_true,Prod.mk.injEq,and_true];refine ⟨fun h=>decide_eq_decide.2 (by omega),fun h=> ?_⟩;rw [decide_eq_false (by omega)]
theorem money_pure (c:Int):Pure Tryz.prog 158 [.int .i64 c] (.bool (moneyB c)):=
 by have k:=Pure.of_cond (g_money_eq c) (g_money_ok c) (specs_ok rfl [] [] rfl rfl) mixed Tryz.func158;exact k
noncomputable def q_money (c:Int):Prop×V:=(True,(.bool (moneyB c)))
noncomputable def sp_money:FSpec Tryz.prog where
 f:=158
 run:=fun
  |[.int .i64 c]=>some (q_money c)
  |_=>none
 ok:=fun args pre r h hp=>by
  split at h
  ·rename_i c;exact of_q h hp fun h=>(money_pure c).weak (.cons (.refl _) .nil)
  ·cases h
theorem g_rmoney_ok (c:Int):g_rmoney_vc c:=by
 unfold g_rmoney_vc moneyB;simp only [decide_eq_true_eq,decide_eq_false_iff_not,Bool.not_true,Prod.mk.injEq,and_true];refine ⟨fun h=>decide_eq_decide.2 (by omega),fun h=> ?_⟩;rw [decide_eq_false (by omega)]
theorem rmoney_pure (c:Int):Pure Tryz.prog 69 [.int .i64 c] (.bool (moneyB c)):=
 by have k:=Pure.of_cond (g_rmoney_eq c) (g_rmoney_ok c) (specs_ok rfl [] [] rfl rfl) mixed Tryz.func69;exact k
noncomputable def q_rmoney (c:Int):Prop×V:=(True,(.bool (moneyB c)))
noncomputable def sp_rmoney:FSpec Tryz.prog where
 f:=69
 run:=fun
  |[.int .i64 c]=>some (q_rmoney c)
  |_=>none
 ok:=fun args pre r h hp=>by
  split at h
  ·rename_i c;exact of_q h hp fun h=>(rmoney_pure c).weak (.cons (.refl _) .nil)
  ·cases h
def mayR (x:Rt):Int:=
 if¬(moneyB x.1=true/\moneyB x.2.1=true/\x.1≠x.2.1) then 23 else if¬(1<=x.2.2.1/\x.2.2.1<=3) then 25 else if¬(0<=x.2.2.2.1/\x.2.2.2.1<=23) then 22 else ratioF x.2.2.2.2.1 x.2.2.2.2.2
noncomputable def env_may (a b c p n d:Int):Env where
 P:=Tryz.prog
 ty:=tys0
 specs:=specsOf [sp_money,sp_rcheck]
def g_may_vc (a:Int) (b:Int) (c:Int) (p:Int) (n:Int) (d:Int):Prop:=
 True/\((!moneyB a)=false->True/\((!moneyB b)=false->(decide (a=b)=true->((23:Int),())=(mayR (a,b,c,p,n,d),()))/\(decide (a=b)=false->(decide (c<(1:Int))=false->(decide ((3:Int)<c)=true->((25:Int),())=(mayR (a,b,c,p,n,d),()))/\(decide ((3:Int)<c)=false->(decide (p<(0:Int))=false->(decide ((24:Int)<=p)=true->((22:Int),())=(mayR (a,b,c,p,n,d),()))/\(decide ((24:Int)<=p)=false->True/\(ratioF n d,())=(mayR (a,b,c,p,n,d),())))/\(decide (p<(0:Int))= !false->((22:Int),())=(mayR (a,b,c,p,n,d),()))))/\(decide (c<(1:Int))= !false->((25:Int),())=(mayR (a,b,c,p,n,d),()))))/\((!moneyB b)= !false->((23:Int),())=(mayR (a,b,c,p,n,d),())))/\((!moneyB a)= !false->((23:Int),())=(mayR (a,b,c,p,n,d),()))
theorem g_may_eq (a b c p n d:Int):Cond (env_may a b c p n d) Tryz.f117 [.agg [.int .i64 a, .int .i64 b, .int .i64 c, .int .i64 p, .int .i64 n, .int .i64 d]] [.int .i64] (mayR (a,b,c,p,n,d),())=g_may_vc a b c p n d:=by kernel_rfl
theorem may_23 {x:Rt} (h: ¬(moneyB x.1=true/\moneyB x.2.1=true/\x.1≠x.2.1)):mayR x=23:=by unfold mayR;rw [if_pos h]
theorem may_25 {x:Rt} (h:moneyB x.1=true/\moneyB x.2.1=true/\x.1≠x.2.1) (k: ¬(1<=x.2.2.1/\x.2.2.1<=3)):mayR x=25:=by unfold mayR;rw [if_neg (fun c=>c h),if_pos k]
theorem may_22 {x:Rt} (h:moneyB x.1=true/\moneyB x.2.1=true/\x.1≠x.2.1) (k:1<=x.2.2.1/\x.2.2.1<=3) (m: ¬(0<=x.2.2.2.1/\x.2.2.2.1<=23)):mayR x=22:=by
 unfold mayR;rw [if_neg (fun c=>c h),if_neg (fun c=>c k),if_pos m]
theorem may_ok {x:Rt} (h:moneyB x.1=true/\moneyB x.2.1=true/\x.1≠x.2.1) (k:1<=x.2.2.1/\x.2.2.1<=3) (m:0<=x.2.2.2.1/\x.2.2.2.1<=23):mayR x=ratioF x.2.2.2.2.1 x.2.2.2.2.2:=by
 unfold mayR;rw [if_neg (fun c=>c h),if_neg (fun c=>c k),if_neg (fun c=>c m)]
theorem g_may_ok (a b c p n d:Int):g_may_vc a b c p n d:=by
 unfold g_may_vc;simp only [decide_eq_true_eq,decide_eq_false_iff_not,Bool.not_eq_true',Bool.not_eq_false',Bool.not_false];refine ⟨trivial,fun h1=>⟨trivial,fun h2=>⟨fun h3=> ?_,fun h3=>⟨fun h4=>⟨fun h5=> ?_,fun h5=>⟨fun h6=>⟨fun h7=> ?_,fun h7=>⟨trivial, ?_⟩⟩,fun h6=> ?_⟩⟩,fun h4=> ?_⟩⟩,fun h2=> ?_⟩,fun h1=> ?_⟩
 ·rw [may_23 (fun k=>k.2.2 h3)]
 ·rw [may_25 ⟨h1,h2,h3⟩ (fun k=>by have:=k.2;dsimp only at this;omega)]
 ·rw [may_22 ⟨h1,h2,h3⟩ (by dsimp only;omega) (fun k=>by have:=k.2;dsimp only at this;omega)]
 ·rw [may_ok ⟨h1,h2,h3⟩ (by dsimp only;omega) (by dsimp only;omega)]
 ·rw [may_22 ⟨h1,h2,h3⟩ (by dsimp only;omega) (fun k=>by have:=k.1;dsimp only at this;omega)]
 ·rw [may_25 ⟨h1,h2,h3⟩ (fun k=>by have:=k.1;dsimp only at this;omega)]
 ·rw [may_23 (fun k=>by have:=k.2.1;dsimp only at this;rw [h2] at this;cases this)]
 ·rw [may_23 (fun k=>by have:=k.1;dsimp only at this;rw [h1] at this;cases this)]
theorem may_pure (a b c p n d:Int):Pure Tryz.prog 117 [.agg [.int .i64 a, .int .i64 b, .int .i64 c, .int .i64 p, .int .i64 n, .int .i64 d]] (.int .i64 (mayR (a,b,c,p,n,d))):=
 by have k:=Pure.of_cond (g_may_eq a b c p n d) (g_may_ok a b c p n d) (specs_ok rfl [sp_money,sp_rcheck] [] rfl rfl) mixed Tryz.func117;exact k
noncomputable def q_may (a b c p n d:Int):Prop×V:=(True,(.int .i64 (mayR (a,b,c,p,n,d))))
noncomputable def sp_may:FSpec Tryz.prog where
 f:=117
 run:=fun
  |[.agg [.int .i64 a, .int .i64 b, .int .i64 c, .int .i64 p, .int .i64 n, .int .i64 d]]=>some (q_may a b c p n d)
  |_=>none
 ok:=fun args pre r h hp=>by
  split at h
  ·rename_i a b c p n d;exact of_q h hp fun h=>(may_pure a b c p n d).weak (.cons (.refl _) .nil)
  ·cases h
def badL:List Rt->Int->Int×Int
 |[],i=>(i,0)
 |x::r,i=>if mayR x=0 then badL r (i+1) else (i,mayR x)
def checkF (l:List Rt):Int×Int:=if 2000<(l.length:Int) then (0,3) else badL l 0
noncomputable def env_check (l:List Rt):Env where
 P:=Tryz.prog
 ty:=tys0
 specs:=specsOf [sp_may]
 heads:=fun
  |4=>some {slots:=[(12, .int .i64)],boxes:=[],inv:=fun _ (x:Int×Unit)=>0<=x.1/\x.1<=l.length/\badL l 0=badL (l.drop x.1.toNat) x.1,measure:=fun _ (x:Int×Unit)=>(l.length-x.1).toNat}
  |_=>none
def g_check_vc (l:List Rt):Prop:=
 (decide ((2000:Int)<(↑l.length:Int))=true->((0:Int),(3:Int),())=((checkF l).1,(checkF l).2,()))/\(decide ((2000:Int)<(↑l.length:Int))=false->(True/\0<=(0:Int)/\0<=(↑l.length:Int)/\badL l (0:Int)=badL (List.drop (Int.toNat (0:Int)) l) (0:Int))/\∀(x:Int×Unit),0<=x.1/\x.1<=(↑l.length:Int)/\badL l (0:Int)=badL (List.drop x.1.toNat l) x.1->(decide (x.1<(↑l.length:Int))=true->(0<=x.1/\x.1<(↑l.length:Int))/\∀(x_1:Int×Int×Int×Int×Int×Int),l[x.1.toNat]? =some x_1->True/\((!decide (mayR x_1=(0:Int)))=true->(x.1,mayR x_1,())=((checkF l).1,(checkF l).2,()))/\((!decide (mayR x_1=(0:Int)))=false->(-9223372036854775808<=x.1+1/\x.1+1<=9223372036854775807)/\True/\(0<=x.1+1/\x.1+1<=(↑l.length:Int)/\badL l (0:Int)=badL (List.drop (x.1+1).toNat l) (x.1+1))/\((↑l.length:Int)-(x.1+1)).toNat<((↑l.length:Int)-x.1).toNat))/\(decide (x.1<(↑l.length:Int))=false->((↑l.length:Int),(0:Int),())=((checkF l).1,(checkF l).2,())))
theorem g_check_eq (l:List Rt):Cond (env_check l) Tryz.f53 [.list .tmp RTy l] [.int .i64, .int .i64] ((checkF l).1,(checkF l).2,())=g_check_vc l:=by kernel_rfl
theorem bad_next {l:List Rt} {i:Int} {x:Rt} (h0:0<=i) (hx:l[i.toNat]? =some x):badL (l.drop i.toNat) i=if mayR x=0 then badL (l.drop (i+1).toNat) (i+1) else (i,mayR x):=by
 obtain ⟨h1,h2⟩:=List.getElem?_eq_some_iff.1 hx;rw [List.drop_eq_getElem_cons h1,h2,show (i+1).toNat=i.toNat+1 by omega];rfl
theorem check_big {l:List Rt} (h:2000<(l.length:Int)):checkF l=(0,3):=by unfold checkF;rw [if_pos h]
theorem check_small {l:List Rt} (h: ¬2000<(l.length:Int)):checkF l=badL l 0:=by unfold checkF;rw [if_neg h]
theorem g_check_ok (l:List Rt):g_check_vc l:=by
 unfold g_check_vc;simp only [decide_eq_true_eq,decide_eq_false_iff_not,Bool.not_eq_true',Bool.not_eq_false'];refine ⟨fun c=>by rw [check_big c],fun c=>⟨⟨trivial,by omega,by omega,rfl⟩, ?_⟩⟩;rw [check_small c];rintro ⟨i,⟨⟩⟩ ⟨h0,h1,hb⟩;dsimp only at h0 h1 hb⊢;rw [hb];refine ⟨fun d=>⟨⟨h0,d⟩,fun x hx=>⟨trivial,fun k=> ?_,fun k=>⟨by omega,trivial,⟨by omega,by omega, ?_⟩,by omega⟩⟩⟩,fun d=> ?_⟩
 ·rw [bad_next h0 hx,if_neg k]
 ·rw [bad_next h0 hx,if_pos k]
 ·rw [List.drop_of_length_le (by omega)];have:i=l.length:=by omega
  rw [this];rfl
theorem check_pure (l:List Rt):Pure Tryz.prog 53 [.list .tmp RTy l] (.tuple [.int .i64 (checkF l).1, .int .i64 (checkF l).2]):=
 by have k:=Pure.of_cond (g_check_eq l) (g_check_ok l) (specs_ok rfl [sp_may] [] rfl rfl) mixed Tryz.func53;exact k
noncomputable def q_check (l:List Rt):Prop×V:=(True,(.tuple [.int .i64 (checkF l).1, .int .i64 (checkF l).2]))
noncomputable def sp_check:FSpec Tryz.prog where
 f:=53
 run:=fun
  |[v0]=>(asL RTy v0:Option (List Rt)).bind fun l=>some (q_check l)
  |_=>none
 ok:=fun args pre r h hp=>by
  split at h
  ·rename_i v0;obtain ⟨l,h0,h⟩:=Option.bind_eq_some_iff.1 h;exact of_q h hp fun h=>(check_pure l).weak (.cons (asL_weak h0) .nil)
  ·cases h
noncomputable def env_clone (l:List Rt):Env where
 P:=Tryz.prog
 ty:=tys0
def g_clone_vc (l:List Rt):Prop:=
 ((true=true->l.length=(0:Nat))->([],())=(l,()))/\((false=true->l.length=(0:Nat))->(((0:Nat)+l.length)*(48:Nat)<=(140737488355328:Nat)/\(0:Nat)+l.length<=(4611686018427387904:Nat)/\((0:Nat)<l.length∨(0:Nat)=(0:Nat)))/\(l,())=(l,()))
theorem g_clone_eq (l:List Rt):Cond (env_clone l) Tryz.f81 [.list .tmp RTy l] [.slc 0 RTy] (l,())=g_clone_vc l:=by kernel_rfl
theorem g_clone_ok (l:List Rt) (h:l.length<=1000000):g_clone_vc l:=by
 unfold g_clone_vc;refine ⟨fun e=> ?_,fun _=>⟨⟨by omega,by omega, .inr rfl⟩,rfl⟩⟩;have:=List.eq_nil_of_length_eq_zero (e rfl);rw [this]
theorem clone_pure (l:List Rt) (h:l.length<=1000000):Pure Tryz.prog 81 [.list .tmp RTy l] (.olist RTy l):=
 by have k:=Pure.of_cond (g_clone_eq l) (g_clone_ok l h) (specs_ok rfl [] [] rfl rfl) mixed Tryz.func81;exact k
noncomputable def q_clone (l:List Rt):Prop×V:=(l.length<=1000000,(.olist RTy l))
noncomputable def sp_clone:FSpec Tryz.prog where
 f:=81
 run:=fun
  |[v0]=>(asL RTy v0:Option (List Rt)).bind fun l=>some (q_clone l)
  |_=>none
 ok:=fun args pre r h hp=>by
  split at h
  ·rename_i v0;obtain ⟨l,h0,h⟩:=Option.bind_eq_some_iff.1 h;exact of_q h hp fun h=>(clone_pure l h).weak (.cons (asL_weak h0) .nil)
  ·cases h
theorem take_eq {α:Type} {l m:List α} {i:Nat} {x y:α} (h:l.take i=m.take i) (hx:l[i]? =some x) (hy:m[i]? =some y) (e:x=y):l.take (i+1)=m.take (i+1):=by
 rw [List.take_add_one,List.take_add_one,hx,hy,h,e]
end Go.Proofs.YtabicbgeoiilmaaGreat.Rts
end
section
namespace Go.Proofs.YtabicbgeoiilmaaGreat.Cur
open Go.Vm
open Rts (moneyB g_rmoney_ok sp_rmoney)
def bad (c:Int):Bool:= !moneyB c
noncomputable def env_money (c:Int):Env where
 P:=Tryz.prog
 ty:=tys0
def g_money_vc (c:Int):Prop:=
 (decide ((1:Int)<=c)=true->(decide (c<=(8:Int)),())=(moneyB c,()))/\(decide ((1:Int)<=c)= !true->(false,())=(moneyB c,()))
theorem g_money_eq (c:Int):Cond (env_money c) Tryz.f108 [.int .i64 c] [.bool] (moneyB c,())=g_money_vc c:=by kernel_rfl
theorem g_money_ok (c:Int):g_money_vc c:=by
 unfold g_money_vc moneyB;simp only [decide_eq_true_eq,decide_eq_false_iff_not,Bool.not_true,Prod.mk.injEq,and_true];refine ⟨fun h=>decide_eq_decide.2 (by omega),fun h=> ?_⟩;rw [decide_eq_false (by omega)]
set_option maxRecDepth 20000
theorem money_pure (c:Int):Pure Tryz.prog 108 [.int .i64 c] (.bool (moneyB c)):=
 by have k:=Pure.of_cond (g_money_eq c) (g_money_ok c) (specs_ok rfl [] [] rfl rfl) mixed Tryz.func108;exact k
noncomputable def q_money (c:Int):Prop×V:=(True,(.bool (moneyB c)))
noncomputable def sp_money:FSpec Tryz.prog where
 f:=108
 run:=fun
  |[.int .i64 c]=>some (q_money c)
  |_=>none
 ok:=fun args pre r h hp=>by
  split at h
  ·rename_i c;exact of_q h hp fun h=>(money_pure c).weak (.cons (.refl _) .nil)
  ·cases h
noncomputable def env_wrong (c:Int):Env where
 P:=Tryz.prog
 ty:=tys0
 specs:=specsOf [sp_money]
def g_wrong_vc (c:Int):Prop:=
 True/\(!moneyB c,())=(bad c,())
theorem g_wrong_eq (c:Int):Cond (env_wrong c) Tryz.f107 [.int .i64 c] [.bool] (bad c,())=g_wrong_vc c:=by kernel_rfl
theorem g_wrong_ok (c:Int):g_wrong_vc c:=by
 unfold g_wrong_vc bad;exact ⟨trivial,rfl⟩
theorem wrong_pure (c:Int):Pure Tryz.prog 107 [.int .i64 c] (.bool (bad c)):=
 by have k:=Pure.of_cond (g_wrong_eq c) (g_wrong_ok c) (specs_ok rfl [sp_money] [] rfl rfl) mixed Tryz.func107;exact k
noncomputable def q_wrong (c:Int):Prop×V:=(True,(.bool (bad c)))
noncomputable def sp_wrong:FSpec Tryz.prog where
 f:=107
 run:=fun
  |[.int .i64 c]=>some (q_wrong c)
  |_=>none
 ok:=fun args pre r h hp=>by
  split at h
  ·rename_i c;exact of_q h hp fun h=>(wrong_pure c).weak (.cons (.refl _) .nil)
  ·cases h
noncomputable def env_idx (l:List Int):Env where
 P:=Tryz.prog
 ty:=tys0
 specs:=specsOf [sp_wrong]
 heads:=fun|2=>some {slots:=[(8, .int .i64)],boxes:=[],inv:=fun _ (x:Int×Unit)=>0<=x.1/\x.1<=l.length/\idxF bad l=idxGo bad (l.drop x.1.toNat) x.1,measure:=fun _ (x:Int×Unit)=>(l.length-x.1).toNat}|_=>none
def g_idx_vc (l:List Int):Prop:=
 (True/\0<=(0:Int)/\0<=(↑l.length:Int)/\idxF bad l=idxGo bad (List.drop (Int.toNat (0:Int)) l) (0:Int))/\∀(x:Int×Unit),0<=x.1/\x.1<=(↑l.length:Int)/\idxF bad l=idxGo bad (List.drop x.1.toNat l) x.1->(decide (x.1<(↑l.length:Int))=true->(0<=x.1/\x.1<(↑l.length:Int))/\∀(x_1:Int),l[x.1.toNat]? =some x_1->True/\(bad x_1=true->(x.1,())=(idxF bad l,()))/\(bad x_1=false->(-9223372036854775808<=x.1+1/\x.1+1<=9223372036854775807)/\True/\(0<=x.1+1/\x.1+1<=(↑l.length:Int)/\idxF bad l=idxGo bad (List.drop (x.1+1).toNat l) (x.1+1))/\((↑l.length:Int)-(x.1+1)).toNat<((↑l.length:Int)-x.1).toNat))/\(decide (x.1<(↑l.length:Int))=false->((-1:Int),())=(idxF bad l,()))
theorem g_idx_eq (l:List Int):Cond (env_idx l) Tryz.f109 [.list .tmp I l, .fn (.func 107) [] []] [.int .i64] (idxF bad l,())=g_idx_vc l:=by kernel_rfl
theorem g_idx_ok (l:List Int) (h:l.length<=1000000000):g_idx_vc l:=by
 have hl:l.length<=1000000000:=h;unfold g_idx_vc;simp only [decide_eq_true_eq,decide_eq_false_iff_not];refine ⟨⟨by trivial,by omega,by omega,rfl⟩, ?_⟩;rintro ⟨i,⟨⟩⟩ ⟨h0,h1,hb⟩;dsimp only at h0 h1 hb⊢;rw [hb];refine ⟨fun c=>⟨⟨h0,c⟩,fun x hx=>⟨trivial,fun k=> ?_,fun k=>⟨by omega,trivial,⟨by omega,by omega, ?_⟩,by omega⟩⟩⟩,fun c=> ?_⟩
 ·rw [idx_hit h0 hx k]
 ·rw [idx_miss h0 hx k]
 ·rw [idx_end c]
theorem idx_pure (l:List Int) (h:l.length<=1000000000):Pure Tryz.prog 109 [.list .tmp I l, .fn (.func 107) [] []] (.int .i64 (idxF bad l)):=
 by have k:=Pure.of_cond (g_idx_eq l) (g_idx_ok l h) (specs_ok rfl [sp_wrong] [] rfl rfl) mixed Tryz.func109;exact k
noncomputable def q_idx (l:List Int):Prop×V:=(l.length<=1000000000,(.int .i64 (idxF bad l)))
noncomputable def sp_idx:FSpec Tryz.prog where
 f:=109
 run:=fun
  |[v0, .fn (.func 107) [] []]=>(asL I v0:Option (List Int)).bind fun l=>some (q_idx l)
  |_=>none
 ok:=fun args pre r h hp=>by
  split at h
  ·rename_i v0;obtain ⟨l,h0,h⟩:=Option.bind_eq_some_iff.1 h;exact of_q h hp fun h=>(idx_pure l h).weak (.cons (asL_weak h0) (.cons (.refl _) .nil))
  ·cases h
def checkF (l:List Int):Int×Int:=if 40<(l.length:Int) then (0,3) else if 0<=idxF bad l then (idxF bad l,23) else (l.length,0)
noncomputable def env_check (l:List Int):Env where
 P:=Tryz.prog
 ty:=tys0
 specs:=specsOf [sp_idx]
def g_check_vc (l:List Int):Prop:=
 (decide ((40:Int)<(↑l.length:Int))=true->((0:Int),(3:Int),())=((checkF l).1,(checkF l).2,()))/\(decide ((40:Int)<(↑l.length:Int))=false->l.length<=(1000000000:Nat)/\(decide (0<=idxF bad l)=true->(idxF bad l,(23:Int),())=((checkF l).1,(checkF l).2,()))/\(decide (0<=idxF bad l)=false->((↑l.length:Int),(0:Int),())=((checkF l).1,(checkF l).2,())))
theorem g_check_eq (l:List Int):Cond (env_check l) Tryz.f47 [.list .tmp I l] [.int .i64, .int .i64] ((checkF l).1,(checkF l).2,())=g_check_vc l:=by kernel_rfl
theorem g_check_ok (l:List Int) (h:l.length<=1000000000):g_check_vc l:=by
 unfold g_check_vc checkF;simp only [decide_eq_true_eq,decide_eq_false_iff_not];refine ⟨fun c=>by rw [if_pos c],fun c=>⟨h,fun d=>by rw [if_neg c,if_pos d],fun d=>by rw [if_neg c,if_neg d]⟩⟩
theorem check_pure (l:List Int) (h:l.length<=1000000000):Pure Tryz.prog 47 [.list .tmp I l] (.tuple [.int .i64 (checkF l).1, .int .i64 (checkF l).2]):=
 by have k:=Pure.of_cond (g_check_eq l) (g_check_ok l h) (specs_ok rfl [sp_idx] [] rfl rfl) mixed Tryz.func47;exact k
noncomputable def q_check (l:List Int):Prop×V:=(l.length<=1000000000,(.tuple [.int .i64 (checkF l).1, .int .i64 (checkF l).2]))
noncomputable def sp_check:FSpec Tryz.prog where
 f:=47
 run:=fun
  |[v0]=>(asL I v0:Option (List Int)).bind fun l=>some (q_check l)
  |_=>none
 ok:=fun args pre r h hp=>by
  split at h
  ·rename_i v0;obtain ⟨l,h0,h⟩:=Option.bind_eq_some_iff.1 h;exact of_q h hp fun h=>(check_pure l h).weak (.cons (asL_weak h0) .nil)
  ·cases h
end Go.Proofs.YtabicbgeoiilmaaGreat.Cur
end
section
namespace Go.Proofs.YtabicbgeoiilmaaGreat.Lck
open Go.Vm
abbrev Lk:=Int×Int
def lastGo (e:Int):List Lk->Int->Int
 |[],o=>o
 |x::r,o=>lastGo e r (if x.1=e then max o x.2 else o)
theorem mm_max (a b:Int):mmI true a b=max a b:=by unfold mmI;simp only [if_true];split<;>omega
def lastF (l:List Lk) (e:Int):Int:=lastGo e l (-1)
theorem last_next {e:Int} {l:List Lk} {i o:Int} {x:Lk} (h0:0<=i) (hx:l[i.toNat]? =some x):lastGo e (l.drop i.toNat) o=lastGo e (l.drop (i+1).toNat) (if x.1=e then max o x.2 else o):=by
 obtain ⟨h1,h2⟩:=List.getElem?_eq_some_iff.1 hx;rw [List.drop_eq_getElem_cons h1,h2,show (i+1).toNat=i.toNat+1 by omega];rfl
theorem last_end {e:Int} {l:List Lk} {i o:Int} (h: ¬i<(l.length:Int)):lastGo e (l.drop i.toNat) o=o:=by
 rw [List.drop_of_length_le (by omega)];rfl
noncomputable def env_last (l:List Lk) (e:Int):Env where
 P:=Tryz.prog
 ty:=tys0
 heads:=fun|3=>some {slots:=[(10, .int .i64),(5, .int .i64)],boxes:=[],inv:=fun _ (x:Int×Int×Unit)=>0<=x.1/\x.1<=l.length/\lastF l e=lastGo e (l.drop x.1.toNat) x.2.1,measure:=fun _ (x:Int×Int×Unit)=>(l.length-x.1).toNat}|_=>none
def g_last_vc (l:List Lk) (e:Int):Prop:=
 (True/\0<=(0:Int)/\0<=(↑l.length:Int)/\lastF l e=lastGo e (List.drop (Int.toNat (0:Int)) l) (-1:Int))/\∀(x:Int×Int×Unit),0<=x.1/\x.1<=(↑l.length:Int)/\lastF l e=lastGo e (List.drop x.1.toNat l) x.2.1->(decide (x.1<(↑l.length:Int))=true->(0<=x.1/\x.1<(↑l.length:Int))/\∀(x_1:Int×Int),l[x.1.toNat]? =some x_1->(decide (x_1.1=e)=true->(-9223372036854775808<=x.1+1/\x.1+1<=9223372036854775807)/\True/\(0<=x.1+1/\x.1+1<=(↑l.length:Int)/\lastF l e=lastGo e (List.drop (x.1+1).toNat l) (mmI true x.2.1 x_1.2))/\((↑l.length:Int)-(x.1+1)).toNat<((↑l.length:Int)-x.1).toNat)/\(decide (x_1.1=e)=false->(-9223372036854775808<=x.1+1/\x.1+1<=9223372036854775807)/\True/\(0<=x.1+1/\x.1+1<=(↑l.length:Int)/\lastF l e=lastGo e (List.drop (x.1+1).toNat l) x.2.1)/\((↑l.length:Int)-(x.1+1)).toNat<((↑l.length:Int)-x.1).toNat))/\(decide (x.1<(↑l.length:Int))=false->(x.2.1,())=(lastF l e,()))
theorem g_last_eq (l:List Lk) (e:Int):Cond (env_last l e) Tryz.f60 [.list .tmp Vl l, .int .i64 e] [.int .i64] (lastF l e,())=g_last_vc l e:=by kernel_rfl
theorem g_last_ok (l:List Lk) (e:Int) (h:l.length<=1000000000):g_last_vc l e:=by
 unfold g_last_vc;simp only [decide_eq_true_eq,decide_eq_false_iff_not];refine ⟨⟨trivial,by omega,by omega,rfl⟩, ?_⟩;rintro ⟨i,o,⟨⟩⟩ ⟨h0,h1,hb⟩;dsimp only at h0 h1 hb⊢;refine ⟨fun c=>⟨⟨h0,c⟩,fun x hx=>⟨fun k=>⟨by omega,trivial,⟨by omega,by omega, ?_⟩,by omega⟩,fun k=>⟨by omega,trivial,⟨by omega,by omega, ?_⟩,by omega⟩⟩⟩,fun c=> ?_⟩
 ·rw [hb,last_next h0 hx,if_pos k,mm_max]
 ·rw [hb,last_next h0 hx,if_neg k]
 ·rw [hb,last_end c]
set_option maxRecDepth 20000
theorem last_pure (l:List Lk) (e:Int) (h:l.length<=1000000000):Pure Tryz.prog 60 [.list .tmp Vl l, .int .i64 e] (.int .i64 (lastF l e)):=
 by have k:=Pure.of_cond (g_last_eq l e) (g_last_ok l e h) (specs_ok rfl [] [] rfl rfl) mixed Tryz.func60;exact k
noncomputable def q_last (l:List Lk) (e:Int):Prop×V:=(l.length<=1000000000,(.int .i64 (lastF l e)))
noncomputable def sp_last:FSpec Tryz.prog where
 f:=60
 run:=fun
  |[v0, .int .i64 e]=>(asL Vl v0:Option (List Lk)).bind fun l=>some (q_last l e)
  |_=>none
 ok:=fun args pre r h hp=>by
  split at h
  ·rename_i v0 e;obtain ⟨l,h0,h⟩:=Option.bind_eq_some_iff.1 h;exact of_q h hp fun h=>(last_pure l e h).weak (.cons (asL_weak h0) (.cons (.refl _) .nil))
  ·cases h
def lkP (l:List Lk) (p e:Int):Bool:=decide (p<=lastF l e)
noncomputable def env_lk1 (l:List Lk) (p e:Int):Env where
 P:=Tryz.prog
 ty:=tys0
 specs:=specsOf [sp_last]
 frz:=fun|8=>true|_=>false
def g_lk1_vc (l:List Lk) (p:Int) (e:Int):Prop:=
 l.length<=(1000000000:Nat)/\(decide (p<=lastF l e),())=(lkP l p e,())
theorem g_lk1_eq (l:List Lk) (p e:Int):Cond (env_lk1 l p e) Tryz.f59 [.int .i64 e, .fptr [.int .i64 p], .fptr [.list .tmp Vl l]] [.bool] (lkP l p e,())=g_lk1_vc l p e:=by kernel_rfl
theorem g_lk1_ok (l:List Lk) (p e:Int) (h:l.length<=1000000000):g_lk1_vc l p e:=by
 unfold g_lk1_vc;exact ⟨h,rfl⟩
theorem lk1_pure (l:List Lk) (p e:Int) (h:l.length<=1000000000):Pure Tryz.prog 59 [.int .i64 e, .fptr [.int .i64 p], .fptr [.list .tmp Vl l]] (.bool (lkP l p e)):=
 by have k:=Pure.of_cond (g_lk1_eq l p e) (g_lk1_ok l p e h) (specs_ok rfl [sp_last] [] rfl rfl) mixed Tryz.func59;exact k
noncomputable def q_lk1 (l:List Lk) (p e:Int):Prop×V:=(l.length<=1000000000,(.bool (lkP l p e)))
noncomputable def sp_lk1:FSpec Tryz.prog where
 f:=59
 run:=fun
  |[.int .i64 e, .fptr [.int .i64 p], .fptr [v2_0]]=>(asL Vl v2_0:Option (List Lk)).bind fun l=>some (q_lk1 l p e)
  |_=>none
 ok:=fun args pre r h hp=>by
  split at h
  ·rename_i e p v2_0;obtain ⟨l,h2_0,h⟩:=Option.bind_eq_some_iff.1 h;exact of_q h hp fun h=>(lk1_pure l p e h).weak (.cons (.refl _) (.cons (.refl _) (.cons (weak_fptr (.cons (asL_weak h2_0) .nil)) .nil)))
  ·cases h
noncomputable def env_idx (xs:List Int) (l:List Lk) (p:Int):Env where
 P:=Tryz.prog
 ty:=tys0
 specs:=specsOf [sp_lk1]
 heads:=fun|2=>some {slots:=[(8, .int .i64)],boxes:=[],inv:=fun _ (x:Int×Unit)=>0<=x.1/\x.1<=xs.length/\idxF (lkP l p) xs=idxGo (lkP l p) (xs.drop x.1.toNat) x.1,measure:=fun _ (x:Int×Unit)=>(xs.length-x.1).toNat}|_=>none
def g_idx_vc (xs:List Int) (l:List Lk) (p:Int):Prop:=
 (True/\0<=(0:Int)/\0<=(↑xs.length:Int)/\idxF (lkP l p) xs=idxGo (lkP l p) (List.drop (Int.toNat (0:Int)) xs) (0:Int))/\∀(x:Int×Unit),0<=x.1/\x.1<=(↑xs.length:Int)/\idxF (lkP l p) xs=idxGo (lkP l p) (List.drop x.1.toNat xs) x.1->(decide (x.1<(↑xs.length:Int))=true->(0<=x.1/\x.1<(↑xs.length:Int))/\∀(x_1:Int),xs[x.1.toNat]? =some x_1->l.length<=(1000000000:Nat)/\(lkP l p x_1=true->(x.1,())=(idxF (lkP l p) xs,()))/\(lkP l p x_1=false->(-9223372036854775808<=x.1+1/\x.1+1<=9223372036854775807)/\True/\(0<=x.1+1/\x.1+1<=(↑xs.length:Int)/\idxF (lkP l p) xs=idxGo (lkP l p) (List.drop (x.1+1).toNat xs) (x.1+1))/\((↑xs.length:Int)-(x.1+1)).toNat<((↑xs.length:Int)-x.1).toNat))/\(decide (x.1<(↑xs.length:Int))=false->((-1:Int),())=(idxF (lkP l p) xs,()))
theorem g_idx_eq (xs:List Int) (l:List Lk) (p:Int):Cond (env_idx xs l p) Tryz.f109 [.list .tmp I xs, .fn (.func 59) [] [.fptr [.int .i64 p], .fptr [.list .tmp Vl l]]] [.int .i64] (idxF (lkP l p) xs,())=g_idx_vc xs l p:=by kernel_rfl
theorem g_idx_ok (xs:List Int) (l:List Lk) (p:Int) (h:xs.length<=1000000000/\l.length<=1000000000):g_idx_vc xs l p:=by
 unfold g_idx_vc;simp only [decide_eq_true_eq,decide_eq_false_iff_not];obtain ⟨ha,hl⟩:=h;refine ⟨⟨trivial,by omega,by omega,rfl⟩, ?_⟩;rintro ⟨i,⟨⟩⟩ ⟨h0,h1,hb⟩;dsimp only at h0 h1 hb⊢;rw [hb];refine ⟨fun c=>⟨⟨h0,c⟩,fun x hx=>⟨hl,fun k=> ?_,fun k=>⟨by omega,trivial,⟨by omega,by omega, ?_⟩,by omega⟩⟩⟩,fun c=> ?_⟩
 ·rw [idx_hit h0 hx k]
 ·rw [idx_miss h0 hx k]
 ·rw [idx_end c]
theorem idx_pure (xs:List Int) (l:List Lk) (p:Int) (h:xs.length<=1000000000/\l.length<=1000000000):Pure Tryz.prog 109 [.list .tmp I xs, .fn (.func 59) [] [.fptr [.int .i64 p], .fptr [.list .tmp Vl l]]] (.int .i64 (idxF (lkP l p) xs)):=
 by have k:=Pure.of_cond (g_idx_eq xs l p) (g_idx_ok xs l p h) (specs_ok rfl [sp_lk1] [] rfl rfl) mixed Tryz.func109;exact k
noncomputable def q_idx (xs:List Int) (l:List Lk) (p:Int):Prop×V:=(xs.length<=1000000000/\l.length<=1000000000,(.int .i64 (idxF (lkP l p) xs)))
noncomputable def sp_idx:FSpec Tryz.prog where
 f:=109
 run:=fun
  |[v0, .fn (.func 59) [] [.fptr [.int .i64 p], .fptr [v1_c1_0]]]=>(asL I v0:Option (List Int)).bind fun xs=>(asL Vl v1_c1_0:Option (List Lk)).bind fun l=>some (q_idx xs l p)
  |_=>none
 ok:=fun args pre r h hp=>by
  split at h
  ·rename_i v0 p v1_c1_0;obtain ⟨xs,h0,h⟩:=Option.bind_eq_some_iff.1 h;obtain ⟨l,h1_c1_0,h⟩:=Option.bind_eq_some_iff.1 h;exact of_q h hp fun h=>(idx_pure xs l p h).weak (.cons (asL_weak h0) (.cons (weak_fn .nil (.cons (.refl _) (.cons (weak_fptr (.cons (asL_weak h1_c1_0) .nil)) .nil))) .nil))
  ·cases h
noncomputable def env_cont (xs:List Int) (l:List Lk) (p:Int):Env where
 P:=Tryz.prog
 ty:=tys0
 specs:=specsOf [sp_idx]
def g_cont_vc (xs:List Int) (l:List Lk) (p:Int):Prop:=
 (xs.length<=(1000000000:Nat)/\l.length<=(1000000000:Nat))/\(decide (0<=idxF (lkP l p) xs),())=(xs.any (lkP l p),())
theorem g_cont_eq (xs:List Int) (l:List Lk) (p:Int):Cond (env_cont xs l p) Tryz.f58 [.list .tmp I xs, .fn (.func 59) [] [.fptr [.int .i64 p], .fptr [.list .tmp Vl l]]] [.bool] (xs.any (lkP l p),())=g_cont_vc xs l p:=by kernel_rfl
theorem g_cont_ok (xs:List Int) (l:List Lk) (p:Int) (h:xs.length<=1000000000/\l.length<=1000000000):g_cont_vc xs l p:=by
 unfold g_cont_vc;exact ⟨h,by rw [idx_any]⟩
theorem cont_pure (xs:List Int) (l:List Lk) (p:Int) (h:xs.length<=1000000000/\l.length<=1000000000):Pure Tryz.prog 58 [.list .tmp I xs, .fn (.func 59) [] [.fptr [.int .i64 p], .fptr [.list .tmp Vl l]]] (.bool (xs.any (lkP l p))):=
 by have k:=Pure.of_cond (g_cont_eq xs l p) (g_cont_ok xs l p h) (specs_ok rfl [sp_idx] [] rfl rfl) mixed Tryz.func58;exact k
noncomputable def q_cont (xs:List Int) (l:List Lk) (p:Int):Prop×V:=(xs.length<=1000000000/\l.length<=1000000000,(.bool (xs.any (lkP l p))))
noncomputable def sp_cont:FSpec Tryz.prog where
 f:=58
 run:=fun
  |[v0, .fn (.func 59) [] [.fptr [.int .i64 p], .fptr [v1_c1_0]]]=>(asL I v0:Option (List Int)).bind fun xs=>(asL Vl v1_c1_0:Option (List Lk)).bind fun l=>some (q_cont xs l p)
  |_=>none
 ok:=fun args pre r h hp=>by
  split at h
  ·rename_i v0 p v1_c1_0;obtain ⟨xs,h0,h⟩:=Option.bind_eq_some_iff.1 h;obtain ⟨l,h1_c1_0,h⟩:=Option.bind_eq_some_iff.1 h;exact of_q h hp fun h=>(cont_pure xs l p h).weak (.cons (asL_weak h0) (.cons (weak_fn .nil (.cons (.refl _) (.cons (weak_fptr (.cons (asL_weak h1_c1_0) .nil)) .nil))) .nil))
  ·cases h
noncomputable def env_locked (l:List Lk) (p:Int) (xs:List Int):Env where
 P:=Tryz.prog
 ty:=tys0
 specs:=specsOf [sp_cont]
def g_locked_vc (l:List Lk) (p:Int) (xs:List Int):Prop:=
 (xs.length<=(1000000000:Nat)/\l.length<=(1000000000:Nat))/\(xs.any (lkP l p),())=(xs.any (lkP l p),())
theorem g_locked_eq (l:List Lk) (p:Int) (xs:List Int):Cond (env_locked l p xs) Tryz.f18 [.list .tmp Vl l, .int .i64 p, .list .tmp I xs] [.bool] (xs.any (lkP l p),())=g_locked_vc l p xs:=by kernel_rfl
theorem g_locked_ok (l:List Lk) (p:Int) (xs:List Int) (h:xs.length<=1000000000/\l.length<=1000000000):g_locked_vc l p xs:=by
 unfold g_locked_vc;exact ⟨h,rfl⟩
theorem locked_pure (l:List Lk) (p:Int) (xs:List Int) (h:xs.length<=1000000000/\l.length<=1000000000):Pure Tryz.prog 18 [.list .tmp Vl l, .int .i64 p, .list .tmp I xs] (.bool (xs.any (lkP l p))):=
 by have k:=Pure.of_cond (g_locked_eq l p xs) (g_locked_ok l p xs h) (specs_ok rfl [sp_cont] [] rfl rfl) mixed Tryz.func18;exact k
noncomputable def q_locked (l:List Lk) (p:Int) (xs:List Int):Prop×V:=(xs.length<=1000000000/\l.length<=1000000000,(.bool (xs.any (lkP l p))))
noncomputable def sp_locked:FSpec Tryz.prog where
 f:=18
 run:=fun
  |[v0, .int .i64 p,v2]=>(asL Vl v0:Option (List Lk)).bind fun l=>(asL I v2:Option (List Int)).bind fun xs=>some (q_locked l p xs)
  |_=>none
 ok:=fun args pre r h hp=>by
  split at h
  ·rename_i v0 p v2;obtain ⟨l,h0,h⟩:=Option.bind_eq_some_iff.1 h;obtain ⟨xs,h2,h⟩:=Option.bind_eq_some_iff.1 h;exact of_q h hp fun h=>(locked_pure l p xs h).weak (.cons (asL_weak h0) (.cons (.refl _) (.cons (asL_weak h2) .nil)))
  ·cases h
def mayF (l:List Lk) (a b n:Int):Int:=if a<1∨n<a then 20 else if b<0∨23<b then 22 else if [a].any (lkP l b) then 35 else 0
noncomputable def env_may (l:List Lk) (a b n:Int):Env where
 P:=Tryz.prog
 ty:=tys0
 specs:=specsOf [sp_locked]
def g_may_vc (l:List Lk) (a:Int) (b:Int) (n:Int):Prop:=
 (decide (a<(1:Int))=false->(decide (n<a)=true->((20:Int),())=(mayF l a b n,()))/\(decide (n<a)=false->(decide (b<(0:Int))=false->(decide ((24:Int)<=b)=true->((22:Int),())=(mayF l a b n,()))/\(decide ((24:Int)<=b)=false->((1:Nat)<=(1000000000:Nat)/\l.length<=(1000000000:Nat))/\([a].any (lkP l b)=true->((35:Int),())=(mayF l a b n,()))/\([a].any (lkP l b)=false->((0:Int),())=(mayF l a b n,()))))/\(decide (b<(0:Int))= !false->((22:Int),())=(mayF l a b n,()))))/\(decide (a<(1:Int))= !false->((20:Int),())=(mayF l a b n,()))
theorem g_may_eq (l:List Lk) (a b n:Int):Cond (env_may l a b n) Tryz.f118 [.list .tmp Vl l, .agg [.int .i64 a, .int .i64 b], .int .i64 n] [.int .i64] (mayF l a b n,())=g_may_vc l a b n:=by kernel_rfl
theorem g_may_ok (l:List Lk) (a b n:Int) (h:l.length<=1000000000):g_may_vc l a b n:=by
 unfold g_may_vc mayF;simp only [decide_eq_true_eq,decide_eq_false_iff_not];repeat' (first|with_reducible apply And.intro|intro _)
 all_goals (try congr 1)
 all_goals repeat' split
 all_goals first|rfl|omega|(simp_all;done)|(simp_all;omega)
theorem may_pure (l:List Lk) (a b n:Int) (h:l.length<=1000000000):Pure Tryz.prog 118 [.list .tmp Vl l, .agg [.int .i64 a, .int .i64 b], .int .i64 n] (.int .i64 (mayF l a b n)):=
 by have k:=Pure.of_cond (g_may_eq l a b n) (g_may_ok l a b n h) (specs_ok rfl [sp_locked] [] rfl rfl) mixed Tryz.func118;exact k
noncomputable def q_may (l:List Lk) (a b n:Int):Prop×V:=(l.length<=1000000000,(.int .i64 (mayF l a b n)))
noncomputable def sp_may:FSpec Tryz.prog where
 f:=118
 run:=fun
  |[v0, .agg [.int .i64 a, .int .i64 b], .int .i64 n]=>(asL Vl v0:Option (List Lk)).bind fun l=>some (q_may l a b n)
  |_=>none
 ok:=fun args pre r h hp=>by
  split at h
  ·rename_i v0 a b n;obtain ⟨l,h0,h⟩:=Option.bind_eq_some_iff.1 h;exact of_q h hp fun h=>(may_pure l a b n h).weak (.cons (asL_weak h0) (.cons (.refl _) (.cons (.refl _) .nil)))
  ·cases h
def kGo (n:Int) (l:List Lk):Nat->Int->Int×Int
 |0,i=>(i,0)
 |f+1,i=>match l[i.toNat]? with
  |none=>(i,0)
  |some x=>if mayF (l.take i.toNat) x.1 x.2 n=0 then kGo n l f (i+1) else (i,mayF (l.take i.toNat) x.1 x.2 n)
def checkF (l:List Lk) (n:Int):Int×Int:=if 400<(l.length:Int) then (0,3) else kGo n l l.length 0
noncomputable def env_check (l:List Lk) (n:Int):Env where
 P:=Tryz.prog
 ty:=tys0
 specs:=specsOf [sp_may]
 frz:=fun|24=>true|_=>false
 heads:=fun|4=>some {slots:=[(14, .int .i64)],boxes:=[],inv:=fun _ (x:Int×Unit)=>0<=x.1/\x.1<=l.length/\kGo n l l.length 0=kGo n l (l.length-x.1.toNat) x.1,measure:=fun _ (x:Int×Unit)=>(l.length-x.1).toNat}|_=>none
def g_check_vc (l:List Lk) (n:Int):Prop:=
 (decide ((400:Int)<(↑l.length:Int))=true->((0:Int),(3:Int),())=((checkF l n).1,(checkF l n).2,()))/\(decide ((400:Int)<(↑l.length:Int))=false->(True/\0<=(0:Int)/\0<=(↑l.length:Int)/\kGo n l l.length (0:Int)=kGo n l (l.length-Int.toNat (0:Int)) (0:Int))/\∀(x:Int×Unit),0<=x.1/\x.1<=(↑l.length:Int)/\kGo n l l.length (0:Int)=kGo n l (l.length-x.1.toNat) x.1->(decide (x.1<(↑l.length:Int))=true->(0<=x.1/\x.1<(↑l.length:Int))/\∀(x_1:Int×Int),l[x.1.toNat]? =some x_1->(0<=x.1/\x.1<=(↑l.length:Int))/\(List.take x.1.toNat l).length<=(1000000000:Nat)/\((!decide (mayF (List.take x.1.toNat l) x_1.1 x_1.2 n=(0:Int)))=true->(x.1,mayF (List.take x.1.toNat l) x_1.1 x_1.2 n,())=((checkF l n).1,(checkF l n).2,()))/\((!decide (mayF (List.take x.1.toNat l) x_1.1 x_1.2 n=(0:Int)))=false->(-9223372036854775808<=x.1+1/\x.1+1<=9223372036854775807)/\True/\(0<=x.1+1/\x.1+1<=(↑l.length:Int)/\kGo n l l.length (0:Int)=kGo n l (l.length-(x.1+1).toNat) (x.1+1))/\((↑l.length:Int)-(x.1+1)).toNat<((↑l.length:Int)-x.1).toNat))/\(decide (x.1<(↑l.length:Int))=false->((↑l.length:Int),(0:Int),())=((checkF l n).1,(checkF l n).2,())))
theorem g_check_eq (l:List Lk) (n:Int):Cond (env_check l n) Tryz.f55 [.list .tmp Vl l, .int .i64 n] [.int .i64, .int .i64] ((checkF l n).1,(checkF l n).2,())=g_check_vc l n:=by kernel_rfl
theorem k_next {n:Int} {l:List Lk} {i:Int} {f:Nat} {x:Lk} (hf:0<f) (hx:l[i.toNat]? =some x):kGo n l f i=if mayF (l.take i.toNat) x.1 x.2 n=0 then kGo n l (f-1) (i+1) else (i,mayF (l.take i.toNat) x.1 x.2 n):=by
 obtain ⟨g,rfl⟩: ∃g,f=g+1:=⟨f-1,by omega⟩
 rw [kGo,hx];rfl
theorem g_check_ok (l:List Lk) (n:Int) (h:l.length<=1000000000):g_check_vc l n:=by
 unfold g_check_vc checkF;simp only [decide_eq_true_eq,decide_eq_false_iff_not];refine ⟨fun c=>by rw [if_pos c],fun c=> ?_⟩;simp only [if_neg c,Bool.not_eq_true',Bool.not_eq_false',decide_eq_true_eq,decide_eq_false_iff_not];refine ⟨⟨trivial,by omega,by omega,by rw [show l.length-Int.toNat 0=l.length by omega]⟩, ?_⟩;rintro ⟨i,⟨⟩⟩ ⟨h0,h1,hb⟩;dsimp only at h0 h1 hb⊢;refine ⟨fun d=>⟨⟨h0,d⟩,fun x hx=>⟨by omega,by rw [List.length_take];omega,fun k=> ?_,fun k=>⟨by omega,trivial,⟨by omega,by omega, ?_⟩,by omega⟩⟩⟩,fun d=> ?_⟩
 ·rw [hb,k_next (by omega) hx,if_neg k]
 ·rw [hb,k_next (by omega) hx,if_pos k,show l.length-(i+1).toNat=l.length-i.toNat-1 by omega]
 ·rw [hb,show l.length-i.toNat=0 by omega,show i=(l.length:Int) by omega];rfl
theorem check_pure (l:List Lk) (n:Int) (h:l.length<=1000000000):Pure Tryz.prog 55 [.list .tmp Vl l, .int .i64 n] (.tuple [.int .i64 (checkF l n).1, .int .i64 (checkF l n).2]):=
 by have k:=Pure.of_cond (g_check_eq l n) (g_check_ok l n h) (specs_ok rfl [sp_may] [] rfl rfl) mixed Tryz.func55;exact k
noncomputable def q_check (l:List Lk) (n:Int):Prop×V:=(l.length<=1000000000,(.tuple [.int .i64 (checkF l n).1, .int .i64 (checkF l n).2]))
noncomputable def sp_check:FSpec Tryz.prog where
 f:=55
 run:=fun
  |[v0, .int .i64 n]=>(asL Vl v0:Option (List Lk)).bind fun l=>some (q_check l n)
  |_=>none
 ok:=fun args pre r h hp=>by
  split at h
  ·rename_i v0 n;obtain ⟨l,h0,h⟩:=Option.bind_eq_some_iff.1 h;exact of_q h hp fun h=>(check_pure l n h).weak (.cons (asL_weak h0) (.cons (.refl _) .nil))
  ·cases h
end Go.Proofs.YtabicbgeoiilmaaGreat.Lck
end
