/-
  command: what comes back. Plain Lean.
-/
import Derived.Test.YtabicbgeoiilmaaGreatDoorCmd8
section
namespace Go.Proofs.YtabicbgeoiilmaaGreatDoor.Cm
open Go.Vm
set_option maxRecDepth 20000
end Go.Proofs.YtabicbgeoiilmaaGreatDoor.Cm
end
section
namespace Go.Proofs.YtabicbgeoiilmaaGreatDoor.Cm
open Go.Vm
theorem within_err {s:By} {a e lo hi:Int} (h: ¬e=0):withinF s a e lo hi=(0,a,e):=by
 unfold withinF;rw [if_neg h]
theorem any_err {s:By} {a e:Int} (h: ¬e=0):anyF s a e=(0,a,e):=within_err h
theorem parts_err {s:By} {e:Int} (h: ¬e=0): ∀(L:List Int) (a:Int) (l:List Int),(partsGo s L (a,e,l)).2.1=e
 |[],_,_=>rfl
 |j::r,a,l=>by
  show (partsGo s r ((withinF s a e (loF j) (hiF j)).2.1,(withinF s a e (loF j) (hiF j)).2.2,_)).2.1=e;rw [within_err h];exact parts_err h r a _
theorem line_err {s:By} {e:Int} (h: ¬e=0): ∀(n:Nat) (a:Int) (ls:List LnD),(lineGo s n (a,e,ls)).2.1=e
 |0,_,_=>rfl
 |n+1,a,ls=>by
  unfold lineGo;simp only [any_err h];exact line_err h n _ _
theorem tail_err {s:By} {k a e:Int} (h: ¬e=0):(tailF s k a e).2.1=e:=by
 unfold tailF;split
 ·simp only [within_err h];exact line_err h _ _ _
 ·rfl
end Go.Proofs.YtabicbgeoiilmaaGreatDoor.Cm
end
section
namespace Go.Proofs.YtabicbgeoiilmaaGreatDoor.Cm
open Go.Vm
def sameE (p r:Int) (L:List LnD) (q s:Int) (M:List LnD):Bool:=decide (p=q/\r=s/\L=M)
noncomputable def env_same (p r q s:Int) (L M:List LnD):Env where
 P:=Tryz.prog
 ty:=tys0
 heads:=fun
  |4=>some {slots:=[(5, .int .i64)],boxes:=[],keep:=[2,3],inv:=fun _ (x:Int×Unit)=>0<=x.1/\x.1<=L.length/\L.length=M.length/\p=q/\r=s/\L.take x.1.toNat=M.take x.1.toNat,measure:=fun _ (x:Int×Unit)=>(L.length-x.1).toNat}
  |_=>none
abbrev bx_same_1 (p:Int) (r:Int) (L:List LnD):_root_.Go.Vm.Obj:=Obj.box [V.int IntKind.i64 p,V.int IntKind.i64 r,V.list LK.tmp Ln L]
abbrev bx_same_2 (q:Int) (s:Int) (M:List LnD):_root_.Go.Vm.Obj:=Obj.box [V.int IntKind.i64 q,V.int IntKind.i64 s,V.list LK.tmp Ln M]
def g_same_vc (p:Int) (r:Int) (q:Int) (s:Int) (L:List LnD) (M:List LnD):Prop:=
 ((!decide (p=q))=false->((!decide (r=s))=false->((!decide ((↑L.length:Int)=(↑M.length:Int)))=true->(false,())=(sameE p r L q s M,()))/\((!decide ((↑L.length:Int)=(↑M.length:Int)))=false->((some (bx_same_1 p r L)=some (bx_same_1 p r L)/\some (bx_same_2 q s M)=some (bx_same_2 q s M)/\True)/\0<=(0:Int)/\0<=(↑L.length:Int)/\L.length=M.length/\p=q/\r=s/\List.take (Int.toNat (0:Int)) L=List.take (Int.toNat (0:Int)) M)/\∀(x:Int×Unit),0<=x.1/\x.1<=(↑L.length:Int)/\L.length=M.length/\p=q/\r=s/\List.take x.1.toNat L=List.take x.1.toNat M->(decide (x.1<(↑L.length:Int))=true->(0<=x.1/\x.1<(↑L.length:Int))/\∀(x_1:Int×Int×Int×Int),L[x.1.toNat]? =some x_1->(0<=x.1/\x.1<(↑M.length:Int))/\∀(x_2:Int×Int×Int×Int),M[x.1.toNat]? =some x_2->((!(decide (x_1.1=x_2.1)&&(decide (x_1.2.1=x_2.2.1)&&(decide (x_1.2.2.1=x_2.2.2.1)&&(decide (x_1.2.2.2=x_2.2.2.2)&&true)))))=true->(false,())=(sameE p r L q s M,()))/\((!(decide (x_1.1=x_2.1)&&(decide (x_1.2.1=x_2.2.1)&&(decide (x_1.2.2.1=x_2.2.2.1)&&(decide (x_1.2.2.2=x_2.2.2.2)&&true)))))=false->(-9223372036854775808<=x.1+1/\x.1+1<=9223372036854775807)/\(some (bx_same_1 p r L)=some (bx_same_1 p r L)/\some (bx_same_2 q s M)=some (bx_same_2 q s M)/\True)/\(0<=x.1+1/\x.1+1<=(↑L.length:Int)/\L.length=M.length/\p=q/\r=s/\List.take (x.1+1).toNat L=List.take (x.1+1).toNat M)/\((↑L.length:Int)-(x.1+1)).toNat<((↑L.length:Int)-x.1).toNat))/\(decide (x.1<(↑L.length:Int))=false->(true,())=(sameE p r L q s M,()))))/\((!decide (r=s))= !false->(false,())=(sameE p r L q s M,())))/\((!decide (p=q))= !false->(false,())=(sameE p r L q s M,()))
theorem g_same_eq (p r q s:Int) (L M:List LnD):Cond (env_same p r q s L M) Tryz.f41 [.agg [.int .i64 p, .int .i64 r, .list .tmp Ln L], .agg [.int .i64 q, .int .i64 s, .list .tmp Ln M]] [.bool] (sameE p r L q s M,())=g_same_vc p r q s L M:=by kernel_rfl
theorem g_same_ok (p r q s:Int) (L M:List LnD) (h:L.length<=1000000000):g_same_vc p r q s L M:=by
 unfold g_same_vc sameE;have kf: ¬(p=q/\r=s/\L=M)->(false,())=(decide (p=q/\r=s/\L=M),()):=fun hn=>by rw [decide_eq_false hn]
 simp only [decide_eq_true_eq,decide_eq_false_iff_not,Bool.not_eq_true',Bool.not_eq_false',Bool.not_false];refine ⟨fun c1=>⟨fun c2=>⟨fun c=>kf fun e=>c (by rw [e.2.2]),fun c=>⟨⟨⟨trivial,trivial,trivial⟩,by omega,by omega,by omega,c1,c2,by simp⟩, ?_⟩⟩,fun c2=>kf fun e=>c2 e.2.1⟩,fun c1=>kf fun e=>c1 e.1⟩;rintro ⟨i,⟨⟩⟩ ⟨h1,h2,h3,h4,h5,h6⟩;dsimp only at h1 h2 h3 h6⊢;refine ⟨fun c2=>⟨⟨h1,c2⟩,fun x hx=>⟨⟨h1,by omega⟩,fun y hy=>⟨fun e=>kf fun e2=> ?_,fun e=>⟨⟨by omega,by omega⟩,⟨trivial,trivial,trivial⟩,⟨by omega,by omega,h3,h4,h5, ?_⟩,by omega⟩⟩⟩⟩,fun c2=> ?_⟩
 ·have exy:x=y:=by
   obtain ⟨_,_,rfl⟩:=e2;rw [hx] at hy;exact Option.some.inj hy
  subst exy;simp at e
 ·have exy:x=y:=by
   obtain ⟨x1,x2,x3,x4⟩:=x;obtain ⟨y1,y2,y3,y4⟩:=y;simp only [Bool.and_eq_true,decide_eq_true_eq,and_true] at e;obtain ⟨rfl,rfl,rfl,rfl⟩:=e;rfl
  rw [show (i+1).toNat=i.toNat+1 by omega,List.take_add_one,List.take_add_one,hx,hy,h6,exy]
 ·rw [List.take_of_length_le (by omega),List.take_of_length_le (by omega)] at h6;rw [decide_eq_true ⟨h4,h5,h6⟩]
set_option maxRecDepth 20000
theorem same_pure (p r q s:Int) (L M:List LnD) (h:L.length<=1000000000):Pure Tryz.prog 41 [.agg [.int .i64 p, .int .i64 r, .list .tmp Ln L], .agg [.int .i64 q, .int .i64 s, .list .tmp Ln M]] (.bool (sameE p r L q s M)):=
 by have k:=Pure.of_cond (g_same_eq p r q s L M) (g_same_ok p r q s L M h) (specs_ok rfl [] [] rfl rfl) mixed Tryz.func41;exact k
noncomputable def q_same (p r q s:Int) (L M:List LnD):Prop×V:=(L.length<=1000000000,(.bool (sameE p r L q s M)))
noncomputable def sp_same:FSpec Tryz.prog where
 f:=41
 run:=fun
  |[.agg [.int .i64 p, .int .i64 r,v0_2], .agg [.int .i64 q, .int .i64 s,v1_2]]=>(asL Ln v0_2:Option (List LnD)).bind fun L=>(asL Ln v1_2:Option (List LnD)).bind fun M=>some (q_same p r q s L M)
  |_=>none
 ok:=fun args pre r h hp=>by
  split at h
  ·rename_i p r v0_2 q s v1_2;obtain ⟨L,h0_2,h⟩:=Option.bind_eq_some_iff.1 h;obtain ⟨M,h1_2,h⟩:=Option.bind_eq_some_iff.1 h;exact of_q h hp fun h=>(same_pure p r q s L M h).weak (.cons (Weak.agg (.cons (.refl _) (.cons (.refl _) (.cons (asL_weak h0_2) .nil)))) (.cons (Weak.agg (.cons (.refl _) (.cons (.refl _) (.cons (asL_weak h1_2) .nil)))) .nil))
  ·cases h
def sameC (c d:CmD):Bool:=decide (c.1=d.1)&&(decide (c.2.1=d.2.1)&&(decide (c.2.2.1=d.2.2.1)&&(decide (c.2.2.2.1=d.2.2.2.1)&&(decide (c.2.2.2.2.1=d.2.2.2.2.1)&&(decide (c.2.2.2.2.2.1=d.2.2.2.2.2.1)&&(decide (c.2.2.2.2.2.2.1=d.2.2.2.2.2.2.1)&&
 (decide (c.2.2.2.2.2.2.2.1.1=d.2.2.2.2.2.2.2.1.1)&&(decide (c.2.2.2.2.2.2.2.1.2=d.2.2.2.2.2.2.2.1.2)&&decide (c.2.2.2.2.2.2.2.2=d.2.2.2.2.2.2.2.2)))))))))
theorem sameC_iff (c d:CmD):sameC c d=true↔c=d:=by
 obtain ⟨k,a,b,c,e,s,p,⟨n,m⟩,l⟩:=c;obtain ⟨k',a',b',c',e',s',p',⟨n',m'⟩,l'⟩:=d;unfold sameC;simp only [Bool.and_eq_true,decide_eq_true_eq,Prod.mk.injEq];constructor
 ·rintro ⟨h1,h2,h3,h4,h5,h6,h7,h8,h9,h10⟩;exact ⟨h1,h2,h3,h4,h5,h6,h7,⟨h8,h9⟩,h10⟩
 ·rintro ⟨h1,h2,h3,h4,h5,h6,h7,⟨h8,h9⟩,h10⟩;exact ⟨h1,h2,h3,h4,h5,h6,h7,h8,h9,h10⟩
noncomputable def env_csame (k a b c d:Int) (s p:Bool) (n m:Int) (l:List LnD) (k' a' b' c' d':Int) (s' p':Bool) (n' m':Int) (l':List LnD):Env where
 P:=Tryz.prog
 ty:=tys0
 specs:=specsOf [sp_same]
def g_csame_vc (k:Int) (a:Int) (b:Int) (c:Int) (d:Int) (s:Bool) (p:Bool) (n:Int) (m:Int) (l:List LnD) (k':Int) (a':Int) (b':Int) (c':Int) (d':Int) (s':Bool) (p':Bool) (n':Int) (m':Int) (l':List LnD):Prop:=
 (decide (k=k')=true->(decide (a=a')=true->(decide (b=b')=true->(decide (c=c')=true->(decide (d=d')=true->((s==s')=true->((p==p')=true->((decide (n=n')&&(decide (m=m')&&true))=true->l.length<=(1000000000:Nat)/\(sameE (0:Int) (0:Int) l (0:Int) (0:Int) l',())=(sameC (k,a,b,c,d,s,p,(n,m),l) (k',a',b',c',d',s',p',(n',m'),l'),()))/\((decide (n=n')&&(decide (m=m')&&true))= !true->(false,())=(sameC (k,a,b,c,d,s,p,(n,m),l) (k',a',b',c',d',s',p',(n',m'),l'),())))/\((p==p')= !true->(false,())=(sameC (k,a,b,c,d,s,p,(n,m),l) (k',a',b',c',d',s',p',(n',m'),l'),())))/\((s==s')= !true->(false,())=(sameC (k,a,b,c,d,s,p,(n,m),l) (k',a',b',c',d',s',p',(n',m'),l'),())))/\(decide (d=d')= !true->(false,())=(sameC (k,a,b,c,d,s,p,(n,m),l) (k',a',b',c',d',s',p',(n',m'),l'),())))/\(decide (c=c')= !true->(false,())=(sameC (k,a,b,c,d,s,p,(n,m),l) (k',a',b',c',d',s',p',(n',m'),l'),())))/\(decide (b=b')= !true->(false,())=(sameC (k,a,b,c,d,s,p,(n,m),l) (k',a',b',c',d',s',p',(n',m'),l'),())))/\(decide (a=a')= !true->(false,())=(sameC (k,a,b,c,d,s,p,(n,m),l) (k',a',b',c',d',s',p',(n',m'),l'),())))/\(decide (k=k')= !true->(false,())=(sameC (k,a,b,c,d,s,p,(n,m),l) (k',a',b',c',d',s',p',(n',m'),l'),()))
theorem g_csame_eq (k a b c d:Int) (s p:Bool) (n m:Int) (l:List LnD) (k' a' b' c' d':Int) (s' p':Bool) (n' m':Int) (l':List LnD):Cond (env_csame k a b c d s p n m l k' a' b' c' d' s' p' n' m' l') Tryz.f33 [.agg [.int .i64 k, .int .i64 a, .int .i64 b, .int .i64 c, .int .i64 d, .bool s, .bool p, .int .i64 n, .int .i64 m, .list .tmp Ln l], .agg [.int .i64 k', .int .i64 a', .int .i64 b', .int .i64 c', .int .i64 d', .bool s', .bool p', .int .i64 n', .int .i64 m', .list .tmp Ln l']] [.bool] (sameC (k,a,b,c,d,s,p,(n,m),l) (k',a',b',c',d',s',p',(n',m'),l'),())=g_csame_vc k a b c d s p n m l k' a' b' c' d' s' p' n' m' l':=by kernel_rfl
theorem g_csame_ok (k a b c d:Int) (s p:Bool) (n m:Int) (l:List LnD) (k' a' b' c' d':Int) (s' p':Bool) (n' m':Int) (l':List LnD) (h:l.length<=1000000000):g_csame_vc k a b c d s p n m l k' a' b' c' d' s' p' n' m' l':=by
 unfold g_csame_vc sameE sameC;repeat' (first|with_reducible apply And.intro|intro _)
 all_goals try (first|trivial|omega)
 all_goals simp_all
theorem csame_pure (k a b c d:Int) (s p:Bool) (n m:Int) (l:List LnD) (k' a' b' c' d':Int) (s' p':Bool) (n' m':Int) (l':List LnD) (h:l.length<=1000000000):Pure Tryz.prog 33 [.agg [.int .i64 k, .int .i64 a, .int .i64 b, .int .i64 c, .int .i64 d, .bool s, .bool p, .int .i64 n, .int .i64 m, .list .tmp Ln l], .agg [.int .i64 k', .int .i64 a', .int .i64 b', .int .i64 c', .int .i64 d', .bool s', .bool p', .int .i64 n', .int .i64 m', .list .tmp Ln l']] (.bool (sameC (k,a,b,c,d,s,p,(n,m),l) (k',a',b',c',d',s',p',(n',m'),l'))):=
 by have k:=Pure.of_cond (g_csame_eq k a b c d s p n m l k' a' b' c' d' s' p' n' m' l') (g_csame_ok k a b c d s p n m l k' a' b' c' d' s' p' n' m' l' h) (specs_ok rfl [sp_same] [] rfl rfl) mixed Tryz.func33;exact k
noncomputable def q_csame (k a b c d:Int) (s p:Bool) (n m:Int) (l:List LnD) (k' a' b' c' d':Int) (s' p':Bool) (n' m':Int) (l':List LnD):Prop×V:=(l.length<=1000000000,(.bool (sameC (k,a,b,c,d,s,p,(n,m),l) (k',a',b',c',d',s',p',(n',m'),l'))))
noncomputable def sp_csame:FSpec Tryz.prog where
 f:=33
 run:=fun
  |[.agg [.int .i64 k, .int .i64 a, .int .i64 b, .int .i64 c, .int .i64 d,v0_5,v0_6, .int .i64 n, .int .i64 m,v0_9], .agg [.int .i64 k', .int .i64 a', .int .i64 b', .int .i64 c', .int .i64 d',v1_5,v1_6, .int .i64 n', .int .i64 m',v1_9]]=>(boolOf v0_5).bind fun s=>(boolOf v0_6).bind fun p=>(asL Ln v0_9:Option (List LnD)).bind fun l=>(boolOf v1_5).bind fun s'=>(boolOf v1_6).bind fun p'=>(asL Ln v1_9:Option (List LnD)).bind fun l'=>some (q_csame k a b c d s p n m l k' a' b' c' d' s' p' n' m' l')
  |_=>none
 ok:=fun args pre r h hp=>by
  split at h
  ·rename_i k a b c d v0_5 v0_6 n m v0_9 k' a' b' c' d' v1_5 v1_6 n' m' v1_9;obtain ⟨s,h0_5,h⟩:=Option.bind_eq_some_iff.1 h;obtain ⟨p,h0_6,h⟩:=Option.bind_eq_some_iff.1 h;obtain ⟨l,h0_9,h⟩:=Option.bind_eq_some_iff.1 h;obtain ⟨s',h1_5,h⟩:=Option.bind_eq_some_iff.1 h;obtain ⟨p',h1_6,h⟩:=Option.bind_eq_some_iff.1 h;obtain ⟨l',h1_9,h⟩:=Option.bind_eq_some_iff.1 h;exact of_q h hp fun h=>(csame_pure k a b c d s p n m l _ _ _ _ _ _ _ _ _ _ h).weak (.cons (Weak.agg (.cons (.refl _) (.cons (.refl _) (.cons (.refl _) (.cons (.refl _) (.cons (.refl _) (.cons (boolOf_weak h0_5) (.cons (boolOf_weak h0_6) (.cons (.refl _) (.cons (.refl _) (.cons (asL_weak h0_9) .nil))))))))))) (.cons (Weak.agg (.cons (.refl _) (.cons (.refl _) (.cons (.refl _) (.cons (.refl _) (.cons (.refl _) (.cons (boolOf_weak h1_5) (.cons (boolOf_weak h1_6) (.cons (.refl _) (.cons (.refl _) (.cons (asL_weak h1_9) .nil))))))))))) .nil))
  ·cases h
theorem in_lit {n:Int} (h:decide (-1000<=n/\n<=1000)=true):InI n:=by
 have:=of_decide_eq_true h;unfold InI;omega
end Go.Proofs.YtabicbgeoiilmaaGreatDoor.Cm
end
section
namespace Go.Proofs.YtabicbgeoiilmaaGreatDoor.Cm
open Go.Vm
theorem say_head {l:List Int} {c:UInt8} (h:(sayF l).head? =some c):isDig c=false:=by
 cases l with
 |nil=>simp [sayF] at h
 |cons a r=>
  have:some (32:UInt8)=some c:=h;cases this;decide
theorem within_text {s pre:By} {n lo hi:Int} {r:List Int} (hs:s=pre++sayF (n::r)) (hn:InI n) (hlo:lo<=n) (hhi:n<=hi):withinF s pre.length 0 lo hi=(n,((pre++sayF [n]).length:Int),0):=by
 have e1:sayF (n::r)=32::(Lib.itoa n++sayF r):=by simp [sayF]
 have e2:sayF [n]=32::Lib.itoa n:=by simp [sayF]
 have hd:s.drop pre.length=32::(Lib.itoa n++sayF r):=by rw [hs,e1,List.drop_left]
 have hlen:s.length=pre.length+(1+(Lib.itoa n).length+(sayF r).length):=by
  rw [hs,e1,List.length_append,List.length_cons,List.length_append];omega
 have hl:litF s pre.length [32]=((pre.length:Int)+1,0):=by
  unfold litF;rw [if_neg (by omega),Int.toNat_natCast,hd,if_pos (by simp [Lib.hasPrefix])];rfl
 have hd2:s.drop ((pre.length:Int)+1).toNat=Lib.itoa n++sayF r:=by
  rw [show ((pre.length:Int)+1).toNat=pre.length+1 by omega,<-List.drop_drop,hd];rfl
 unfold withinF;rw [if_pos rfl,hl,if_pos rfl];dsimp only;rw [numF_in (by omega),hd2,numR_back hn hlo hhi (fun c hc=>say_head hc),List.length_append,e2,List.length_cons];congr 2;omega
theorem any_text {s pre:By} {n:Int} {r:List Int} (hs:s=pre++sayF (n::r)) (hn:InI n):anyF s pre.length 0=(n,((pre++sayF [n]).length:Int),0):=within_text hs hn hn.1 hn.2
theorem within_read {s:By} {a lo hi:Int} (ha:0<=a) (ha2:a<=s.length) (h:(withinF s a 0 lo hi).2.2=0):
 a<=(withinF s a 0 lo hi).2.1/\(withinF s a 0 lo hi).2.1<=s.length/\lo<=(withinF s a 0 lo hi).1/\(withinF s a 0 lo hi).1<=hi/\InI (withinF s a 0 lo hi).1/\
  s.take (withinF s a 0 lo hi).2.1.toNat=s.take a.toNat++sayF [(withinF s a 0 lo hi).1]:=by
 unfold withinF at h⊢;rw [if_pos rfl] at h⊢;by_cases hl:(litF s a [32]).2=0
 ·rw [if_pos hl] at h⊢;have hl1:(litF s a [32]).1=a+1/\Lib.hasPrefix (s.drop a.toNat) [32]=true:=by
   unfold litF at hl⊢;rw [if_neg (by omega)] at hl⊢;by_cases hp:Lib.hasPrefix (s.drop a.toNat) [32]=true
   ·rw [if_pos hp];exact ⟨rfl,hp⟩
   ·rw [if_neg hp] at hl;split at hl<;>cases hl
  rw [hl1.1] at h⊢;obtain ⟨⟨_,n2⟩,⟨n3,n4⟩,⟨n5,n6⟩,n7,n8,_⟩:=numF_zero h;refine ⟨by omega,n4,n5,n6,n7, ?_⟩;have hp:=(hasPrefix_iff _ _).1 hl1.2;have hp:(s.drop a.toNat).take 1=[32]:=hp;generalize (numF s (a+1) lo hi).2.1=b at n3 n4 n8⊢;generalize (numF s (a+1) lo hi).1=n at n8⊢;have e2:sayF [n]=[32]++Lib.itoa n:=by simp [sayF]
  rw [e2,n8,<-hp,<-List.append_assoc,<-List.take_add,show a.toNat+1=(a+1).toNat by omega];have:s.take (a+1).toNat=(s.take b.toNat).take (a+1).toNat:=by
   rw [List.take_take,Nat.min_eq_left (by omega)]
  rw [this,List.take_append_drop]
 ·rw [if_neg hl] at h;exact absurd h hl
def setL (l:List Int):List Int->List Int->List Int
 |j::r,v::vs=>setL (l.set j.toNat v) r vs
 |_,_=>l
def Fits:List Int->List Int->Prop
 |j::r,v::vs=>(InI v/\loF j<=v/\v<=hiF j)/\Fits r vs
 |[],[]=>True
 |_,_=>False
theorem parts_text {s:By}: ∀{L vs:List Int} {pre:By} {r l:List Int},Fits L vs->s=pre++sayF (vs++r)->partsGo s L (pre.length,0,l)=(((pre++sayF vs).length:Int),0,setL l L vs)
 |[],[],pre,r,l,_,_=>by simp [partsGo,setL,sayF]
 |j::L,v::vs,pre,r,l,hf,hs=>by
  obtain ⟨⟨h1,h2,h3⟩,hf⟩:=hf;have hw:=within_text (r:=vs++r) hs h1 h2 h3;show partsGo s L ((withinF s pre.length 0 (loF j) (hiF j)).2.1,(withinF s pre.length 0 (loF j) (hiF j)).2.2,l.set j.toNat (withinF s pre.length 0 (loF j) (hiF j)).1)=_;rw [hw];dsimp only;have e:sayF (v::vs)=sayF [v]++sayF vs:=sayF_app [v] vs;rw [parts_text (pre:=pre++sayF [v]) (r:=r) hf (by rw [hs,List.append_assoc,<-sayF_app];rfl),e,List.append_assoc];rfl
 |[],_::_,_,_,_,h,_=>h.elim
 |_::_,[],_,_,_,h,_=>h.elim
theorem parts_read {s:By}: ∀{L:List Int} {a:Int} {l:List Int},0<=a->a<=s.length->(partsGo s L (a,0,l)).2.1=0->
 ∃vs,Fits L vs/\partsGo s L (a,0,l)=((partsGo s L (a,0,l)).1,0,setL l L vs)/\a<=(partsGo s L (a,0,l)).1/\(partsGo s L (a,0,l)).1<=s.length/\s.take (partsGo s L (a,0,l)).1.toNat=s.take a.toNat++sayF vs
 |[],a,l,h0,h1,_=>⟨[],trivial,rfl,Int.le_refl _,h1,by simp [sayF,partsGo]⟩
 |j::L,a,l,h0,h1,h=>by
  have e:partsGo s (j::L) (a,0,l)=partsGo s L ((withinF s a 0 (loF j) (hiF j)).2.1,(withinF s a 0 (loF j) (hiF j)).2.2,l.set j.toNat (withinF s a 0 (loF j) (hiF j)).1):=rfl;rw [e] at h⊢;by_cases he:(withinF s a 0 (loF j) (hiF j)).2.2=0
  ·obtain ⟨w1,w2,w3,w4,w5,w6⟩:=within_read h0 h1 he;rw [he] at h⊢;obtain ⟨vs,q1,q2,q3,q4,q5⟩:=parts_read (by omega) w2 h;refine ⟨(withinF s a 0 (loF j) (hiF j)).1::vs,⟨⟨w5,w3,w4⟩,q1⟩,q2,by omega,q4, ?_⟩;rw [q5,w6,List.append_assoc,<-sayF_app];rfl
  ·rw [parts_err he] at h;exact absurd h he
theorem line_text {s:By}: ∀{ls:List LnD} {pre:By} {r:List Int} {out:List LnD},(∀x∈ls,InLn x)->s=pre++sayF (ls.flatMap lnL++r)->lineGo s ls.length (pre.length,0,out)=(((pre++sayF (ls.flatMap lnL)).length:Int),0,out++ls)
 |[],pre,r,out,_,_=>by simp [lineGo,sayF]
 |x::ls,pre,r,out,hi,hs=>by
  have hx:=hi x (by simp);obtain ⟨x1,x2,x3,x4⟩:=x;have i1:InI x1:=hx x1 (by simp [lnL]);have i2:InI x2:=hx x2 (by simp [lnL]);have i3:InI x3:=hx x3 (by simp [lnL]);have i4:InI x4:=hx x4 (by simp [lnL]);have e:((x1,x2,x3,x4)::ls).flatMap lnL++r=x1::x2::x3::x4::(ls.flatMap lnL++r):=by simp [lnL]
  rw [e] at hs;have a1:=any_text hs i1;have s2:s=(pre++sayF [x1])++sayF (x2::x3::x4::(ls.flatMap lnL++r)):=by rw [hs,List.append_assoc,<-sayF_app];rfl
  have a2:=any_text s2 i2;have s3:s=(pre++sayF [x1]++sayF [x2])++sayF (x3::x4::(ls.flatMap lnL++r)):=by rw [s2,List.append_assoc _ (sayF [x2]),<-sayF_app];rfl
  have a3:=any_text s3 i3;have s4:s=(pre++sayF [x1]++sayF [x2]++sayF [x3])++sayF (x4::(ls.flatMap lnL++r)):=by rw [s3,List.append_assoc _ (sayF [x3]),<-sayF_app];rfl
  have a4:=any_text s4 i4;have s5:s=(pre++sayF [x1]++sayF [x2]++sayF [x3]++sayF [x4])++sayF (ls.flatMap lnL++r):=by rw [s4,List.append_assoc _ (sayF [x4]),<-sayF_app];rfl
  show lineGo s (ls.length+1) (pre.length,0,out)=_;unfold lineGo;dsimp only;rw [a1];dsimp only;rw [a2];dsimp only;rw [a3];dsimp only;rw [a4];dsimp only;rw [line_text (fun y hy=>hi y (by simp [hy])) s5];have e6:sayF (((x1,x2,x3,x4)::ls).flatMap lnL)=sayF [x1]++(sayF [x2]++(sayF [x3]++(sayF [x4]++sayF (ls.flatMap lnL)))):=by
   rw [<-sayF_app,<-sayF_app,<-sayF_app,<-sayF_app];simp [lnL]
  rw [e6];simp only [List.append_assoc,List.singleton_append]
theorem line_read {s:By}: ∀{n:Nat} {a:Int} {out:List LnD},0<=a->a<=s.length->(lineGo s n (a,0,out)).2.1=0->
 ∃ls:List LnD,ls.length=n/\(∀x∈ls,InLn x)/\lineGo s n (a,0,out)=((lineGo s n (a,0,out)).1,0,out++ls)/\a<=(lineGo s n (a,0,out)).1/\(lineGo s n (a,0,out)).1<=s.length/\s.take (lineGo s n (a,0,out)).1.toNat=s.take a.toNat++sayF (ls.flatMap lnL)
 |0,a,out,h0,h1,_=>⟨[],rfl,(fun _ h=>by cases h),by simp [lineGo],Int.le_refl _,h1,by simp [sayF,lineGo]⟩
 |n+1,a,out,h0,h1,h=>by
  have e:lineGo s (n+1) (a,0,out)=lineGo s n ((anyF s (anyF s (anyF s (anyF s a 0).2.1 (anyF s a 0).2.2).2.1 (anyF s (anyF s a 0).2.1 (anyF s a 0).2.2).2.2).2.1 (anyF s (anyF s (anyF s a 0).2.1 (anyF s a 0).2.2).2.1 (anyF s (anyF s a 0).2.1 (anyF s a 0).2.2).2.2).2.2).2.1,
   (anyF s (anyF s (anyF s (anyF s a 0).2.1 (anyF s a 0).2.2).2.1 (anyF s (anyF s a 0).2.1 (anyF s a 0).2.2).2.2).2.1 (anyF s (anyF s (anyF s a 0).2.1 (anyF s a 0).2.2).2.1 (anyF s (anyF s a 0).2.1 (anyF s a 0).2.2).2.2).2.2).2.2,
   out++[((anyF s a 0).1,(anyF s (anyF s a 0).2.1 (anyF s a 0).2.2).1,(anyF s (anyF s (anyF s a 0).2.1 (anyF s a 0).2.2).2.1 (anyF s (anyF s a 0).2.1 (anyF s a 0).2.2).2.2).1,(anyF s (anyF s (anyF s (anyF s a 0).2.1 (anyF s a 0).2.2).2.1 (anyF s (anyF s a 0).2.1 (anyF s a 0).2.2).2.2).2.1 (anyF s (anyF s (anyF s a 0).2.1 (anyF s a 0).2.2).2.1 (anyF s (anyF s a 0).2.1 (anyF s a 0).2.2).2.2).2.2).1)]):=rfl
  rw [e] at h⊢;by_cases k1:(anyF s a 0).2.2=0
  ·obtain ⟨w1,w2,_,_,w5,w6⟩:=within_read h0 h1 k1;change a<=(anyF s a 0).2.1 at w1;change (anyF s a 0).2.1<=s.length at w2;change InI (anyF s a 0).1 at w5;change s.take (anyF s a 0).2.1.toNat=s.take a.toNat++sayF [(anyF s a 0).1] at w6;rw [k1] at h⊢;generalize (anyF s a 0).2.1=a1 at*;generalize (anyF s a 0).1=y1 at*;by_cases k2:(anyF s a1 0).2.2=0
   ·obtain ⟨v1,v2,_,_,v5,v6⟩:=within_read (by omega) w2 k2;change a1<=(anyF s a1 0).2.1 at v1;change (anyF s a1 0).2.1<=s.length at v2;change InI (anyF s a1 0).1 at v5;change s.take (anyF s a1 0).2.1.toNat=s.take a1.toNat++sayF [(anyF s a1 0).1] at v6;rw [k2] at h⊢;generalize (anyF s a1 0).2.1=a2 at*;generalize (anyF s a1 0).1=y2 at*;by_cases k3:(anyF s a2 0).2.2=0
    ·obtain ⟨u1,u2,_,_,u5,u6⟩:=within_read (by omega) v2 k3;change a2<=(anyF s a2 0).2.1 at u1;change (anyF s a2 0).2.1<=s.length at u2;change InI (anyF s a2 0).1 at u5;change s.take (anyF s a2 0).2.1.toNat=s.take a2.toNat++sayF [(anyF s a2 0).1] at u6;rw [k3] at h⊢;generalize (anyF s a2 0).2.1=a3 at*;generalize (anyF s a2 0).1=y3 at*;by_cases k4:(anyF s a3 0).2.2=0
     ·obtain ⟨t1,t2,_,_,t5,t6⟩:=within_read (by omega) u2 k4;change a3<=(anyF s a3 0).2.1 at t1;change (anyF s a3 0).2.1<=s.length at t2;change InI (anyF s a3 0).1 at t5;change s.take (anyF s a3 0).2.1.toNat=s.take a3.toNat++sayF [(anyF s a3 0).1] at t6;rw [k4] at h⊢;generalize (anyF s a3 0).2.1=a4 at*;generalize (anyF s a3 0).1=y4 at*;obtain ⟨ls,q1,q2,q3,q4,q5,q6⟩:=line_read (by omega) t2 h;refine ⟨(y1,y2,y3,y4)::ls,by simp [q1], ?_,q3.trans (by simp only [List.append_assoc,List.singleton_append]),by omega,q5, ?_⟩
      ·intro x hx;rcases List.mem_cons.1 hx with rfl|hx
       ·intro z hz;simp only [lnL,List.mem_cons,List.not_mem_nil,or_false] at hz;rcases hz with rfl|rfl|rfl|rfl
        ·exact w5
        ·exact v5
        ·exact u5
        ·exact t5
       ·exact q2 x hx
      ·rw [q6,t6,u6,v6,w6];have e6:sayF (((y1,y2,y3,y4)::ls).flatMap lnL)=sayF [y1]++(sayF [y2]++(sayF [y3]++(sayF [y4]++sayF (ls.flatMap lnL)))):=by
        rw [<-sayF_app,<-sayF_app,<-sayF_app,<-sayF_app];simp [lnL]
       rw [e6];simp only [List.append_assoc]
     ·rw [line_err k4] at h;exact absurd h k4
    ·simp only [any_err k3] at h;rw [line_err k3] at h;exact absurd h k3
   ·simp only [any_err k2] at h;rw [line_err k2] at h;exact absurd h k2
  ·simp only [any_err k1] at h;rw [line_err k1] at h;exact absurd h k1
theorem lit0 (s w:By):litF s 0 w=if Lib.hasPrefix s w then ((w.length:Int),0) else if Lib.hasPrefix w s then (0,4) else (0,8):=by
 unfold litF;rw [if_neg (by omega)];show (if Lib.hasPrefix s w then ((0:Int)+w.length,(0:Int)) else _)=_;rw [Int.zero_add];rfl
theorem kind_text {k:Int} (h1:1<=k) (h8:k<=8) (r:By):kindF (wordF k++r)=(k,((wordF k).length:Int),0):=by
 rcases kinds_of h1 h8 with rfl|rfl|rfl|rfl|rfl|rfl|rfl|rfl<;>simp [kindF,kinds,kindL,lit0,Lib.hasPrefix,wordF,wordL,List.isPrefixOf]
theorem kindL_read (s:By): ∀(l:List Int) (w:Int),w≠0->(kindL s l w).2.2=0->(kindL s l w).2.1=((wordF (kindL s l w).1).length:Int)/\s.take (wordF (kindL s l w).1).length=wordF (kindL s l w).1
 |[],w,hw,h=>absurd h hw
 |k::r,w,hw,h=>by
  unfold kindL at h⊢;by_cases e:(litF s 0 (wordF k)).2=0
  ·rw [if_pos e];dsimp only;rw [lit0] at e⊢;by_cases hp:Lib.hasPrefix s (wordF k)=true
   ·rw [if_pos hp];exact ⟨rfl,(hasPrefix_iff _ _).1 hp⟩
   ·rw [if_neg hp] at e;split at e<;>cases e
  ·rw [if_neg e] at h⊢;refine kindL_read s r _ ?_ h;split
   ·decide
   ·exact hw
theorem kind_read {s:By} (h:(kindF s).2.2=0):(kindF s).2.1=((wordF (kindF s).1).length:Int)/\s.take (wordF (kindF s).1).length=wordF (kindF s).1:=kindL_read s kinds 8 (by decide) h
theorem setL_len: ∀(L vs l:List Int),(setL l L vs).length=l.length
 |[],_,_=>by simp [setL]
 |_::_,[],_=>by simp [setL]
 |j::r,v::vs,l=>by
  simp only [setL];rw [setL_len r vs,List.length_set]
theorem setL_off: ∀(L vs l:List Int) (i:Nat),(∀j∈L,0<=j)->(i:Int)∉L->(setL l L vs)[i]? =l[i]?
 |[],_,_,_,_,_=>by simp [setL]
 |_::_,[],_,_,_,_=>by simp [setL]
 |j::r,v::vs,l,i,h0,hi=>by
  simp only [setL];have hj:=h0 j (by simp);rw [setL_off r vs _ i (fun x hx=>h0 x (by simp [hx])) (fun hx=>hi (by simp [hx])),List.getElem?_set_ne (fun e=>hi (by simp;left;omega))]
theorem setL_map: ∀(L vs l:List Int),(∀j∈L,0<=j/\j<l.length)->L.Nodup->vs.length=L.length->L.map (nthI (setL l L vs))=vs
 |[],[],_,_,_,_=>rfl
 |[],_::_,_,_,_,h=>by simp at h
 |_::_,[],_,_,_,h=>by simp at h
 |j::r,v::vs,l,h0,hn,hl=>by
  have hj:=h0 j (by simp);rw [List.nodup_cons] at hn;simp only [setL,List.map_cons];rw [setL_map r vs _ (fun x hx=>by rw [List.length_set];exact h0 x (by simp [hx])) hn.2 (by simpa using hl)];congr 1;unfold nthI;rw [setL_off r vs _ _ (fun x hx=>(h0 x (by simp [hx])).1) (by rw [show ((j.toNat:Nat):Int)=j by omega];exact hn.1),List.getElem?_set_self (by omega)];rfl
theorem fits_len: ∀{L vs:List Int},Fits L vs->vs.length=L.length
 |[],[],_=>rfl
 |_::_,_::_,h=>by simp [fits_len h.2]
 |[],_::_,h=>h.elim
 |_::_,[],h=>h.elim
theorem fits_of {f:Int->Int}: ∀{L:List Int},(∀j∈L,InI (f j)/\loF j<=f j/\f j<=hiF j)->Fits L (L.map f)
 |[],_=>trivial
 |j::r,h=>⟨h j (by simp),fits_of fun x hx=>h x (by simp [hx])⟩
theorem fits_all {f:Int->Int}: ∀{L:List Int},Fits L (L.map f)->∀j∈L,InI (f j)/\loF j<=f j/\f j<=hiF j
 |[],_,_,h=>by cases h
 |j::r,h,x,hx=>by
  rcases List.mem_cons.1 hx with rfl|hx
  ·exact h.1
  ·exact fits_all h.2 x hx
theorem part_nodup {k:Int}:(partF k).Nodup:=by
 unfold partF partL;generalize (k-1).toNat=j;match j with
 |0|1|2|3|4|5|6|7=>decide
 |n+8=>simp
theorem all_eight {l:List Int} (h:l.length=8): ∃a b c d e f g i,l=[a,b,c,d,e,f,g,i]:=by
 match l,h with
 |[a,b,c,d,e,f,g,i],_=>exact ⟨a,b,c,d,e,f,g,i,rfl⟩
theorem bit_dec {n:Int} (h:n=0∨n=1):bitF (decide (n=1))=n:=by
 rcases h with rfl|rfl<;>rfl
theorem all_mk {k:Int} {l:List Int} {ls:List LnD} (h:l.length=8) (h4:nthI l 4=0∨nthI l 4=1) (h5:nthI l 5=0∨nthI l 5=1):allF (mkC k l ls)=l:=by
 obtain ⟨a,b,c,d,e,f,g,i,rfl⟩:=all_eight h;have e4:bitF (decide (e=1))=e:=bit_dec h4;have e5:bitF (decide (f=1))=f:=bit_dec h5;show [a,b,c,d,bitF (decide (e=1)),bitF (decide (f=1)),g,i]=_;rw [e4,e5]
theorem mk_all {c:CmD}:mkC c.1 (allF c) (linesF c)=c:=by
 obtain ⟨k,a,b,c,d,s,p,⟨n,m⟩,l⟩:=c;show (k,a,b,c,d,decide (bitF s=1),decide (bitF p=1),(n,m),l)=_;have hb: ∀x:Bool,decide (bitF x=1)=x:=fun x=>by cases x<;>rfl
 rw [hb,hb]
theorem all_len (c:CmD):(allF c).length=8:=rfl
theorem chk_says {c:CmD} (h:checkF c=0):1<=c.1/\c.1<=8/\(linesF c).length<=50/\(c.1=7∨linesF c=[])/\∀i:Int,0<=i->i<8->i∉partF c.1->nthI (allF c) i=0:=by
 obtain ⟨h1,h8,h50⟩:=checkF_kind h;have hl:c.1=7∨linesF c=[]:=by
  by_cases h7:c.1=7
  ·exact .inl h7
  ·right;apply Classical.byContradiction;intro hne;have hpos:0<(linesF c).length:=List.length_pos_iff.2 hne;have:checkF c=2:=by
    unfold checkF;rw [if_neg (by omega),if_neg (by omega),if_pos ⟨h7,hpos⟩]
   rw [this] at h;cases h
 refine ⟨h1,h8,h50,hl,fun i i0 i1 hi=> ?_⟩;have hb:badF c≠true:=fun hb=>by
  rw [checkF_ok h1 h8 h50 (by rcases hl with e|e;exact .inl e;exact .inr (by rw [e];rfl)),if_pos hb] at h;cases h
 apply Classical.byContradiction;intro hne;exact hb (badF_true i0 i1 ⟨hne,hi⟩)
theorem chk_ok {c:CmD} (h1:1<=c.1) (h8:c.1<=8) (h50:(linesF c).length<=50) (hl:c.1=7∨linesF c=[]) (h: ∀i:Int,0<=i->i<8->i∉partF c.1->nthI (allF c) i=0):checkF c=0:=by
 rw [checkF_ok h1 h8 h50 (by rcases hl with e|e;exact .inl e;exact .inr (by rw [e];rfl)),if_neg];rw [badF_false fun i i0 i1 hb=>hb.1 (h i i0 i1 hb.2)];decide
theorem bit_in (b:Bool):0<=bitF b/\bitF b<=1:=by cases b<;>decide
theorem all_fits {c:CmD} (h:InC c) {j:Int} (h0:0<=j) (h8:j<8):InI (nthI (allF c) j)/\loF j<=nthI (allF c) j/\nthI (allF c) j<=hiF j:=by
 have hi:=nthI_in h j;refine ⟨hi, ?_⟩;obtain ⟨k,a,b,c,d,s,p,⟨n,m⟩,l⟩:=c;by_cases h4:j=4
 ·subst h4;exact bit_in s
 ·by_cases h5:j=5
  ·subst h5;exact bit_in p
  ·unfold loF hiF;rw [if_neg (by omega),if_neg (by omega)];exact hi
theorem setL_all {c:CmD} (h:checkF c=0):setL zeros (partF c.1) ((partF c.1).map (nthI (allF c)))=allF c:=by
 obtain ⟨_,_,_,_,hz⟩:=chk_says h;have hm:=setL_map (partF c.1) ((partF c.1).map (nthI (allF c))) zeros (fun j hj=>by have:=partF_in hj;simp;omega) part_nodup (by simp);generalize hS:setL zeros (partF c.1) ((partF c.1).map (nthI (allF c)))=S at hm⊢;have hl:S.length=8:=by rw [<-hS,setL_len];rfl
 have hall: ∀i:Nat,i<8->nthI S i=nthI (allF c) i:=fun i hi=>by
  by_cases hin:(i:Int)∈partF c.1
  ·exact List.map_inj_left.1 hm _ hin
  ·rw [hz i (by omega) (by omega) hin];unfold nthI;rw [<-hS,Int.toNat_natCast,setL_off _ _ _ _ (fun j hj=>(partF_in hj).1) hin];match i,hi with
   |0,_|1,_|2,_|3,_|4,_|5,_|6,_|7,_=>rfl
 obtain ⟨a,b,d,e,f,g,i,k,rfl⟩:=all_eight hl;obtain ⟨a',b',d',e',f',g',i',k',he⟩:=all_eight (all_len c);rw [he] at hall⊢;have q0:a=a':=hall 0 (by decide);have q1:b=b':=hall 1 (by decide);have q2:d=d':=hall 2 (by decide);have q3:e=e':=hall 3 (by decide);have q4:f=f':=hall 4 (by decide);have q5:g=g':=hall 5 (by decide);have q6:i=i':=hall 6 (by decide);have q7:k=k':=hall 7 (by decide);rw [q0,q1,q2,q3,q4,q5,q6,q7]
theorem text_back {c:CmD} (h:checkF c=0) (hI:InC c):cparseF (textF c)=(c,0):=by
 obtain ⟨h1,h8,h50,hl,hz⟩:=chk_says h;generalize hs:textF c=s;have hk:kindF s=(c.1,((wordF c.1).length:Int),0):=by
  rw [<-hs];exact kind_text h1 h8 _
 have hf:Fits (partF c.1) ((partF c.1).map (nthI (allF c))):=fits_of fun j hj=>all_fits hI (partF_in hj).1 (partF_in hj).2;have hP:P0 s=(((wordF c.1++sayF ((partF c.1).map (nthI (allF c)))).length:Int),0,allF c):=by
  unfold P0;rw [hk];dsimp only;rw [parts_text hf (by rw [<-hs];rfl),setL_all h]
 have ht:tailF s (kindF s).1 (P0 s).1 (P0 s).2.1=((s.length:Int),0,linesF c):=by
  rw [hP,hk];unfold tailF;dsimp only;by_cases h7:c.1=7
  ·rw [if_pos h7];have hs2:s=(wordF c.1++sayF ((partF c.1).map (nthI (allF c))))++sayF (((linesF c).length:Int)::((linesF c).flatMap lnL++[])):=by
    rw [<-hs];unfold textF numsF;rw [if_pos h7,sayF_app,List.append_nil,List.append_assoc]
   have hw:=within_text hs2 (by unfold InI;omega) (Int.natCast_nonneg _) (by omega:((linesF c).length:Int)<=50);rw [hw];dsimp only;have hs3:s=((wordF c.1++sayF ((partF c.1).map (nthI (allF c))))++sayF [((linesF c).length:Int)])++sayF ((linesF c).flatMap lnL++[]):=by
    rw [hs2,List.append_assoc (wordF c.1++_),<-sayF_app];rfl
   rw [Int.toNat_natCast,line_text hI.2 hs3];congr 1;rw [hs3,List.append_nil]
  ·rw [if_neg h7];have hnil:linesF c=[]:=hl.resolve_left h7;have hs2:s=wordF c.1++sayF ((partF c.1).map (nthI (allF c))):=by
    rw [<-hs];unfold textF numsF;rw [if_neg h7,List.append_nil]
   rw [hnil,<-hs2]
 rw [cp_rest (by rw [hk]) ht];unfold restF;dsimp only;rw [if_pos rfl,if_neg (by omega)];unfold hdC;rw [hk,hP];dsimp only;rw [mk_all]
theorem full_take {s t:By} {b:Int} (h:s.take b.toNat=t) (hb: ¬b<s.length):s=t:=by
 rw [<-h,List.take_of_length_le (by omega)]
theorem read_back {s:By} (h:(cparseF s).2=0):checkF (cparseF s).1=0/\textF (cparseF s).1=s/\InC (cparseF s).1:=by
 have e:(kindF s).2.2=0:=Classical.byContradiction fun e=>by
  rw [cp_err e] at h;exact e h
 obtain ⟨k1,k8⟩:=kindF_in e;obtain ⟨hn,hw⟩:=kind_read e;rw [cp_rest e rfl] at h⊢;unfold restF at h⊢;have ht0:(tailF s (kindF s).1 (P0 s).1 (P0 s).2.1).2.1=0:=Classical.byContradiction fun ht=>by
  rw [if_neg ht] at h;exact ht h
 rw [if_pos ht0] at h⊢;by_cases hr:(tailF s (kindF s).1 (P0 s).1 (P0 s).2.1).1<s.length
 ·rw [if_pos hr] at h;cases h
 rw [if_neg hr];dsimp only;have hp0:(P0 s).2.1=0:=Classical.byContradiction fun hp=>by
  rw [tail_err hp] at ht0;exact hp ht0
 have hwl:(wordF (kindF s).1).length<=s.length:=by
  have:=congrArg List.length hw;rw [List.length_take] at this;omega
 unfold P0 at hp0;obtain ⟨vs,q1,q2,q3,q4,q5⟩:=parts_read (by omega) (by omega) hp0;change P0 s=((P0 s).1,0,setL zeros (partF (kindF s).1) vs) at q2;change _<=(P0 s).1 at q3;change (P0 s).1<=_ at q4;change s.take (P0 s).1.toNat=_ at q5;rw [hn,Int.toNat_natCast,hw] at q5;have hm:=setL_map (partF (kindF s).1) vs zeros (fun j hj=>by have:=partF_in hj;simp;omega) part_nodup (fits_len q1);generalize hS:setL zeros (partF (kindF s).1) vs=S at hm q2;have hSl:S.length=8:=by rw [<-hS,setL_len];rfl
 have hoff: ∀i:Int,0<=i->i<8->i∉partF (kindF s).1->nthI S i=0:=fun i i0 i8 hi=>by
  unfold nthI;rw [<-hS,setL_off _ _ _ _ (fun j hj=>(partF_in hj).1) (by rw [show ((i.toNat:Nat):Int)=i by omega];exact hi)];have:i.toNat<8:=by omega
  generalize i.toNat=j at this;match j,this with
  |0,_|1,_|2,_|3,_|4,_|5,_|6,_|7,_=>rfl
 have hfit:=fits_all (f:=nthI S) (L:=partF (kindF s).1) (by rw [hm];exact q1);have hbit: ∀i:Int,(i=4∨i=5)->nthI S i=0∨nthI S i=1:=fun i hi=>by
  by_cases hin:i∈partF (kindF s).1
  ·obtain ⟨_,b1,b2⟩:=hfit i hin;unfold loF at b1;unfold hiF at b2;rw [if_pos hi] at b1 b2;omega
  ·exact .inl (hoff i (by omega) (by omega) hin)
 have hSI: ∀n∈S,InI n:=fun n hn=>by
  obtain ⟨i,hi,rfl⟩:=List.mem_iff_getElem.1 hn;have hv:nthI S i=S[i]:=by
   unfold nthI;rw [Int.toNat_natCast,List.getElem?_eq_getElem hi];rfl
  by_cases hin:(i:Int)∈partF (kindF s).1
  ·rw [<-hv];exact (hfit i hin).1
  ·rw [<-hv,hoff i (by omega) (by omega) hin];unfold InI;omega
 have hP1:(P0 s).2.2=S:=by rw [q2]
 have hP2:(P0 s).2.1=0:=by rw [q2]
 have hall: ∀ls,allF (hdC s ls)=S:=fun ls=>by
  unfold hdC;rw [hP1];exact all_mk hSl (hbit 4 (.inl rfl)) (hbit 5 (.inr rfl))
 have hkk: ∀ls,(hdC s ls).1=(kindF s).1:=fun _=>rfl;have hlin: ∀ls,linesF (hdC s ls)=ls:=fun _=>rfl;have fin: ∀ls:List LnD,ls.length<=50->((kindF s).1=7∨ls=[])->(∀x∈ls,InLn x)->s=wordF (kindF s).1++sayF (vs++if (kindF s).1=7 then (ls.length:Int)::ls.flatMap lnL else [])->
  checkF (hdC s ls)=0/\textF (hdC s ls)=s/\InC (hdC s ls):=fun ls l1 l2 l3 l4=>by
  refine ⟨chk_ok (by rw [hkk];exact k1) (by rw [hkk];exact k8) (by rw [hlin];exact l1) (by rw [hkk,hlin];exact l2) (fun i i0 i8 hi=>by rw [hall];exact hoff i i0 i8 (by rw [<-hkk ls];exact hi)), ?_,⟨by rw [hall];exact hSI,by rw [hlin];exact l3⟩⟩;unfold textF numsF;rw [hall,hkk,hlin,hm];exact l4.symm
 rw [hP2] at ht0 hr⊢;by_cases h7:(kindF s).1=7
 ·unfold tailF at ht0 hr⊢;rw [if_pos h7] at ht0 hr⊢;dsimp only at ht0 hr⊢;by_cases hx:(withinF s (P0 s).1 0 0 50).2.2=0
  ·obtain ⟨w1,w2,w3,w4,w5,w6⟩:=within_read (by omega) q4 hx;rw [hx] at ht0 hr⊢;obtain ⟨ls,r1,r2,r3,r4,r5,r6⟩:=line_read (by omega) w2 ht0;rw [r3];dsimp only;rw [List.nil_append];have hsx:=full_take r6 hr;refine fin ls (by omega) (.inl h7) r2 ?_;rw [if_pos h7];have e1:(withinF s (P0 s).1 0 0 50).1=(ls.length:Int):=by omega
   rw [e1] at w6;rw [w6,q5] at hsx;rw [sayF_app,<-List.singleton_append,sayF_app,<-List.append_assoc,<-List.append_assoc];exact hsx
  ·rw [line_err hx] at ht0;exact absurd ht0 hx
 ·unfold tailF at hr⊢;rw [if_neg h7] at hr⊢;dsimp only at hr⊢;have hsx:=full_take q5 hr;refine fin [] (by simp) (.inr rfl) (fun x hx=>by cases hx) ?_;rw [if_neg h7,List.append_nil];exact hsx
theorem say_len41 {l:List Int} (h: ∀n∈l,InI n):(sayF l).length<=41*l.length:=by
 induction l with
 |nil=>simp [sayF]
 |cons a r ih=>
  have:=ih (fun n hn=>h n (by simp [hn]));have h2:=itoa_len (h a (by simp));have e:sayF (a::r)=(32::Lib.itoa a)++sayF r:=by simp [sayF]
  rw [e];simp only [List.length_append,List.length_cons];omega
end Go.Proofs.YtabicbgeoiilmaaGreatDoor.Cm
end
