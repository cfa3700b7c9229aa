/-
  An entry's opposite.
-/
import Derived.Test.YtabicbgeoiilmaaGreatDoorNum2
import Derived.Test.YtabicbgeoiilmaaGreatDoorShelf
set_option linter.unusedVariables false
section
namespace Go.Proofs.YtabicbgeoiilmaaGreatDoor.Ent
open Go.Vm
abbrev LTy:Ty:= .pair I (.pair I (.pair I I))
abbrev Ln:=Int×Int×Int×Int
noncomputable abbrev tys:TypeId->Option Ty:=tys0
theorem toNat_next {i:Int} (h:0<=i):(i+1).toNat=i.toNat+1:=by omega
def sp_sort:UFSpec Tryz.prog:=sortSpec 220 ⟨fun blk off cap zs w h1 h2 h3=>Tryz.slices_Sort_int blk off cap zs w h1 h2 h3,Tryz.slices_Sort_int_none⟩
def sp_compact:UFSpec Tryz.prog:=compactSpec 221 ⟨fun blk off cap zs w h1 h2 h3=>Tryz.slices_Compact_int blk off cap zs w h1 h2 h3,Tryz.slices_Compact_int_empty⟩
set_option maxRecDepth 20000
noncomputable def env_clone (l:List Ln):Env where
 P:=Tryz.prog
 ty:=tys
def g_clone_vc (l:List Ln):Prop:=
 ((true=true->l.length=(0:Nat))->([],())=(l,()))/\((false=true->l.length=(0:Nat))->(((0:Nat)+l.length)*(32:Nat)<=(140737488355328:Nat)/\(0:Nat)+l.length<=(4611686018427387904:Nat)/\((0:Nat)<l.length∨(0:Nat)=(0:Nat)))/\(l,())=(l,()))
theorem g_clone_ok (l:List Ln) (h:l.length<=1000000000):g_clone_vc l:=by
 unfold g_clone_vc;refine ⟨fun e=> ?_,fun _=>⟨⟨by omega,by omega, .inr rfl⟩,rfl⟩⟩;have:=List.eq_nil_of_length_eq_zero (e rfl);rw [this]
noncomputable def sp_clone:FSpec Tryz.prog:=mkF 77 (.c (.l LTy) .z) [.slc 0 LTy] (fun x=>(fun (l:List Ln)=>(l.length<=1000000000,l,())) x.1) fun ⟨l,_⟩ h=>Pure.of_cond (E:=env_clone l) (by kernel_rfl) (g_clone_ok l h) (specs_ok rfl [] [] rfl rfl) mixed Tryz.func77
noncomputable def env_sum (l:List Int):Env where
 P:=Tryz.prog
 ty:=tys
 specs:=specsOf [sp_net]
def g_sum_vc (l:List Int):Prop:=
 (l.length<=(1000000000:Nat)/\(0:Nat)<=(1000000000:Nat))/\((netF l []).1,(netF l []).2,())=((netF l []).1,(netF l []).2,())
theorem g_sum_ok (l:List Int) (h:l.length<=1000000000):g_sum_vc l:=by
 exact ⟨⟨h,Nat.zero_le _⟩,rfl⟩
noncomputable def sp_sum:FSpec Tryz.prog:=mkF 222 (.c (.l I) .z) [.int .i64, .int .i64] (fun x=>(fun (l:List Int)=>(l.length<=1000000000,(netF l []).1,(netF l []).2,())) x.1) fun ⟨l,_⟩ h=>Pure.of_cond (E:=env_sum l) (by kernel_rfl) (g_sum_ok l h) (specs_ok rfl _ [] rfl rfl) mixed Tryz.func222
def subF (a b:Int):Int×Int:=if -9223372036854775808<=a-b/\a-b<=9223372036854775807 then (a-b,0) else (0,10)
noncomputable def env_sub (a b:Int):Env where
 P:=Tryz.prog
 ty:=tys
 wrap:=fun|9=>true|_=>false
def g_sub_vc (a:Int) (b:Int):Prop:=
 ((!decide (IntKind.i64.wrap (a-b)<a)==decide ((0:Int)<b))=true->((!decide (b=(0:Int)))=true->((0:Int),(10:Int),())=((subF a b).1,(subF a b).2,()))/\((!decide (b=(0:Int)))=false->(IntKind.i64.wrap (a-b),(0:Int),())=((subF a b).1,(subF a b).2,())))/\((!decide (IntKind.i64.wrap (a-b)<a)==decide ((0:Int)<b))= !true->(IntKind.i64.wrap (a-b),(0:Int),())=((subF a b).1,(subF a b).2,()))
theorem g_sub_ok (a b:Int) (h:InI a/\InI b):g_sub_vc a b:=by
 obtain ⟨⟨h1,h2⟩,h3,h4⟩:=h;have hw:=IntKind.wrap_i64 (a-b);unfold g_sub_vc subF;generalize IntKind.i64.wrap (a-b)=w at hw;by_cases hin: -9223372036854775808<=a-b/\a-b<=9223372036854775807
 ·have ew:w=a-b:=by omega
  have e1:decide (w<a)=decide (0<b):=decide_eq_decide.2 (by omega);rw [if_pos hin,e1,ew];refine ⟨fun c=> ?_,fun _=>rfl⟩;simp at c
 ·have e1:decide (w<a)≠decide (0<b):=fun e=>by
   have:=decide_eq_decide.1 e;omega
  rw [if_neg hin];refine ⟨fun _=>⟨fun _=>rfl,fun d=> ?_⟩,fun c=> ?_⟩
  ·have:b=0:=by simpa using d
   omega
  ·exact absurd (by simpa using c) e1
noncomputable def sp_sub:FSpec Tryz.prog:=mkF 230 (.c .j (.c .j .z)) [.int .i64, .int .i64] (fun x=>(fun (a b:Int)=>(InI a/\InI b,(subF a b).1,(subF a b).2,())) x.1 x.2.1) fun ⟨a,b,_⟩ h=>Pure.of_cond (E:=env_sub a b) (by kernel_rfl) (g_sub_ok a b h) (specs_ok rfl [] [] rfl rfl) mixed Tryz.func230
noncomputable def env_neg (a:Int):Env where
 P:=Tryz.prog
 ty:=tys
 specs:=specsOf [sp_sub]
def g_neg_vc (a:Int):Prop:=
 (InI (0:Int)/\InI a)/\((subF (0:Int) a).1,(subF (0:Int) a).2,())=((subF (0:Int) a).1,(subF (0:Int) a).2,())
theorem g_neg_ok (a:Int) (h:InI a):g_neg_vc a:=by
 exact ⟨⟨⟨by decide,by decide⟩,h⟩,rfl⟩
noncomputable def sp_neg:FSpec Tryz.prog:=mkF 197 (.c .j .z) [.int .i64, .int .i64] (fun x=>(fun (a:Int)=>(InI a,(subF 0 a).1,(subF 0 a).2,())) x.1) fun ⟨a,_⟩ h=>Pure.of_cond (E:=env_neg a) (by kernel_rfl) (g_neg_ok a h) (specs_ok rfl _ [] rfl rfl) mixed Tryz.func197
def entsL (L:List Ln):List Int:=L.map (·.1)
def entsF (L:List Ln):List Int:=(entsL L).foldl withF []
def InvEn (L:List Ln) (i:Int) (acc:List Int):Prop:=0<=i/\i<=L.length/\acc=entsL (L.take i.toNat)
noncomputable def env_ents (p r:Int) (L:List Ln):Env where
 P:=Tryz.prog
 ty:=tys
 upd:=updsOf [sp_sort,sp_compact]
 heads:=fun
  |3=>some {slots:=[(9, .int .i64),(3, .slc 5000 I),(5, .any)],boxes:=[],keep:=[1],inv:=fun _ (x:Int×List Int×Unit×Unit)=>InvEn L x.1 x.2.1,measure:=fun _ (x:Int×List Int×Unit×Unit)=>(L.length-x.1).toNat}
  |_=>none
abbrev bx_ents_1 (p:Int) (r:Int) (L:List Ln):_root_.Go.Vm.Obj:=Obj.box [V.int IntKind.i64 p,V.int IntKind.i64 r,V.list LK.tmp LTy L]
def g_ents_vc (p:Int) (r:Int) (L:List Ln):Prop:=
 ((some (bx_ents_1 p r L)=some (bx_ents_1 p r L)/\True)/\InvEn L (0:Int) [])/\∀(x:Int×List Int×Unit×Unit),InvEn L x.1 x.2.1->(decide (x.1<(↑L.length:Int))=true->(0<=x.1/\x.1<(↑L.length:Int))/\∀(x_1:Int×Int×Int×Int),L[x.1.toNat]? =some x_1->((x.2.1.length+(1:Nat))*(8:Nat)<=(140737488355328:Nat)/\x.2.1.length+(1:Nat)<=(4611686018427387904:Nat))/\(-9223372036854775808<=x.1+1/\x.1+1<=9223372036854775807)/\(some (bx_ents_1 p r L)=some (bx_ents_1 p r L)/\True)/\InvEn L (x.1+1) (x.2.1++[x_1.1])/\((↑L.length:Int)-(x.1+1)).toNat<((↑L.length:Int)-x.1).toNat)/\(decide (x.1<(↑L.length:Int))=false->x.2.1.length<=(1000000000:Nat)/\(x.2.1.mergeSort fun x y=>decide (x<=y)).length<=(1000000000:Nat)/\(List.take (Lib.compact (x.2.1.mergeSort fun x y=>decide (x<=y))).length (List.drop (0:Nat) (Lib.compact (x.2.1.mergeSort fun x y=>decide (x<=y))++List.replicate ((x.2.1.mergeSort fun x y=>decide (x<=y)).length-(Lib.compact (x.2.1.mergeSort fun x y=>decide (x<=y))).length) (0:Int))),())=(entsF L,()))
theorem entsL_take {L:List Ln} {i:Nat} {x:Ln} (h:L[i]? =some x):entsL (L.take (i+1))=entsL (L.take i)++[x.1]:=by
 unfold entsL;rw [List.take_add_one,h];simp
theorem entsL_len (L:List Ln):(entsL L).length=L.length:=List.length_map ..
theorem entsF_len (L:List Ln):(entsF L).length<=L.length:=by
 have h1:=len_fold (m:=entsL L) (l:=[]);rw [entsL_len] at h1;simpa [entsF] using h1
theorem sortF_eq (l:List Int):(l.mergeSort fun x y=>decide (x<=y))=sortF l:=rfl
theorem g_ents_ok (p r:Int) (L:List Ln) (h:L.length<=1000000000):g_ents_vc p r L:=by
 unfold g_ents_vc;refine ⟨⟨⟨rfl,trivial⟩,by omega,by omega,rfl⟩, ?_⟩;rintro ⟨i,acc,⟨⟩,⟨⟩⟩ ⟨h1,h2,h3⟩;dsimp only at h1 h2 h3⊢;have hlen:acc.length<=L.length:=by rw [h3,entsL_len,List.length_take];omega
 simp only [decide_eq_true_eq,decide_eq_false_iff_not];refine ⟨fun hi=>⟨⟨h1,hi⟩,fun x hx=>⟨⟨by omega,by omega⟩,⟨by omega,by omega⟩,⟨trivial,trivial⟩,⟨by omega,by omega, ?_⟩,by omega⟩⟩,fun hi=>⟨by omega, ?_, ?_⟩⟩
 ·rw [toNat_next h1,entsL_take hx,h3]
 ·rw [List.length_mergeSort];omega
 ·rw [sortF_eq,compact_sort,List.drop_zero,List.take_left' rfl,h3,List.take_of_length_le (by omega)];rfl
noncomputable def sp_ents:FSpec Tryz.prog:=mkF 191 (.c (.g (.c .j (.c .j (.c (.l LTy) .z)))) .z) [.list .part I] (fun x=>(fun (p r:Int) (L:List Ln)=>(L.length<=1000000000,entsF L,())) x.1.1 x.1.2.1 x.1.2.2.1) fun ⟨⟨p,r,L,_⟩,_⟩ h=>Pure.of_cond (E:=env_ents p r L) (by kernel_rfl) (g_ents_ok p r L h) (specs_ok rfl [] _ rfl rfl) mixed Tryz.func191
def amtsL (L:List Ln) (e:Int):List Int:=(L.filter fun x=>decide (x.1=e)).map (·.2.2.2)
def wholeF (L:List Ln) (e:Int):Int:=(amtsL L e).foldl (· + ·) 0
theorem amtsL_take {L:List Ln} {e:Int} {i:Nat} {x:Ln} (h:L[i]? =some x):amtsL (L.take (i+1)) e=amtsL (L.take i) e++if x.1=e then [x.2.2.2] else []:=by
 unfold amtsL;rw [List.take_add_one,h];by_cases hx:x.1=e<;>simp [hx]
theorem amtsL_len (L:List Ln) (e:Int):(amtsL L e).length<=L.length:=by
 unfold amtsL;rw [List.length_map];exact List.length_filter_le _ _
theorem wholeF_take {L:List Ln} {e:Int} {i:Nat} {x:Ln} (h:L[i]? =some x):wholeF (L.take (i+1)) e=wholeF (L.take i) e+if x.1=e then x.2.2.2 else 0:=by
 unfold wholeF;rw [amtsL_take h,List.foldl_append];by_cases hx:x.1=e<;>simp [hx]
noncomputable def env_total (p r:Int) (L:List Ln) (e:Int):Env where
 P:=Tryz.prog
 ty:=tys
 specs:=specsOf [sp_sum]
 heads:=fun
  |3=>some {slots:=[(12, .int .i64),(6, .slc 5000 I),(8, .any)],boxes:=[],keep:=[2],inv:=fun _ (x:Int×List Int×Unit×Unit)=>0<=x.1/\x.1<=L.length/\x.2.1=amtsL (L.take x.1.toNat) e,measure:=fun _ (x:Int×List Int×Unit×Unit)=>(L.length-x.1).toNat}
  |_=>none
abbrev bx_total_1 (p:Int) (r:Int) (L:List Ln):_root_.Go.Vm.Obj:=Obj.box [V.int IntKind.i64 p,V.int IntKind.i64 r,V.list LK.tmp LTy L]
def g_total_vc (p:Int) (r:Int) (L:List Ln) (e:Int):Prop:=
 ((some (bx_total_1 p r L)=some (bx_total_1 p r L)/\True)/\0<=(0:Int)/\0<=(↑L.length:Int)/\[]=amtsL (List.take (Int.toNat (0:Int)) L) e)/\∀(x:Int×List Int×Unit×Unit),0<=x.1/\x.1<=(↑L.length:Int)/\x.2.1=amtsL (List.take x.1.toNat L) e->(decide (x.1<(↑L.length:Int))=true->(0<=x.1/\x.1<(↑L.length:Int))/\∀(x_1:Int×Int×Int×Int),L[x.1.toNat]? =some x_1->(decide (x_1.1=e)=true->((x.2.1.length+(1:Nat))*(8:Nat)<=(140737488355328:Nat)/\x.2.1.length+(1:Nat)<=(4611686018427387904:Nat))/\(-9223372036854775808<=x.1+1/\x.1+1<=9223372036854775807)/\(some (bx_total_1 p r L)=some (bx_total_1 p r L)/\True)/\(0<=x.1+1/\x.1+1<=(↑L.length:Int)/\x.2.1++[x_1.2.2.2]=amtsL (List.take (x.1+1).toNat L) e)/\((↑L.length:Int)-(x.1+1)).toNat<((↑L.length:Int)-x.1).toNat)/\(decide (x_1.1=e)=false->(-9223372036854775808<=x.1+1/\x.1+1<=9223372036854775807)/\(some (bx_total_1 p r L)=some (bx_total_1 p r L)/\True)/\(0<=x.1+1/\x.1+1<=(↑L.length:Int)/\x.2.1=amtsL (List.take (x.1+1).toNat L) e)/\((↑L.length:Int)-(x.1+1)).toNat<((↑L.length:Int)-x.1).toNat))/\(decide (x.1<(↑L.length:Int))=false->x.2.1.length<=(1000000000:Nat)/\((netF x.2.1 []).1,(netF x.2.1 []).2,())=((netF (amtsL L e) []).1,(netF (amtsL L e) []).2,()))
theorem g_total_ok (p r:Int) (L:List Ln) (e:Int) (h:L.length<=1000000000):g_total_vc p r L e:=by
 unfold g_total_vc;refine ⟨⟨⟨rfl,trivial⟩,by omega,by omega,rfl⟩, ?_⟩;rintro ⟨i,acc,⟨⟩,⟨⟩⟩ ⟨h1,h2,h3⟩;dsimp only at h1 h2 h3⊢;have hlen:acc.length<=L.length:=by
  rw [h3];have:=amtsL_len (L.take i.toNat) e;rw [List.length_take] at this;omega
 simp only [decide_eq_true_eq,decide_eq_false_iff_not];refine ⟨fun hi=>⟨⟨h1,hi⟩,fun x hx=>⟨fun c=>⟨⟨by omega,by omega⟩,⟨by omega,by omega⟩,⟨trivial,trivial⟩,⟨by omega,by omega, ?_⟩,by omega⟩,fun c=>⟨⟨by omega,by omega⟩,⟨trivial,trivial⟩,⟨by omega,by omega, ?_⟩,by omega⟩⟩⟩,fun hi=>⟨by omega, ?_⟩⟩
 ·rw [toNat_next h1,amtsL_take hx,if_pos c,h3]
 ·rw [toNat_next h1,amtsL_take hx,if_neg c,h3,List.append_nil]
 ·rw [h3,List.take_of_length_le (by omega)]
noncomputable def sp_total:FSpec Tryz.prog:=mkF 192 (.c (.g (.c .j (.c .j (.c (.l LTy) .z)))) (.c .j .z)) [.int .i64, .int .i64] (fun x=>(fun (p r:Int) (L:List Ln) (e:Int)=>(L.length<=1000000000,(netF (amtsL L e) []).1,(netF (amtsL L e) []).2,())) x.1.1 x.1.2.1 x.1.2.2.1 x.2.1) fun ⟨⟨p,r,L,_⟩,e,_⟩ h=>Pure.of_cond (E:=env_total p r L e) (by kernel_rfl) (g_total_ok p r L e h) (specs_ok rfl _ [] rfl rfl) mixed Tryz.func192
def InL (L:List Ln):Prop:= ∀x∈L,InI x.2.2.2
theorem InL.get {L:List Ln} (h:InL L) {i:Nat} {x:Ln} (hx:L[i]? =some x):InI x.2.2.2:=h x (List.mem_of_getElem? hx)
theorem wholeF_boundP {L:List Ln} {P:Int} (h0:0<=P) (h: ∀x∈L, -P<=x.2.2.2/\x.2.2.2<=P) (e:Int) (i:Nat): -(i*P)<=wholeF (L.take i) e/\wholeF (L.take i) e<=i*P:=by
 induction i with
 |zero=>simp [wholeF,amtsL]
 |succ i ih=>
  have e1:((i+1:Nat):Int)*P=i*P+P:=by
   rw [Int.natCast_add,Int.add_mul];simp
  rw [e1];cases hx:L[i]? with
  |none=>
   have hl:=List.getElem?_eq_none_iff.1 hx;rw [List.take_of_length_le (show L.length<=i+1 by omega)];rw [List.take_of_length_le hl] at ih;omega
  |some x=>
   rw [wholeF_take hx];obtain ⟨h1,h2⟩:=h x (List.mem_of_getElem? hx);split<;>omega
theorem wholeF_bound {L:List Ln} (h:InL L) (e:Int) (i:Nat): -(i*9223372036854775808)<=wholeF (L.take i) e/\wholeF (L.take i) e<=i*9223372036854775808:=
 wholeF_boundP (by omega) (fun x hx=>by obtain ⟨h1,h2⟩:=h x hx;omega) e i
end Go.Proofs.YtabicbgeoiilmaaGreatDoor.Ent
end
section
namespace Go.Proofs.YtabicbgeoiilmaaGreatDoor.Ent
open Go.Vm
abbrev M128:Int:=340282366920938463463374607431768211456
def prW (s:Int×Int):Int:=s.1*M64+s.2
theorem addW_pr {s:Int×Int} {n:Int} (hn:InI n): ∃k,prW (addW s n)=prW s+n+k*M128:=by
 obtain ⟨h1,h2⟩:=hn;obtain ⟨a,b⟩:=s;simp only [prW,addW,hiW,M64,M128];split
 ·exact ⟨1-(a+18446744073709551615+(b+n%18446744073709551616)/18446744073709551616)/18446744073709551616,by omega⟩
 ·exact ⟨0-(a+0+(b+n%18446744073709551616)/18446744073709551616)/18446744073709551616,by omega⟩
theorem fold_pr: ∀{l:List Int} {s:Int×Int},(∀n∈l,InI n)->∃k,prW (l.foldl addW s)=prW s+l.foldl (· + ·) 0+k*M128
 |[],s,_=>⟨0,by simp⟩
 |n::r,s,h=>by
  obtain ⟨k1,e1⟩:=addW_pr (s:=s) (h n (by simp));obtain ⟨k2,e2⟩:=fold_pr (l:=r) (s:=addW s n) (fun x hx=>h x (by simp [hx]));have e3: ∀(l:List Int) (a:Int),l.foldl (· + ·) a=a+l.foldl (· + ·) 0:=by
   intro l;induction l with
   |nil=>intro a;simp
   |cons x r ih=>intro a;simp only [List.foldl_cons];rw [ih (a+x),ih (0+x)];omega
  refine ⟨k1+k2, ?_⟩;simp only [List.foldl_cons,Int.zero_add];rw [e2,e1,e3 r n,Int.add_mul];omega
theorem netF_law {l:List Int} (h: ∀n∈l,InI n) (z:Int) (hz:z=l.foldl (· + ·) 0) (hb: -1267650600228229401496703205376<=z/\z<=1267650600228229401496703205376):netF l []=(intB z,faultB z):=by
 obtain ⟨k,hk⟩:=fold_pr (s:=(0,0)) h;have h0:InW 0:=⟨by decide,by decide⟩
 obtain ⟨⟨w1,w2⟩,w3,w4⟩:=addW_w (l:=l) (s:=(0,0)) ⟨h0,h0⟩;rw [<-hz] at hk;unfold netF sumW;simp only [List.foldl_nil];generalize l.foldl addW (0,0)=s at*;obtain ⟨a,b⟩:=s;simp only [prW,M64,M128,Int.zero_mul,Int.zero_add] at*;have hw:=IntKind.wrap_i64 b;unfold intF intB faultB okB;generalize IntKind.i64.wrap b=n at hw;simp only [M64];by_cases hin: -9223372036854775808<=z/\z<=9223372036854775807
 ·have hc:hiW n=a/\n%18446744073709551616=b:=by
   unfold hiW;split<;>omega
  have en:n=z:=by
   obtain ⟨c1,c2⟩:=hc;unfold hiW at c1;split at c1<;>omega
  rw [if_pos hc,if_pos hin,decide_eq_true hin.1,decide_eq_true hin.2,en];rfl
 ·have hc: ¬(hiW n=a/\n%18446744073709551616=b):=by
   rintro ⟨c1,c2⟩;unfold hiW at c1;split at c1<;>omega
  have hd:(decide (-9223372036854775808<=z)&&decide (z<=9223372036854775807))=false:=by
   rw [Bool.and_eq_false_iff,decide_eq_false_iff_not,decide_eq_false_iff_not];omega
  rw [if_neg hc,if_neg hin,hd];rfl
theorem amts_in {L:List Ln} (h:InL L) (e:Int): ∀n∈amtsL L e,InI n:=by
 intro n hn;simp only [amtsL,List.mem_map,List.mem_filter] at hn;obtain ⟨x,⟨hx,_⟩,rfl⟩:=hn;exact h x hx
theorem total_law {L:List Ln} (h:InL L) (hl:L.length<=1000) (e:Int):netF (amtsL L e) []=(intB (wholeF L e),faultB (wholeF L e)):=by
 have hb:=wholeF_bound h e L.length;rw [List.take_length] at hb;exact netF_law (amts_in h e) _ rfl (by omega)
def lineF (x:Ln) (n m:Int):Int:=
 if x.1<1∨n<x.1 then 20 else if x.2.1<1∨m<x.2.1 then 21 else if x.2.2.1<0∨n<x.2.2.1∨x.2.2.1=x.1 then 24 else if x.2.2.2=0 then 31 else 0
set_option maxRecDepth 20000
noncomputable def env_r1 (e a p m n:Int):Env where
 P:=Tryz.prog
 ty:=tys
def g_r1_vc (e:Int) (a:Int) (p:Int) (m:Int) (n:Int):Prop:=
 (decide (e<(1:Int))=false->(decide (n<e),())=(decide (e<(1:Int)∨n<e),()))/\(decide (e<(1:Int))= !false->(true,())=(decide (e<(1:Int)∨n<e),()))
theorem g_r1_ok (e a p m n:Int):g_r1_vc e a p m n:=by
 unfold g_r1_vc;simp only [decide_eq_false_iff_not,Bool.not_false,decide_eq_true_eq];refine ⟨fun c=> ?_,fun c=> ?_⟩
 ·rw [decide_eq_decide.2 (show (n<e)↔(e<1∨n<e) by omega)]
 ·rw [decide_eq_true (.inl c)]
noncomputable def sp_r1:FSpec Tryz.prog:=mkF 216 (.c (.g (.c .j (.c .j (.c .j (.c .j .z))))) (.c (.f (.c .j .z)) .z)) [.bool] (fun x=>(fun (e a p m n:Int)=>(True,decide (e<1∨n<e),())) x.1.1 x.1.2.1 x.1.2.2.1 x.1.2.2.2.1 x.2.1.1) fun ⟨⟨e,a,p,m,_⟩,⟨n,_⟩,_⟩ _=>Pure.of_cond (E:=env_r1 e a p m n) (by kernel_rfl) (g_r1_ok e a p m n) (specs_ok rfl [] [] rfl rfl) mixed Tryz.func216
noncomputable def env_r2 (e a p m n:Int):Env where
 P:=Tryz.prog
 ty:=tys
def g_r2_vc (e:Int) (a:Int) (p:Int) (m:Int) (n:Int):Prop:=
 (decide (a<(1:Int))=false->(decide (n<a),())=(decide (a<(1:Int)∨n<a),()))/\(decide (a<(1:Int))= !false->(true,())=(decide (a<(1:Int)∨n<a),()))
theorem g_r2_ok (e a p m n:Int):g_r2_vc e a p m n:=by
 unfold g_r2_vc;simp only [decide_eq_false_iff_not,Bool.not_false,decide_eq_true_eq];refine ⟨fun c=> ?_,fun c=> ?_⟩
 ·rw [decide_eq_decide.2 (show (n<a)↔(a<1∨n<a) by omega)]
 ·rw [decide_eq_true (.inl c)]
noncomputable def sp_r2:FSpec Tryz.prog:=mkF 217 (.c (.g (.c .j (.c .j (.c .j (.c .j .z))))) (.c (.f (.c .j .z)) .z)) [.bool] (fun x=>(fun (e a p m n:Int)=>(True,decide (a<1∨n<a),())) x.1.1 x.1.2.1 x.1.2.2.1 x.1.2.2.2.1 x.2.1.1) fun ⟨⟨e,a,p,m,_⟩,⟨n,_⟩,_⟩ _=>Pure.of_cond (E:=env_r2 e a p m n) (by kernel_rfl) (g_r2_ok e a p m n) (specs_ok rfl [] [] rfl rfl) mixed Tryz.func217
noncomputable def env_r3 (e a p m n:Int):Env where
 P:=Tryz.prog
 ty:=tys
def g_r3_vc (e:Int) (a:Int) (p:Int) (m:Int) (n:Int):Prop:=
 (decide (p<(0:Int))=false->(decide (n<p)=false->(decide (p=e),())=(decide (p<(0:Int)∨n<p∨p=e),()))/\(decide (n<p)= !false->(true,())=(decide (p<(0:Int)∨n<p∨p=e),())))/\(decide (p<(0:Int))= !false->(true,())=(decide (p<(0:Int)∨n<p∨p=e),()))
theorem g_r3_ok (e a p m n : Int) : g_r3_vc e a p m n := by
  unfold g_r3_vc
  simp only [decide_eq_false_iff_not, Bool.not_false, decide_eq_true_eq]
  first
    | (refine ⟨fun c => ⟨fun d => ?_, fun d => ?_⟩, fun c => ?_⟩
       · rw [decide_eq_decide.2 (show (p = e) ↔ (p < 0 ∨ n < p ∨ p = e) by omega)]
       · rw [decide_eq_true (.inr (.inl d))]
       · rw [decide_eq_true (.inl c)])
noncomputable def sp_r3:FSpec Tryz.prog:=mkF 218 (.c (.g (.c .j (.c .j (.c .j (.c .j .z))))) (.c (.f (.c .j .z)) .z)) [.bool] (fun x=>(fun (e a p m n:Int)=>(True,decide (p<0∨n<p∨p=e),())) x.1.1 x.1.2.1 x.1.2.2.1 x.1.2.2.2.1 x.2.1.1) fun ⟨⟨e,a,p,m,_⟩,⟨n,_⟩,_⟩ _=>Pure.of_cond (E:=env_r3 e a p m n) (by kernel_rfl) (g_r3_ok e a p m n) (specs_ok rfl [] [] rfl rfl) mixed Tryz.func218
noncomputable def env_r4 (e a p m:Int):Env where
 P:=Tryz.prog
 ty:=tys
def g_r4_vc (e:Int) (a:Int) (p:Int) (m:Int):Prop:=
 (decide (m=(0:Int)),())=(decide (m=(0:Int)),())
theorem g_r4_ok (e a p m:Int):g_r4_vc e a p m:=by
 exact rfl
noncomputable def sp_r4:FSpec Tryz.prog:=mkF 219 (.c (.g (.c .j (.c .j (.c .j (.c .j .z))))) .z) [.bool] (fun x=>(fun (e a p m:Int)=>(True,decide (m=0),())) x.1.1 x.1.2.1 x.1.2.2.1 x.1.2.2.2.1) fun ⟨⟨e,a,p,m,_⟩,_⟩ _=>Pure.of_cond (E:=env_r4 e a p m) (by kernel_rfl) (g_r4_ok e a p m) (specs_ok rfl [] [] rfl rfl) mixed Tryz.func219
noncomputable def env_rules (n k:Int):Env where
 P:=Tryz.prog
 ty:=tys
 asRows:=fun|12=>true|_=>false
def g_rules_vc (n:Int) (k:Int):Prop:=
 some (V.rows (2:Nat) [V.fn (Fn.func (216:Nat)) [] [V.optr [V.int IntKind.i64 n]],V.int IntKind.i64 (20:Int),V.fn (Fn.func (217:Nat)) [] [V.optr [V.int IntKind.i64 k]],V.int IntKind.i64 (21:Int),V.fn (Fn.func (218:Nat)) [] [V.optr [V.int IntKind.i64 n]],V.int IntKind.i64 (24:Int),V.fn (Fn.func (219:Nat)) [] [],V.int IntKind.i64 (31:Int)])=some (V.rows (2:Nat) [V.fn (Fn.func (216:FuncId)) [] [V.optr [V.int IntKind.i64 n]],V.int IntKind.i64 (20:Int),V.fn (Fn.func (217:FuncId)) [] [V.optr [V.int IntKind.i64 k]],V.int IntKind.i64 (21:Int),V.fn (Fn.func (218:FuncId)) [] [V.optr [V.int IntKind.i64 n]],V.int IntKind.i64 (24:Int),V.fn (Fn.func (219:FuncId)) [] [],V.int IntKind.i64 (31:Int)])
theorem g_rules_ok (n k:Int):g_rules_vc n k:=by
 exact rfl
noncomputable def sp_rules:ZSpec Tryz.prog:=mkZ 190 (.c .j (.c .j .z)) (fun x=>(fun (n k:Int)=>(True,(.rows 2 [.fn (.func 216) [] [.optr [.int .i64 n]], .int .i64 20, .fn (.func 217) [] [.optr [.int .i64 k]], .int .i64 21, .fn (.func 218) [] [.optr [.int .i64 n]], .int .i64 24, .fn (.func 219) [] [], .int .i64 31]))) x.1 x.2.1) fun ⟨n,k,_⟩ _=>PureZ.of_cond (E:=env_rules n k) (by kernel_rfl) (g_rules_ok n k) (specs_ok rfl [] [] rfl rfl) mixed Tryz.func190
end Go.Proofs.YtabicbgeoiilmaaGreatDoor.Ent
end
section
namespace Go.Proofs.YtabicbgeoiilmaaGreatDoor.Ent
open Go.Vm
def badF:List Ln->Int->Int->Int->Option (Int×Int)
 |[],_,_,_=>none
 |x::r,n,k,i=>if lineF x n k≠0 then some (i,lineF x n k) else badF r n k (i+1)
def unbal (L:List Ln):Bool:=(entsF L).any fun e=>decide (wholeF L e≠0)
def checkF (p:Int) (L:List Ln) (n k:Int):Int×Int:=
 if p<0∨23<p then (-1,22) else if (L.length:Int)<2∨50<(L.length:Int) then (-1,30) else match badF L n k 0 with
  |some x=>x
  |none=>if unbal L then (-1,32) else (L.length,0)
theorem drop_at {α:Type} {L:List α} {i:Nat} {x:α} (h:L[i]? =some x):L.drop i=x::L.drop (i+1):=by
 obtain ⟨hi,e⟩:=List.getElem?_eq_some_iff.1 h;rw [List.drop_eq_getElem_cons hi,e]
theorem badF_step {L:List Ln} {n k i:Int} {x:Ln} (h0:0<=i) (h:L[i.toNat]? =some x):badF (L.drop i.toNat) n k i=if lineF x n k≠0 then some (i,lineF x n k) else badF (L.drop (i+1).toNat) n k (i+1):=by
 rw [drop_at h,toNat_next h0];rfl
theorem badF_end {L:List Ln} {n k i:Int} (h: ¬i<L.length):badF (L.drop i.toNat) n k i=none:=by
 rw [List.drop_of_length_le (by omega)];rfl
theorem unbal_false {L:List Ln} (h: ∀e∈entsF L,wholeF L e=0):unbal L=false:=by
 simp only [unbal,List.any_eq_false,decide_eq_true_eq,Decidable.not_not];exact h
theorem unbal_true {L:List Ln} {e:Int} (h:e∈entsF L) (hz:wholeF L e≠0):unbal L=true:=by
 simp only [unbal,List.any_eq_true,decide_eq_true_eq];exact ⟨e,h,hz⟩
theorem checkF_1 {p n k:Int} {L:List Ln} (h:p<0∨23<p):checkF p L n k=(-1,22):=by unfold checkF;rw [if_pos h]
theorem checkF_2 {p n k:Int} {L:List Ln} (h: ¬(p<0∨23<p)) (g:(L.length:Int)<2∨50<(L.length:Int)):checkF p L n k=(-1,30):=by unfold checkF;rw [if_neg h,if_pos g]
theorem checkF_3 {p n k:Int} {L:List Ln} (h: ¬(p<0∨23<p)) (g: ¬((L.length:Int)<2∨50<(L.length:Int))) {x:Int×Int} (e:badF L n k 0=some x):checkF p L n k=x:=by unfold checkF;rw [if_neg h,if_neg g,e]
theorem checkF_4 {p n k:Int} {L:List Ln} (h: ¬(p<0∨23<p)) (g: ¬((L.length:Int)<2∨50<(L.length:Int))) (e:badF L n k 0=none) (u:unbal L=true):checkF p L n k=(-1,32):=by unfold checkF;rw [if_neg h,if_neg g,e];simp only [u,if_true]
theorem checkF_5 {p n k:Int} {L:List Ln} (h: ¬(p<0∨23<p)) (g: ¬((L.length:Int)<2∨50<(L.length:Int))) (e:badF L n k 0=none) (u:unbal L=false):checkF p L n k=((L.length:Int),0):=by unfold checkF;rw [if_neg h,if_neg g,e];simp [u]
theorem mem_take_snoc {α:Type} {l:List α} {i:Int} {x e:α} (h0:0<=i) (h:l[i.toNat]? =some x) (he:e∈l.take (i+1).toNat):e∈l.take i.toNat∨e=x:=by
 rw [toNat_next h0,List.take_add_one,h] at he;simpa using he
set_option maxRecDepth 20000
end Go.Proofs.YtabicbgeoiilmaaGreatDoor.Ent
end
section
namespace Go.Proofs.YtabicbgeoiilmaaGreatDoor.Ent
open Go.Vm
def brk (x:Ln) (n k:Int):Int->Bool
 |0=>decide (x.1<1∨n<x.1)
 |1=>decide (x.2.1<1∨k<x.2.1)
 |2=>decide (x.2.2.1<0∨n<x.2.2.1∨x.2.2.1=x.1)
 |3=>decide (x.2.2.2=0)
 |_=>false
noncomputable def env_check (p r:Int) (L:List Ln) (n k:Int):Env where
 P:=Tryz.prog
 ty:=tys
 specs:=specsOf [sp_r1,sp_r2,sp_r3,sp_r4,sp_ents,sp_total]
 zspecs:=zsOf [sp_rules]
 frz:=fun|39=>true|64=>true|_=>false
 heads:=fun
  |7=>some {slots:=[(43, .int .i64),(9, .any),(10, .any),(12, .any)],boxes:=[],keep:=[3],inv:=fun _ (x:Int×Unit×Unit×Unit×Unit)=>0<=x.1/\x.1<=L.length/\badF L n k 0=badF (L.drop x.1.toNat) n k x.1,measure:=fun _ (x:Int×Unit×Unit×Unit×Unit)=>(L.length-x.1).toNat}
  |10=>some {slots:=[(50, .int .i64),(12, .any)],boxes:=[(10,[.int .i64, .int .i64, .int .i64, .int .i64])],keep:=[3],inv:=fun st (x:Int×Unit×Int×Int×Int×Int×Unit)=>0<=x.1/\x.1<=4/\L[(st.int 9).toNat]? =some (x.2.2.1,x.2.2.2.1,x.2.2.2.2.1,x.2.2.2.2.2.1)/\∀j:Int,0<=j->j<x.1->brk (x.2.2.1,x.2.2.2.1,x.2.2.2.2.1,x.2.2.2.2.2.1) n k j=false,measure:=fun _ (x:Int×Unit×Int×Int×Int×Int×Unit)=>(4-x.1).toNat}
  |17=>some {slots:=[(66, .int .i64),(14, .any),(15, .any),(16, .any)],boxes:=[],keep:=[3],inv:=fun _ (x:Int×Unit×Unit×Unit×Unit)=>0<=x.1/\x.1<=(entsF L).length/\badF L n k 0=none/\∀e∈(entsF L).take x.1.toNat,wholeF L e=0,measure:=fun _ (x:Int×Unit×Unit×Unit×Unit)=>((entsF L).length-x.1).toNat}
  |_=>none
abbrev bx_check_1 (p:Int) (r:Int) (L:List Ln):_root_.Go.Vm.Obj:=Obj.box [V.int IntKind.i64 p,V.int IntKind.i64 r,V.list LK.tmp LTy L]
def g_check_vc (p:Int) (r:Int) (L:List Ln) (n:Int) (k:Int):Prop:=
 (decide (p<(0:Int))=false->(decide ((24:Int)<=p)=true->((-1:Int),(22:Int),())=((checkF p L n k).1,(checkF p L n k).2,()))/\(decide ((24:Int)<=p)=false->(decide ((↑L.length:Int)<(2:Int))=false->(decide ((50:Int)<(↑L.length:Int))=true->((-1:Int),(30:Int),())=((checkF p L n k).1,(checkF p L n k).2,()))/\(decide ((50:Int)<(↑L.length:Int))=false->True/\((some (bx_check_1 p r L)=some (bx_check_1 p r L)/\True)/\0<=(0:Int)/\0<=(↑L.length:Int)/\badF L n k (0:Int)=badF (List.drop (Int.toNat (0:Int)) L) n k (0:Int))/\∀(x:Int×Unit×Unit×Unit×Unit),0<=x.1/\x.1<=(↑L.length:Int)/\badF L n k (0:Int)=badF (List.drop x.1.toNat L) n k x.1->(decide (x.1<(↑L.length:Int))=true->(0<=x.1/\x.1<(↑L.length:Int))/\∀(x_1:Int×Int×Int×Int),L[x.1.toNat]? =some x_1->((some (bx_check_1 p r L)=some (bx_check_1 p r L)/\True)/\0<=(0:Int)/\0<=(4:Int)/\L[x.1.toNat]? =some (x_1.1,x_1.2.1,x_1.2.2.1,x_1.2.2.2)/\∀(j:Int),0<=j->j<(0:Int)->brk (x_1.1,x_1.2.1,x_1.2.2.1,x_1.2.2.2) n k j=false)/\∀(x_2:Int×Unit×Int×Int×Int×Int×Unit),(0<=x_2.1/\x_2.1<=(4:Int)/\L[x.1.toNat]? =some (x_2.2.2.1,x_2.2.2.2.1,x_2.2.2.2.2.1,x_2.2.2.2.2.2.1)/\∀(j:Int),0<=j->j<x_2.1->brk (x_2.2.2.1,x_2.2.2.2.1,x_2.2.2.2.2.1,x_2.2.2.2.2.2.1) n k j=false)->(decide (x_2.1<(↑(8/2:Nat):Int))=true->(0<=x_2.1/\x_2.1<(↑(8/2:Nat):Int))/\(x_2.1=(↑(0:Nat):Int)->True/\(decide (x_2.2.2.1<(1:Int)∨n<x_2.2.2.1)=true->(x.1,(20:Int),())=((checkF p L n k).1,(checkF p L n k).2,()))/\(decide (x_2.2.2.1<(1:Int)∨n<x_2.2.2.1)=false->(-9223372036854775808<=x_2.1+1/\x_2.1+1<=9223372036854775807)/\(some (bx_check_1 p r L)=some (bx_check_1 p r L)/\True)/\(0<=x_2.1+1/\x_2.1+1<=(4:Int)/\L[x.1.toNat]? =some (x_2.2.2.1,x_2.2.2.2.1,x_2.2.2.2.2.1,x_2.2.2.2.2.2.1)/\∀(j:Int),0<=j->j<x_2.1+1->brk (x_2.2.2.1,x_2.2.2.2.1,x_2.2.2.2.2.1,x_2.2.2.2.2.2.1) n k j=false)/\((4:Int)-(x_2.1+1)).toNat<((4:Int)-x_2.1).toNat))/\(x_2.1=(↑(1:Nat):Int)->True/\(decide (x_2.2.2.2.1<(1:Int)∨k<x_2.2.2.2.1)=true->(x.1,(21:Int),())=((checkF p L n k).1,(checkF p L n k).2,()))/\(decide (x_2.2.2.2.1<(1:Int)∨k<x_2.2.2.2.1)=false->(-9223372036854775808<=x_2.1+1/\x_2.1+1<=9223372036854775807)/\(some (bx_check_1 p r L)=some (bx_check_1 p r L)/\True)/\(0<=x_2.1+1/\x_2.1+1<=(4:Int)/\L[x.1.toNat]? =some (x_2.2.2.1,x_2.2.2.2.1,x_2.2.2.2.2.1,x_2.2.2.2.2.2.1)/\∀(j:Int),0<=j->j<x_2.1+1->brk (x_2.2.2.1,x_2.2.2.2.1,x_2.2.2.2.2.1,x_2.2.2.2.2.2.1) n k j=false)/\((4:Int)-(x_2.1+1)).toNat<((4:Int)-x_2.1).toNat))/\(x_2.1=(↑(2:Nat):Int)->True/\(decide (x_2.2.2.2.2.1<(0:Int)∨n<x_2.2.2.2.2.1∨x_2.2.2.2.2.1=x_2.2.2.1)=true->(x.1,(24:Int),())=((checkF p L n k).1,(checkF p L n k).2,()))/\(decide (x_2.2.2.2.2.1<(0:Int)∨n<x_2.2.2.2.2.1∨x_2.2.2.2.2.1=x_2.2.2.1)=false->(-9223372036854775808<=x_2.1+1/\x_2.1+1<=9223372036854775807)/\(some (bx_check_1 p r L)=some (bx_check_1 p r L)/\True)/\(0<=x_2.1+1/\x_2.1+1<=(4:Int)/\L[x.1.toNat]? =some (x_2.2.2.1,x_2.2.2.2.1,x_2.2.2.2.2.1,x_2.2.2.2.2.2.1)/\∀(j:Int),0<=j->j<x_2.1+1->brk (x_2.2.2.1,x_2.2.2.2.1,x_2.2.2.2.2.1,x_2.2.2.2.2.2.1) n k j=false)/\((4:Int)-(x_2.1+1)).toNat<((4:Int)-x_2.1).toNat))/\(x_2.1=(↑(3:Nat):Int)->True/\(decide (x_2.2.2.2.2.2.1=(0:Int))=true->(x.1,(31:Int),())=((checkF p L n k).1,(checkF p L n k).2,()))/\(decide (x_2.2.2.2.2.2.1=(0:Int))=false->(-9223372036854775808<=x_2.1+1/\x_2.1+1<=9223372036854775807)/\(some (bx_check_1 p r L)=some (bx_check_1 p r L)/\True)/\(0<=x_2.1+1/\x_2.1+1<=(4:Int)/\L[x.1.toNat]? =some (x_2.2.2.1,x_2.2.2.2.1,x_2.2.2.2.2.1,x_2.2.2.2.2.2.1)/\∀(j:Int),0<=j->j<x_2.1+1->brk (x_2.2.2.1,x_2.2.2.2.1,x_2.2.2.2.2.1,x_2.2.2.2.2.2.1) n k j=false)/\((4:Int)-(x_2.1+1)).toNat<((4:Int)-x_2.1).toNat))/\True)/\(decide (x_2.1<(↑(8/2:Nat):Int))=false->(-9223372036854775808<=x.1+1/\x.1+1<=9223372036854775807)/\(some (bx_check_1 p r L)=some (bx_check_1 p r L)/\True)/\(0<=x.1+1/\x.1+1<=(↑L.length:Int)/\badF L n k (0:Int)=badF (List.drop (x.1+1).toNat L) n k (x.1+1))/\((↑L.length:Int)-(x.1+1)).toNat<((↑L.length:Int)-x.1).toNat))/\(decide (x.1<(↑L.length:Int))=false->L.length<=(1000000000:Nat)/\((some (bx_check_1 p r L)=some (bx_check_1 p r L)/\True)/\0<=(0:Int)/\0<=(↑(entsF L).length:Int)/\badF L n k (0:Int)=none/\∀(e:Int),e∈List.take (Int.toNat (0:Int)) (entsF L)->wholeF L e=(0:Int))/\∀(x:Int×Unit×Unit×Unit×Unit),(0<=x.1/\x.1<=(↑(entsF L).length:Int)/\badF L n k (0:Int)=none/\∀(e:Int),e∈List.take x.1.toNat (entsF L)->wholeF L e=(0:Int))->(decide (x.1<(↑(entsF L).length:Int))=true->(0<=x.1/\x.1<(↑(entsF L).length:Int))/\∀(x_1:Int),(entsF L)[x.1.toNat]? =some x_1->L.length<=(1000000000:Nat)/\((!decide ((netF (amtsL L x_1) []).1=(0:Int)))=false->((!decide ((netF (amtsL L x_1) []).2=(0:Int)))=true->((-1:Int),(32:Int),())=((checkF p L n k).1,(checkF p L n k).2,()))/\((!decide ((netF (amtsL L x_1) []).2=(0:Int)))=false->(-9223372036854775808<=x.1+1/\x.1+1<=9223372036854775807)/\(some (bx_check_1 p r L)=some (bx_check_1 p r L)/\True)/\(0<=x.1+1/\x.1+1<=(↑(entsF L).length:Int)/\badF L n k (0:Int)=none/\∀(e:Int),e∈List.take (x.1+1).toNat (entsF L)->wholeF L e=(0:Int))/\((↑(entsF L).length:Int)-(x.1+1)).toNat<((↑(entsF L).length:Int)-x.1).toNat))/\((!decide ((netF (amtsL L x_1) []).1=(0:Int)))= !false->((-1:Int),(32:Int),())=((checkF p L n k).1,(checkF p L n k).2,())))/\(decide (x.1<(↑(entsF L).length:Int))=false->((↑L.length:Int),(0:Int),())=((checkF p L n k).1,(checkF p L n k).2,())))))/\(decide ((↑L.length:Int)<(2:Int))= !false->((-1:Int),(30:Int),())=((checkF p L n k).1,(checkF p L n k).2,()))))/\(decide (p<(0:Int))= !false->((-1:Int),(22:Int),())=((checkF p L n k).1,(checkF p L n k).2,()))
theorem lineF_brk {x:Ln} {n k:Int} (h: ∀j:Int,0<=j->j<4->brk x n k j=false):lineF x n k=0:=by
 have h0:=h 0 (by omega) (by omega);have h1:=h 1 (by omega) (by omega);have h2:=h 2 (by omega) (by omega);have h3:=h 3 (by omega) (by omega);simp only [brk,decide_eq_false_iff_not] at h0 h1 h2 h3;unfold lineF;rw [if_neg h0,if_neg h1,if_neg h2,if_neg h3]
theorem lineF_0 {x:Ln} {n k:Int} (c:x.1<1∨n<x.1):lineF x n k=20:=by unfold lineF;rw [if_pos c]
theorem lineF_1 {x:Ln} {n k:Int} (h: ∀j:Int,0<=j->j<1->brk x n k j=false) (c:x.2.1<1∨k<x.2.1):lineF x n k=21:=by
 have h0:=h 0 (by omega) (by omega);simp only [brk,decide_eq_false_iff_not] at h0;unfold lineF;rw [if_neg h0,if_pos c]
theorem lineF_2 {x:Ln} {n k:Int} (h: ∀j:Int,0<=j->j<2->brk x n k j=false) (c:x.2.2.1<0∨n<x.2.2.1∨x.2.2.1=x.1):lineF x n k=24:=by
 have h0:=h 0 (by omega) (by omega);have h1:=h 1 (by omega) (by omega);simp only [brk,decide_eq_false_iff_not] at h0 h1;unfold lineF;rw [if_neg h0,if_neg h1,if_pos c]
theorem lineF_3 {x:Ln} {n k:Int} (h: ∀j:Int,0<=j->j<3->brk x n k j=false) (c:x.2.2.2=0):lineF x n k=31:=by
 have h0:=h 0 (by omega) (by omega);have h1:=h 1 (by omega) (by omega);have h2:=h 2 (by omega) (by omega);simp only [brk,decide_eq_false_iff_not] at h0 h1 h2;unfold lineF;rw [if_neg h0,if_neg h1,if_neg h2,if_pos c]
theorem badF_hit {L:List Ln} {n k i:Int} {x:Ln} {f:Int} (h0:0<=i) (h:L[i.toNat]? =some x) (e:lineF x n k=f) (hf:f≠0):badF (L.drop i.toNat) n k i=some (i,f):=by
 rw [badF_step h0 h,e,if_pos hf]
theorem brk_step {x:Ln} {n k i:Int} (h: ∀j:Int,0<=j->j<i->brk x n k j=false) (c:brk x n k i=false): ∀j:Int,0<=j->j<i+1->brk x n k j=false:=by
 intro j h1 h2;by_cases e:j=i
 ·rw [e];exact c
 ·exact h j h1 (by omega)
theorem netF_zero {L:List Ln} (hI:InL L) (hl:L.length<=1000) (e:Int):((netF (amtsL L e) []).1=0/\(netF (amtsL L e) []).2=0)↔wholeF L e=0:=by
 rw [total_law hI hl];simp only [intB,faultB];by_cases c: -9223372036854775808<=wholeF L e/\wholeF L e<=9223372036854775807
 ·have h:okB (wholeF L e)=true:=by unfold okB;rw [decide_eq_true c.1,decide_eq_true c.2];rfl
  rw [if_pos c,if_pos h];omega
 ·have h:okB (wholeF L e)=false:=by
   unfold okB;rw [Bool.and_eq_false_iff,decide_eq_false_iff_not,decide_eq_false_iff_not];omega
  rw [if_neg c,if_neg (by rw [h];decide)];omega
theorem g_check_ok (p r:Int) (L:List Ln) (n k:Int) (h:InL L/\L.length<=1000):g_check_vc p r L n k:=by
 unfold g_check_vc;have hel:=entsF_len L;obtain ⟨hI,hl⟩:=h;simp only [decide_eq_true_eq,decide_eq_false_iff_not,Bool.not_false,Bool.not_eq_true',Bool.not_eq_false'];refine ⟨fun c1=>⟨fun c2=> ?_,fun c2=>⟨fun c3=>⟨fun c4=> ?_,fun c4=>⟨trivial,⟨⟨trivial,trivial⟩,by omega,by omega,by simp⟩,fun x hx=>⟨fun c5=>⟨⟨hx.1,c5⟩,fun y hy=>⟨⟨⟨trivial,trivial⟩,by omega,by omega,hy,fun j j1 j2=>absurd j2 (by omega)⟩,fun z hz=>⟨fun c6=>⟨⟨hz.1,c6⟩,fun cr=>⟨trivial,fun c7=> ?_,fun c7=>⟨by omega,⟨trivial,trivial⟩,⟨by omega,by omega,hz.2.2.1, ?_⟩,by omega⟩⟩,fun cr=>⟨trivial,fun c7=> ?_,fun c7=>⟨by omega,⟨trivial,trivial⟩,⟨by omega,by omega,hz.2.2.1, ?_⟩,by omega⟩⟩,fun cr=>⟨trivial,fun c7=> ?_,fun c7=>⟨by omega,⟨trivial,trivial⟩,⟨by omega,by omega,hz.2.2.1, ?_⟩,by omega⟩⟩,fun cr=>⟨trivial,fun c7=> ?_,fun c7=>⟨by omega,⟨trivial,trivial⟩,⟨by omega,by omega,hz.2.2.1, ?_⟩,by omega⟩⟩,trivial⟩,fun c6=>⟨by omega,⟨trivial,trivial⟩,⟨by omega,by omega, ?_⟩,by omega⟩⟩⟩⟩,fun c5=>⟨by omega,⟨⟨trivial,trivial⟩,by omega,by omega, ?_,by simp⟩,fun z hz=>⟨fun c6=>⟨⟨hz.1,c6⟩,fun e he=>⟨by omega,fun c7=>⟨fun c8=> ?_,fun c8=>⟨by omega,⟨trivial,trivial⟩,⟨by omega,by omega,hz.2.2.1, ?_⟩,by omega⟩⟩,fun c7=> ?_⟩⟩,fun c6=> ?_⟩⟩⟩⟩⟩,fun c3=> ?_⟩⟩,fun c1=> ?_⟩
 ·rw [checkF_1 (by omega)]
 ·rw [checkF_2 (by omega) (by omega)]
 ·rw [checkF_3 (by omega) (by omega) (hx.2.2.trans (badF_hit hx.1 hz.2.2.1 (lineF_0 c7) (by decide)))]
 ·exact brk_step hz.2.2.2 (by rw [cr];exact decide_eq_false c7)
 ·rw [checkF_3 (by omega) (by omega) (hx.2.2.trans (badF_hit hx.1 hz.2.2.1 (lineF_1 (fun j j1 j2=>hz.2.2.2 j j1 (by omega)) c7) (by decide)))]
 ·exact brk_step hz.2.2.2 (by rw [cr];exact decide_eq_false c7)
 ·rw [checkF_3 (by omega) (by omega) (hx.2.2.trans (badF_hit hx.1 hz.2.2.1 (lineF_2 (fun j j1 j2=>hz.2.2.2 j j1 (by omega)) c7) (by decide)))]
 ·exact brk_step hz.2.2.2 (by rw [cr];exact decide_eq_false c7)
 ·rw [checkF_3 (by omega) (by omega) (hx.2.2.trans (badF_hit hx.1 hz.2.2.1 (lineF_3 (fun j j1 j2=>hz.2.2.2 j j1 (by omega)) c7) (by decide)))]
 ·exact brk_step hz.2.2.2 (by rw [cr];exact decide_eq_false c7)
 ·exact hx.2.2.trans ((badF_step hx.1 hz.2.2.1).trans (if_neg (fun c=>c (lineF_brk (fun j j1 j2=>hz.2.2.2 j j1 (by omega))))))
 ·exact hx.2.2.trans (badF_end c5)
 ·rw [checkF_4 (by omega) (by omega) hz.2.2.1 (unbal_true (List.mem_of_getElem? he) (fun c=>c8 ((netF_zero hI hl e).2 c).2))]
 ·intro e' he';rcases mem_take_snoc hz.1 he he' with g|g
  ·exact hz.2.2.2 _ g
  ·subst g;exact (netF_zero hI hl _).1 ⟨c7,c8⟩
 ·rw [checkF_4 (by omega) (by omega) hz.2.2.1 (unbal_true (List.mem_of_getElem? he) (fun c=>c7 ((netF_zero hI hl e).2 c).1))]
 ·rw [checkF_5 (by omega) (by omega) hz.2.2.1 (unbal_false (fun e he=>hz.2.2.2 e (by rw [List.take_of_length_le (by omega)];exact he)))]
 ·rw [checkF_2 (by omega) (by omega)]
 ·rw [checkF_1 (by omega)]
set_option maxRecDepth 20000
noncomputable def sp_check:FSpec Tryz.prog:=mkF 139 (.c (.g (.c .j (.c .j (.c (.l LTy) .z)))) (.c .j (.c .j .z))) [.int .i64, .int .i64] (fun x=>(fun (p r:Int) (L:List Ln) (n k:Int)=>(InL L/\L.length<=1000,(checkF p L n k).1,(checkF p L n k).2,())) x.1.1 x.1.2.1 x.1.2.2.1 x.2.1 x.2.2.1) fun ⟨⟨p,r,L,_⟩,n,k,_⟩ h=>Pure.of_cond (E:=env_check p r L n k) (by kernel_rfl) (g_check_ok p r L n k h) (specs_okz rfl _ [] [] _ rfl rfl rfl rfl) mixed Tryz.func139
end Go.Proofs.YtabicbgeoiilmaaGreatDoor.Ent
end
section
namespace Go.Proofs.YtabicbgeoiilmaaGreatDoor.Ent
open Go.Vm
def negLn (x:Ln):Ln:=(x.1,x.2.1,x.2.2.1, -x.2.2.2)
def hasLeast (L:List Ln):Bool:=L.any fun x=>decide (x.2.2.2= -9223372036854775808)
def oppF (p r:Int) (L:List Ln):(Int×Int×List Ln)×Int:=if hasLeast L then ((0,0,[]),10) else ((p,r,L.map negLn),0)
theorem take_snoc' {α:Type} {l:List α} {i:Nat} {d:α} (hd:l[i]? =some d):l.take (i+1)=l.take i++[d]:=by
 rw [List.take_add_one,hd];rfl
theorem least_take {L:List Ln} {i:Nat} {x:Ln} (h:L[i]? =some x):hasLeast (L.take (i+1))=(hasLeast (L.take i)||decide (x.2.2.2= -9223372036854775808)):=by
 unfold hasLeast;rw [take_snoc' h,List.any_append];simp
theorem least_hit {L:List Ln} {i:Nat} {x:Ln} (h:L[i]? =some x) (e:x.2.2.2= -9223372036854775808):hasLeast L=true:=by
 simp only [hasLeast,List.any_eq_true,decide_eq_true_eq];exact ⟨x,List.mem_of_getElem? h,e⟩
theorem neg_take {L:List Ln} {i:Nat} {x:Ln} (h:L[i]? =some x):(L.take (i+1)).map negLn=(L.take i).map negLn++[negLn x]:=by
 rw [take_snoc' h,List.map_append];rfl
theorem mid_len {L:List Ln} (i:Nat):((L.take i).map negLn++L.drop i).length=L.length:=by
 simp;omega
theorem mid_get {L:List Ln} {i:Nat} {x:Ln} (h:L[i]? =some x):((L.take i).map negLn++L.drop i)[i]? =some x:=by
 have hi:=(List.getElem?_eq_some_iff.1 h).1;rw [List.getElem?_append_right (by simp;omega)];simp only [List.length_map,List.length_take,Nat.min_eq_left (Nat.le_of_lt hi),Nat.sub_self,List.getElem?_drop];exact h
theorem mid_set {L:List Ln} {i:Nat} {x:Ln} (h:L[i]? =some x):((L.take i).map negLn++L.drop i).set i (negLn x)=(L.take (i+1)).map negLn++L.drop (i+1):=by
 have hi:=(List.getElem?_eq_some_iff.1 h).1;rw [neg_take h,drop_at h,List.set_append_right _ _ (by simp;omega)];simp only [List.length_map,List.length_take,Nat.min_eq_left (Nat.le_of_lt hi),Nat.sub_self,List.set_cons_zero,List.append_assoc];rfl
theorem sub0 {a:Int} (h:InI a):(a= -9223372036854775808/\subF 0 a=(0,10))∨(a≠ -9223372036854775808/\subF 0 a=(-a,0)):=by
 obtain ⟨h1,h2⟩:=h;unfold subF;by_cases c:a= -9223372036854775808
 ·exact .inl ⟨c,if_neg (by omega)⟩
 ·exact .inr ⟨c,by rw [if_pos (by omega),Int.zero_sub]⟩
theorem oppF_bad {p r:Int} {L:List Ln} (h:hasLeast L=true):oppF p r L=((0,0,[]),10):=by unfold oppF;rw [if_pos h]
theorem oppF_good {p r:Int} {L:List Ln} (h:hasLeast L=false):oppF p r L=((p,r,L.map negLn),0):=by unfold oppF;rw [if_neg (by rw [h];decide)]
noncomputable def env_opp (p r:Int) (L:List Ln):Env where
 P:=Tryz.prog
 ty:=tys
 specs:=specsOf [sp_clone,sp_neg]
 heads:=fun
  |4=>some {slots:=[(17, .int .i64),(12, .any),(5, .any),(6, .any),(7, .any),(8, .any)],boxes:=[(4,[.int .i64, .int .i64, .slc 5000 LTy])],keep:=[1,2],inv:=fun _ (x:Int×Unit×Unit×Unit×Unit×Unit×Int×Int×List Ln×Unit)=>0<=x.1/\x.1<=L.length/\x.2.2.2.2.2.2.1=p/\x.2.2.2.2.2.2.2.1=r/\x.2.2.2.2.2.2.2.2.1=(L.take x.1.toNat).map negLn++L.drop x.1.toNat/\hasLeast (L.take x.1.toNat)=false,measure:=fun _ (x:Int×Unit×Unit×Unit×Unit×Unit×Int×Int×List Ln×Unit)=>(L.length-x.1).toNat}
  |_=>none
abbrev ann_opp:Ann:={slots:=numP 0 [.int .i64, .int .i64, .list .part LTy, .int .i64],boxes:=[],inv:=fun _ _=>True}
abbrev bx_opp_1:_root_.Go.Vm.Obj:=Obj.box [V.int IntKind.i64 (0:Int),V.int IntKind.i64 (0:Int),V.nils]
abbrev bx_opp_2 (p:Int) (r:Int) (L:List Ln):_root_.Go.Vm.Obj:=Obj.box [V.int IntKind.i64 p,V.int IntKind.i64 r,V.list LK.tmp LTy L]
def g_opp_vc (p:Int) (r:Int) (L:List Ln):Prop:=
 L.length<=(1000000000:Nat)/\((some (bx_opp_2 p r L)=some (bx_opp_2 p r L)/\some bx_opp_1=some bx_opp_1/\True)/\0<=(0:Int)/\0<=(↑L.length:Int)/\p=p/\r=r/\L=List.map negLn (List.take (Int.toNat (0:Int)) L)++List.drop (Int.toNat (0:Int)) L/\hasLeast (List.take (Int.toNat (0:Int)) L)=false)/\∀(x:Int×Unit×Unit×Unit×Unit×Unit×Int×Int×List (Int×Int×Int×Int)×Unit),0<=x.1/\x.1<=(↑L.length:Int)/\x.2.2.2.2.2.2.1=p/\x.2.2.2.2.2.2.2.1=r/\x.2.2.2.2.2.2.2.2.1=List.map negLn (List.take x.1.toNat L)++List.drop x.1.toNat L/\hasLeast (List.take x.1.toNat L)=false->(decide (x.1<(↑L.length:Int))=true->(0<=x.1/\x.1<(↑L.length:Int))/\∀(x_1:Int×Int×Int×Int),L[x.1.toNat]? =some x_1->InI x_1.2.2.2/\((!decide ((subF (0:Int) x_1.2.2.2).2=(0:Int)))=true->True/\((0:Int),(0:Int),[],(subF (0:Int) x_1.2.2.2).2,())=((oppF p r L).1.1,(oppF p r L).1.2.1,(oppF p r L).1.2.2,(oppF p r L).2,()))/\((!decide ((subF (0:Int) x_1.2.2.2).2=(0:Int)))=false->(0<=x.1/\x.1<(↑x.2.2.2.2.2.2.2.2.1.length:Int))/\x.1.toNat<x.2.2.2.2.2.2.2.2.1.length/\∀(y:Int×Int×Int×Int),x.2.2.2.2.2.2.2.2.1[x.1.toNat]? =some y->(-9223372036854775808<=x.1+1/\x.1+1<=9223372036854775807)/\(some (bx_opp_2 p r L)=some (bx_opp_2 p r L)/\some bx_opp_1=some bx_opp_1/\True)/\(0<=x.1+1/\x.1+1<=(↑L.length:Int)/\x.2.2.2.2.2.2.1=p/\x.2.2.2.2.2.2.2.1=r/\x.2.2.2.2.2.2.2.2.1.set x.1.toNat (y.1,y.2.1,y.2.2.1,(subF (0:Int) x_1.2.2.2).1)=List.map negLn (List.take (x.1+1).toNat L)++List.drop (x.1+1).toNat L/\hasLeast (List.take (x.1+1).toNat L)=false)/\((↑L.length:Int)-(x.1+1)).toNat<((↑L.length:Int)-x.1).toNat))/\(decide (x.1<(↑L.length:Int))=false->True/\(x.2.2.2.2.2.2.1,x.2.2.2.2.2.2.2.1,x.2.2.2.2.2.2.2.2.1,(0:Int),())=((oppF p r L).1.1,(oppF p r L).1.2.1,(oppF p r L).1.2.2,(oppF p r L).2,()))
theorem g_opp_ok (p r:Int) (L:List Ln) (h:InL L/\L.length<=1000):g_opp_vc p r L:=by
 obtain ⟨hI,hl⟩:=h;unfold g_opp_vc;refine ⟨by omega,⟨⟨rfl,rfl,trivial⟩,by omega,by omega,rfl,rfl,by simp,by simp [hasLeast]⟩, ?_⟩;rintro ⟨i,_,_,_,_,_,q,s,M,⟨⟩⟩ ⟨h1,h2,h3,h4,h5,h6⟩;dsimp only at h1 h2 h3 h4 h5 h6⊢;subst h3 h4 h5;simp only [decide_eq_true_eq,decide_eq_false_iff_not,Bool.not_eq_true',Bool.not_eq_false'];refine ⟨fun hi=>⟨⟨h1,hi⟩,fun x hx=>⟨hI.get hx,fun c=>⟨trivial, ?_⟩,fun c=>⟨⟨h1,by rw [mid_len];exact hi⟩,by rw [mid_len];omega,fun y hy=>⟨by omega,⟨trivial,trivial,trivial⟩,⟨by omega,by omega,trivial,trivial, ?_, ?_⟩,by omega⟩⟩⟩⟩,fun hi=>⟨trivial, ?_⟩⟩
 ·rcases sub0 (hI.get hx) with ⟨e1,e2⟩|⟨e1,e2⟩
  ·rw [e2,oppF_bad (least_hit hx e1)]
  ·rw [e2] at c;exact absurd rfl c
 ·rw [mid_get hx] at hy;cases hy;rcases sub0 (hI.get hx) with ⟨e1,e2⟩|⟨e1,e2⟩
  ·rw [e2] at c;exact absurd c (by decide)
  ·rw [e2,toNat_next h1];exact mid_set hx
 ·rcases sub0 (hI.get hx) with ⟨e1,e2⟩|⟨e1,e2⟩
  ·rw [e2] at c;exact absurd c (by decide)
  ·rw [toNat_next h1,least_take hx,h6,decide_eq_false e1];rfl
 ·have e1:L.take i.toNat=L:=List.take_of_length_le (by omega);have e2:L.drop i.toNat=[]:=List.drop_of_length_le (by omega);rw [e1] at h6⊢;rw [e2,oppF_good h6,List.append_nil]
set_option maxRecDepth 20000
noncomputable def sp_opp:FSpec Tryz.prog:=mkG 146 (.c (.g (.c .j (.c .j (.c (.l LTy) .z)))) .z) (fun x=>(fun (p r:Int) (L:List Ln)=>(InL L/\L.length<=1000,(.tuple [.agg [.int .i64 (oppF p r L).1.1, .int .i64 (oppF p r L).1.2.1, .list .part LTy (oppF p r L).1.2.2], .int .i64 (oppF p r L).2]))) x.1.1 x.1.2.1 x.1.2.2.1) fun ⟨⟨p,r,L,_⟩,_⟩ h=>Pure.of_condG (E:=env_opp p r L) (sh:=[some 3,none]) (ann:=ann_opp) (x:=(fun (p r:Int) (L:List Ln)=>((oppF p r L).1.1,(oppF p r L).1.2.1,(oppF p r L).1.2.2,(oppF p r L).2,())) p r L) (by kernel_rfl) (g_opp_ok p r L h) rfl (specs_ok rfl _ [] rfl rfl) mixed Tryz.func146
end Go.Proofs.YtabicbgeoiilmaaGreatDoor.Ent
end
