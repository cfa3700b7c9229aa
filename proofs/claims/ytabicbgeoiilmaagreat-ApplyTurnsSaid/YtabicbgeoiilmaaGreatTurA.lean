/-
  ApplyTurns.
-/
import Derived.Test.YtabicbgeoiilmaaGreatNum2
import Derived.Test.YtabicbgeoiilmaaGreatBks8
import Derived.Test.YtabicbgeoiilmaaGreatEnt10
import Derived.Test.YtabicbgeoiilmaaGreatStyC
set_option linter.unusedVariables false
section
namespace Go.Proofs.YtabicbgeoiilmaaGreat
open Go.Vm
abbrev M128:Int:=340282366920938463463374607431768211456
def prW (s:Int×Int):Int:=s.1*M64+s.2
theorem addW_pr {s:Int×Int} {n:Int} (hn:InI n): ∃k,prW (addW s n)=prW s+n+k*M128:=by
 obtain ⟨h1,h2⟩:=hn;obtain ⟨a,b⟩:=s;simp only [prW,addW,hiW,M64,M128];split
 ·exact ⟨1-(a+18446744073709551615+(b+n%18446744073709551616)/18446744073709551616)/18446744073709551616,by omega⟩
 ·exact ⟨0-(a+0+(b+n%18446744073709551616)/18446744073709551616)/18446744073709551616,by omega⟩
theorem fold_pr: ∀{l:List Int} {s:Int×Int},(∀n∈l,InI n)->∃k,prW (l.foldl addW s)=prW s+l.foldl (· + ·) 0+k*M128
 |[],s,_=>⟨0,by simp⟩
 |n::r,s,h=>by
  obtain ⟨k1,e1⟩:=addW_pr (s:=s) (h n (by simp));obtain ⟨k2,e2⟩:=fold_pr (l:=r) (s:=addW s n) (fun x hx=>h x (by simp [hx]));have e3: ∀(l:List Int) (a:Int),l.foldl (· + ·) a=a+l.foldl (· + ·) 0:=by
   intro l;induction l with
   |nil=>intro a;simp
   |cons x r ih=>intro a;simp only [List.foldl_cons];rw [ih (a+x),ih (0+x)];omega
  refine ⟨k1+k2, ?_⟩;simp only [List.foldl_cons,Int.zero_add];rw [e2,e1,e3 r n,Int.add_mul];omega
theorem subW_pr {s:Int×Int} {n:Int} (hs:InW s.2) (hn:InI n): ∃k,prW (subW s n)=prW s-n+k*M128:=by
 obtain ⟨h1,h2⟩:=hn;obtain ⟨a,b⟩:=s;obtain ⟨h3,h4⟩:=hs;simp only [prW,subW,hiW,lessB,M64,M128] at*;split<;>split
 ·exact ⟨0-(a-18446744073709551615-1)/18446744073709551616-1,by omega⟩
 ·exact ⟨0-(a-18446744073709551615-0)/18446744073709551616-1,by omega⟩
 ·exact ⟨0-(a-0-1)/18446744073709551616,by omega⟩
 ·exact ⟨0-(a-0-0)/18446744073709551616,by omega⟩
theorem fold_sum (l:List Int): ∀a:Int,l.foldl (· + ·) a=a+l.foldl (· + ·) 0:=by
 induction l with
 |nil=>intro a;simp
 |cons x r ih=>intro a;simp only [List.foldl_cons];rw [ih (a+x),ih (0+x)];omega
theorem fold_prM: ∀{l:List Int} {s:Int×Int},InW s.2->(∀n∈l,InI n)->∃k,prW (l.foldl subW s)=prW s-l.foldl (· + ·) 0+k*M128
 |[],s,_,_=>⟨0,by simp⟩
 |n::r,s,hs,h=>by
  obtain ⟨k1,e1⟩:=subW_pr (s:=s) hs (h n (by simp));obtain ⟨k2,e2⟩:=fold_prM (l:=r) (s:=subW s n) (mod_w _) (fun x hx=>h x (by simp [hx]));refine ⟨k1+k2, ?_⟩;simp only [List.foldl_cons,Int.zero_add];rw [e2,e1,fold_sum r n,Int.add_mul];omega
theorem subW_w {l:List Int}: ∀{s:Int×Int},InW s.1/\InW s.2->InW (l.foldl subW s).1/\InW (l.foldl subW s).2:=by
 induction l with
 |nil=>exact fun h=>h
 |cons a r ih=>exact fun _=>ih ⟨mod_w _,mod_w _⟩
theorem netF_law {l m:List Int} (h: ∀n∈l,InI n) (hm: ∀n∈m,InI n) (z:Int) (hz:z=l.foldl (· + ·) 0-m.foldl (· + ·) 0) (hb: -1267650600228229401496703205376<=z/\z<=1267650600228229401496703205376):netF l m=(intB z,faultB z):=by
 obtain ⟨k,hk⟩:=fold_pr (s:=(0,0)) h;have h0:InW 0:=⟨by decide,by decide⟩
 obtain ⟨⟨w1,w2⟩,w3,w4⟩:=addW_w (l:=l) (s:=(0,0)) ⟨h0,h0⟩;obtain ⟨k',hk'⟩:=fold_prM (s:=l.foldl addW (0,0)) ⟨w3,w4⟩ hm;obtain ⟨⟨w5,w6⟩,w7,w8⟩:=subW_w (l:=m) (s:=l.foldl addW (0,0)) ⟨⟨w1,w2⟩,w3,w4⟩;have hk:prW (m.foldl subW (l.foldl addW (0,0)))=z+(k+k')*M128:=by
  rw [hk',hk,hz,Int.add_mul];simp only [prW];omega
 clear hk' w1 w2 w3 w4;generalize k+k'=k at hk;unfold netF sumW;generalize m.foldl subW (l.foldl addW (0,0))=s at*;obtain ⟨a,b⟩:=s;simp only [prW,M64,M128,Int.zero_mul,Int.zero_add] at*;have hw:=IntKind.wrap_i64 b;unfold intF intB faultB okB;generalize IntKind.i64.wrap b=n at hw;simp only [M64];by_cases hin: -9223372036854775808<=z/\z<=9223372036854775807
 ·have hc:hiW n=a/\n%18446744073709551616=b:=by
   unfold hiW;split<;>omega
  have en:n=z:=by
   obtain ⟨c1,c2⟩:=hc;unfold hiW at c1;split at c1<;>omega
  rw [if_pos hc,if_pos hin,decide_eq_true hin.1,decide_eq_true hin.2,en];rfl
 ·have hc: ¬(hiW n=a/\n%18446744073709551616=b):=by
   rintro ⟨c1,c2⟩;unfold hiW at c1;split at c1<;>omega
  have hd:(decide (-9223372036854775808<=z)&&decide (z<=9223372036854775807))=false:=by
   rw [Bool.and_eq_false_iff,decide_eq_false_iff_not,decide_eq_false_iff_not];omega
  rw [if_neg hc,if_neg hin,hd];rfl
end Go.Proofs.YtabicbgeoiilmaaGreat
end
section
namespace Go.Proofs.YtabicbgeoiilmaaGreat.Tot
open Go.Vm
open Bks (En InE Ln Po linesF poGo lnGo)
theorem take_next {α:Type} {l:List α} {i:Int} {x:α} (h0:0<=i) (hx:l[i.toNat]? =some x):l.take (i+1).toNat=l.take i.toNat++[x]:=by
 rw [show (i+1).toNat=i.toNat+1 by omega,List.take_add_one,hx];rfl
theorem take_all {α:Type} {l:List α} {i:Int} (h: ¬i<(l.length:Int)):l.take i.toNat=l:=List.take_of_length_le (by omega)
theorem toNat_next {i:Int} (h:0<=i):(i+1).toNat=i.toNat+1:=by omega
def FwT (N:List En):Prop:=N.length<=100/\∀x∈N,x.2.2.length<=100/\Ent.InL x.2.2
theorem FwT.ine {N:List En} (h:FwT N):N.length<=1000000/\InE N:=⟨Nat.le_trans h.1 (by decide),fun x hx=>⟨(h.2 x hx).2,Nat.le_trans (h.2 x hx).1 (by decide)⟩⟩
theorem ln_len (p i:Int): ∀(L:List Ln) (k:Nat),(lnGo p i L k).length=L.length
 |[],_=>rfl
 |x::r,k=>by rw [lnGo,List.length_cons,ln_len p i r,List.length_cons]
theorem po_len: ∀(N:List En) (i:Int) (k:Nat),(∀x∈N,x.2.2.length<=100)->(poGo N i k).length<=100*N.length
 |[],_,_,_=>Nat.zero_le _
 |x::r,i,k,h=>by
  have a:=po_len r (i+1) (k+x.2.2.length) fun y hy=>h y (List.mem_cons_of_mem _ hy);have b:=h x (List.mem_cons_self ..);rw [poGo,List.length_append,ln_len,List.length_cons];omega
theorem FwT.lines {N:List En} (h:FwT N):(linesF N).length<=10000:=by
 have a:=po_len N 0 0 fun x hx=>(h.2 x hx).1;have b:=h.1;have:(linesF N).length<=100*N.length:=a;omega
theorem ln_mem {p i:Int} {x:Po}: ∀(L:List Ln) (k:Nat),x∈lnGo p i L k->x.2.2.2∈L
 |[],_,h=>by cases h
 |y::r,k,h=>by
  rw [lnGo] at h;rcases List.mem_cons.1 h with h|h
  ·rw [h];exact List.mem_cons_self ..
  ·exact List.mem_cons_of_mem _ (ln_mem r _ h)
theorem po_mem {x:Po}: ∀(N:List En) (i:Int) (k:Nat),x∈poGo N i k->∃y∈N,x.2.2.2∈y.2.2
 |[],_,_,h=>by cases h
 |y::r,i,k,h=>by
  rw [poGo] at h;rcases List.mem_append.1 h with h|h
  ·exact ⟨y,List.mem_cons_self ..,ln_mem _ _ h⟩
  ·obtain ⟨z,hz,h⟩:=po_mem r _ _ h;exact ⟨z,List.mem_cons_of_mem _ hz,h⟩
abbrev sumI (l:List Int):Int:=l.foldl (· + ·) 0
theorem sum_bound: ∀(l:List Int),(∀n∈l,InI n)-> -((l.length:Int)*9223372036854775808)<=sumI l/\sumI l<=(l.length:Int)*9223372036854775808
 |[],_=>⟨by simp,by simp⟩
 |a::r,h=>by
  obtain ⟨h1,h2⟩:=h a (by simp);obtain ⟨k1,k2⟩:=sum_bound r (fun n hn=>h n (by simp [hn]));have e:sumI (a::r)=a+sumI r:=by
   unfold sumI;rw [List.foldl_cons,fold_sum r (0+a),Int.zero_add]
  rw [e,List.length_cons];refine ⟨by omega,by omega⟩
theorem sum_snoc (l:List Int) (a:Int):sumI (l++[a])=sumI l+a:=by
 unfold sumI;rw [List.foldl_append];rfl
noncomputable def env_rtotal (l:List Int):Env where
 P:=Tryz.prog
 ty:=tys0
 specs:=specsOf [sp_of,sp_bplus]
 frz:=fun|16=>true|17=>true|_=>false
 heads:=fun
  |3=>some {slots:=[(4, .int .i64)],boxes:=[(3,[.bool, .list .part I])],keep:=[2],inv:=fun _ (x:Int×Bool×List Int×Unit)=>0<=x.1/\x.1<=l.length/\x.2.1=decide (sumI (l.take x.1.toNat)<0)/\x.2.2.1=digs (sumI (l.take x.1.toNat)).natAbs,measure:=fun _ (x:Int×Bool×List Int×Unit)=>(l.length-x.1).toNat}
  |_=>none
abbrev ann_rtotal:Ann:={slots:=numP 0 [.bool, .list .part I],boxes:=[],inv:=fun _ _=>True}
def g_rtotal_vc (l:List Int):Prop:=
 ((some (Obj.box [V.kb false,V.nils])=some (Obj.box [V.kb false,V.nils])/\True)/\0<=(0:Int)/\0<=(↑l.length:Int)/\false=decide (sumI (List.take (Int.toNat (0:Int)) l)<(0:Int))/\[]=digs (sumI (List.take (Int.toNat (0:Int)) l)).natAbs)/\∀(x:Int×Bool×List Int×Unit),0<=x.1/\x.1<=(↑l.length:Int)/\x.2.1=decide (sumI (List.take x.1.toNat l)<(0:Int))/\x.2.2.1=digs (sumI (List.take x.1.toNat l)).natAbs->(decide (x.1<(↑l.length:Int))=true->(0<=x.1/\x.1<(↑l.length:Int))/\∀(x_1:Int),l[x.1.toNat]? =some x_1->InI x_1/\(Big x.2.1 x.2.2.1/\Big (decide (x_1<(0:Int))) (digs x_1.natAbs)/\x.2.2.1.length<=(1000000:Nat)/\(digs x_1.natAbs).length<=(1000000:Nat))/\(-9223372036854775808<=x.1+1/\x.1+1<=9223372036854775807)/\(some (Obj.box [V.kb false,V.nils])=some (Obj.box [V.kb false,V.nils])/\True)/\(0<=x.1+1/\x.1+1<=(↑l.length:Int)/\decide (big x.2.1 x.2.2.1+big (decide (x_1<(0:Int))) (digs x_1.natAbs)<(0:Int))=decide (sumI (List.take (x.1+1).toNat l)<(0:Int))/\digs (big x.2.1 x.2.2.1+big (decide (x_1<(0:Int))) (digs x_1.natAbs)).natAbs=digs (sumI (List.take (x.1+1).toNat l)).natAbs)/\((↑l.length:Int)-(x.1+1)).toNat<((↑l.length:Int)-x.1).toNat)/\(decide (x.1<(↑l.length:Int))=false->True/\(x.2.1,x.2.2.1,())=(decide (sumI l<(0:Int)),digs (sumI l).natAbs,()))
theorem g_rtotal_eq (l:List Int):CondG (env_rtotal l) Tryz.f128 [.list .tmp I l] [some 2] ann_rtotal (decide (sumI l<0),digs (sumI l).natAbs,())=g_rtotal_vc l:=by kernel_rfl
theorem digI_len {n:Int} (h:InI n):(digs n.natAbs).length<=30:=by
 obtain ⟨h1,h2⟩:=h;exact digs_len (k:=30) (by omega)
theorem sum_len {l:List Int} (h: ∀n∈l,InI n) (hl:l.length<=100000) (i:Nat):(digs (sumI (l.take i)).natAbs).length<=30:=by
 obtain ⟨a1,a2⟩:=sum_bound (l.take i) (fun n hn=>h n (List.mem_of_mem_take hn));have:(l.take i).length<=100000:=by rw [List.length_take];omega
 exact digs_len (by omega)
theorem sum_next {l:List Int} {i:Nat} {y:Int} (hy:l[i]? =some y):sumI (l.take (i+1))=sumI (l.take i)+y:=by
 rw [List.take_add_one,hy];exact sum_snoc _ _
theorem g_rtotal_ok (l:List Int) (h:l.length<=100000/\∀n∈l,InI n):g_rtotal_vc l:=by
 obtain ⟨hl,hi⟩:=h;unfold g_rtotal_vc;simp only [decide_eq_true_eq,decide_eq_false_iff_not];refine ⟨⟨⟨trivial,trivial⟩,by omega,by omega,by simp [sumI],by simp [sumI,digs_zero]⟩, ?_⟩;rintro ⟨i,b,d,⟨⟩⟩ ⟨h0,h1,hb,hd⟩;dsimp only at h0 h1 hb hd⊢;have hB:Big b d:=by rw [hb,hd];exact Big_digs _
 have hv:Go.Proofs.YtabicbgeoiilmaaGreat.big b d=sumI (l.take i.toNat):=by rw [hb,hd];exact big_digs _
 have dl:d.length<=30:=by rw [hd];exact sum_len hi hl _
 rw [hv];refine ⟨fun c=>⟨⟨h0,c⟩,fun y hy=> ?_⟩,fun c=>⟨trivial, ?_⟩⟩
 ·have hy':=hi y (List.mem_of_getElem? hy);rw [big_digs,toNat_next h0,sum_next hy];exact ⟨hy',⟨hB,Big_digs _,by omega,Nat.le_trans (digI_len hy') (by decide)⟩,by omega,⟨trivial,trivial⟩,⟨by omega,by omega,rfl,rfl⟩,by omega⟩
 ·rw [hb,hd,List.take_of_length_le (by omega)]
set_option maxRecDepth 20000
theorem rtotal_pure (l:List Int) (h:l.length<=100000/\∀n∈l,InI n):Pure Tryz.prog 128 [.list .tmp I l] (.agg [.bool (decide (sumI l<0)), .list .part I (digs (sumI l).natAbs)]):=
 by have k:=Pure.of_condG (r:=(.agg [.bool (decide (sumI l<0)), .list .part I (digs (sumI l).natAbs)])) (g_rtotal_eq l) (g_rtotal_ok l h) rfl (specs_ok rfl [sp_of,sp_bplus] [] rfl rfl) mixed Tryz.func128;exact k
noncomputable def q_rtotal (l:List Int):Prop×V:=(l.length<=100000/\∀n∈l,InI n,(.agg [.bool (decide (sumI l<0)), .list .part I (digs (sumI l).natAbs)]))
noncomputable def sp_rtotal:FSpec Tryz.prog where
 f:=128
 run:=fun
  |[v0]=>(asL I v0:Option (List Int)).bind fun l=>some (q_rtotal l)
  |_=>none
 ok:=fun args pre r h hp=>by
  split at h
  ·rename_i v0;obtain ⟨l,h0,h⟩:=Option.bind_eq_some_iff.1 h;exact of_q h hp fun h=>(rtotal_pure l h).weak (.cons (asL_weak h0) .nil)
  ·cases h
noncomputable def env_rnet (l m:List Int):Env where
 P:=Tryz.prog
 ty:=tys0
 specs:=specsOf [sp_rtotal,sp_bminus,sp_told]
 frz:=fun|7=>true|9=>true|10=>true|11=>true|_=>false
def g_rnet_vc (l:List Int) (m:List Int):Prop:=
 (l.length<=(100000:Nat)/\∀(n:Int),n∈l->InI n)/\(m.length<=(100000:Nat)/\∀(n:Int),n∈m->InI n)/\(Big (decide (sumI l<(0:Int))) (digs (sumI l).natAbs)/\Big (decide (sumI m<(0:Int))) (digs (sumI m).natAbs)/\(digs (sumI l).natAbs).length<=(1000000:Nat)/\(digs (sumI m).natAbs).length<=(1000000:Nat))/\(Big (decide (big (decide (sumI l<(0:Int))) (digs (sumI l).natAbs)-big (decide (sumI m<(0:Int))) (digs (sumI m).natAbs)<(0:Int))) (digs (big (decide (sumI l<(0:Int))) (digs (sumI l).natAbs)-big (decide (sumI m<(0:Int))) (digs (sumI m).natAbs)).natAbs)/\(digs (big (decide (sumI l<(0:Int))) (digs (sumI l).natAbs)-big (decide (sumI m<(0:Int))) (digs (sumI m).natAbs)).natAbs).length<=(1000000:Nat))/\(intB (big (decide (big (decide (sumI l<(0:Int))) (digs (sumI l).natAbs)-big (decide (sumI m<(0:Int))) (digs (sumI m).natAbs)<(0:Int))) (digs (big (decide (sumI l<(0:Int))) (digs (sumI l).natAbs)-big (decide (sumI m<(0:Int))) (digs (sumI m).natAbs)).natAbs)),faultB (big (decide (big (decide (sumI l<(0:Int))) (digs (sumI l).natAbs)-big (decide (sumI m<(0:Int))) (digs (sumI m).natAbs)<(0:Int))) (digs (big (decide (sumI l<(0:Int))) (digs (sumI l).natAbs)-big (decide (sumI m<(0:Int))) (digs (sumI m).natAbs)).natAbs)),())=((netF l m).1,(netF l m).2,())
theorem g_rnet_eq (l m:List Int):Cond (env_rnet l m) Tryz.f63 [.list .tmp I l, .list .tmp I m] [.int .i64, .int .i64] ((netF l m).1,(netF l m).2,())=g_rnet_vc l m:=by kernel_rfl
theorem g_rnet_ok (l m:List Int) (h:l.length<=100000/\m.length<=100000/\(∀n∈l,InI n)/\∀n∈m,InI n):g_rnet_vc l m:=by
 obtain ⟨h1,h2,hl,hm⟩:=h;obtain ⟨a1,a2⟩:=sum_bound l hl;obtain ⟨b1,b2⟩:=sum_bound m hm;have s1:=sum_len hl h1 l.length;have s2:=sum_len hm h2 m.length;rw [List.take_length] at s1 s2;unfold g_rnet_vc;rw [netF_law hl hm (sumI l-sumI m) rfl (by omega)];simp only [big_digs];refine ⟨⟨h1,hl⟩,⟨h2,hm⟩,⟨Big_digs _,Big_digs _,by omega,by omega⟩,⟨Big_digs _,Nat.le_trans (digs_len (k:=40) (by omega)) (by decide)⟩, ?_⟩;trivial
theorem rnet_pure (l m:List Int) (h:l.length<=100000/\m.length<=100000/\(∀n∈l,InI n)/\∀n∈m,InI n):Pure Tryz.prog 63 [.list .tmp I l, .list .tmp I m] (.tuple [.int .i64 (netF l m).1, .int .i64 (netF l m).2]):=
 by have k:=Pure.of_cond (g_rnet_eq l m) (g_rnet_ok l m h) (specs_ok rfl [sp_rtotal,sp_bminus,sp_told] [] rfl rfl) mixed Tryz.func63;exact k
noncomputable def q_rnet (l m:List Int):Prop×V:=(l.length<=100000/\m.length<=100000/\(∀n∈l,InI n)/\∀n∈m,InI n,(.tuple [.int .i64 (netF l m).1, .int .i64 (netF l m).2]))
noncomputable def sp_rnet:FSpec Tryz.prog where
 f:=63
 run:=fun
  |[v0,v1]=>(asL I v0:Option (List Int)).bind fun l=>(asL I v1:Option (List Int)).bind fun m=>some (q_rnet l m)
  |_=>none
 ok:=fun args pre r h hp=>by
  split at h
  ·rename_i v0 v1;obtain ⟨l,h0,h⟩:=Option.bind_eq_some_iff.1 h;obtain ⟨m,h1,h⟩:=Option.bind_eq_some_iff.1 h;exact of_q h hp fun h=>(rnet_pure l m h).weak (.cons (asL_weak h0) (.cons (asL_weak h1) .nil))
  ·cases h
def atB (e a p q:Int) (x:Po):Bool:=decide (x.2.2.2.1=e/\x.2.2.2.2.1=a/\x.2.2.1=p/\(q=0∨x.2.2.2.2.2.1=q))
def rthF (N:List En) (e a p q:Int):List Po:=(linesF N).filter (atB e a p q)
noncomputable def env_rthose (N:List En) (e a p q:Int):Env where
 P:=Tryz.prog
 ty:=tys0
 specs:=specsOf [Bks.sp_rlines]
 frz:=fun|16=>true|_=>false
 heads:=fun|4=>some {slots:=[(13, .int .i64),(12, .slc 9000 PoT)],boxes:=[],inv:=fun _ (x:Int×List Po×Unit)=>0<=x.1/\x.1<=(linesF N).length/\x.2.1=((linesF N).take x.1.toNat).filter (atB e a p q),measure:=fun _ (x:Int×List Po×Unit)=>((linesF N).length-x.1).toNat}|_=>none
def g_rthose_vc (N:List En) (e:Int) (a:Int) (p:Int) (q:Int):Prop:=
 (N.length<=(1000000:Nat)/\InE N)/\(True/\0<=(0:Int)/\0<=(↑(linesF N).length:Int)/\[]=List.filter (atB e a p q) (List.take (Int.toNat (0:Int)) (linesF N)))/\∀(x:Int×List (Int×Int×Int×Int×Int×Int×Int)×Unit),0<=x.1/\x.1<=(↑(linesF N).length:Int)/\x.2.1=List.filter (atB e a p q) (List.take x.1.toNat (linesF N))->(decide (x.1<(↑(linesF N).length:Int))=true->(0<=x.1/\x.1<(↑(linesF N).length:Int))/\∀(x_1:Int×Int×Int×Int×Int×Int×Int),(linesF N)[x.1.toNat]? =some x_1->(decide (x_1.2.2.2.1=e)=true->(decide (x_1.2.2.2.2.1=a)=true->(0<=x.1/\x.1<(↑(linesF N).length:Int))/\∀(x_2:Int×Int×Int×Int×Int×Int×Int),(linesF N)[x.1.toNat]? =some x_2->(decide (x_2.2.2.1=p)=true->(decide (q=(0:Int))=false->(decide (x_1.2.2.2.2.2.1=q)=true->(0<=x.1/\x.1<(↑(linesF N).length:Int))/\∀(x_3:Int×Int×Int×Int×Int×Int×Int),(linesF N)[x.1.toNat]? =some x_3->((x.2.1.length+(1:Nat))*(56:Nat)<=(140737488355328:Nat)/\x.2.1.length+(1:Nat)<=(4611686018427387904:Nat))/\(-9223372036854775808<=x.1+1/\x.1+1<=9223372036854775807)/\True/\(0<=x.1+1/\x.1+1<=(↑(linesF N).length:Int)/\x.2.1++[(x_3.1,x_3.2.1,x_3.2.2.1,x_3.2.2.2.1,x_3.2.2.2.2.1,x_3.2.2.2.2.2.1,x_3.2.2.2.2.2.2)]=List.filter (atB e a p q) (List.take (x.1+1).toNat (linesF N)))/\((↑(linesF N).length:Int)-(x.1+1)).toNat<((↑(linesF N).length:Int)-x.1).toNat)/\(decide (x_1.2.2.2.2.2.1=q)=false->(-9223372036854775808<=x.1+1/\x.1+1<=9223372036854775807)/\True/\(0<=x.1+1/\x.1+1<=(↑(linesF N).length:Int)/\x.2.1=List.filter (atB e a p q) (List.take (x.1+1).toNat (linesF N)))/\((↑(linesF N).length:Int)-(x.1+1)).toNat<((↑(linesF N).length:Int)-x.1).toNat))/\(decide (q=(0:Int))= !false->(0<=x.1/\x.1<(↑(linesF N).length:Int))/\∀(x_3:Int×Int×Int×Int×Int×Int×Int),(linesF N)[x.1.toNat]? =some x_3->((x.2.1.length+(1:Nat))*(56:Nat)<=(140737488355328:Nat)/\x.2.1.length+(1:Nat)<=(4611686018427387904:Nat))/\(-9223372036854775808<=x.1+1/\x.1+1<=9223372036854775807)/\True/\(0<=x.1+1/\x.1+1<=(↑(linesF N).length:Int)/\x.2.1++[(x_3.1,x_3.2.1,x_3.2.2.1,x_3.2.2.2.1,x_3.2.2.2.2.1,x_3.2.2.2.2.2.1,x_3.2.2.2.2.2.2)]=List.filter (atB e a p q) (List.take (x.1+1).toNat (linesF N)))/\((↑(linesF N).length:Int)-(x.1+1)).toNat<((↑(linesF N).length:Int)-x.1).toNat))/\(decide (x_2.2.2.1=p)= !true->(-9223372036854775808<=x.1+1/\x.1+1<=9223372036854775807)/\True/\(0<=x.1+1/\x.1+1<=(↑(linesF N).length:Int)/\x.2.1=List.filter (atB e a p q) (List.take (x.1+1).toNat (linesF N)))/\((↑(linesF N).length:Int)-(x.1+1)).toNat<((↑(linesF N).length:Int)-x.1).toNat))/\(decide (x_1.2.2.2.2.1=a)= !true->(-9223372036854775808<=x.1+1/\x.1+1<=9223372036854775807)/\True/\(0<=x.1+1/\x.1+1<=(↑(linesF N).length:Int)/\x.2.1=List.filter (atB e a p q) (List.take (x.1+1).toNat (linesF N)))/\((↑(linesF N).length:Int)-(x.1+1)).toNat<((↑(linesF N).length:Int)-x.1).toNat))/\(decide (x_1.2.2.2.1=e)= !true->(-9223372036854775808<=x.1+1/\x.1+1<=9223372036854775807)/\True/\(0<=x.1+1/\x.1+1<=(↑(linesF N).length:Int)/\x.2.1=List.filter (atB e a p q) (List.take (x.1+1).toNat (linesF N)))/\((↑(linesF N).length:Int)-(x.1+1)).toNat<((↑(linesF N).length:Int)-x.1).toNat))/\(decide (x.1<(↑(linesF N).length:Int))=false->(x.2.1,())=(rthF N e a p q,()))
theorem g_rthose_eq (N:List En) (e a p q:Int):Cond (env_rthose N e a p q) Tryz.f62 [.list .tmp EnT N, .int .i64 e, .int .i64 a, .int .i64 p, .int .i64 q] [.slc 0 PoT] (rthF N e a p q,())=g_rthose_vc N e a p q:=by kernel_rfl
theorem g_rthose_ok (N:List En) (e a p q:Int) (h:FwT N):g_rthose_vc N e a p q:=by
 have hl:=h.lines;unfold g_rthose_vc rthF;simp only [decide_eq_true_eq,decide_eq_false_iff_not,Bool.not_eq_true',Bool.not_eq_false',Bool.not_true,Bool.not_false];refine ⟨h.ine, ?_⟩;generalize linesF N=R at hl⊢;refine ⟨⟨trivial,by omega,by omega,rfl⟩, ?_⟩;rintro ⟨i,out,⟨⟩⟩ ⟨h0,h1,h2⟩;dsimp only at h0 h1 h2⊢;have hol:out.length<=10000:=by
  rw [h2];exact Nat.le_trans (List.length_filter_le _ _) (Nat.le_trans (List.length_take_le _ _) (by omega))
 refine ⟨fun c=>⟨⟨h0,c⟩,fun y hy=> ?_⟩,fun c=>by rw [h2,take_all c]⟩;have hno: ¬(y.2.2.2.1=e/\y.2.2.2.2.1=a/\y.2.2.1=p/\(q=0∨y.2.2.2.2.2.1=q))->out=List.filter (atB e a p q) (List.take (i+1).toNat R):=fun hn=>by
  rw [take_next h0 hy,List.filter_append,<-h2,List.filter_cons_of_neg (by unfold atB;simp only [decide_eq_true_eq];exact hn)];simp
 have hyes:y.2.2.2.1=e/\y.2.2.2.2.1=a/\y.2.2.1=p/\(q=0∨y.2.2.2.2.2.1=q)->out++[y]=List.filter (atB e a p q) (List.take (i+1).toNat R):=fun hn=>by
  rw [take_next h0 hy,List.filter_append,<-h2,List.filter_cons_of_pos (by unfold atB;simp only [decide_eq_true_eq];exact hn)];rfl
 refine ⟨fun c1=>⟨fun c2=>⟨⟨h0,c⟩,fun z hz=> ?_⟩,fun c2=>⟨by omega,trivial,⟨by omega,by omega,hno fun k=>c2 k.2.1⟩,by omega⟩⟩,fun c1=>⟨by omega,trivial,⟨by omega,by omega,hno fun k=>c1 k.1⟩,by omega⟩⟩;rw [hy] at hz;cases hz;refine ⟨fun c3=>⟨fun c4=>⟨fun c5=>⟨⟨h0,c⟩,fun z hz=> ?_⟩,fun c5=>⟨by omega,trivial,⟨by omega,by omega,hno fun k=>k.2.2.2.elim c4 c5⟩,by omega⟩⟩,fun c4=>⟨⟨h0,c⟩,fun z hz=> ?_⟩⟩,fun c3=>⟨by omega,trivial,⟨by omega,by omega,hno fun k=>c3 k.2.2.1⟩,by omega⟩⟩
 ·rw [hy] at hz;cases hz;exact ⟨by omega,by omega,trivial,⟨by omega,by omega,hyes ⟨c1,c2,c3, .inr c5⟩⟩,by omega⟩
 ·rw [hy] at hz;cases hz;exact ⟨by omega,by omega,trivial,⟨by omega,by omega,hyes ⟨c1,c2,c3, .inl c4⟩⟩,by omega⟩
theorem rthose_pure (N:List En) (e a p q:Int) (h:FwT N):Pure Tryz.prog 62 [.list .tmp EnT N, .int .i64 e, .int .i64 a, .int .i64 p, .int .i64 q] (.olist PoT (rthF N e a p q)):=
 by have k:=Pure.of_cond (g_rthose_eq N e a p q) (g_rthose_ok N e a p q h) (specs_ok rfl [Bks.sp_rlines] [] rfl rfl) mixed Tryz.func62;exact k
noncomputable def q_rthose (N:List En) (e a p q:Int):Prop×V:=(FwT N,(.olist PoT (rthF N e a p q)))
noncomputable def sp_rthose:FSpec Tryz.prog where
 f:=62
 run:=fun
  |[v0, .int .i64 e, .int .i64 a, .int .i64 p, .int .i64 q]=>(asL EnT v0:Option (List En)).bind fun N=>some (q_rthose N e a p q)
  |_=>none
 ok:=fun args pre r h hp=>by
  split at h
  ·rename_i v0 e a p q;obtain ⟨N,h0,h⟩:=Option.bind_eq_some_iff.1 h;exact of_q h hp fun h=>(rthose_pure N e a p q h).weak (.cons (asL_weak h0) (.cons (.refl _) (.cons (.refl _) (.cons (.refl _) (.cons (.refl _) .nil)))))
  ·cases h
theorem FwT.those {N:List En} (h:FwT N) (e a p q:Int):(rthF N e a p q).length<=10000:=Nat.le_trans (List.length_filter_le ..) h.lines
theorem FwT.ams {N:List En} (h:FwT N) (e a p q:Int): ∀x∈rthF N e a p q,InI x.2.2.2.2.2.2:=fun x hx=>by
 obtain ⟨y,hy,k⟩:=po_mem N 0 0 (List.mem_filter.1 hx).1;exact (h.2 y hy).2 _ k
def ramF (N:List En) (e a p q:Int):List Int:=(rthF N e a p q).map (·.2.2.2.2.2.2)
noncomputable def env_rtot (N:List En) (e a p q:Int):Env where
 P:=Tryz.prog
 ty:=tys0
 specs:=specsOf [sp_rthose,sp_rnet]
 frz:=fun|20=>true|_=>false
 heads:=fun|4=>some {slots:=[(14, .int .i64),(13, .slc 9000 I)],boxes:=[],inv:=fun _ (x:Int×List Int×Unit)=>0<=x.1/\x.1<=(rthF N e a p q).length/\x.2.1=((rthF N e a p q).take x.1.toNat).map (·.2.2.2.2.2.2),measure:=fun _ (x:Int×List Int×Unit)=>((rthF N e a p q).length-x.1).toNat}|_=>none
def g_rtot_vc (N:List En) (e:Int) (a:Int) (p:Int) (q:Int):Prop:=
 FwT N/\(True/\0<=(0:Int)/\0<=(↑(rthF N e a p q).length:Int)/\[]=List.map (fun x=>x.2.2.2.2.2.2) (List.take (Int.toNat (0:Int)) (rthF N e a p q)))/\∀(x:Int×List Int×Unit),0<=x.1/\x.1<=(↑(rthF N e a p q).length:Int)/\x.2.1=List.map (fun x=>x.2.2.2.2.2.2) (List.take x.1.toNat (rthF N e a p q))->(decide (x.1<(↑(rthF N e a p q).length:Int))=true->(0<=x.1/\x.1<(↑(rthF N e a p q).length:Int))/\∀(x_1:Int×Int×Int×Int×Int×Int×Int),(rthF N e a p q)[x.1.toNat]? =some x_1->((x.2.1.length+(1:Nat))*(8:Nat)<=(140737488355328:Nat)/\x.2.1.length+(1:Nat)<=(4611686018427387904:Nat))/\(-9223372036854775808<=x.1+1/\x.1+1<=9223372036854775807)/\True/\(0<=x.1+1/\x.1+1<=(↑(rthF N e a p q).length:Int)/\x.2.1++[x_1.2.2.2.2.2.2]=List.map (fun x=>x.2.2.2.2.2.2) (List.take (x.1+1).toNat (rthF N e a p q)))/\((↑(rthF N e a p q).length:Int)-(x.1+1)).toNat<((↑(rthF N e a p q).length:Int)-x.1).toNat)/\(decide (x.1<(↑(rthF N e a p q).length:Int))=false->(x.2.1.length<=(100000:Nat)/\(0:Nat)<=(100000:Nat)/\(∀(n:Int),n∈x.2.1->InI n)/\∀(n:Int),n∈[]->InI n)/\((netF x.2.1 []).1,(netF x.2.1 []).2,())=((netF (ramF N e a p q) []).1,(netF (ramF N e a p q) []).2,()))
theorem g_rtot_eq (N:List En) (e a p q:Int):Cond (env_rtot N e a p q) Tryz.f20 [.list .tmp EnT N, .int .i64 e, .int .i64 a, .int .i64 p, .int .i64 q] [.int .i64, .int .i64] ((netF (ramF N e a p q) []).1,(netF (ramF N e a p q) []).2,())=g_rtot_vc N e a p q:=by kernel_rfl
theorem g_rtot_ok (N:List En) (e a p q:Int) (h:FwT N):g_rtot_vc N e a p q:=by
 have hl:=h.those e a p q;unfold g_rtot_vc ramF;simp only [decide_eq_true_eq,decide_eq_false_iff_not];refine ⟨h, ?_⟩;have ham:=h.ams e a p q;generalize rthF N e a p q=R at hl ham⊢;refine ⟨⟨trivial,by omega,by omega,rfl⟩, ?_⟩;rintro ⟨i,out,⟨⟩⟩ ⟨h0,h1,h2⟩;dsimp only at h0 h1 h2⊢;have hol:out.length<=10000:=by
  rw [h2,List.length_map];exact Nat.le_trans (List.length_take_le _ _) (by omega)
 refine ⟨fun c=>⟨⟨h0,c⟩,fun y hy=>⟨by omega,by omega,trivial,⟨by omega,by omega, ?_⟩,by omega⟩⟩,fun c=> ?_⟩
 ·rw [take_next h0 hy,List.map_append,h2];rfl
 ·rw [take_all c] at h2;rw [h2];refine ⟨⟨by rw [List.length_map];omega,by simp,fun n hn=> ?_,by simp⟩,rfl⟩;obtain ⟨x,hx,rfl⟩:=List.mem_map.1 hn;exact ham x hx
theorem rtot_pure (N:List En) (e a p q:Int) (h:FwT N):Pure Tryz.prog 20 [.list .tmp EnT N, .int .i64 e, .int .i64 a, .int .i64 p, .int .i64 q] (.tuple [.int .i64 (netF (ramF N e a p q) []).1, .int .i64 (netF (ramF N e a p q) []).2]):=
 by have k:=Pure.of_cond (g_rtot_eq N e a p q) (g_rtot_ok N e a p q h) (specs_ok rfl [sp_rthose,sp_rnet] [] rfl rfl) mixed Tryz.func20;exact k
noncomputable def q_rtot (N:List En) (e a p q:Int):Prop×V:=(FwT N,(.tuple [.int .i64 (netF (ramF N e a p q) []).1, .int .i64 (netF (ramF N e a p q) []).2]))
noncomputable def sp_rtot:FSpec Tryz.prog where
 f:=20
 run:=fun
  |[v0, .int .i64 e, .int .i64 a, .int .i64 p, .int .i64 q]=>(asL EnT v0:Option (List En)).bind fun N=>some (q_rtot N e a p q)
  |_=>none
 ok:=fun args pre r h hp=>by
  split at h
  ·rename_i v0 e a p q;obtain ⟨N,h0,h⟩:=Option.bind_eq_some_iff.1 h;exact of_q h hp fun h=>(rtot_pure N e a p q h).weak (.cons (asL_weak h0) (.cons (.refl _) (.cons (.refl _) (.cons (.refl _) (.cons (.refl _) .nil)))))
  ·cases h
end Go.Proofs.YtabicbgeoiilmaaGreat.Tot
end
section
namespace Go.Proofs.YtabicbgeoiilmaaGreat.Tot
open Go.Vm
open Bks (En Ln Po linesF poGo lnGo)
open Ent (negLn)
theorem sum_cons (a:Int) (l:List Int):sumI (a::l)=a+sumI l:=by
 unfold sumI;rw [List.foldl_cons,fold_sum l (0+a),Int.zero_add]
theorem sum_app: ∀(l m:List Int),sumI (l++m)=sumI l+sumI m
 |[],m=>by simp [sumI]
 |a::r,m=>by rw [List.cons_append,sum_cons,sum_app r m,sum_cons];omega
def onB (e a:Int) (z:Ln):Bool:=decide (z.1=e/\z.2.1=a)
def amE (L:List Ln) (e a:Int):Int:=sumI ((L.filter (onB e a)).map (·.2.2.2))
theorem am_nil (e a:Int):amE [] e a=0:=rfl
theorem am_cons (z:Ln) (L:List Ln) (e a:Int):amE (z::L) e a=(if onB e a z=true then z.2.2.2 else 0)+amE L e a:=by
 unfold amE;by_cases c:onB e a z=true
 ·rw [List.filter_cons_of_pos c,List.map_cons,sum_cons,if_pos c]
 ·rw [List.filter_cons_of_neg c,if_neg c,Int.zero_add]
theorem am_neg (e a:Int): ∀L:List Ln,amE (L.map negLn) e a= -amE L e a
 |[]=>rfl
 |z::r=>by
  rw [List.map_cons,am_cons,am_cons,am_neg e a r,show onB e a (negLn z)=onB e a z from rfl];by_cases c:onB e a z=true
  ·rw [if_pos c,if_pos c];show -z.2.2.2+ -amE r e a= -(z.2.2.2+amE r e a);omega
  ·rw [if_neg c,if_neg c];omega
def totF:List En->Int->Int->Int->Int
 |[],_,_,_=>0
 |x::r,e,a,p=>(if x.1=p then amE x.2.2 e a else 0)+totF r e a p
theorem ln_tot (e a p p' i:Int): ∀(L:List Ln) (k:Nat),sumI (((lnGo p' i L k).filter (atB e a p 0)).map (·.2.2.2.2.2.2))=if p'=p then amE L e a else 0
 |[],_=>by
  rw [lnGo,am_nil];split<;>rfl
 |z::r,k=>by
  rw [lnGo];have ih:=ln_tot e a p p' i r (k+1);by_cases c:p'=p
  ·rw [if_pos c] at ih⊢;rw [am_cons];by_cases d:onB e a z=true
   ·have d2:=of_decide_eq_true d;rw [List.filter_cons_of_pos (by unfold atB;exact decide_eq_true ⟨d2.1,d2.2,c, .inl rfl⟩),List.map_cons,sum_cons,ih,if_pos d]
   ·rw [List.filter_cons_of_neg (by unfold atB;intro h;have h:=of_decide_eq_true h;exact d (decide_eq_true ⟨h.1,h.2.1⟩)),ih,if_neg d,Int.zero_add]
  ·rw [if_neg c] at ih⊢;rw [List.filter_cons_of_neg (by unfold atB;intro h;have h:=of_decide_eq_true h;exact c h.2.2.1),ih]
theorem po_tot (e a p:Int): ∀(N:List En) (i:Int) (k:Nat),sumI (((poGo N i k).filter (atB e a p 0)).map (·.2.2.2.2.2.2))=totF N e a p
 |[],_,_=>rfl
 |x::r,i,k=>by rw [poGo,List.filter_append,List.map_append,sum_app,ln_tot,po_tot e a p r,totF]
theorem ram_tot (N:List En) (e a p:Int):sumI (ramF N e a p 0)=totF N e a p:=po_tot e a p N 0 0
theorem tot_app (x:En) (e a p:Int): ∀N:List En,totF (N++[x]) e a p=totF N e a p+(if x.1=p then amE x.2.2 e a else 0)
 |[]=>by
  simp only [List.nil_append,totF];omega
 |y::r=>by rw [List.cons_append,totF,totF,tot_app x e a p r];omega
theorem tot_set (e a p:Int): ∀(N:List En) (j:Nat) (y:En),N[j]? =some y->totF (N.set j (y.1,y.2.1,[])) e a p=totF N e a p-(if y.1=p then amE y.2.2 e a else 0)
 |[],_,_,h=>by cases h
 |x::r,0,y,h=>by
  have e1:x=y:=Option.some.inj h;subst e1;rw [List.set_cons_zero,totF,totF,am_nil];split<;>omega
 |x::r,j+1,y,h=>by
  rw [List.set_cons_succ,totF,totF,tot_set e a p r j y h];omega
def upT (N:List En) (e a:Int):Nat->Int
 |0=>0
 |m+1=>upT N e a m+totF N e a m
theorem up_app (N:List En) (x:En) (e a:Int): ∀m:Nat,upT (N++[x]) e a m=upT N e a m+(if 0<=x.1/\x.1<m then amE x.2.2 e a else 0)
 |0=>by rw [if_neg (by omega)];rfl
 |m+1=>by
  rw [upT,upT,up_app N x e a m,tot_app];by_cases c:x.1=(m:Int)
  ·rw [if_pos c,if_neg (by omega),if_pos (by omega)];omega
  ·rw [if_neg c];by_cases d:0<=x.1/\x.1<(m:Int)
   ·rw [if_pos d,if_pos (by omega)];omega
   ·rw [if_neg d,if_neg (by omega)];omega
theorem up_set (N:List En) (j:Nat) (y:En) (h:N[j]? =some y) (e a:Int): ∀m:Nat,upT (N.set j (y.1,y.2.1,[])) e a m=upT N e a m-(if 0<=y.1/\y.1<m then amE y.2.2 e a else 0)
 |0=>by rw [if_neg (by omega)];rfl
 |m+1=>by
  rw [upT,upT,up_set N j y h e a m,tot_set e a _ N j y h];by_cases c:y.1=(m:Int)
  ·rw [if_pos c,if_neg (by omega),if_pos (by omega)];omega
  ·rw [if_neg c];by_cases d:0<=y.1/\y.1<(m:Int)
   ·rw [if_pos d,if_pos (by omega)];omega
   ·rw [if_neg d,if_neg (by omega)];omega
theorem up_opp {N:List En} {j:Nat} {y:En} {v n:Int} (h:N[j]? =some y) (e a:Int) (m:Nat) (h1:0<=y.1/\y.1<m) (h2:0<=v/\v<m):upT (N++[(v,n,y.2.2.map negLn)]) e a m=upT (N.set j (y.1,y.2.1,[])) e a m:=by
 rw [up_app,up_set N j y h,if_pos h1,if_pos h2,am_neg];omega
end Go.Proofs.YtabicbgeoiilmaaGreat.Tot
end
section
namespace Go.Proofs.YtabicbgeoiilmaaGreat.Dsk
open Go.Vm
open Bks (En InE Sm ine_at ownP Ok fewF sameB)
open Tot (upT totF FwT)
abbrev rvC (n v:Int):Cmd.CmD:=(8,n,v,0,0,false,false,(0,0),[])
theorem rev_ok {K:List Lck.Lk} {N:List En} {n v:Int} (h:(revF K N n v).2=0): ∃y,N[(n-1).toNat]? =some y/\(revF K N n v).1=N++[(v,n,y.2.2.map Ent.negLn)]/\(1<=n/\n<=N.length)/\0<=v/\v<24:=by
 by_cases p:v<0∨24<=v
 ·rw [rv_per p] at h;cases h
 by_cases m:mayF N n=0
 ·have hin:=may_in m;obtain ⟨y,hy⟩: ∃y,N[(n-1).toNat]? =some y:=⟨_,List.getElem?_eq_getElem (by omega)⟩
  have hm:=m;by_cases tw:y.2.1≠0∨Bks.revF N n≠0
  ·rw [may_twice (by omega) hy tw] at hm;cases hm
  rw [may_opp (by omega) hy tw] at hm;rw [rv_ok p m hy hm] at h⊢;have e:(Ent.oppF y.1 y.2.1 y.2.2).1.2.2=y.2.2.map Ent.negLn:=by
   unfold Ent.oppF at hm⊢;split
   ·rename_i k2;rw [if_pos k2] at hm;cases hm
   ·rfl
  rw [e] at h⊢;exact ⟨y,hy,(put_in h).1,hin,by omega,by omega⟩
 ·rw [rv_may p m] at h;exact absurd h m
theorem ap_rev {E:List Int} {A:List Acc.AcD} {S:List Ln} {R:List Rts.Rt} {K:List Lck.Lk} {N:List En} {n v:Int} (h:(apF (E,A,S,R,K,N) (rvC n v)).2=0): ∃y,N[(n-1).toNat]? =some y/\(apF (E,A,S,R,K,N) (rvC n v)).1=(E,A,S,R,K,N++[(v,n,y.2.2.map Ent.negLn)])/\(1<=n/\n<=N.length)/\(0<=v/\v<24)/\(apF (E,A,S,R,K,N++[(v,n,y.2.2.map Ent.negLn)]) (rvC n v)).2=35:=by
 by_cases hc:Cmd.checkF (rvC n v)=0
 ·have hd: ∀M,doF (E,A,S,R,K,M) (rvC n v)=fin (revF K M n v).2 (E,A,S,R,K,(revF K M n v).1):=fun M=>by
   unfold doF;rfl
  rw [ap_eq hc,hd] at h⊢;have h0:=fin_zero h;rw [fin_inv h];obtain ⟨y,hy,e,h1,h2⟩:=rev_ok h0;refine ⟨y,hy,by rw [e],h1,h2, ?_⟩;rw [ap_eq hc,hd];have hm:mayF (N++[(v,n,y.2.2.map Ent.negLn)]) n=35:=by
   refine may_twice (y:=y) (by rw [List.length_append,List.length_singleton];omega) (by rw [List.getElem?_append_left (by omega)];exact hy) (.inr ?_);unfold Bks.revF;rw [if_neg (by rw [List.length_append,List.length_singleton];omega)];have:=(idxGo_any (Bks.revP n) (N++[(v,n,y.2.2.map Ent.negLn)]) 0 (Int.le_refl _)).2 (List.any_eq_true.2 ⟨_,List.mem_append_right _ List.mem_cons_self,by unfold Bks.revP;simp⟩);unfold idxF;omega
  have e2:(revF K (N++[(v,n,y.2.2.map Ent.negLn)]) n v).2=35:=by
   rw [rv_may (by omega) (by rw [hm];decide)];exact hm
  rw [fin_bad (by rw [e2];decide)];exact e2
 ·rw [ap_bad hc] at h;exact absurd h hc
theorem tot_bound {N:List En} (h:FwT N) (e a p:Int): -92233720368547758080000<=totF N e a p/\totF N e a p<=92233720368547758080000:=by
 have hl:=h.those e a p 0;have ha:=h.ams e a p 0;have hb:=Tot.sum_bound (Tot.ramF N e a p 0) (fun n hn=>by
  obtain ⟨x,hx,rfl⟩:=List.mem_map.1 hn;exact ha x hx)
 rw [Tot.ram_tot] at hb;have:(Tot.ramF N e a p 0).length<=10000:=by unfold Tot.ramF;rw [List.length_map];exact hl
 omega
theorem up_bound {N:List En} (h:FwT N) (e a:Int): ∀m:Nat, -((m:Int)*92233720368547758080000)<=upT N e a m/\upT N e a m<=(m:Int)*92233720368547758080000
 |0=>by simp [upT]
 |m+1=>by
  have h1:=up_bound h e a m;have h2:=tot_bound h e a m;rw [upT];omega
theorem up_len {N:List En} (h:FwT N) (e a:Int) {m:Nat} (hm:m<=24):(digs (upT N e a m).natAbs).length<=1000000:=by
 have h1:=up_bound h e a m;exact Nat.le_trans (digs_len (k:=30) (by omega)) (by decide)
theorem tot_told {N:List En} (h:FwT N) (e a p:Int):netF (Tot.ramF N e a p 0) []=(intB (totF N e a p),faultB (totF N e a p)):=by
 have ha:=h.ams e a p 0;have hb:=tot_bound h e a p;refine netF_law (fun n hn=> ?_) (fun n hn=>by cases hn) _ ?_ (by omega)
 ·obtain ⟨x,hx,rfl⟩:=List.mem_map.1 hn;exact ha x hx
 ·have:=Tot.ram_tot N e a p;rw [<-this];simp
theorem told_ok {z:Int} (h:faultB z=0):intB z=z/\InI z:=by
 unfold faultB at h;split at h
 ·rename_i c;unfold okB at c;rw [Bool.and_eq_true,decide_eq_true_eq,decide_eq_true_eq] at c;exact ⟨if_pos c,c⟩
 ·cases h
theorem int_len (z:Int) (h:InI z):(digs z.natAbs).length<=1000000:=by
 obtain ⟨h1,h2⟩:=h;exact Nat.le_trans (digs_len (k:=30) (by omega)) (by decide)
theorem cmpV_self (a:Int):cmpV a a=0:=by
 unfold cmpV;rw [if_neg (by omega),if_neg (by omega)]
def TI (N:List En) (n v:Int) (x:Int×List En×List En×En×En×Ln×(Bool×List Int)×(Bool×List Int)):Prop:=
 match x with
 |(p,W,X,y,w,z,(b1,d1),(b2,d2))=>(0<=p/\p<=24)/\N[(n-1).toNat]? =some y/\X=N++[(v,n,y.2.2.map Ent.negLn)]/\W=N.set (n-1).toNat (y.1,y.2.1,[])/\w.1=v/\(b1=decide (upT X z.1 z.2.1 p.toNat<0)/\d1=digs (upT X z.1 z.2.1 p.toNat).natAbs)/\b2=decide (upT W z.1 z.2.1 p.toNat<0)/\d2=digs (upT W z.1 z.2.1 p.toNat).natAbs
noncomputable def env_turns (E:List Int) (A:List Acc.AcD) (S:List Ln) (R:List Rts.Rt) (K:List Lck.Lk) (N:List En) (n v i:Int):Env where
 P:=Tryz.prog
 ty:=tys1
 specs:=specsOf [Bks.sp_few,sp_awake,Bks.sp_check,sp_apply,Tot.sp_rtot,sp_of,sp_bplus,sp_bcmp]
 asArr:=fun|140=>true|_=>false
 frz:=fun|183=>true|184=>true|187=>true|188=>true|_=>false
 heads:=fun|24=>some {slots:=[(22, .int .i64),(19, .slc 140 EnT)],boxes:=[(12,[.any, .any, .any, .any, .any, .list .part EnT]),(14,[.int .i64, .int .i64, .list .part LnT]),(15,[.int .i64, .int .i64, .list .part LnT]),(18,[.int .i64, .int .i64, .int .i64, .int .i64]),(20,[.bool, .list .part I]),(21,[.bool, .list .part I])],keep:=[],drop:=[2,3,5,6,7,8,9,10,11,13,16,17,23,24,25,26,27,28,29,30,31,32,33,34,35,36,37,38,39,40,41,42,43,44,45,46,47,48,49,50,51,52,53,54,55,56,57,58,59,60,61,62,63,64,65,66,67,68,69,70,71,72,73,74,75,76,77,78,79,80,81,82,83,84,85,86,87,88,89,90,91,92,93,94,95,96,97,98,99,100,101,102,103,104,105,106,107,108,109,110,111,112,113,114,115,116,117,118,119,120,121,122,123,124,125,126,127,128,129,130,131,132,133,134,135,136,137,138,139,140,141,142,143,144,145,146,147,148,149,150,151,152,153,154,155,156,157,158,159,160,161,162,163,164,165,166,167,168,169,170,171,172,173,174,175,176,177,178,179,180,181,182,183,184,185,186,187,188,189,190,191,192,193,194,195,196,197,198,199,200,201,202,203,204,205,206],inv:=fun _ (x:Int×List En×Unit×Unit×Unit×Unit×Unit×List En×Int×Int×List Ln×Int×Int×List Ln×Int×Int×Int×Int×Bool×List Int×Bool×List Int×Unit)=>TI N n v (x.1,x.2.1,x.2.2.2.2.2.2.2.1,(x.2.2.2.2.2.2.2.2.1,x.2.2.2.2.2.2.2.2.2.1,x.2.2.2.2.2.2.2.2.2.2.1),(x.2.2.2.2.2.2.2.2.2.2.2.1,x.2.2.2.2.2.2.2.2.2.2.2.2.1,x.2.2.2.2.2.2.2.2.2.2.2.2.2.1),(x.2.2.2.2.2.2.2.2.2.2.2.2.2.2.1,x.2.2.2.2.2.2.2.2.2.2.2.2.2.2.2.1,x.2.2.2.2.2.2.2.2.2.2.2.2.2.2.2.2.1,x.2.2.2.2.2.2.2.2.2.2.2.2.2.2.2.2.2.1),(x.2.2.2.2.2.2.2.2.2.2.2.2.2.2.2.2.2.2.1,x.2.2.2.2.2.2.2.2.2.2.2.2.2.2.2.2.2.2.2.1),(x.2.2.2.2.2.2.2.2.2.2.2.2.2.2.2.2.2.2.2.2.1,x.2.2.2.2.2.2.2.2.2.2.2.2.2.2.2.2.2.2.2.2.2.1)),measure:=fun _ (x:Int×List En×Unit×Unit×Unit×Unit×Unit×List En×Int×Int×List Ln×Int×Int×List Ln×Int×Int×Int×Int×Bool×List Int×Bool×List Int×Unit)=>(24-x.1).toNat}|_=>none
def g_turns_vc (E:List Int) (A:List Acc.AcD) (S:List Ln) (R:List Rts.Rt) (K:List Lck.Lk) (N:List En) (n:Int) (v:Int) (i:Int):Prop:=
 N.length<=(9223372036854775807:Nat)/\((!fewF E A S R K N)=true->True/\(true,())=(true,()))/\((!fewF E A S R K N)=false->Sm E A S R K N/\((!decide ((Bks.checkF E A S R K N).2.2=(0:Int)))=true->True/\(true,())=(true,()))/\((!decide ((Bks.checkF E A S R K N).2.2=(0:Int)))=false->(Sm E A S R K N/\Ent.InL [])/\((!decide ((apF (E,A,S,R,K,N) ((8:Int),n,v,(0:Int),(0:Int),false,false,((0:Int),(0:Int)),[])).2=(0:Int)))=true->(decide ((↑(apF (E,A,S,R,K,N) ((8:Int),n,v,(0:Int),(0:Int),false,false,((0:Int),(0:Int)),[])).1.2.2.2.2.2.length:Int)=(0:Int))=true->True/\(true,())=(true,()))/\(decide ((↑(apF (E,A,S,R,K,N) ((8:Int),n,v,(0:Int),(0:Int),false,false,((0:Int),(0:Int)),[])).1.2.2.2.2.2.length:Int)=(0:Int))= !true->(false,())=(true,())))/\((!decide ((apF (E,A,S,R,K,N) ((8:Int),n,v,(0:Int),(0:Int),false,false,((0:Int),(0:Int)),[])).2=(0:Int)))=false->(-9223372036854775808<=(↑N.length:Int)+1/\(↑N.length:Int)+1<=9223372036854775807)/\((!decide ((↑(apF (E,A,S,R,K,N) ((8:Int),n,v,(0:Int),(0:Int),false,false,((0:Int),(0:Int)),[])).1.2.2.2.2.2.length:Int)=(↑N.length:Int)+1))=false->(decide (n<(1:Int))=false->(decide ((↑N.length:Int)<n)=true->(false,())=(true,()))/\(decide ((↑N.length:Int)<n)=false->(-9223372036854775808<=n-(1:Int)/\n-(1:Int)<=9223372036854775807)/\(0<=n-(1:Int)/\n-(1:Int)<(↑(apF (E,A,S,R,K,N) ((8:Int),n,v,(0:Int),(0:Int),false,false,((0:Int),(0:Int)),[])).1.2.2.2.2.2.length:Int))/\∀(x:Int×Int×List (Int×Int×Int×Int)),(apF (E,A,S,R,K,N) ((8:Int),n,v,(0:Int),(0:Int),false,false,((0:Int),(0:Int)),[])).1.2.2.2.2.2[(n-(1:Int)).toNat]? =some x->(0<=(↑N.length:Int)/\(↑N.length:Int)<(↑(apF (E,A,S,R,K,N) ((8:Int),n,v,(0:Int),(0:Int),false,false,((0:Int),(0:Int)),[])).1.2.2.2.2.2.length:Int))/\∀(x_1:Int×Int×List (Int×Int×Int×Int)),(apF (E,A,S,R,K,N) ((8:Int),n,v,(0:Int),(0:Int),false,false,((0:Int),(0:Int)),[])).1.2.2.2.2.2[(↑N.length:Int).toNat]? =some x_1->(Sm (apF (E,A,S,R,K,N) ((8:Int),n,v,(0:Int),(0:Int),false,false,((0:Int),(0:Int)),[])).1.1 (apF (E,A,S,R,K,N) ((8:Int),n,v,(0:Int),(0:Int),false,false,((0:Int),(0:Int)),[])).1.2.1 (apF (E,A,S,R,K,N) ((8:Int),n,v,(0:Int),(0:Int),false,false,((0:Int),(0:Int)),[])).1.2.2.1 (apF (E,A,S,R,K,N) ((8:Int),n,v,(0:Int),(0:Int),false,false,((0:Int),(0:Int)),[])).1.2.2.2.1 (apF (E,A,S,R,K,N) ((8:Int),n,v,(0:Int),(0:Int),false,false,((0:Int),(0:Int)),[])).1.2.2.2.2.1 (apF (E,A,S,R,K,N) ((8:Int),n,v,(0:Int),(0:Int),false,false,((0:Int),(0:Int)),[])).1.2.2.2.2.2/\Ent.InL [])/\((!decide ((apF (apF (E,A,S,R,K,N) ((8:Int),n,v,(0:Int),(0:Int),false,false,((0:Int),(0:Int)),[])).1 ((8:Int),n,v,(0:Int),(0:Int),false,false,((0:Int),(0:Int)),[])).2=(35:Int)))=false->((!decide ((↑x.2.2.length:Int)=(↑x_1.2.2.length:Int)))=false->((!decide (x_1.1=v))=false->((!decide (x_1.2.1=n))=true->(false,())=(true,()))/\((!decide (x_1.2.1=n))=false->(decide (i<(0:Int))=false->(decide ((↑x.2.2.length:Int)<=i)=true->True/\(true,())=(true,()))/\(decide ((↑x.2.2.length:Int)<=i)=false->(0<=i/\i<(↑x.2.2.length:Int))/\∀(x_2:Int×Int×Int×Int),x.2.2[i.toNat]? =some x_2->(((0:Nat)+N.length)*(40:Nat)<=(140737488355328:Nat)/\(0:Nat)+N.length<=(4611686018427387904:Nat))/\(-9223372036854775808<=n-(1:Int)/\n-(1:Int)<=9223372036854775807)/\(0<=n-(1:Int)/\n-(1:Int)<(↑N.length:Int))/\(n-(1:Int)).toNat<N.length/\∀(y:Int×Int×List (Int×Int×Int×Int)),N[(n-(1:Int)).toNat]? =some y->(True/\TI N n v ((0:Int),N.set (n-(1:Int)).toNat (y.1,y.2.1,[]),(apF (E,A,S,R,K,N) ((8:Int),n,v,(0:Int),(0:Int),false,false,((0:Int),(0:Int)),[])).1.2.2.2.2.2,(x.1,x.2.1,x.2.2),(x_1.1,x_1.2.1,x_1.2.2),(x_2.1,x_2.2.1,x_2.2.2.1,x_2.2.2.2),(false,[]),false,[]))/\∀(x:Int×List (Int×Int×List (Int×Int×Int×Int))×Unit×Unit×Unit×Unit×Unit×List (Int×Int×List (Int×Int×Int×Int))×Int×Int×List (Int×Int×Int×Int)×Int×Int×List (Int×Int×Int×Int)×Int×Int×Int×Int×Bool×List Int×Bool×List Int×Unit),TI N n v (x.1,x.2.1,x.2.2.2.2.2.2.2.1,(x.2.2.2.2.2.2.2.2.1,x.2.2.2.2.2.2.2.2.2.1,x.2.2.2.2.2.2.2.2.2.2.1),(x.2.2.2.2.2.2.2.2.2.2.2.1,x.2.2.2.2.2.2.2.2.2.2.2.2.1,x.2.2.2.2.2.2.2.2.2.2.2.2.2.1),(x.2.2.2.2.2.2.2.2.2.2.2.2.2.2.1,x.2.2.2.2.2.2.2.2.2.2.2.2.2.2.2.1,x.2.2.2.2.2.2.2.2.2.2.2.2.2.2.2.2.1,x.2.2.2.2.2.2.2.2.2.2.2.2.2.2.2.2.2.1),(x.2.2.2.2.2.2.2.2.2.2.2.2.2.2.2.2.2.2.1,x.2.2.2.2.2.2.2.2.2.2.2.2.2.2.2.2.2.2.2.1),x.2.2.2.2.2.2.2.2.2.2.2.2.2.2.2.2.2.2.2.2.1,x.2.2.2.2.2.2.2.2.2.2.2.2.2.2.2.2.2.2.2.2.2.1)->(decide (x.1<(24:Int))=true->FwT x.2.2.2.2.2.2.2.1/\FwT x.2.1/\((!decide ((netF (Tot.ramF x.2.2.2.2.2.2.2.1 x.2.2.2.2.2.2.2.2.2.2.2.2.2.2.1 x.2.2.2.2.2.2.2.2.2.2.2.2.2.2.2.1 x.1 (0:Int)) []).2=(0:Int)))=false->((!decide ((netF (Tot.ramF x.2.1 x.2.2.2.2.2.2.2.2.2.2.2.2.2.2.1 x.2.2.2.2.2.2.2.2.2.2.2.2.2.2.2.1 x.1 (0:Int)) []).2=(0:Int)))=true->True/\(true,())=(true,()))/\((!decide ((netF (Tot.ramF x.2.1 x.2.2.2.2.2.2.2.2.2.2.2.2.2.2.1 x.2.2.2.2.2.2.2.2.2.2.2.2.2.2.2.1 x.1 (0:Int)) []).2=(0:Int)))=false->InI (netF (Tot.ramF x.2.2.2.2.2.2.2.1 x.2.2.2.2.2.2.2.2.2.2.2.2.2.2.1 x.2.2.2.2.2.2.2.2.2.2.2.2.2.2.2.1 x.1 (0:Int)) []).1/\(Big x.2.2.2.2.2.2.2.2.2.2.2.2.2.2.2.2.2.2.1 x.2.2.2.2.2.2.2.2.2.2.2.2.2.2.2.2.2.2.2.1/\Big (decide ((netF (Tot.ramF x.2.2.2.2.2.2.2.1 x.2.2.2.2.2.2.2.2.2.2.2.2.2.2.1 x.2.2.2.2.2.2.2.2.2.2.2.2.2.2.2.1 x.1 (0:Int)) []).1<(0:Int))) (digs (netF (Tot.ramF x.2.2.2.2.2.2.2.1 x.2.2.2.2.2.2.2.2.2.2.2.2.2.2.1 x.2.2.2.2.2.2.2.2.2.2.2.2.2.2.2.1 x.1 (0:Int)) []).1.natAbs)/\x.2.2.2.2.2.2.2.2.2.2.2.2.2.2.2.2.2.2.2.1.length<=(1000000:Nat)/\(digs (netF (Tot.ramF x.2.2.2.2.2.2.2.1 x.2.2.2.2.2.2.2.2.2.2.2.2.2.2.1 x.2.2.2.2.2.2.2.2.2.2.2.2.2.2.2.1 x.1 (0:Int)) []).1.natAbs).length<=(1000000:Nat))/\InI (netF (Tot.ramF x.2.1 x.2.2.2.2.2.2.2.2.2.2.2.2.2.2.1 x.2.2.2.2.2.2.2.2.2.2.2.2.2.2.2.1 x.1 (0:Int)) []).1/\(Big x.2.2.2.2.2.2.2.2.2.2.2.2.2.2.2.2.2.2.2.2.1 x.2.2.2.2.2.2.2.2.2.2.2.2.2.2.2.2.2.2.2.2.2.1/\Big (decide ((netF (Tot.ramF x.2.1 x.2.2.2.2.2.2.2.2.2.2.2.2.2.2.1 x.2.2.2.2.2.2.2.2.2.2.2.2.2.2.2.1 x.1 (0:Int)) []).1<(0:Int))) (digs (netF (Tot.ramF x.2.1 x.2.2.2.2.2.2.2.2.2.2.2.2.2.2.1 x.2.2.2.2.2.2.2.2.2.2.2.2.2.2.2.1 x.1 (0:Int)) []).1.natAbs)/\x.2.2.2.2.2.2.2.2.2.2.2.2.2.2.2.2.2.2.2.2.2.1.length<=(1000000:Nat)/\(digs (netF (Tot.ramF x.2.1 x.2.2.2.2.2.2.2.2.2.2.2.2.2.2.1 x.2.2.2.2.2.2.2.2.2.2.2.2.2.2.2.1 x.1 (0:Int)) []).1.natAbs).length<=(1000000:Nat))/\(decide (x.2.2.2.2.2.2.2.2.1<=x.1)=true->(decide (x.2.2.2.2.2.2.2.2.2.2.2.1<=x.1)=true->(Big (decide (big x.2.2.2.2.2.2.2.2.2.2.2.2.2.2.2.2.2.2.1 x.2.2.2.2.2.2.2.2.2.2.2.2.2.2.2.2.2.2.2.1+big (decide ((netF (Tot.ramF x.2.2.2.2.2.2.2.1 x.2.2.2.2.2.2.2.2.2.2.2.2.2.2.1 x.2.2.2.2.2.2.2.2.2.2.2.2.2.2.2.1 x.1 (0:Int)) []).1<(0:Int))) (digs (netF (Tot.ramF x.2.2.2.2.2.2.2.1 x.2.2.2.2.2.2.2.2.2.2.2.2.2.2.1 x.2.2.2.2.2.2.2.2.2.2.2.2.2.2.2.1 x.1 (0:Int)) []).1.natAbs)<(0:Int))) (digs (big x.2.2.2.2.2.2.2.2.2.2.2.2.2.2.2.2.2.2.1 x.2.2.2.2.2.2.2.2.2.2.2.2.2.2.2.2.2.2.2.1+big (decide ((netF (Tot.ramF x.2.2.2.2.2.2.2.1 x.2.2.2.2.2.2.2.2.2.2.2.2.2.2.1 x.2.2.2.2.2.2.2.2.2.2.2.2.2.2.2.1 x.1 (0:Int)) []).1<(0:Int))) (digs (netF (Tot.ramF x.2.2.2.2.2.2.2.1 x.2.2.2.2.2.2.2.2.2.2.2.2.2.2.1 x.2.2.2.2.2.2.2.2.2.2.2.2.2.2.2.1 x.1 (0:Int)) []).1.natAbs)).natAbs)/\Big (decide (big x.2.2.2.2.2.2.2.2.2.2.2.2.2.2.2.2.2.2.2.2.1 x.2.2.2.2.2.2.2.2.2.2.2.2.2.2.2.2.2.2.2.2.2.1+big (decide ((netF (Tot.ramF x.2.1 x.2.2.2.2.2.2.2.2.2.2.2.2.2.2.1 x.2.2.2.2.2.2.2.2.2.2.2.2.2.2.2.1 x.1 (0:Int)) []).1<(0:Int))) (digs (netF (Tot.ramF x.2.1 x.2.2.2.2.2.2.2.2.2.2.2.2.2.2.1 x.2.2.2.2.2.2.2.2.2.2.2.2.2.2.2.1 x.1 (0:Int)) []).1.natAbs)<(0:Int))) (digs (big x.2.2.2.2.2.2.2.2.2.2.2.2.2.2.2.2.2.2.2.2.1 x.2.2.2.2.2.2.2.2.2.2.2.2.2.2.2.2.2.2.2.2.2.1+big (decide ((netF (Tot.ramF x.2.1 x.2.2.2.2.2.2.2.2.2.2.2.2.2.2.1 x.2.2.2.2.2.2.2.2.2.2.2.2.2.2.2.1 x.1 (0:Int)) []).1<(0:Int))) (digs (netF (Tot.ramF x.2.1 x.2.2.2.2.2.2.2.2.2.2.2.2.2.2.1 x.2.2.2.2.2.2.2.2.2.2.2.2.2.2.2.1 x.1 (0:Int)) []).1.natAbs)).natAbs)/\(digs (big x.2.2.2.2.2.2.2.2.2.2.2.2.2.2.2.2.2.2.1 x.2.2.2.2.2.2.2.2.2.2.2.2.2.2.2.2.2.2.2.1+big (decide ((netF (Tot.ramF x.2.2.2.2.2.2.2.1 x.2.2.2.2.2.2.2.2.2.2.2.2.2.2.1 x.2.2.2.2.2.2.2.2.2.2.2.2.2.2.2.1 x.1 (0:Int)) []).1<(0:Int))) (digs (netF (Tot.ramF x.2.2.2.2.2.2.2.1 x.2.2.2.2.2.2.2.2.2.2.2.2.2.2.1 x.2.2.2.2.2.2.2.2.2.2.2.2.2.2.2.1 x.1 (0:Int)) []).1.natAbs)).natAbs).length<=(1000000:Nat)/\(digs (big x.2.2.2.2.2.2.2.2.2.2.2.2.2.2.2.2.2.2.2.2.1 x.2.2.2.2.2.2.2.2.2.2.2.2.2.2.2.2.2.2.2.2.2.1+big (decide ((netF (Tot.ramF x.2.1 x.2.2.2.2.2.2.2.2.2.2.2.2.2.2.1 x.2.2.2.2.2.2.2.2.2.2.2.2.2.2.2.1 x.1 (0:Int)) []).1<(0:Int))) (digs (netF (Tot.ramF x.2.1 x.2.2.2.2.2.2.2.2.2.2.2.2.2.2.1 x.2.2.2.2.2.2.2.2.2.2.2.2.2.2.2.1 x.1 (0:Int)) []).1.natAbs)).natAbs).length<=(1000000:Nat))/\((!decide (cmpV (big (decide (big x.2.2.2.2.2.2.2.2.2.2.2.2.2.2.2.2.2.2.1 x.2.2.2.2.2.2.2.2.2.2.2.2.2.2.2.2.2.2.2.1+big (decide ((netF (Tot.ramF x.2.2.2.2.2.2.2.1 x.2.2.2.2.2.2.2.2.2.2.2.2.2.2.1 x.2.2.2.2.2.2.2.2.2.2.2.2.2.2.2.1 x.1 (0:Int)) []).1<(0:Int))) (digs (netF (Tot.ramF x.2.2.2.2.2.2.2.1 x.2.2.2.2.2.2.2.2.2.2.2.2.2.2.1 x.2.2.2.2.2.2.2.2.2.2.2.2.2.2.2.1 x.1 (0:Int)) []).1.natAbs)<(0:Int))) (digs (big x.2.2.2.2.2.2.2.2.2.2.2.2.2.2.2.2.2.2.1 x.2.2.2.2.2.2.2.2.2.2.2.2.2.2.2.2.2.2.2.1+big (decide ((netF (Tot.ramF x.2.2.2.2.2.2.2.1 x.2.2.2.2.2.2.2.2.2.2.2.2.2.2.1 x.2.2.2.2.2.2.2.2.2.2.2.2.2.2.2.1 x.1 (0:Int)) []).1<(0:Int))) (digs (netF (Tot.ramF x.2.2.2.2.2.2.2.1 x.2.2.2.2.2.2.2.2.2.2.2.2.2.2.1 x.2.2.2.2.2.2.2.2.2.2.2.2.2.2.2.1 x.1 (0:Int)) []).1.natAbs)).natAbs)) (big (decide (big x.2.2.2.2.2.2.2.2.2.2.2.2.2.2.2.2.2.2.2.2.1 x.2.2.2.2.2.2.2.2.2.2.2.2.2.2.2.2.2.2.2.2.2.1+big (decide ((netF (Tot.ramF x.2.1 x.2.2.2.2.2.2.2.2.2.2.2.2.2.2.1 x.2.2.2.2.2.2.2.2.2.2.2.2.2.2.2.1 x.1 (0:Int)) []).1<(0:Int))) (digs (netF (Tot.ramF x.2.1 x.2.2.2.2.2.2.2.2.2.2.2.2.2.2.1 x.2.2.2.2.2.2.2.2.2.2.2.2.2.2.2.1 x.1 (0:Int)) []).1.natAbs)<(0:Int))) (digs (big x.2.2.2.2.2.2.2.2.2.2.2.2.2.2.2.2.2.2.2.2.1 x.2.2.2.2.2.2.2.2.2.2.2.2.2.2.2.2.2.2.2.2.2.1+big (decide ((netF (Tot.ramF x.2.1 x.2.2.2.2.2.2.2.2.2.2.2.2.2.2.1 x.2.2.2.2.2.2.2.2.2.2.2.2.2.2.2.1 x.1 (0:Int)) []).1<(0:Int))) (digs (netF (Tot.ramF x.2.1 x.2.2.2.2.2.2.2.2.2.2.2.2.2.2.1 x.2.2.2.2.2.2.2.2.2.2.2.2.2.2.2.1 x.1 (0:Int)) []).1.natAbs)).natAbs))=(0:Int)))=true->(false,())=(true,()))/\((!decide (cmpV (big (decide (big x.2.2.2.2.2.2.2.2.2.2.2.2.2.2.2.2.2.2.1 x.2.2.2.2.2.2.2.2.2.2.2.2.2.2.2.2.2.2.2.1+big (decide ((netF (Tot.ramF x.2.2.2.2.2.2.2.1 x.2.2.2.2.2.2.2.2.2.2.2.2.2.2.1 x.2.2.2.2.2.2.2.2.2.2.2.2.2.2.2.1 x.1 (0:Int)) []).1<(0:Int))) (digs (netF (Tot.ramF x.2.2.2.2.2.2.2.1 x.2.2.2.2.2.2.2.2.2.2.2.2.2.2.1 x.2.2.2.2.2.2.2.2.2.2.2.2.2.2.2.1 x.1 (0:Int)) []).1.natAbs)<(0:Int))) (digs (big x.2.2.2.2.2.2.2.2.2.2.2.2.2.2.2.2.2.2.1 x.2.2.2.2.2.2.2.2.2.2.2.2.2.2.2.2.2.2.2.1+big (decide ((netF (Tot.ramF x.2.2.2.2.2.2.2.1 x.2.2.2.2.2.2.2.2.2.2.2.2.2.2.1 x.2.2.2.2.2.2.2.2.2.2.2.2.2.2.2.1 x.1 (0:Int)) []).1<(0:Int))) (digs (netF (Tot.ramF x.2.2.2.2.2.2.2.1 x.2.2.2.2.2.2.2.2.2.2.2.2.2.2.1 x.2.2.2.2.2.2.2.2.2.2.2.2.2.2.2.1 x.1 (0:Int)) []).1.natAbs)).natAbs)) (big (decide (big x.2.2.2.2.2.2.2.2.2.2.2.2.2.2.2.2.2.2.2.2.1 x.2.2.2.2.2.2.2.2.2.2.2.2.2.2.2.2.2.2.2.2.2.1+big (decide ((netF (Tot.ramF x.2.1 x.2.2.2.2.2.2.2.2.2.2.2.2.2.2.1 x.2.2.2.2.2.2.2.2.2.2.2.2.2.2.2.1 x.1 (0:Int)) []).1<(0:Int))) (digs (netF (Tot.ramF x.2.1 x.2.2.2.2.2.2.2.2.2.2.2.2.2.2.1 x.2.2.2.2.2.2.2.2.2.2.2.2.2.2.2.1 x.1 (0:Int)) []).1.natAbs)<(0:Int))) (digs (big x.2.2.2.2.2.2.2.2.2.2.2.2.2.2.2.2.2.2.2.2.1 x.2.2.2.2.2.2.2.2.2.2.2.2.2.2.2.2.2.2.2.2.2.1+big (decide ((netF (Tot.ramF x.2.1 x.2.2.2.2.2.2.2.2.2.2.2.2.2.2.1 x.2.2.2.2.2.2.2.2.2.2.2.2.2.2.2.1 x.1 (0:Int)) []).1<(0:Int))) (digs (netF (Tot.ramF x.2.1 x.2.2.2.2.2.2.2.2.2.2.2.2.2.2.1 x.2.2.2.2.2.2.2.2.2.2.2.2.2.2.2.1 x.1 (0:Int)) []).1.natAbs)).natAbs))=(0:Int)))=false->(-9223372036854775808<=x.1+1/\x.1+1<=9223372036854775807)/\True/\TI N n v (x.1+1,x.2.1,x.2.2.2.2.2.2.2.1,(x.2.2.2.2.2.2.2.2.1,x.2.2.2.2.2.2.2.2.2.1,x.2.2.2.2.2.2.2.2.2.2.1),(x.2.2.2.2.2.2.2.2.2.2.2.1,x.2.2.2.2.2.2.2.2.2.2.2.2.1,x.2.2.2.2.2.2.2.2.2.2.2.2.2.1),(x.2.2.2.2.2.2.2.2.2.2.2.2.2.2.1,x.2.2.2.2.2.2.2.2.2.2.2.2.2.2.2.1,x.2.2.2.2.2.2.2.2.2.2.2.2.2.2.2.2.1,x.2.2.2.2.2.2.2.2.2.2.2.2.2.2.2.2.2.1),(decide (big x.2.2.2.2.2.2.2.2.2.2.2.2.2.2.2.2.2.2.1 x.2.2.2.2.2.2.2.2.2.2.2.2.2.2.2.2.2.2.2.1+big (decide ((netF (Tot.ramF x.2.2.2.2.2.2.2.1 x.2.2.2.2.2.2.2.2.2.2.2.2.2.2.1 x.2.2.2.2.2.2.2.2.2.2.2.2.2.2.2.1 x.1 (0:Int)) []).1<(0:Int))) (digs (netF (Tot.ramF x.2.2.2.2.2.2.2.1 x.2.2.2.2.2.2.2.2.2.2.2.2.2.2.1 x.2.2.2.2.2.2.2.2.2.2.2.2.2.2.2.1 x.1 (0:Int)) []).1.natAbs)<(0:Int)),digs (big x.2.2.2.2.2.2.2.2.2.2.2.2.2.2.2.2.2.2.1 x.2.2.2.2.2.2.2.2.2.2.2.2.2.2.2.2.2.2.2.1+big (decide ((netF (Tot.ramF x.2.2.2.2.2.2.2.1 x.2.2.2.2.2.2.2.2.2.2.2.2.2.2.1 x.2.2.2.2.2.2.2.2.2.2.2.2.2.2.2.1 x.1 (0:Int)) []).1<(0:Int))) (digs (netF (Tot.ramF x.2.2.2.2.2.2.2.1 x.2.2.2.2.2.2.2.2.2.2.2.2.2.2.1 x.2.2.2.2.2.2.2.2.2.2.2.2.2.2.2.1 x.1 (0:Int)) []).1.natAbs)).natAbs),decide (big x.2.2.2.2.2.2.2.2.2.2.2.2.2.2.2.2.2.2.2.2.1 x.2.2.2.2.2.2.2.2.2.2.2.2.2.2.2.2.2.2.2.2.2.1+big (decide ((netF (Tot.ramF x.2.1 x.2.2.2.2.2.2.2.2.2.2.2.2.2.2.1 x.2.2.2.2.2.2.2.2.2.2.2.2.2.2.2.1 x.1 (0:Int)) []).1<(0:Int))) (digs (netF (Tot.ramF x.2.1 x.2.2.2.2.2.2.2.2.2.2.2.2.2.2.1 x.2.2.2.2.2.2.2.2.2.2.2.2.2.2.2.1 x.1 (0:Int)) []).1.natAbs)<(0:Int)),digs (big x.2.2.2.2.2.2.2.2.2.2.2.2.2.2.2.2.2.2.2.2.1 x.2.2.2.2.2.2.2.2.2.2.2.2.2.2.2.2.2.2.2.2.2.1+big (decide ((netF (Tot.ramF x.2.1 x.2.2.2.2.2.2.2.2.2.2.2.2.2.2.1 x.2.2.2.2.2.2.2.2.2.2.2.2.2.2.2.1 x.1 (0:Int)) []).1<(0:Int))) (digs (netF (Tot.ramF x.2.1 x.2.2.2.2.2.2.2.2.2.2.2.2.2.2.1 x.2.2.2.2.2.2.2.2.2.2.2.2.2.2.2.1 x.1 (0:Int)) []).1.natAbs)).natAbs)/\((24:Int)-(x.1+1)).toNat<((24:Int)-x.1).toNat))/\(decide (x.2.2.2.2.2.2.2.2.2.2.2.1<=x.1)= !true->(-9223372036854775808<=x.1+1/\x.1+1<=9223372036854775807)/\True/\TI N n v (x.1+1,x.2.1,x.2.2.2.2.2.2.2.1,(x.2.2.2.2.2.2.2.2.1,x.2.2.2.2.2.2.2.2.2.1,x.2.2.2.2.2.2.2.2.2.2.1),(x.2.2.2.2.2.2.2.2.2.2.2.1,x.2.2.2.2.2.2.2.2.2.2.2.2.1,x.2.2.2.2.2.2.2.2.2.2.2.2.2.1),(x.2.2.2.2.2.2.2.2.2.2.2.2.2.2.1,x.2.2.2.2.2.2.2.2.2.2.2.2.2.2.2.1,x.2.2.2.2.2.2.2.2.2.2.2.2.2.2.2.2.1,x.2.2.2.2.2.2.2.2.2.2.2.2.2.2.2.2.2.1),(decide (big x.2.2.2.2.2.2.2.2.2.2.2.2.2.2.2.2.2.2.1 x.2.2.2.2.2.2.2.2.2.2.2.2.2.2.2.2.2.2.2.1+big (decide ((netF (Tot.ramF x.2.2.2.2.2.2.2.1 x.2.2.2.2.2.2.2.2.2.2.2.2.2.2.1 x.2.2.2.2.2.2.2.2.2.2.2.2.2.2.2.1 x.1 (0:Int)) []).1<(0:Int))) (digs (netF (Tot.ramF x.2.2.2.2.2.2.2.1 x.2.2.2.2.2.2.2.2.2.2.2.2.2.2.1 x.2.2.2.2.2.2.2.2.2.2.2.2.2.2.2.1 x.1 (0:Int)) []).1.natAbs)<(0:Int)),digs (big x.2.2.2.2.2.2.2.2.2.2.2.2.2.2.2.2.2.2.1 x.2.2.2.2.2.2.2.2.2.2.2.2.2.2.2.2.2.2.2.1+big (decide ((netF (Tot.ramF x.2.2.2.2.2.2.2.1 x.2.2.2.2.2.2.2.2.2.2.2.2.2.2.1 x.2.2.2.2.2.2.2.2.2.2.2.2.2.2.2.1 x.1 (0:Int)) []).1<(0:Int))) (digs (netF (Tot.ramF x.2.2.2.2.2.2.2.1 x.2.2.2.2.2.2.2.2.2.2.2.2.2.2.1 x.2.2.2.2.2.2.2.2.2.2.2.2.2.2.2.1 x.1 (0:Int)) []).1.natAbs)).natAbs),decide (big x.2.2.2.2.2.2.2.2.2.2.2.2.2.2.2.2.2.2.2.2.1 x.2.2.2.2.2.2.2.2.2.2.2.2.2.2.2.2.2.2.2.2.2.1+big (decide ((netF (Tot.ramF x.2.1 x.2.2.2.2.2.2.2.2.2.2.2.2.2.2.1 x.2.2.2.2.2.2.2.2.2.2.2.2.2.2.2.1 x.1 (0:Int)) []).1<(0:Int))) (digs (netF (Tot.ramF x.2.1 x.2.2.2.2.2.2.2.2.2.2.2.2.2.2.1 x.2.2.2.2.2.2.2.2.2.2.2.2.2.2.2.1 x.1 (0:Int)) []).1.natAbs)<(0:Int)),digs (big x.2.2.2.2.2.2.2.2.2.2.2.2.2.2.2.2.2.2.2.2.1 x.2.2.2.2.2.2.2.2.2.2.2.2.2.2.2.2.2.2.2.2.2.1+big (decide ((netF (Tot.ramF x.2.1 x.2.2.2.2.2.2.2.2.2.2.2.2.2.2.1 x.2.2.2.2.2.2.2.2.2.2.2.2.2.2.2.1 x.1 (0:Int)) []).1<(0:Int))) (digs (netF (Tot.ramF x.2.1 x.2.2.2.2.2.2.2.2.2.2.2.2.2.2.1 x.2.2.2.2.2.2.2.2.2.2.2.2.2.2.2.1 x.1 (0:Int)) []).1.natAbs)).natAbs)/\((24:Int)-(x.1+1)).toNat<((24:Int)-x.1).toNat))/\(decide (x.2.2.2.2.2.2.2.2.1<=x.1)= !true->(-9223372036854775808<=x.1+1/\x.1+1<=9223372036854775807)/\True/\TI N n v (x.1+1,x.2.1,x.2.2.2.2.2.2.2.1,(x.2.2.2.2.2.2.2.2.1,x.2.2.2.2.2.2.2.2.2.1,x.2.2.2.2.2.2.2.2.2.2.1),(x.2.2.2.2.2.2.2.2.2.2.2.1,x.2.2.2.2.2.2.2.2.2.2.2.2.1,x.2.2.2.2.2.2.2.2.2.2.2.2.2.1),(x.2.2.2.2.2.2.2.2.2.2.2.2.2.2.1,x.2.2.2.2.2.2.2.2.2.2.2.2.2.2.2.1,x.2.2.2.2.2.2.2.2.2.2.2.2.2.2.2.2.1,x.2.2.2.2.2.2.2.2.2.2.2.2.2.2.2.2.2.1),(decide (big x.2.2.2.2.2.2.2.2.2.2.2.2.2.2.2.2.2.2.1 x.2.2.2.2.2.2.2.2.2.2.2.2.2.2.2.2.2.2.2.1+big (decide ((netF (Tot.ramF x.2.2.2.2.2.2.2.1 x.2.2.2.2.2.2.2.2.2.2.2.2.2.2.1 x.2.2.2.2.2.2.2.2.2.2.2.2.2.2.2.1 x.1 (0:Int)) []).1<(0:Int))) (digs (netF (Tot.ramF x.2.2.2.2.2.2.2.1 x.2.2.2.2.2.2.2.2.2.2.2.2.2.2.1 x.2.2.2.2.2.2.2.2.2.2.2.2.2.2.2.1 x.1 (0:Int)) []).1.natAbs)<(0:Int)),digs (big x.2.2.2.2.2.2.2.2.2.2.2.2.2.2.2.2.2.2.1 x.2.2.2.2.2.2.2.2.2.2.2.2.2.2.2.2.2.2.2.1+big (decide ((netF (Tot.ramF x.2.2.2.2.2.2.2.1 x.2.2.2.2.2.2.2.2.2.2.2.2.2.2.1 x.2.2.2.2.2.2.2.2.2.2.2.2.2.2.2.1 x.1 (0:Int)) []).1<(0:Int))) (digs (netF (Tot.ramF x.2.2.2.2.2.2.2.1 x.2.2.2.2.2.2.2.2.2.2.2.2.2.2.1 x.2.2.2.2.2.2.2.2.2.2.2.2.2.2.2.1 x.1 (0:Int)) []).1.natAbs)).natAbs),decide (big x.2.2.2.2.2.2.2.2.2.2.2.2.2.2.2.2.2.2.2.2.1 x.2.2.2.2.2.2.2.2.2.2.2.2.2.2.2.2.2.2.2.2.2.1+big (decide ((netF (Tot.ramF x.2.1 x.2.2.2.2.2.2.2.2.2.2.2.2.2.2.1 x.2.2.2.2.2.2.2.2.2.2.2.2.2.2.2.1 x.1 (0:Int)) []).1<(0:Int))) (digs (netF (Tot.ramF x.2.1 x.2.2.2.2.2.2.2.2.2.2.2.2.2.2.1 x.2.2.2.2.2.2.2.2.2.2.2.2.2.2.2.1 x.1 (0:Int)) []).1.natAbs)<(0:Int)),digs (big x.2.2.2.2.2.2.2.2.2.2.2.2.2.2.2.2.2.2.2.2.1 x.2.2.2.2.2.2.2.2.2.2.2.2.2.2.2.2.2.2.2.2.2.1+big (decide ((netF (Tot.ramF x.2.1 x.2.2.2.2.2.2.2.2.2.2.2.2.2.2.1 x.2.2.2.2.2.2.2.2.2.2.2.2.2.2.2.1 x.1 (0:Int)) []).1<(0:Int))) (digs (netF (Tot.ramF x.2.1 x.2.2.2.2.2.2.2.2.2.2.2.2.2.2.1 x.2.2.2.2.2.2.2.2.2.2.2.2.2.2.2.1 x.1 (0:Int)) []).1.natAbs)).natAbs)/\((24:Int)-(x.1+1)).toNat<((24:Int)-x.1).toNat)))/\((!decide ((netF (Tot.ramF x.2.2.2.2.2.2.2.1 x.2.2.2.2.2.2.2.2.2.2.2.2.2.2.1 x.2.2.2.2.2.2.2.2.2.2.2.2.2.2.2.1 x.1 (0:Int)) []).2=(0:Int)))= !false->True/\(true,())=(true,())))/\(decide (x.1<(24:Int))=false->True/\(true,())=(true,()))))/\(decide (i<(0:Int))= !false->True/\(true,())=(true,()))))/\((!decide (x_1.1=v))= !false->(false,())=(true,())))/\((!decide ((↑x.2.2.length:Int)=(↑x_1.2.2.length:Int)))= !false->(false,())=(true,())))/\((!decide ((apF (apF (E,A,S,R,K,N) ((8:Int),n,v,(0:Int),(0:Int),false,false,((0:Int),(0:Int)),[])).1 ((8:Int),n,v,(0:Int),(0:Int),false,false,((0:Int),(0:Int)),[])).2=(35:Int)))= !false->(false,())=(true,()))))/\(decide (n<(1:Int))= !false->(false,())=(true,())))/\((!decide ((↑(apF (E,A,S,R,K,N) ((8:Int),n,v,(0:Int),(0:Int),false,false,((0:Int),(0:Int)),[])).1.2.2.2.2.2.length:Int)=(↑N.length:Int)+1))= !false->(false,())=(true,())))))
theorem g_turns_eq (E:List Int) (A:List Acc.AcD) (S:List Ln) (R:List Rts.Rt) (K:List Lck.Lk) (N:List En) (n v i:Int):Cond (env_turns E A S R K N n v i) Tryz.f6 [.agg [.list .part I E, .list .part AcT A, .list .part LnT S, .list .part RTy R, .list .part Vl K, .list .part EnT N], .agg [.int .i64 n, .int .i64 v, .int .i64 i]] [.bool] (true,())=g_turns_vc E A S R K N n v i:=by kernel_rfl
theorem g_turns_ok (E:List Int) (A:List Acc.AcD) (S:List Ln) (R:List Rts.Rt) (K:List Lck.Lk) (N:List En) (n v i:Int) (h:Ok E A S R K N):g_turns_vc E A S R K N n v i:=by
 unfold g_turns_vc;simp only [decide_eq_true_eq,decide_eq_false_iff_not,Bool.not_eq_true',Bool.not_eq_false',Bool.not_true,Bool.not_false];refine ⟨h.1,fun _=>by trivial,fun hf=> ?_⟩;have hs:=Bks.sm_few E A S R K N h hf;have hN:N.length<=30/\∀x∈N,x.2.2.length<=60:=by
  unfold fewF Bks.few24 at hf;simp only [Bool.and_eq_true,decide_eq_true_eq,Bool.not_eq_true'] at hf;obtain ⟨-, -, -, -, -,h6,h7⟩:=hf;refine ⟨h6,fun x hx=> ?_⟩;have:=List.any_eq_false.1 h7 x hx;simp only [decide_eq_true_eq] at this;omega
 obtain ⟨hN1,hN2⟩:=hN;refine ⟨hs,fun _=>by trivial,fun hch=>⟨⟨hs,fun _ h=>by cases h⟩,fun he=> ?_,fun he=> ?_⟩⟩
 ·rw [ap_bk0 he];exact ⟨fun _=>by trivial,fun hn=>absurd rfl hn⟩
 ·obtain ⟨y,hy,eX,⟨n1,n2⟩,⟨v1,v2⟩,h35⟩:=ap_rev he;have hz:=ap_sz (c:=rvC n v) (szn_few h hf) (fun _ h=>by cases h);rw [eX] at hz;have hper:=((Bks.check_iff.1 hch).2.2.2.2.2.2 _ y hy).1;rw [eX];dsimp only;have hs3:=sm_of hz (by omega);have hi3:InE (N++[(v,n,y.2.2.map Ent.negLn)]):=hz.2.2.2.2.2.2;generalize hM:y.2.2.map Ent.negLn=M at*;have hlM:M.length=y.2.2.length:=by rw [<-hM,List.length_map]
  have lX:(N++[(v,n,M)]).length=N.length+1:=by rw [List.length_append,List.length_singleton]
  have hym:=hN2 y (List.mem_of_getElem? hy);have hFX:FwT (N++[(v,n,M)]):=⟨by omega,fun x hx=>⟨by
   rcases List.mem_append.1 hx with hx|hx
   ·have:=hN2 x hx;omega
   ·rw [List.mem_singleton.1 hx];dsimp only;omega,(hi3 x hx).1⟩⟩
  have hFW:FwT (N.set (n-1).toNat (y.1,y.2.1,[])):=⟨by rw [List.length_set];omega,fun x hx=>by
   rcases List.mem_or_eq_of_mem_set hx with hx|hx
   ·exact ⟨by have:=hN2 x hx;omega,(hi3 x (List.mem_append_left _ hx)).1⟩
   ·rw [hx];exact ⟨by simp,fun _ h=>by cases h⟩⟩
  refine ⟨by omega,fun _=>⟨fun _=>⟨fun _=>by omega,fun _=>⟨by omega,by omega,fun x hx=>⟨by omega,fun x1 hx1=>⟨⟨hs3,fun _ h=>by cases h⟩,fun _=> ?_,fun hn=>absurd h35 hn⟩⟩⟩⟩,fun _=>by omega⟩,fun hn=>by omega⟩;have e1:x=y:=by
   rw [List.getElem?_append_left (by omega),hy] at hx;exact (Option.some.inj hx).symm
  have e2:x1=(v,n,M):=by
   rw [Int.toNat_natCast,List.getElem?_concat_length] at hx1;exact (Option.some.inj hx1).symm
  subst e1 e2;dsimp only;refine ⟨fun _=>⟨fun _=>⟨fun hn=>absurd rfl hn,fun _=>⟨fun i0=>⟨fun _=>by trivial,fun i1=>⟨by omega,fun z hz=>⟨by omega,by omega,by omega,by omega,fun y' hy'=>⟨⟨trivial, ?_⟩, ?_⟩⟩⟩⟩,fun _=>by trivial⟩⟩,fun hn=>absurd rfl hn⟩,fun hn=>absurd (by rw [hlM]) hn⟩
  ·rw [hy] at hy';cases hy';subst hM;exact ⟨⟨by omega,by omega⟩,hy,rfl,rfl,rfl,⟨by simp [upT],by simp [upT,digs_zero]⟩,by simp [upT],by simp [upT,digs_zero]⟩
  ·clear hz hx hx1 hy' y';rintro ⟨p,W,⟨⟩,⟨⟩,⟨⟩,⟨⟩,⟨⟩,X,y1,y2,yL,w1,w2,wL,e,a,z3,z4,b1,d1,b2,d2,⟨⟩⟩ hI;obtain ⟨⟨p0,p1⟩,iy,iX,iW,iw,⟨ib1,id1⟩,ib2,id2⟩:=hI;dsimp only at p0 p1 iy iX iW iw ib1 id1 ib2 id2⊢;rw [hy] at iy;have iy:=Option.some.inj iy;subst iy;dsimp only at*;rw [hM] at iX;subst iX iW iw;rw [tot_told hFX,tot_told hFW,ib1,id1,ib2,id2];simp only [big_digs];refine ⟨fun hp=>⟨hFX,hFW,fun hq=>⟨fun _=>by trivial,fun hr=> ?_⟩,fun _=>by trivial⟩,fun _=>by trivial⟩;obtain ⟨q1,q2⟩:=told_ok hq;obtain ⟨r1,r2⟩:=told_ok hr;rw [q1,r1];have ep:(p+1).toNat=p.toNat+1:=by omega
   have ec:((p.toNat:Nat):Int)=p:=by omega
   have uX:upT (N++[(w1,n,M)]) e a p.toNat+totF (N++[(w1,n,M)]) e a p=upT (N++[(w1,n,M)]) e a (p+1).toNat:=by rw [ep,upT,ec]
   have uW:upT (N.set (n-1).toNat (y1,y2,[])) e a p.toNat+totF (N.set (n-1).toNat (y1,y2,[])) e a p=upT (N.set (n-1).toNat (y1,y2,[])) e a (p+1).toNat:=by rw [ep,upT,ec]
   rw [uX,uW];have hTI:TI N n w1 (p+1,N.set (n-1).toNat (y1,y2,[]),N++[(w1,n,M)],(y1,y2,yL),(w1,w2,wL),(e,a,z3,z4),(decide (upT (N++[(w1,n,M)]) e a (p+1).toNat<0),digs (upT (N++[(w1,n,M)]) e a (p+1).toNat).natAbs),decide (upT (N.set (n-1).toNat (y1,y2,[])) e a (p+1).toNat<0),digs (upT (N.set (n-1).toNat (y1,y2,[])) e a (p+1).toNat).natAbs):=
    ⟨⟨by omega,by omega⟩,hy,by rw [<-hM],rfl,rfl,⟨rfl,rfl⟩,rfl,rfl⟩
   have lX1:=up_len hFX e a (m:=p.toNat) (by omega);have lW1:=up_len hFW e a (m:=p.toNat) (by omega);have lX2:=up_len hFX e a (m:=(p+1).toNat) (by omega);have lW2:=up_len hFW e a (m:=(p+1).toNat) (by omega);have hm:((24:Int)-(p+1)).toNat<((24:Int)-p).toNat:=by omega
   refine ⟨q2,⟨Big_digs _,Big_digs _,lX1,int_len _ q2⟩,r2,⟨Big_digs _,Big_digs _,lW1,int_len _ r2⟩,fun c1=>⟨fun c2=>⟨⟨Big_digs _,Big_digs _,lX2,lW2⟩,fun hn=> ?_,fun _=>⟨by omega,trivial,hTI,hm⟩⟩,fun _=>⟨by omega,trivial,hTI,hm⟩⟩,fun _=>⟨by omega,trivial,hTI,hm⟩⟩;exfalso;refine hn ?_;have:=Tot.up_opp (v:=w1) (n:=n) hy e a (p+1).toNat (by dsimp only;omega) (by omega);dsimp only at this;rw [hM] at this;rw [this,cmpV_self]
set_option maxRecDepth 20000
theorem turns_pure (E:List Int) (A:List Acc.AcD) (S:List Ln) (R:List Rts.Rt) (K:List Lck.Lk) (N:List En) (n v i:Int) (h:Ok E A S R K N):Pure Tryz.prog 6 [.agg [.list .part I E, .list .part AcT A, .list .part LnT S, .list .part RTy R, .list .part Vl K, .list .part EnT N], .agg [.int .i64 n, .int .i64 v, .int .i64 i]] (.bool true):=
 by have k:=Pure.of_cond (g_turns_eq E A S R K N n v i) (g_turns_ok E A S R K N n v i h) (specs_ok rfl [Bks.sp_few,sp_awake,Bks.sp_check,sp_apply,Tot.sp_rtot,sp_of,sp_bplus,sp_bcmp] [] rfl rfl) mixed Tryz.func6;exact k
end Go.Proofs.YtabicbgeoiilmaaGreat.Dsk
end
