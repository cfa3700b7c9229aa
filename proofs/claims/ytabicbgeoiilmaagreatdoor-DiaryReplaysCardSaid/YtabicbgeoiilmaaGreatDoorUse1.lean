import Derived.RangeFuncNested
import Derived.RangeFuncBound
import Derived.RangeFuncCalls
import Derived.RangeFuncLeaves
import Derived.Shelf.Abstract
import Derived.Shelf.RegionOpen
import Derived.WalkKit
import Derived.OwnWalkIn
import Derived.TacticsInMore
import Derived.LoopNIn
import Derived.LoopIn
import Derived.Test.YtabicbgeoiilmaaGreatDoorBks8
namespace Go.Proofs.YtabicbgeoiilmaaGreatDoor
noncomputable section
section
namespace Bks
open Go Go.RowKit Go.Shelf Go.Proofs
attribute [local go_sem] Oper.semAt_some
def LinesAt (n₀:Nat) (W:World) (v:Value) (L:List Ln):Prop:=
 ∃A cap,v= .slice A L.length cap/\(0<L.length->∃b o,A=some ⟨b,o,none⟩/\b<n₀/\∀(k:Nat) x,L[k]? =some x->W.cell? ⟨b,o+k*4,none⟩=some (.int .i64 x.1)/\W.cell? ⟨b,o+k*4+1,none⟩=some (.int .i64 x.2.1)/\W.cell? ⟨b,o+k*4+2,none⟩=some (.int .i64 x.2.2.1)/\W.cell? ⟨b,o+k*4+3,none⟩=some (.int .i64 x.2.2.2))
def EntsAt (n₀:Nat) (W:World) (v:Value) (N:List En):Prop:=
 ∃A cap,v= .slice A N.length cap/\(0<N.length->∃b o,A=some ⟨b,o,none⟩/\b<n₀/\∀(j:Nat) x,N[j]? =some x->W.cell? ⟨b,o+j*3,none⟩=some (.int .i64 x.1)/\W.cell? ⟨b,o+j*3+1,none⟩=some (.int .i64 x.2.1)/\∃u,W.cell? ⟨b,o+j*3+2,none⟩=some u/\LinesAt n₀ W u x.2.2)
theorem jK {W:World} {a:Addr} {v:Value} (o:_root_.Go.Obj) (h:W.cell? a=some v):(W.alloc o).cell? a=some v:=cell_kept h (World.grownBy_alloc W o none) (fun r e=>by cases e)
theorem ta {W:World} {b k:Nat} (h:W.heap.size<=b):W.cell? ⟨b,k,none⟩=none:=by
 simp [World.cell?,Array.getElem?_eq_none h]
def Kc (n₀ n₁:Nat) (W W':World):Prop:=W.heap.size<=W'.heap.size/\(∀b,b<n₀->∀k v,W.cell? ⟨b,k,none⟩=some v->W'.cell? ⟨b,k,none⟩=some v)/\
 ∀b,n₁<=b->∀cur t f,t≠63->W.heap[b]? =some (.cells cur t f)->W'.heap[b]? =some (.cells cur t f)
theorem Kc.refl (n₀ n₁:Nat) (W:World):Kc n₀ n₁ W W:=⟨Rf _,fun _ _ _ _ h=>h,fun _ _ _ _ _ _ h=>h⟩
theorem Kc.trans {n₀ n₁:Nat} {A B C:World} (h:Kc n₀ n₁ A B) (g:Kc n₀ n₁ B C):Kc n₀ n₁ A C:=⟨Ro h.1 g.1,fun b hb k v e=>g.2.1 b hb k v (h.2.1 b hb k v e),fun b hb cur t f ht e=>g.2.2 b hb cur t f ht (h.2.2 b hb cur t f ht e)⟩
theorem Kc.low {n₀ n₁:Nat} {A B:World} (h:Kc n₀ n₁ A B) {b k:Nat} {v:Value} (hb:b<n₀) (e:A.cell? ⟨b,k,none⟩=some v):B.cell? ⟨b,k,none⟩=some v:=h.2.1 b hb k v e
theorem Dq {W:World} {b:Nat} {x:_root_.Go.Obj} (o:_root_.Go.Obj) (h:W.heap[b]? =some x):(W.alloc o).heap[b]? =some x:=(Below.heap_alloc W o b (Array.getElem?_eq_some_iff.1 h).1).trans h
theorem Kc.alloc {n₀ n₁:Nat} {A B:World} (h:Kc n₀ n₁ A B) (os:_root_.Go.Obj):Kc n₀ n₁ A (B.alloc os):=⟨by have:=h.1;simp;omega,fun b hb k v e=>jK _ (h.2.1 b hb k v e),fun b hb cur t f ht e=>Dq _ (h.2.2 b hb cur t f ht e)⟩
def OwnBx (W:World) (b:Nat) (v:Value):Prop:= ∃cur t f,t≠63/\W.heap[b]? =some (.cells cur t f)/\W.cell? ⟨b,0,none⟩=some v
theorem OwnBx.up {W:World} {b:Nat} {v:Value} (o:_root_.Go.Obj):OwnBx W b v->OwnBx (W.alloc o) b v:=fun ⟨cur,t,f,h1,h2,h3⟩=>⟨cur,t,f,h1,Dq _ h2,jK _ h3⟩
theorem OwnBx.kept {n₀ n₁:Nat} {A B:World} {b:Nat} {v:Value} (h:Kc n₀ n₁ A B) (hb:n₁<=b):OwnBx A b v->OwnBx B b v:=fun ⟨cur,t,f,h1,h2,h3⟩=>by
 have e:=h.2.2 b hb cur t f h1 h2;refine ⟨cur,t,f,h1,e, ?_⟩;simp only [World.cell?,e,h2] at h3⊢;exact h3
theorem LinesAt.keep {n₀ n₁:Nat} {A B:World} (h:Kc n₀ n₁ A B) {v:Value} {L:List Ln}:LinesAt n₀ A v L->LinesAt n₀ B v L:=by
 rintro ⟨p,cap,e,hc⟩;refine ⟨p,cap,e,fun h0=> ?_⟩;obtain ⟨b,o,e2,hb,hx⟩:=hc h0;refine ⟨b,o,e2,hb,fun k x hk=> ?_⟩;obtain ⟨a1,a2,a3,a4⟩:=hx k x hk;exact ⟨h.low hb a1,h.low hb a2,h.low hb a3,h.low hb a4⟩
theorem EntsAt.keep {n₀ n₁:Nat} {A B:World} (h:Kc n₀ n₁ A B) {v:Value} {N:List En}:EntsAt n₀ A v N->EntsAt n₀ B v N:=by
 rintro ⟨p,cap,e,hc⟩;refine ⟨p,cap,e,fun h0=> ?_⟩;obtain ⟨b,o,e2,hb,hx⟩:=hc h0;refine ⟨b,o,e2,hb,fun k x hk=> ?_⟩;obtain ⟨a1,a2,u,a3,a4⟩:=hx k x hk;exact ⟨h.low hb a1,h.low hb a2,u,h.low hb a3,a4.keep h⟩
abbrev P9 (x:Po):Array Value:= #[.agg #[.int .i64 x.1, .int .i64 x.2.1, .int .i64 x.2.2.1, .int .i64 x.2.2.2.1, .int .i64 x.2.2.2.2.1, .int .i64 x.2.2.2.2.2.1, .int .i64 x.2.2.2.2.2.2]]
set_option maxRecDepth 100000 in
set_option maxHeartbeats 4000000 in
theorem KL (F:Fence) (n:Nat) (hf:F.fn 237) (hro:F.round=none) (hn:1<=n) (l Bn n₀ n₁:Nat) (v:Value) (N:List En) (hN:N.length<=1000000) (hi:InE N) (J Jx:List Po->World->Prop)
 (hY: ∀pre x W,J pre W->pre.length<(aB N).length->YieldAt F (n-1) Tryz.prog l (P9 x) W fun e W'=>
  (e= .returned (.bool true)/\J (pre++[x]) W'/\Kc n₀ n₁ W W')∨(e= .returned (.bool false)/\Jx (pre++[x]) W'))
 (hJ: ∀ps W os,n₁<=W.heap.size->J ps W->J ps (W.alloc os))
 (W:World) (h1:n₁<=W.heap.size) (h01:n₀<=n₁) (hBn:W.cell? ⟨Bn,0,none⟩=some v) (hL:EntsAt n₀ W v N) (h0:J [] W):
 CallsIn F n Tryz.prog 237 #[.func (.yield l) #[] #[], .pointer (some ⟨Bn,0,none⟩)] W fun e W'=>(∃v,e= .returned v)/\
  ((∃ys,ys=aB N/\J ys W')∨(∃pre,pre<+:aB N/\Jx pre W')):=by
 refine callsIn_of_wp Tryz.func237 rfl hf ?_ hro;simp only [Tryz.ntmps237,R4,Rj,RJ,Nat.reduceAdd,Nat.reduceSub,R5,R6,Sa,R_,RM,RP];obtain ⟨A,cap,rfl,hc⟩:=hL;gi_wp2;gi_loopw [3,10] (fun id i wr=> ∃(j:Nat) (pre:List Po),j<=N.length/\i= .int .i64 j/\id= .int .i64 pre.length/\pre.length<=1000*j/\aB N=pre++hZ (N.drop j) j pre.length/\J pre wr/\Kc n₀ n₁ W wr)
  (fun _ i _=>N.length-(intOf i).toNat)
 case atStart=>
  exact ⟨0,[],RV _,rfl,rfl,RV _,rfl,h0,Kc.refl _ _ _⟩
 case round=>
  obtain ⟨j,pre,hj,rfl,rfl,hpl,hlin,hJs,hk⟩:=hrel
  by_cases hlt:j<N.length
  ·obtain ⟨b,o,rfl,hb,hx⟩:=hc (by omega);have hnj:N[j]? =some N[j]:=List.getElem?_eq_getElem hlt;generalize N[j]=x at hnj;obtain ⟨c1,c2,u,c3,hln⟩:=hx j x hnj;obtain ⟨A2,cap2,rfl,hc2⟩:=hln;replace c1:=hk.low hb c1;replace c2:=hk.low hb c2;replace c3:=hk.low hb c3;have hxn:=(dp hi hnj).2;have hw1:n₁<=wr.heap.size:=Ro h1 hk.1;gi_wp2;gi_loopw [3,18] (fun id k wq=> ∃(m:Nat) (pr:List Po),m<=x.2.2.length/\k= .int .i64 m/\id= .int .i64 pr.length/\pr.length<=1000*j+m/\aB N=pr++(kv x.1 j (x.2.2.drop m) pr.length++hZ (N.drop (j+1)) (j+1) (pr.length+(x.2.2.length-m)))/\J pr wq/\Kc n₀ n₁ W wq/\OwnBx wq wr.heap.size (.int .i64 x.1))
    (fun _ k _=>x.2.2.length-(intOf k).toNat)
   case atStart=>
    refine ⟨0,pre,RV _,rfl,rfl,by omega, ?_,hJ _ _ _ hw1 hJs,hk.alloc _, ?_⟩
    ·rw [hlin];have:=Cx (N:=N) (i:=(j:Int)) (n:=pre.length) (by omega) hnj;rw [R3] at this;rw [this,show ((j:Int)+1).toNat=j+1 by omega];rfl
    ·exact ⟨_,_,_,by decide,World.alloc_heap_new _ _,by rw [World.cell?_alloc_at _ _ _ _ rfl];rfl⟩
   case round=>
    obtain ⟨m,pr,hm,rfl,rfl,hpl2,hlin2,hJ2,hk2,hbx⟩:=hrel
    obtain ⟨cur0,t0,f0,_,_,hcp⟩:=id hbx
    by_cases hlt2:m<x.2.2.length
    ·have hnm:x.2.2[m]? =some x.2.2[m]:=List.getElem?_eq_getElem hlt2;generalize x.2.2[m]=y at hnm;obtain ⟨b2,o2,rfl,hb2,hx2⟩:=hc2 (by omega);obtain ⟨d1,d2,d3,d4⟩:=hx2 m y hnm;replace d1:=hk2.low hb2 d1;replace d2:=hk2.low hb2 d2;replace d3:=hk2.low hb2 d3;replace d4:=hk2.low hb2 d4;have hstep:=Cw (p:=x.1) (i:=(j:Int)) (k:=(m:Int)) (n:=pr.length) (by omega) hnm;rw [R3,show ((m:Int)+1).toNat=m+1 by omega] at hstep;have hlen:pr.length<(aB N).length:=by
      rw [hlin2,hstep];simp only [Re,Rj];omega
     obtain ⟨fn,tmps,assign,body,hy,hR⟩:=hY pr ((pr.length:Int)+1,(j:Int)+1,x.1,y) _ (hJ pr _ (.cells #[.int .i64 y.1, .int .i64 y.2.1, .int .i64 y.2.2.1, .int .i64 y.2.2.2] 101) (Ro h1 hk2.1) hJ2) hlen;have hcp2:=jK (.cells #[.int .i64 y.1, .int .i64 y.2.1, .int .i64 y.2.2.1, .int .i64 y.2.2.2] 101) hcp;try dsimp only [P9] at hy
     gi_wp2;refine hR.mono ?_;rintro e W3 (⟨rfl,hJ3,hk3⟩|⟨rfl,hJx3⟩)
     ·gi_wp2;refine ⟨⟨m+1,pr++[((pr.length:Int)+1,(j:Int)+1,x.1,y)],by omega,by simp,by simp,by simp;omega, ?_,hJ3,(hk2.alloc _).trans hk3,(hbx.up _).kept hk3 hw1⟩,by simp [intOf];omega⟩;rw [hlin2,hstep,Re,Rm,RA,show pr.length+1+(x.2.2.length-(m+1))=pr.length+(x.2.2.length-m) by omega];rfl
     ·gi_wp2;refine bodyPost_ret (results_none rfl _ _ _) rfl ?_;refine ⟨⟨_,rfl⟩, .inr ⟨pr++[((pr.length:Int)+1,(j:Int)+1,x.1,y)],⟨kv x.1 j (x.2.2.drop (m+1)) (pr.length+1)++hZ (N.drop (j+1)) (j+1) (pr.length+(x.2.2.length-m)), ?_⟩,hJx3⟩⟩;rw [hlin2,hstep,RA];rfl
    ·obtain rfl:m=x.2.2.length:=by omega
     gi_wp2;refine ⟨⟨j+1,pr,by omega,by simp,rfl,by omega, ?_,hJ2,hk2⟩,by simp [intOf];omega⟩;rw [hlin2,List.drop_length,kv,RM,Nat.sub_self,RR];simp
  ·obtain rfl:j=N.length:=by omega
   gi_wp2;go_end0;refine ⟨⟨_,rfl⟩, .inl ⟨pre, ?_,hJs⟩⟩;rw [hlin,List.drop_length];exact (RH _).symm
theorem Bt (F:Fence) (n:Nat) (hf:F.fn 237) (hro:F.round=none) (hn:1<=n) (Bn n₀:Nat) (v:Value) (N:List En) (hN:N.length<=1000000) (hi:InE N) (w:World) (hBn:Bn<w.heap.size) (hn₀:n₀<=w.heap.size)
 (hc:w.cell? ⟨Bn,0,none⟩=some v) (hL:EntsAt n₀ w v N):
 SeqStopsK F n Tryz.prog 237 #[.pointer (some ⟨Bn,0,none⟩)] P9 (Kc n₀ w.heap.size) (fun ys=>ys=aB N) (fun pre=>pre<+:aB N) (aB N).length w:=fun l J Jx W hW hJ _ hY h0=>by
 have hK:Kc n₀ w.heap.size w W:=⟨hW.size,fun b hb k v h=>(by
  rcases Nat.lt_or_ge b w.heap.size with hlt|hge
  ·exact (hW.cell (p:=⟨b,k,none⟩) hlt).trans h
  ·rw [ta hge] at h;cases h),fun b hb cur t f _ h=>absurd (Array.getElem?_eq_some_iff.1 h).1 (Nat.not_lt.2 hb)⟩
 exact KL F n hf hro hn l Bn n₀ w.heap.size v N hN hi J Jx hY (fun ps W' os _ h=>hJ ps _ _ none h (World.grownBy_alloc W' os none) (fun r e=>by cases e)) W hW.size hn₀ ((hW.cell (p:=⟨Bn,0,none⟩) hBn).trans hc) (hL.keep hK) h0
set_option maxHeartbeats 1000000 in
theorem Oa (F:Fence) (n:Nat) (hf:F.fn 211) (hro:F.round=none) (A:Option Addr) (len cap:Nat) (w:World):
 CallsIn F n Tryz.prog 211 #[.slice A len cap] w fun e w'=>e= .returned (.func (.func 237) #[] #[.pointer (some ⟨w.heap.size,0,none⟩)])/\w'=w.alloc (.cells #[.slice A len cap] 42):=by
 refine callsIn_of_wp Tryz.func211 rfl hf ?_ hro;simp only [Tryz.ntmps211,R4,Rj,RJ,Nat.reduceAdd,Nat.reduceSub,R5,R6,Sa,R_,RM,RP];gi_wp2;go_ret;exact ⟨rfl,rfl⟩
end Bks
end
section
namespace Bks
open Go Go.RowKit Go.Shelf Go.Proofs
attribute [local go_sem] Oper.semAt_some
theorem Kc.put {n₀ n₁:Nat} {W:World} {l:Nat} {o:_root_.Go.Obj} (o':_root_.Go.Obj) (hl:W.heap[l]? =some o) (ho:o.isCells=false):Kc n₀ n₁ W (W.putObj l o'):=
 ⟨by rw [World.putObj_size];exact Rf _,fun b hb k v h=>cell_kept h (grownBy_putObj' W l o') (fun r e=>(by cases e;exact ⟨o,hl,ho⟩)),fun b _ cur t f _ h=>
  (World.putObj_heap_other (fun e=>by subst e;rw [h] at hl;cases hl;cases ho)).trans h⟩
theorem Kc.below {n₀ n₁:Nat} {A B:World} (h:Below n₁ A B) (hs:A.heap.size<=n₁):Kc n₀ n₁ A B:=⟨h.size,fun b hb k v e=>(by
 rcases Nat.lt_or_ge b n₁ with hlt|hge
 ·exact (h.cell (p:=⟨b,k,none⟩) hlt).trans e
 ·rw [ta (Ro hs hge)] at e;cases e),fun b hb cur t f _ e=>absurd (Array.getElem?_eq_some_iff.1 e).1 (Nat.not_lt.2 (Ro hs hb))⟩
set_option maxRecDepth 100000 in
set_option maxHeartbeats 4000000 in
theorem Ob (F:Fence) (n:Nat) (h11:F.fn 183) (h42:F.fn 211) (h93:F.fn 237) (hro:F.round=none) (hn:4<=n) (v0 v1 v2 v3 v4:Value) (A:Option Addr) (cap:Nat) (N:List En) (hN:N.length<=1000000) (hi:InE N) (a:Int) (w:World) (hL:EntsAt w.heap.size w (.slice A N.length cap) N):
 CallsIn F n Tryz.prog 183 #[.agg #[v0,v1,v2,v3,v4, .slice A N.length cap], .int .i64 a] w fun e W'=>e= .returned (.bool (cg N a))/\Below w.heap.size w W':=by
 have h1:1<=n:=by omega
 refine callsIn_of_wp_marks Tryz.func183 rfl h11 ?_ hro;simp only [Tryz.ntmps183,R4,Rj,RJ,Nat.reduceAdd,Nat.reduceSub,R5,R6,Sa,R_,RM,RP];gi_wp2_with (gi_at_call 211;refine (Oa F (n-1) h42 hro _ _ _ _).mono ?_;rintro e w' ⟨rfl,rfl⟩);have hB0:Below w.heap.size w ((((w.alloc (.cells #[v0,v1,v2,v3,v4, .slice A N.length cap] 44)).alloc (.cells #[.int .i64 a] 3)).alloc (.cells #[.bool false] 4)).alloc (.cells #[.slice A N.length cap] 42)):=
  ((((Below.refl _ w).alloc (Rf _) _).alloc (by simp) _).alloc (by simp;omega) _).alloc (by simp;omega) _
 have hsz:((((w.alloc (.cells #[v0,v1,v2,v3,v4, .slice A N.length cap] 44)).alloc (.cells #[.int .i64 a] 3)).alloc (.cells #[.bool false] 4)).alloc (.cells #[.slice A N.length cap] 42)).heap.size=w.heap.size+4:=by simp
 have hca:((((w.alloc (.cells #[v0,v1,v2,v3,v4, .slice A N.length cap] 44)).alloc (.cells #[.int .i64 a] 3)).alloc (.cells #[.bool false] 4)).alloc (.cells #[.slice A N.length cap] 42)).cell? ⟨w.heap.size+1,0,none⟩=some (.int .i64 a):=
  jK _ (jK _ (by rw [World.cell?_alloc_at _ _ _ _ (by simp)];rfl))
 have hcr:=(Boxed.new ((w.alloc (.cells #[v0,v1,v2,v3,v4, .slice A N.length cap] 44)).alloc (.cells #[.int .i64 a] 3)) 4 (.bool false)).alloc (.cells #[.slice A N.length cap] 42);have hcs:((((w.alloc (.cells #[v0,v1,v2,v3,v4, .slice A N.length cap] 44)).alloc (.cells #[.int .i64 a] 3)).alloc (.cells #[.bool false] 4)).alloc (.cells #[.slice A N.length cap] 42)).cell? ⟨w.heap.size+1+1+1,0,none⟩=some (.slice A N.length cap):=by
  rw [World.cell?_alloc_at _ _ _ _ (by simp)];rfl
 simp only [World.size_alloc] at hcr;obtain ⟨W0,hW0⟩: ∃W0,(((w.alloc (.cells #[v0,v1,v2,v3,v4, .slice A N.length cap] 44)).alloc (.cells #[.int .i64 a] 3)).alloc (.cells #[.bool false] 4)).alloc (.cells #[.slice A N.length cap] 42)=W0:=⟨_,rfl⟩
 rw [hW0] at hB0 hsz hca hcr hcs⊢;clear hW0;have hL0:EntsAt w.heap.size W0 (.slice A N.length cap) N:=hL.keep (n₁:=w.heap.size) (Kc.below hB0 (Rf _));refine wpIn_rangeFunc_ownH hro h1 (gf:=237) (lb:= #[.pointer (some ⟨w.heap.size+1+1+1,0,none⟩)]) rfl h93 (enters_of Tryz.func237 (by kernel_rfl) rfl)
  (Bt F (n-1) h93 hro (by omega) (w.heap.size+1+1+1) w.heap.size _ N hN hi W0 (by omega) (by omega) hcs hL0) (fun h g=>Kc.trans h g) (fun W l o o' _ hl ho _=>Kc.put o' hl ho) (Below.refl _ _) (fun _=>rfl)
  (fun pre W=>(pre.any (kw a)=false/\W.cell? ⟨w.heap.size+1,0,none⟩=some (.int .i64 a)/\Boxed W (w.heap.size+1+1) 4 (.bool false))/\Below w.heap.size w W)
  (fun c pre W=>(c= .ret/\pre.any (kw a)=true/\Boxed W (w.heap.size+1+1) 4 (.bool true))/\Below w.heap.size w W)
  (OwnFrom.and (fun s X Y row hs hg hr=>⟨hs.1,cell_kept hs.2.1 hg (fun r e=>(hr r e).2),boxed_own _ _ (fun (_:Unit)=>Value.bool false) () X Y row hs.2.2 hg (fun r e=>(hr r e).2)⟩) (ownFrom_below (Rf _) (by omega)))
  (fun c=>OwnFrom.and (fun s X Y row hs hg hr=>⟨hs.1,hs.2.1,boxed_own _ _ (fun (_:Unit)=>Value.bool true) () X Y row hs.2.2 hg (fun r e=>(hr r e).2)⟩) (ownFrom_below (Rf _) (by omega)))
  ⟨⟨rfl,hca,hcr⟩,hB0⟩
  (fun x a' W=> ∃Bx,w.heap.size+1+1<Bx/\W.cell? ⟨Bx,4,none⟩=some (.int .i64 x.2.2.2.2.1)/\a'={tmps:= #[.agg #[v0,v1,v2,v3,v4, .slice A N.length cap], .int .i64 a, .pointer (some ⟨w.heap.size,0,none⟩), .pointer (some ⟨w.heap.size+1,0,none⟩), .pointer (some ⟨w.heap.size+1+1,0,none⟩), .pointer (some ⟨Bx,0,none⟩), .pointer (some ⟨w.heap.size,5,none⟩), .slice A N.length cap, .func (.func 237) #[] #[.pointer (some ⟨w.heap.size+1+1+1,0,none⟩)], .agg #[.int .i64 x.1, .int .i64 x.2.1, .int .i64 x.2.2.1, .int .i64 x.2.2.2.1, .int .i64 x.2.2.2.2.1, .int .i64 x.2.2.2.2.2.1, .int .i64 x.2.2.2.2.2.2],undef,undef,undef,undef,undef],defers:=[]})
  (fun x a' _ X Y row hs hg hr=>by obtain ⟨Bx,h1,h2,h3⟩:=hs;exact ⟨Bx,h1,cell_kept h2 hg (fun r e=>(hr r e).2),h3⟩)
  ?assign ?body ?done ?stop
 case assign=>
  rintro l pre x W K ⟨⟨hp,hc1,hc2⟩,hB1⟩ hK
  gi_wp2
  exact hK _ _ ((KeepsOthers.alloc _ _).from _) ((Kc.refl _ _ W).alloc _) ⟨⟨hp,jK _ hc1,hc2.alloc _⟩,hB1.alloc hB1.size _⟩ ⟨W.heap.size,hc2.lt,by rw [World.cell?_alloc_at _ _ _ _ rfl];rfl,rfl⟩
 case body=>
  rintro l pre x a' W hl ⟨r,hr⟩ ⟨⟨hp,hc1,hc2⟩,hB1⟩ ⟨Bx,hBx,hcx,rfl⟩ hlt
  have hc3:=hc2.cell
  have hf3:=hc2.frozen
  gi_wp2
  ·rename_i hx;exact ⟨(KeepsOthers.setCell _ _ _).from _,⟨rfl,by rw [List.any_append];simp [kw,eq_of_beq hx],hc2.set _⟩,hB1.setCell (p:=⟨w.heap.size+1+1,0,none⟩) (by simp;omega) _⟩
  ·rename_i hx;exact ⟨KeepsFrom.refl _ _,Kc.refl _ _ _,⟨by rw [List.any_append,hp];simpa [kw] using hx,hc1,hc2⟩,hB1⟩
 case done=>
  rintro D ys W hD rfl ⟨⟨hp,hc1,hc2⟩,hB1⟩ hK
  have hc3:=hc2.cell
  have hf3:=hc2.frozen
  gi_wp2
  have hK':=(KeepsOthers.setCell W ⟨w.heap.size+1+1,0,none⟩ (.bool false)).same D _ hK rfl
  refine ⟨by simp, .inl ⟨_,_,rfl,run_takeDeferred hK', ?_⟩⟩
  have hc5:=cell_kept (World.cell?_setCell_same' W ⟨w.heap.size+1+1,0,none⟩ (.bool false) (by rw [hc3];rfl)) (grownBy_putObj' _ D (.deferred none)) (fun r e=>by cases e;exact ⟨_,hK',rfl⟩)
  refine ⟨.bool false, ?_,by rw [show cg N a=false from hp],(hB1.setCell (p:=⟨w.heap.size+1+1,0,none⟩) (by simp;omega) _).trans (belowK_b (w:=w) (Rf _) _ D _ _ (by omega) hK' rfl rfl)⟩
  simp [results,Tryz.f183,go_sem,hc5]
 case stop=>
  rintro D c pre W hD hpre ⟨⟨rfl,hp,hc2⟩,hB1⟩ hK
  have hc3:=hc2.cell
  gi_wp2
  refine ⟨by simp, .inl ⟨_,_,rfl,run_takeDeferred hK, ?_⟩⟩
  have hc5:=cell_kept hc3 (grownBy_putObj' _ D (.deferred none)) (fun r e=>by cases e;exact ⟨_,hK,rfl⟩)
  have hu:cg N a=true:=by
   obtain ⟨q,hq,hq2⟩:=Sd.1 hp;exact Sd.2 ⟨q,hpre.subset hq,hq2⟩
  refine ⟨.bool true, ?_,by rw [hu],hB1.trans (belowK_b (w:=w) (Rf _) W D _ _ (by omega) hK rfl rfl)⟩
  simp [results,Tryz.f183,go_sem,hc5]
end Bks
end
section
namespace Bks
open Go.Vm
theorem db {P:Program} {f:FuncId} {args:List V} {r:V} (h: ∀(F:Fr) (w:World) (vs:List Value),Vm.Ground F w->RepL ⟨w,[],fun _=>none,F⟩ args vs->
 Calls P f vs.toArray w fun e w'=> ∃u,e= .returned u/\RowKit.Below w.heap.size w w'/\∀X,Rep X r u) (ho:own [] 60 r=some r) (hi:ids [] 60 r=[]):Pure P f args r:=by
 intro F w vs hF hr;refine (h F w vs hF hr).mono fun e w' ⟨u,he,hb,hru⟩=>⟨u,he,hb,[],fun _=>none,r,⟨fun id o h=>by simp [Store.get] at h,fun i j o o' b h=>by simp [Store.get] at h,fun id o b h=>by simp [Store.get] at h,fun b hb'=>hF.out b (Ro hb.size hb'),fun b hb'=>hF.out b hb',⟨fun e he=>by simp [hF.pin] at he,fun e he=>⟨(hb.block _ (hF.lt he)).trans (hF.gnd e he),fun h=>absurd (hF.lt he) (Nat.not_lt.2 h)⟩⟩⟩,hru _,ho,by rw [hi];exact .nil⟩
theorem KM {w:World} {G:Nat->Prop} (hG: ∀b,G b->b<w.heap.size) {L:List Ln} {row:List Value} (h:RepC w G (.slice LnT) L row): ∃v,row=[v]/\LinesAt w.heap.size w v L:=by
 obtain ⟨A,cap,rfl,_,hc⟩:=h;refine ⟨_,rfl,A,cap,rfl,fun h0=> ?_⟩;obtain ⟨b,o,rfl,hb,hx⟩:=hc h0;refine ⟨b,o,rfl,hG b hb,fun k x hk=> ?_⟩;obtain ⟨r,hr,bS⟩:=hx k x hk;obtain ⟨r1,r2,rfl,e1,r3,r4,rfl,e2,r5,r6,rfl,e3,e4⟩:=hr;cases e1;cases e2;cases e3;cases e4;exact ⟨bS 0 _ rfl,bS 1 _ rfl,bS 2 _ rfl,bS 3 _ rfl⟩
theorem Oc {F:Fr} {w:World} {u:Value} {N:List En} (h:Rep ⟨w,[],fun _=>none,F⟩ (.list .tmp EnT N) u):EntsAt w.heap.size w u N:=by
 obtain ⟨A,cap,rfl,⟨_,_,hc⟩,_⟩:=h.list_inv;refine ⟨A,cap,rfl,fun h0=> ?_⟩;obtain ⟨b,o,rfl,hb,hx⟩:=hc h0;refine ⟨b,o,rfl,hb.1.1.1,fun k x hk=> ?_⟩;obtain ⟨r,hr,bS⟩:=hx k x hk;obtain ⟨r1,r2,rfl,e1,r3,r4,rfl,e2,e3⟩:=hr;obtain ⟨v,rfl,hl⟩:=KM (fun b hb=>hb.1.1.1) e3;cases e1;cases e2;exact ⟨bS 0 _ rfl,bS 1 _ rfl,v,bS 2 _ rfl,hl⟩
theorem Gp (E:List Int) (A:List Acc.AcD) (S:List Ln) (R:List Rts.Rt) (K:List Lck.Lk) (N:List En) (a:Int) (h:Sm E A S R K N):Pure Tryz.prog 183 [.agg [.list .tmp I E, .list .tmp AcT A, .list .tmp LnT S, .list .tmp RTy R, .list .tmp Vl K, .list .tmp EnT N], .int .i64 a] (.bool (cg N a)):=by
 obtain ⟨_,_,_,_,_,l6,hi⟩:=h;refine db (fun F w vs hF hr=> ?_) rfl rfl;obtain ⟨u1,r1,rfl,a1,hr⟩:=hr.cons_inv;obtain ⟨u2,r2,rfl,a2,hr⟩:=hr.cons_inv;rw [hr.nil_inv,a2.int_inv];obtain ⟨vs,rfl,hs⟩:=a1.agg_inv;obtain ⟨l,rfl⟩: ∃l:List Value,vs=l.toArray:=⟨vs.toList,by simp⟩
 have hs:RepL _ _ l:=hs;obtain ⟨v0,q0,rfl,b0,hs⟩:=hs.cons_inv;obtain ⟨v1,q1,rfl,b1,hs⟩:=hs.cons_inv;obtain ⟨v2,q2,rfl,b2,hs⟩:=hs.cons_inv;obtain ⟨v3,q3,rfl,b3,hs⟩:=hs.cons_inv;obtain ⟨v4,q4,rfl,b4,hs⟩:=hs.cons_inv;obtain ⟨v5,q5,rfl,b5,hs⟩:=hs.cons_inv;obtain rfl:=hs.nil_inv;have hE:=Oc b5;obtain ⟨A',cap,rfl,_⟩:=id hE;refine (callsIn_wide (n:=9)).1 ((Ob Fence.wide 9 trivial trivial trivial rfl (by omega) v0 v1 v2 v3 v4 A' cap N l6 hi a w hE).mono ?_);rintro e w' ⟨rfl,hb⟩;exact ⟨_,rfl,hb,fun X=> .bool⟩
def CQ:FSpec Tryz.prog where
 f:=183
 run:=fun
  |[.agg [v0,v1,v2,v3,v4,v5], .int .i64 a]=>(asL I v0:Option (List Int)).bind fun E=>(asL AcT v1:Option (List Acc.AcD)).bind fun A=>(asL LnT v2:Option (List Ln)).bind fun S=>(asL RTy v3:Option (List Rts.Rt)).bind fun R=>(asL Vl v4:Option (List Lck.Lk)).bind fun K=>(asL EnT v5:Option (List En)).bind fun N=>some (Sm E A S R K N, .bool (cg N a))
  |_=>none
 ok:=fun args pre r h hp=>by
  split at h
  ·rename_i v0 v1 v2 v3 v4 v5 a;obtain ⟨E,h0,h⟩:=Ra.1 h;obtain ⟨A,h1,h⟩:=Ra.1 h;obtain ⟨S,h2,h⟩:=Ra.1 h;obtain ⟨R,h3,h⟩:=Ra.1 h;obtain ⟨K,h4,h⟩:=Ra.1 h;obtain ⟨N,h5,h⟩:=Ra.1 h;exact zU h hp fun h=>(Gp E A S R K N a h).weak (.cons (Weak.agg (.cons (aT h0) (.cons (aT h1) (.cons (aT h2) (.cons (aT h3) (.cons (aT h4) (.cons (aT h5) .nil))))))) (.cons (.refl _) .nil))
  ·cases h
end Bks
end
end
end Go.Proofs.YtabicbgeoiilmaaGreatDoor
