import Derived.RangeFuncNested
import Derived.RangeFuncBound
import Derived.RangeFuncCalls
import Derived.RangeFuncLeaves
import Derived.Shelf.Abstract
import Derived.Shelf.RegionOpen
import Derived.WalkKit
import Derived.OwnWalkIn
import Derived.TacticsInMore
import Derived.LoopNIn
import Derived.LoopIn
import Derived.Test.YtabicbgeoiilmaaGreatDoorCmd8
namespace Go.Proofs.YtabicbgeoiilmaaGreatDoor.Dry
open Go Go.RowKit Go.Shelf Go.Proofs
attribute [local go_sem] Oper.semAt_some
abbrev Tx:=List UInt8×Int
def bg:List Cm.CmD->List Tx
 |[]=>[]
 |c::r=>Cm.bU c::if (Cm.bU c).2=0 then bg r else []
theorem AA {L:List Cm.CmD} {j:Nat} {c:Cm.CmD} (h:L[j]? =some c):bg (L.drop j)=Cm.bU c::if (Cm.bU c).2=0 then bg (L.drop (j+1)) else []:=by
 obtain ⟨h1,h2⟩:=List.getElem?_eq_some_iff.1 h;rw [Rw h1,h2,bg]
theorem sw: ∀L:List Cm.CmD,(bg L).length<=L.length
 |[]=>Rf _
 |c::r=>by
  have:=sw r;rw [bg,Rj,Rj];split
  ·omega
  ·simp
abbrev PG (x:Tx):Array Value:= #[.string ⟨x.1.toArray⟩, .int .i64 x.2]
def KT (n₀:Nat) (A B:World):Prop:=A.heap.size<=B.heap.size/\∀b,b<n₀->B.heap[b]? =A.heap[b]?
theorem KT.refl (n:Nat) (A:World):KT n A A:=⟨Rf _,fun _ _=>rfl⟩
theorem KT.trans {n:Nat} {A B C:World} (h:KT n A B) (k:KT n B C):KT n A C:=⟨Ro h.1 k.1,fun b hb=>(k.2 b hb).trans (h.2 b hb)⟩
theorem KT.below {n m:Nat} {A B:World} (h:Below m A B) (hn:n<=m):KT n A B:=⟨h.size,fun b hb=>h.block b (by omega)⟩
theorem KT.alloc {n:Nat} (A:World) (o:_root_.Go.Obj) (hn:n<=A.heap.size):KT n A (A.alloc o):= .below (Below.alloc (Below.refl _ A) (Rf _) o) hn
theorem Jj {n:Nat} {A B:World} (h:Below n A B) (hn:A.heap.size<=n):A.grownBy B none:=⟨h.os,h.tape,h.output,h.size,fun k hk _=>h.block k (by omega)⟩
theorem mM {F:Vm.Fr} {A B:World} {n:Nat} (hG:Vm.Ground F A) (hn:A.heap.size=n) (h:KT n A B):Vm.Ground F B:=⟨fun b hb=>hG.out b (Ro h.1 hb),hG.pin,fun e he=>(h.2 _ (hn▸hG.lt he)).trans (hG.gnd e he)⟩
abbrev X0 (F:Vm.Fr) (W:World):Vm.Ctx:=⟨W,[],fun _=>none,F⟩
theorem M_ {F:Vm.Fr} {W:World} (hG:Vm.Ground F W):Vm.Inv (fun b=>W.heap.size<=b) (X0 F W):=
 ⟨fun id o h=>by simp [Vm.Store.get] at h,fun i j o o' b h=>by simp [Vm.Store.get] at h,fun id o b h=>by simp [Vm.Store.get] at h,fun b hb=>hG.out b hb,fun b hb=>hG.out b hb,
  ⟨fun e he=>by simp [hG.pin] at he,fun e he=>⟨hG.gnd e he,by have:=hG.lt he;omega⟩⟩⟩
theorem sx {P:Program} {F:Vm.Fr} {W:World} {f:FuncId} {args:List Vm.V} {r:Vm.V} {vs:List Value} (hp:Vm.Pure P f args r) (hG:Vm.Ground F W) (hr:Vm.RepL (X0 F W) args vs) (he:Vm.fZ (fun i=>i) 60 0 r=some (r,[],0)):
 Calls P f vs.toArray W fun e w'=> ∃u,e= .returned u/\Below W.heap.size W w'/\∃μ,Vm.Rep ⟨w',[],μ,F⟩ r u:=by
 have hI:=M_ hG;have hF:(X0 F W).outerF=F:=by
  obtain ⟨o,h,p,g⟩:=F;have:=hG.pin;simp only at this;subst this;simp [Vm.Ctx.outerF,Vm.Store.get]
 refine (hp F W vs hG hr).mono fun e w' ⟨u,e1,hb,hh⟩=> ?_;obtain ⟨μ,h1,h2,_⟩:=Vm.C1 hI (fun b hb=>hb) hb (by rw [hF];exact hh) (g:=fun i=>i) (fun i j h=>h) he rfl;exact ⟨u,e1,hb,μ,h2⟩
theorem Jk (t:ByteArray):t=⟨t.data.toList.toArray⟩:=by
 cases t;simp
theorem Jl {F:Vm.Fr} {W:World} {c:Cm.CmD} {row:List Value} (hG:Vm.Ground F W) (hc:Cm.InC c) (hr:Vm.RepC W (X0 F W).G Cm c row):
 Calls Tryz.prog 48 #[.agg row.toArray] W fun e w'=>e= .returned (.tuple #[.string ⟨(Cm.bU c).1.toArray⟩, .int .i64 (Cm.bU c).2])/\Below W.heap.size W w':=by
 have hp:Vm.Pure Tryz.prog 48 [.agg (Vm.enc Cm c)] (.tuple [.str (Cm.bU c).1, .int .i64 (Cm.bU c).2]):=by
  obtain ⟨k,a,b,c,d,s,q,⟨n,m⟩,l⟩:=c;exact Cm.HW.ok [.agg (Vm.enc Cm (k,a,b,c,d,s,q,(n,m),l))] _ _ rfl hc
 have hl:=Vm.ik (X:=X0 F W) hr;refine (sx hp hG (vs:=[.agg row.toArray]) (Vm.RepL.single (.agg hl.1 (fun j c u h1 h2=>hl.2 j c u h1 (by simpa using h2)))) rfl).mono ?_;rintro e w' ⟨u,rfl,hb,μ,hu⟩;obtain ⟨vs,rfl,hs⟩:=hu.tuple_inv;obtain ⟨l,rfl⟩: ∃l:List Value,vs=l.toArray:=⟨vs.toList,by simp⟩
 have hs:Vm.RepL _ _ l:=hs;obtain ⟨v0,q0,rfl,b0,hs⟩:=hs.cons_inv;obtain ⟨v1,q1,rfl,b1,hs⟩:=hs.cons_inv;obtain rfl:=hs.nil_inv;obtain ⟨t,rfl,ht⟩:=b0.str_inv;rw [b1.int_inv];refine ⟨?_,hb⟩;rw [Jk t,ht]
theorem Q4 {F:Vm.Fr} {A B:World} (h:KT A.heap.size A B) (b:Nat) (hb:(X0 F A).G b):(X0 F B).G b/\B.heap[b]? =A.heap[b]? :=⟨⟨⟨⟨SD hb.1.1.1 h.1,fun id o h=>by simp [Vm.Store.get] at h⟩,hb.1.2⟩,hb.2⟩,h.2 b hb.1.1.1⟩
theorem Jm {w:World} {G:Nat->Prop} {c:Cm.CmD} {row:List Value} (h:Vm.RepC w G Cm c row): ∃v,row=[.int .i64 c.1, .int .i64 c.2.1, .int .i64 c.2.2.1, .int .i64 c.2.2.2.1, .int .i64 c.2.2.2.2.1, .bool c.2.2.2.2.2.1, .bool c.2.2.2.2.2.2.1, .int .i64 c.2.2.2.2.2.2.2.1.1, .int .i64 c.2.2.2.2.2.2.2.1.2,v]/\∃A n k,v= .slice A n k:=by
 obtain ⟨r1,q1,rfl,e1,r2,q2,rfl,e2,r3,q3,rfl,e3,r4,q4,rfl,e4,r5,q5,rfl,e5,r6,q6,rfl,e6,r7,q7,rfl,e7,q8,r10,rfl,⟨r8,r9,rfl,e8,e9⟩,A,k,rfl,_⟩:=h;cases e1;cases e2;cases e3;cases e4;cases e5;cases e6;cases e7;cases e8;cases e9;exact ⟨_,rfl,_,_,_,rfl⟩
set_option maxRecDepth 100000 in
set_option maxHeartbeats 4000000 in
theorem Fi (n:Nat) (hn:1<=n) (l Bn:Nat) (A:Option Addr) (cap:Nat) (L:List Cm.CmD) (hN:L.length<=10000) (hin: ∀c∈L,Cm.InC c) {Fc:Vm.Fr} {w0:World} (hG:Vm.Ground Fc w0)
 (hS:0<L.length->∃b o,A=some ⟨b,o,none⟩/\b<w0.heap.size/\∀(i:Nat) (x:Cm.CmD),L[i]? =some x->∃row,Vm.RepC w0 (X0 Fc w0).G Cm x row/\∀(j:Nat) (u:Value),row[j]? =some u->w0.cell? ⟨b,o+i*10+j,none⟩=some u)
 (J Jx:List Tx->World->Prop)
 (hY: ∀pre x W,J pre W->KT w0.heap.size w0 W->pre++[x]<+:bg L->YieldAt Fence.wide (n-1) Tryz.prog l (PG x) W fun e W'=>
  (e= .returned (.bool true)/\J (pre++[x]) W'/\KT w0.heap.size W W')∨(e= .returned (.bool false)/\Jx (pre++[x]) W'))
 (hJ: ∀ps W W',KT w0.heap.size w0 W->J ps W->Below W.heap.size W W'->J ps W')
 (W:World) (hK:KT w0.heap.size w0 W) (hBn:W.cell? ⟨Bn,0,none⟩=some (.slice A L.length cap)) (h0:J [] W):
 CallsIn Fence.wide n Tryz.prog 47 #[.func (.yield l) #[] #[], .pointer (some ⟨Bn,0,none⟩)] W fun e W'=>(∃v,e= .returned v)/\
  (J (bg L) W'∨(∃pre,pre<+:bg L/\Jx pre W')):=by
 have hro:Fence.wide.round=none:=rfl;have hfp:Fence.wide.fn 48:=trivial;refine callsIn_of_wp Tryz.func47 rfl trivial ?_ hro;simp only [Tryz.ntmps47,R4,Rj,RJ,Nat.reduceAdd,Nat.reduceSub,R5,R6,Sa,R_,RM,RP];gi_wp2;gi_loopw [9] (fun i wr=> ∃(j:Nat) (pre:List Tx),j<=L.length/\i= .int .i64 j/\bg L=pre++bg (L.drop j)/\J pre wr/\KT w0.heap.size w0 wr)
  (fun i _=>L.length-(intOf i).toNat)
 case atStart=>
  exact ⟨0,[],RV _,rfl,rfl,h0,hK⟩
 case round=>
  obtain ⟨j,pre,hj,rfl,hlin,hJs,hk⟩:=hrel
  by_cases hlt:j<L.length
  ·obtain ⟨b,o,rfl,hb,hx⟩:=hS (by omega);have hnj:L[j]? =some L[j]:=List.getElem?_eq_getElem hlt;generalize L[j]=x at hnj;obtain ⟨row,hrow,hc⟩:=hx j x hnj;have hxi:=hin x (Rr hnj);obtain ⟨v9,hre,A9,n9,k9,rfl⟩:=Jm hrow;subst hre;have hcc: ∀(q:Nat) (u:Value),_=some u->wr.cell? ⟨b,o+j*10+q,none⟩=some u:=fun q u hu=>(Vm.dO (hk.2 b hb)).trans (hc q u hu);have d0:wr.cell? ⟨b,o+j*10,none⟩=some (.int .i64 x.1):=hcc 0 _ rfl;have d1:=hcc 1 _ rfl;have d2:=hcc 2 _ rfl;have d3:=hcc 3 _ rfl;have d4:=hcc 4 _ rfl;have d5:=hcc 5 _ rfl;have d6:=hcc 6 _ rfl;have d7:=hcc 7 _ rfl;have d8:=hcc 8 _ rfl;have d9:=hcc 9 _ rfl;clear hcc hc;have hstep:=AA hnj;have hrow1: ∀W1,KT w0.heap.size w0 W1->Vm.RepC W1 (X0 Fc W1).G Cm x _:=fun W1 h1=>hrow.keep (Q4 h1);have hpr: ∀W1,KT w0.heap.size w0 W1->_:=fun W1 h1=>Jl (mM hG rfl h1) hxi (hrow1 W1 h1);clear hrow1 hrow hxi;rw [hstep] at hlin;have hpx:pre++[Cm.bU x]<+:bg L:=⟨_,by rw [hlin,RA];rfl⟩
   generalize hpe:Cm.bU x=y at hpr hlin hpx;obtain ⟨s,e⟩:=y;dsimp only at hpr hlin;have hw0:w0.heap.size<=wr.heap.size:=hk.1;gi_wp2_with (gi_at_call 48;refine ((callsIn_wide (n:=n-1)).2 (hpr _ (hk.trans (KT.alloc _ _ hw0)))).mono ?_;rintro e w2 ⟨rfl,hb2⟩;obtain ⟨fn,tmps,assign,body,hy,hR⟩:=hY pre (s,e) w2 (hJ _ _ _ (hk.trans (KT.alloc _ _ hw0)) (hJ _ _ _ hk hJs (Below.alloc (Below.refl _ _) (Rf _) _)) hb2) ((hk.trans (KT.alloc _ _ hw0)).trans (.below hb2 (by rw [World.size_alloc];omega))) hpx;dsimp only [PG] at hy);have hw2:w0.heap.size<=w2.heap.size:=by have:=hb2.size;rw [World.size_alloc] at this;omega
   refine hR.mono ?_;rintro e' W3 (⟨rfl,hJ3,hk3⟩|⟨rfl,hJx3⟩)
   ·by_cases hz:e=0
    ·subst hz;gi_wp2;refine ⟨⟨j+1,pre++[(s,0)],by omega,by simp, ?_,hJ3,((hk.trans (KT.alloc _ _ hw0)).trans (.below hb2 (by rw [World.size_alloc];omega))).trans hk3⟩,by simp [intOf];omega⟩;rw [hlin,Q_ trivial,RA];rfl
    ·have hz2:(e !=0)=true:=by simpa using hz
     gi_wp2;refine bodyPost_ret (results_none rfl _ _ _) rfl ?_;refine ⟨⟨_,rfl⟩, .inl ?_⟩;rw [hlin,Q8 hz];exact hJ3
   ·gi_wp2;refine bodyPost_ret (results_none rfl _ _ _) rfl ?_;exact ⟨⟨_,rfl⟩, .inr ⟨pre++[(s,e)],hpx,hJx3⟩⟩
  ·obtain rfl:j=L.length:=by omega
   gi_wp2;go_end0;refine ⟨⟨_,rfl⟩, .inl ?_⟩;rw [hlin,List.drop_length];simpa [bg] using hJs
abbrev Fj (L:List Cm.CmD):={x:Tx//x∈bg L}
abbrev txV {L:List Cm.CmD} (l:List (Fj L)):List Tx:=l.map (·.1)
theorem uB (n:Nat) (hn:1<=n) (Bn:Nat) (A:Option Addr) (cap:Nat) (L:List Cm.CmD) (hN:L.length<=10000) (hin: ∀c∈L,Cm.InC c) {Fc:Vm.Fr} {w0:World} (hG:Vm.Ground Fc w0)
 (hS:0<L.length->∃b o,A=some ⟨b,o,none⟩/\b<w0.heap.size/\∀(i:Nat) (x:Cm.CmD),L[i]? =some x->∃row,Vm.RepC w0 (X0 Fc w0).G Cm x row/\∀(j:Nat) (u:Value),row[j]? =some u->w0.cell? ⟨b,o+i*10+j,none⟩=some u)
 (w:World) (hK:KT w0.heap.size w0 w) (hB:Bn<w.heap.size) (hBn:w.cell? ⟨Bn,0,none⟩=some (.slice A L.length cap)):
 SeqStopsK Fence.wide n Tryz.prog 47 #[.pointer (some ⟨Bn,0,none⟩)] (fun x:Fj L=>PG x.1) (KT w0.heap.size) (fun ys=>txV ys=bg L) (fun pre=>txV pre<+:bg L) (bg L).length w:=fun l J Jx W hW hJ _ hY h0=>by
 have hKW:=hK.trans (.below hW hK.1);refine (Fi n hn l Bn A cap L hN hin hG hS (fun pre W=> ∃p:List (Fj L),txV p=pre/\J p W) (fun pre W=> ∃p:List (Fj L),txV p=pre/\Jx p W) ?_ ?_ W hKW ((hW.cell (p:=⟨Bn,0,none⟩) hB).trans hBn) ⟨[],rfl,h0⟩).mono ?_
 ·rintro pre x W1 ⟨p,rfl,hp⟩ hk1 hpx;have hlen:p.length<(bg L).length:=by
   have:=hpx.length_le;simp only [txV,Re,RI,Rj,RJ] at this;omega
  obtain ⟨fn,tmps,assign,body,hy,hR⟩:=hY p ⟨x,hpx.subset (by simp)⟩ W1 hp hlen;refine ⟨fn,tmps,assign,body,hy,hR.mono ?_⟩;rintro e W' (⟨h1,h2,h3⟩|⟨h1,h2⟩)
  ·exact .inl ⟨h1,⟨_,by simp [txV],h2⟩,h3⟩
  ·exact .inr ⟨h1,⟨_,by simp [txV],h2⟩⟩
 ·rintro ps W1 W2 _ ⟨p,hp,h⟩ hb;exact ⟨p,hp,hJ _ _ _ none h (Jj hb (Rf _)) (fun r e=>by cases e)⟩
 ·rintro e W' ⟨h1,h2⟩;refine ⟨h1, ?_⟩;rcases h2 with ⟨p,hp,h3⟩|⟨pre,h2,p,rfl,h3⟩
  ·exact .inl ⟨p,hp,h3⟩
  ·exact .inr ⟨p,h2,h3⟩
set_option maxHeartbeats 1000000 in
theorem Jn (F:Fence) (n:Nat) (hf:F.fn 22) (hro:F.round=none) (A:Option Addr) (len cap:Nat) (w:World):
 CallsIn F n Tryz.prog 22 #[.slice A len cap] w fun e w'=>e= .returned (.func (.func 47) #[] #[.pointer (some ⟨w.heap.size,0,none⟩)])/\w'=w.alloc (.cells #[.slice A len cap] 22):=by
 refine callsIn_of_wp Tryz.func22 rfl hf ?_ hro;simp only [Tryz.ntmps22,R4,Rj,RJ,Nat.reduceAdd,Nat.reduceSub,R5,R6,Sa,R_,RM,RP];gi_wp2;go_ret;exact ⟨rfl,rfl⟩
end Go.Proofs.YtabicbgeoiilmaaGreatDoor.Dry
