import Derived.Test.YtabicbgeoiilmaaGreatDoorEnc2
import Derived.Test.YtabicbgeoiilmaaGreatDoorCmd12
namespace Go.Proofs.YtabicbgeoiilmaaGreatDoor.Dry
open Go Go.RowKit Go.Shelf Go.Proofs
attribute [local go_sem] Oper.semAt_some
theorem Jr {c:Cm.CmD} (h:Cm.InC c) (h50:(Cm.aB c).length<=50):(Cm.gE c).length<=9000:=by
 have h1:=Cm.fo c.1;have h2:=Cm.Ek (Cm.Mm h h50);have h3:(Cm.nH c).length<=207:=by
  unfold Cm.nH;have h1:=Cm.fk c.1;have h2:=Cm.jr (l:=Cm.aB c) (i:=(Cm.aB c).length);rw [Ss] at h2;rw [Re,RI];split
  ·rw [Rj];omega
  ·simp only [RJ];omega
 unfold Cm.gE;rw [Re];omega
theorem Fm {c:Cm.CmD} (h:Cm.InC c):(Cm.bU c).1.length<=9000:=by
 unfold Cm.bU;split
 ·rename_i hc;refine Jr h ?_;unfold Cm.ah at hc;split at hc
  ·cases hc
  ·split at hc
   ·cases hc
   ·omega
 ·simp
def cF (T:List Tx):List UInt8:=T.flatMap fun x=>x.1++[10]
theorem Js (T U:List Tx):cF (T++U)=cF T++cF U:=List.flatMap_append
theorem xr: ∀{T:List Tx},(∀x∈T,x.1.length<=9000)->(cF T).length<=9001*T.length
 |[],_=>by simp [cF]
 |x::r,h=>by
  have h1:=xr (T:=r) (fun y hy=>h y (Rq _ hy));have h2:=h x RF;have e:cF (x::r)=(x.1++[10])++cF r:=by simp [cF]
  rw [e];simp only [Re,Rj,RJ];omega
theorem Fo {L:List Cm.CmD} (h: ∀c∈L,Cm.InC c): ∀x∈bg L,x.1.length<=9000:=by
 induction L with
 |nil=>intro x hx;cases hx
 |cons c r ih=>
  intro x hx;rw [bg] at hx;rcases Rp.1 hx with rfl|hx
  ·exact Fm (h c RF)
  ·split at hx
   ·exact ih (fun d hd=>h d (Rq _ hd)) x hx
   ·cases hx
abbrev gG:List UInt8:=[108,111,103,32]
def dy (L:List Cm.CmD):List UInt8:=gG++Lib.itoa L.length++[10]
def zT (x:Tx):Bool:=decide (x.2≠0)
def bb (L:List Cm.CmD):List UInt8×Int:=
 if 10000<L.length then ([],3) else match (bg L).find? zT with
  |some x=>([],x.2)
  |none=>if 1000000<(dy L++cF (bg L)).length then ([],3) else (dy L++cF (bg L),0)
theorem Fp {F:Vm.Fr} {W:World} {n:Int} (hG:Vm.Ground F W) (hn:InI n):
 Calls Tryz.prog 21 #[.int .i64 n] W fun e w'=>e= .returned (.string ⟨(Lib.itoa n).toArray⟩)/\Below W.heap.size W w':=by
 refine (sx (jZ n hn) hG (vs:=[.int .i64 n]) (.cons .int .nil) rfl).mono ?_;rintro e w' ⟨u,rfl,hb,μ,hu⟩;obtain ⟨t,rfl,ht⟩:=hu.str_inv;refine ⟨?_,hb⟩;rw [Jk t,ht]
theorem sy {W:World} {n:Nat} {v0 v1 x y:Value} {t0 t1:TypeId} (h0:W.heap[n]? =some (.cells #[v0] t0 (0,0))) (h1:W.heap[n+1]? =some (.cells #[v1] t1 (0,0))):
 ((W.setCell ⟨n,0,none⟩ x).setCell ⟨n+1,0,none⟩ y).cell? ⟨n,0,none⟩=some x/\((W.setCell ⟨n,0,none⟩ x).setCell ⟨n+1,0,none⟩ y).cell? ⟨n+1,0,none⟩=some y:=by
 constructor<;>simp [World.cell?,World.setCell,Array.getElem?_modify,h0,h1]
set_option maxRecDepth 100000 in
set_option maxHeartbeats 4000000 in
theorem Na (n:Nat) (A:Option Addr) (len cap:Nat) (hbig:10000<len) (w:World):
 CallsIn Fence.wide n Tryz.prog 9 #[.slice A len cap] w fun e W'=>e= .returned (.tuple #[.string ⟨([]:List UInt8).toArray⟩, .int .i64 3])/\Below w.heap.size w W':=by
 have hro:Fence.wide.round=none:=rfl;refine callsIn_of_wp_marks Tryz.func9 rfl trivial ?_ hro;simp only [Tryz.ntmps9,R4,Rj,RJ,Nat.reduceAdd,Nat.reduceSub,R5,R6,Sa,R_,RM,RP];have hb:decide ((len:Int)>10000)=true:=RB (by omega);gi_wp2;refine ⟨.tuple #[.string ⟨#[]⟩, .int .i64 3], ?_,rfl,((Below.refl _ w).alloc (Rf _) _).alloc (by simp) _⟩;have k1:((w.alloc (.cells #[.string ⟨#[]⟩] 9)).alloc (.cells #[.int .i64 3] 25)).cell? ⟨w.heap.size,0,none⟩=some (.string ⟨#[]⟩):=cell_kept (by rw [World.cell?_alloc_at _ _ _ _ rfl];rfl) (World.grownBy_alloc _ _ none) (fun r e=>by cases e);have k2:((w.alloc (.cells #[.string ⟨#[]⟩] 9)).alloc (.cells #[.int .i64 3] 25)).cell? ⟨w.heap.size+1,0,none⟩=some (.int .i64 3):=by rw [World.cell?_alloc_at _ _ _ _ (by simp)];rfl
 simp [results,Tryz.f9,go_sem,k1,k2]
set_option maxRecDepth 100000 in
set_option maxHeartbeats 4000000 in
theorem PJ (n:Nat) (hn:8<=n) (A:Option Addr) (cap:Nat) (L:List Cm.CmD) (hN:L.length<=10000) (hin: ∀c∈L,Cm.InC c) {Fc:Vm.Fr} {w:World} (hG:Vm.Ground Fc w)
 (hS:0<L.length->∃b o,A=some ⟨b,o,none⟩/\b<w.heap.size/\∀(i:Nat) (x:Cm.CmD),L[i]? =some x->∃row,Vm.RepC w (X0 Fc w).G Cm x row/\∀(j:Nat) (u:Value),row[j]? =some u->w.cell? ⟨b,o+i*10+j,none⟩=some u):
 CallsIn Fence.wide n Tryz.prog 9 #[.slice A L.length cap] w fun e W'=>e= .returned (.tuple #[.string ⟨(bb L).1.toArray⟩, .int .i64 (bb L).2])/\Below w.heap.size w W':=by
 have h1:1<=n:=by omega
 have h2:1<=n-1:=by omega
 have hro:Fence.wide.round=none:=rfl;have hf1:Fence.wide.fn 21:=trivial;have hf2:Fence.wide.fn 20:=trivial;have hf3:Fence.wide.fn 22:=trivial;have hf4:Fence.wide.fn 47:=trivial;have hf5:Fence.wide.fn 23:=trivial;have hf6:Fence.wide.fn 24:=trivial;have hLi:InI (L.length:Int):=⟨by omega,by omega⟩
 refine callsIn_of_wp_marks Tryz.func9 rfl trivial ?_ hro;simp only [Tryz.ntmps9,R4,Rj,RJ,Nat.reduceAdd,Nat.reduceSub,R5,R6,Sa,R_,RM,RP];have hb:decide ((L.length:Int)>10000)=false:=Rs (by omega);have hdig: ∀W1,KT w.heap.size w W1->_:=fun W1 hk=>Fp (mM hG rfl hk) hLi;have hil:=ld hLi;obtain ⟨W3,hW3⟩: ∃W3,((w.alloc (.cells #[.string ⟨#[]⟩] 9)).alloc (.cells #[.int .i64 0] 25)).alloc (.cells #[.pointer none, .slice none 0 0] 62)=W3:=⟨_,rfl⟩
 have hW3s:W3.heap.size=w.heap.size+3:=by rw [<-hW3];simp
 have hB3:Below w.heap.size w W3:=by
  rw [<-hW3];exact (((Below.refl _ w).alloc (Rf _) _).alloc (by simp) _).alloc (by simp;omega) _
 have hc2:W3.heap[w.heap.size]? =some (.cells #[.string ⟨#[]⟩] 9 (0,0)):=by
  rw [<-hW3];exact (Below.heap_alloc _ _ _ (by simp;omega)).trans ((Below.heap_alloc _ _ _ (by simp)).trans (World.alloc_heap_new w _))
 have hc3:W3.heap[w.heap.size+1]? =some (.cells #[.int .i64 0] 25 (0,0)):=by
  rw [<-hW3];exact (Below.heap_alloc _ _ _ (by simp)).trans (by have:=World.alloc_heap_new (w.alloc (.cells #[.string ⟨#[]⟩] 9)) (.cells #[.int .i64 0] 25);rwa [World.size_alloc] at this)
 have hc4:W3.heap[w.heap.size+1+1]? =some (.cells #[.pointer none, .slice none 0 0] 62 (0,0)):=by
  rw [<-hW3];have:=World.alloc_heap_new ((w.alloc (.cells #[.string ⟨#[]⟩] 9)).alloc (.cells #[.int .i64 0] 25)) (.cells #[.pointer none, .slice none 0 0] 62);simpa only [World.size_alloc] using this
 have hhead:({data:= #[108,111,103,32]}++{data:=(Lib.itoa (L.length:Int)).toArray}++{data:= #[10]}:ByteArray)=⟨(dy L).toArray⟩:=by
  apply ByteArray.ext;simp [dy,gG]
 have hwr: ∀w1,Below W3.heap.size W3 w1->_:=fun w1 hb1=>PI (F:=Fc) (n1:=w.heap.size+2) (b4:=w.heap.size+1+1) (s:=dy L) (W:=w1) (mM hG rfl ((KT.below hB3 (Rf _)).trans (.below hb1 (by omega)))) (fun e he=>by have:=hG.lt he;omega) (fun b hb=>hG.out b (by omega)) (by omega) ((hb1.block _ (by omega)).trans hc4) (by simp only [dy,gG,Re,Rj,RJ];omega);rw [<-hhead] at hwr;gi_wp2_with (first|(gi_at_call 21;refine ((callsIn_wide (n:=n-1)).2 (hdig _ (KT.below hB3 (Rf _)))).mono ?_;rintro e w1 ⟨rfl,hb1⟩)|(gi_at_call 20;refine ((callsIn_wide (n:=n-1)).2 (hwr _ (by assumption))).mono ?_;rintro e w2 ⟨⟨u,rfl⟩,hBI,hb2,hk2⟩)|(gi_at_call 22;refine (Jn Fence.wide (n-1) hf3 hro _ _ _ _).mono ?_;rintro e w' ⟨rfl,rfl⟩));all_goals try omega
 have hB12:Below (w.heap.size+2) W3 w2:=(hb1.mono (by omega)).trans hb2;have hw2:w.heap.size+3<=w2.heap.size:=by have:=hb1.size;have:=hb2.size;omega
 obtain ⟨W0,hW0⟩: ∃W0,w2.alloc (.cells #[.slice A L.length cap] 22)=W0:=⟨_,rfl⟩
 have hW0s:W0.heap.size=w2.heap.size+1:=by rw [<-hW0];simp
 have hA0:Below w2.heap.size w2 W0:=by rw [<-hW0];exact (Below.refl _ w2).alloc (Rf _) _
 have hB0:Below w.heap.size w W0:=hB3.trans ((hB12.trans (hA0.mono (by omega))).mono (by omega));have hBI0:=hBI.lift hA0;have hBn:W0.cell? ⟨w2.heap.size,0,none⟩=some (.slice A L.length cap):=by rw [<-hW0,World.cell?_alloc_at _ _ _ _ rfl];rfl
 have h20:W0.heap[w.heap.size]? =some (.cells #[.string ⟨#[]⟩] 9 (0,0)):=(hA0.block _ (by omega)).trans ((hB12.block _ (by omega)).trans hc2);have h30:W0.heap[w.heap.size+1]? =some (.cells #[.int .i64 0] 25 (0,0)):=(hA0.block _ (by omega)).trans ((hB12.block _ (by omega)).trans hc3);rw [hW0];clear hW0 hwr hdig hhead hBI hb1 hb2 hk2 hB12 hA0 hB3 hc2 hc3 hc4 hW3 hW3s;have hcW: ∀X,Below (w.heap.size+2) W0 X->X.cell? ⟨w.heap.size,0,none⟩=some (.string ⟨#[]⟩)/\X.frozen? ⟨w.heap.size,0,none⟩=false/\X.cell? ⟨w.heap.size+1,0,none⟩=some (.int .i64 0)/\X.frozen? ⟨w.heap.size+1,0,none⟩=false:=fun X hX=>by
  have a2:=(hX.block w.heap.size (by omega)).trans h20;have a3:=(hX.block (w.heap.size+1) (by omega)).trans h30;refine ⟨?_, ?_, ?_, ?_⟩<;>simp [World.cell?,World.frozen?,a2,a3]
 have hx9: ∀x∈bg L,x.1.length<=9000:=Fo hin;have hTl:(bg L).length<=10000:=Ro (sw L) hN;have hdl: ∀pre:List (Fj L),pre.length<=10000->(dy L++cF (txV pre)).length<=90100000:=fun pre hp=>by
  have:=xr (T:=txV pre) (fun x hx=>by obtain ⟨y,_,rfl⟩:=RS.1 hx;exact hx9 _ y.2);have e:(txV pre).length=pre.length:=RI ..;rw [e] at this;simp only [dy,gG,Re,Rj,RJ];omega
 refine wpIn_rangeFunc_ownH hro h1 (gf:=47) (lb:= #[.pointer (some ⟨w2.heap.size,0,none⟩)]) rfl hf4 (enters_of Tryz.func47 (by kernel_rfl) rfl)
  (uB (n-1) h2 w2.heap.size A cap L hN hin hG hS W0 (KT.below hB0 (Rf _)) (by omega) hBn)
  (fun h g=>KT.trans h g) (fun W l o o' hl ho _ _=>⟨by rw [World.putObj_size];exact Rf _,fun b hb=>World.putObj_heap_other (by omega)⟩) (Below.refl _ _) (fun _=>rfl)
  (fun pre W=>BI Fc (w.heap.size+2) (w.heap.size+1+1) (byD (dy L++cF (txV pre))) W/\(∀x∈txV pre,zT x=false)/\Below (w.heap.size+2) W0 W)
  (fun c pre W=>c= .ret/\(∃x,(txV pre).find? zT=some x/\W.cell? ⟨w.heap.size,0,none⟩=some (.string ⟨#[]⟩)/\W.cell? ⟨w.heap.size+1,0,none⟩=some (.int .i64 x.2))/\Below w.heap.size W0 W)
  ?hI ?hIx ?h0
  (fun x a' W=>a'={tmps:= #[.slice A L.length cap,undef, .pointer (some ⟨w.heap.size,0,none⟩), .pointer (some ⟨w.heap.size+1,0,none⟩), .pointer (some ⟨w.heap.size+1+1,0,none⟩), .string ⟨x.1.1.toArray⟩, .int .i64 x.1.2, .slice A L.length cap, .int .i64 L.length, .bool false, .slice A L.length cap, .int .i64 L.length, .string ⟨(Lib.itoa (L.length:Int)).toArray⟩, .string ({data:= #[108,111,103,32]}++{data:=(Lib.itoa (L.length:Int)).toArray}), .string ⟨(dy L).toArray⟩,u, .slice A L.length cap, .func (.func 47) #[] #[.pointer (some ⟨w2.heap.size,0,none⟩)], .string ⟨x.1.1.toArray⟩, .int .i64 x.1.2,undef,undef,undef,undef,undef,undef,undef,undef,undef],defers:=[]})
  (fun x a' _ X Y row hs hg hr=>hs)
  ?assign ?body ?done ?stop
 case hI=>
  intro s X Y row hs hg hr
  have hlt:=hs.1.lt
  have hsz:=hs.2.2.size
  have hne: ∀k,(∀o,X.heap[k]? =some o->o.isCells=true)->some k≠row:=fun k hc e=>by
   obtain ⟨_,o,ho,hnc⟩:=hr k e.symm;rw [hc o ho] at hnc;cases hnc
  refine ⟨hs.1.grown hg.size (fun k o ho hc=>(hg.block k (Array.getElem?_eq_some_iff.1 ho).1 (hne k (fun o' ho'=>by rw [ho] at ho';cases ho';exact hc))).trans ho) (fun b hb=>hg.block b (by omega) (fun e=>by have:=(hr b e.symm).1;omega)),hs.2.1,hs.2.2.grown hg (by omega) (fun k e=>by have:=(hr k e).1;omega)⟩
 case hIx=>
  intro c s X Y row hs hg hr
  obtain ⟨rfl,⟨x,a1,a2,a3⟩,a4⟩:=hs
  exact ⟨rfl,⟨x,a1,cell_kept a2 hg (fun r e=>(hr r e).2),cell_kept a3 hg (fun r e=>(hr r e).2)⟩,a4.grown hg (by have:=a4.size;omega) (fun k e=>by have:=(hr k e).1;omega)⟩
 case h0=>
  refine ⟨?_,fun x hx=>by simp [txV] at hx,Below.refl _ _⟩
  rw [show dy L++cF (txV ([]:List (Fj L)))=dy L from RH _]
  exact hBI0
 case assign=>
  rintro l pre x W K hI hK
  gi_wp2
  exact hK _ _ (KeepsFrom.refl _ _) (KT.refl _ _) hI rfl
 case body=>
  rintro l pre ⟨⟨s,e⟩,hxm⟩ a' W hl ⟨r,hr⟩ ⟨b1,b2,b3⟩ rfl hlt
  obtain ⟨e1,e2,e3,e4⟩:=hcW W b3
  have hs9:=hx9 _ hxm
  dsimp only at hs9
  by_cases hz:e=0
  ·subst hz;gi_wp2;all_goals try omega
   refine ⟨fun _=>by omega, ?_⟩;have hd:=hdl pre (by omega);refine CallsIn.mono (show CallsIn (Fence.wide.inRound l) _ _ _ _ _ _ from (callsIn_wide (n:=n-1-1-1)).2 (b1.write (s:=s++[10]) hG.pin (by rw [Re];simp only [Rj,RJ];omega))) ?_;rintro e' W2 ⟨⟨u2,rfl⟩,c1,c2,c3⟩;gi_wp2;have et:txV (pre++[⟨(s,0),hxm⟩])=txV pre++[(s,0)]:=by simp [txV]
   refine ⟨c3.from _,KT.below c2 (by omega), ?_,fun y hy=> ?_,b3.trans c2⟩
   ·rw [et,Js,show cF [((s,0):Tx)]=s++[10] by simp [cF],<-RA];exact c1
   ·rw [et] at hy;rcases Rn.1 hy with hy|hy
    ·exact b2 y hy
    ·rw [Ru.1 hy];rfl
  ·have hz2:(e !=0)=true:=by simpa using hz
   gi_wp2;have et:txV (pre++[⟨(s,e),hxm⟩])=txV pre++[(s,e)]:=by simp [txV]
   obtain ⟨k1,k2⟩:=sy (x:= .string ⟨#[]⟩) (y:= .int .i64 e) ((b3.block w.heap.size (by omega)).trans h20) ((b3.block (w.heap.size+1) (by omega)).trans h30);refine ⟨((KeepsOthers.setCell _ _ _).trans (KeepsOthers.setCell _ _ _)).from _,rfl,⟨(s,e), ?_,k1,k2⟩,((b3.mono (by omega)).setCell (by simp) _).setCell (by simp) _⟩;rw [et,List.find?_append,List.find?_eq_none.2 (fun y hy=>by rw [b2 y hy];decide)];simp [zT,hz]
 case done=>
  rintro D ys W hD hys ⟨b1,b2,b3⟩ hK
  rw [hys] at b1 b2
  have hfn:(bg L).find? zT=none:=List.find?_eq_none.2 (fun y hy=>by rw [b2 y hy];decide)
  have hen:bb L=if 1000000<(dy L++cF (bg L)).length then ([],3) else (dy L++cF (bg L),0):=by
   unfold bb;rw [Q8 (by omega),hfn]
  have hd0:0<(dy L++cF (bg L)).length:=by simp [dy,gG]
  obtain ⟨d,hd⟩: ∃d,dy L++cF (bg L)=d:=⟨_,rfl⟩
  rw [hd] at b1 hd0 hen
  have fin: ∀(X:World) (x:List UInt8) (y:Int),bb L=(x,y)->Below (w.heap.size+2) W X->KeepsOthers W X->∃X',X'=((X.setCell ⟨w.heap.size,0,none⟩ (.string ⟨x.toArray⟩)).setCell ⟨w.heap.size+1,0,none⟩ (.int .i64 y))/\X'.heap[D]? =some (.deferred (some []))/\(X'.putObj D (.deferred none)).cell? ⟨w.heap.size,0,none⟩=some (.string ⟨x.toArray⟩)/\(X'.putObj D (.deferred none)).cell? ⟨w.heap.size+1,0,none⟩=some (.int .i64 y)/\Below w.heap.size w (X'.putObj D (.deferred none)):=fun X x y _ hX hk=>by
   have hb:=b3.trans hX;obtain ⟨k1,k2⟩:=sy (x:= .string ⟨x.toArray⟩) (y:= .int .i64 y) ((hb.block w.heap.size (by omega)).trans h20) ((hb.block (w.heap.size+1) (by omega)).trans h30);have hK':=((KeepsOthers.setCell X ⟨w.heap.size,0,none⟩ (.string ⟨x.toArray⟩)).trans (KeepsOthers.setCell _ ⟨w.heap.size+1,0,none⟩ (.int .i64 y))).same D _ (hk.same D _ hK rfl) rfl;refine ⟨_,rfl,hK',cell_kept k1 (grownBy_putObj' _ D (.deferred none)) (fun r e=>by cases e;exact ⟨_,hK',rfl⟩),cell_kept k2 (grownBy_putObj' _ D (.deferred none)) (fun r e=>by cases e;exact ⟨_,hK',rfl⟩), ?_⟩;exact hB0.trans ((((hb.mono (by omega)).setCell (by simp) _).setCell (by simp) _).trans (belowK_b (w:=w) (Rf _) _ D _ _ (by omega) hK' rfl rfl))
  by_cases hbig:1000000<d.length
  ·have hdec:decide ((d.length:Int)>1000000)=true:=RB (by omega);rw [Q_ hbig] at hen;gi_wp2_with (gi_at_call 23;refine ((callsIn_wide (n:=n-1)).2 (b1.len hG.pin)).mono ?_;rintro e w5 ⟨rfl,hBI5,hb5,hk5⟩;obtain ⟨q1,q2,q3,q4⟩:=hcW _ (b3.trans hb5));obtain ⟨X',rfl,g1,g2,g3,g4⟩:=fin _ _ _ hen hb5 hk5;refine ⟨by simp, .inl ⟨_,_,rfl,run_takeDeferred g1, ?_⟩⟩;refine ⟨.tuple #[.string ⟨#[]⟩, .int .i64 3], ?_,by rw [hen],g4⟩;simp [results,Tryz.f9,go_sem,g2,g3]
  ·have hdec:decide ((d.length:Int)>1000000)=false:=Rs (by omega);rw [Q8 hbig] at hen;gi_wp2_with (first|(gi_at_call 23;refine ((callsIn_wide (n:=n-1)).2 (b1.len hG.pin)).mono ?_;rintro e w5 ⟨rfl,hBI5,hb5,hk5⟩)|(gi_at_call 24;refine ((callsIn_wide (n:=n-1)).2 (BI.str (by assumption) hG.pin hd0)).mono ?_;rintro e w6 ⟨rfl,hb6,hk6⟩;obtain ⟨q1,q2,q3,q4⟩:=hcW _ ((b3.trans hb5).trans hb6)));obtain ⟨X',rfl,g1,g2,g3,g4⟩:=fin _ _ _ hen (hb5.trans hb6) (hk5.trans hk6);refine ⟨by simp, .inl ⟨_,_,rfl,run_takeDeferred g1, ?_⟩⟩;refine ⟨.tuple #[.string ⟨d.toArray⟩, .int .i64 0], ?_,by rw [hen],g4⟩;simp [results,Tryz.f9,go_sem,g2,g3]
 case stop=>
  rintro D c pre W hD hpre ⟨rfl,⟨x,hx,c2,c3⟩,hB⟩ hK
  gi_wp2
  refine ⟨by simp, .inl ⟨_,_,rfl,run_takeDeferred hK, ?_⟩⟩
  have k2:=cell_kept c2 (grownBy_putObj' _ D (.deferred none)) (fun r e=>by cases e;exact ⟨_,hK,rfl⟩)
  have k3:=cell_kept c3 (grownBy_putObj' _ D (.deferred none)) (fun r e=>by cases e;exact ⟨_,hK,rfl⟩)
  have hen:bb L=([],x.2):=by
   obtain ⟨t,ht⟩:=hpre;unfold bb;rw [Q8 (by omega),<-ht,List.find?_append,hx];rfl
  refine ⟨.tuple #[.string ⟨#[]⟩, .int .i64 x.2], ?_,by rw [hen],hB0.trans (hB.trans (belowK_b (w:=w) (Rf _) W D _ _ (by omega) hK rfl rfl))⟩
  simp [results,Tryz.f9,go_sem,k2,k3]
theorem Ia (L:List Cm.CmD) (hin: ∀c∈L,Cm.InC c):Vm.Pure Tryz.prog 9 [.list .tmp Cm L] (.tuple [.str (bb L).1, .int .i64 (bb L).2]):=by
 refine db (fun F w vs hF hr=> ?_) rfl rfl;obtain ⟨u1,r1,rfl,a1,hr⟩:=hr.cons_inv;obtain rfl:=hr.nil_inv;obtain ⟨A,cap,rfl,⟨_,_,hc⟩,_⟩:=a1.list_inv;have key:CallsIn Fence.wide 9 Tryz.prog 9 #[.slice A (List.length L) cap] w fun e W'=>e= .returned (.tuple #[.string ⟨(bb L).1.toArray⟩, .int .i64 (bb L).2])/\Below w.heap.size w W':=by
  by_cases hb:10000<L.length
  ·refine (Na 9 A _ cap hb w).mono ?_;rintro e W' ⟨rfl,h⟩;refine ⟨?_,h⟩;unfold bb;rw [Q_ hb]
  ·refine PJ 9 (by omega) A cap L (by omega) hin hF (fun h0=> ?_);obtain ⟨b,o,rfl,hb,hx⟩:=hc h0;exact ⟨b,o,rfl,hb.1.1.1,fun i x hi=>hx i x hi⟩
 refine ((callsIn_wide (n:=9)).1 key).mono ?_;rintro e w' ⟨rfl,hb⟩;refine ⟨_,rfl,hb,fun X=> .tuple rfl (fun j c u h1 h2=> ?_)⟩;match j with
 |0=>cases h1;cases h2;exact .str (by simp)
 |1=>cases h1;cases h2;exact .int
 |j+2=>cases h1
end Go.Proofs.YtabicbgeoiilmaaGreatDoor.Dry
