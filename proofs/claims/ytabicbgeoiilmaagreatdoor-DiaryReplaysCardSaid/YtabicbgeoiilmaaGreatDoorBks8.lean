import Derived.Test.YtabicbgeoiilmaaGreatDoorStk8
namespace Go.Proofs.YtabicbgeoiilmaaGreatDoor
noncomputable section
set_option linter.unusedVariables false
section
namespace Bks
open Go.Vm
def rH (L M:List Ln):Env where
 P:=Tryz.prog
 ty:=aJ
 specs:=ai [Ent.oQ]
def iQ (L:List Ln) (M:List Ln):Prop:=
 L.length<=(1000000000:Nat)/\(Ent.f7 0 0 L 0 0 M,())=(decide (L=M),())
theorem pf (L M:List Ln) (h:L.length<=1000000):iQ L M:=by
 unfold iQ;exact ⟨by omega,by unfold Ent.f7;simp⟩
set_option maxRecDepth 20000
def tT:FSpec Tryz.prog:=mkF 128 (.c (.l LnT) (.c (.l LnT) .z)) [.bool] (fun x=>(fun (L M:List Ln)=>(L.length<=1000000,decide (L=M),())) x.1 x.2.1) fun ⟨L,M,_⟩ h=>av (E:=rH L M) (pf L M h) (ab rfl _ [] rfl rfl) Tryz.func128
def bF (n k:Int) (ls:List Int) (A:List En) (x:En):Int:=
 if (Ent.ah x.1 x.2.2 n k).2=0 then (if ck ls x.2.2=0 then dU A x.2.1 x.2.2 else ck ls x.2.2) else (Ent.ah x.1 x.2.2 n k).2
theorem LY {n k:Int} {ls:List Int} {A:List En} {x:En} (h:(Ent.ah x.1 x.2.2 n k).2≠0):bF n k ls A x=(Ent.ah x.1 x.2.2 n k).2:=by unfold bF;rw [Q8 h]
theorem Cu {n k:Int} {ls:List Int} {A:List En} {x:En} (h:(Ent.ah x.1 x.2.2 n k).2=0) (g:ck ls x.2.2≠0):bF n k ls A x=ck ls x.2.2:=by unfold bF;rw [Q_ h,Q8 g]
theorem LZ {n k:Int} {ls:List Int} {A:List En} {x:En} (h:(Ent.ah x.1 x.2.2 n k).2=0) (g:ck ls x.2.2=0):bF n k ls A x=dU A x.2.1 x.2.2:=by unfold bF;rw [Q_ h,Q_ g]
theorem D5 {ls:List Int} {L:List Ln} (h:L.any ci=true):ck ls L=28:=by unfold ck;rw [Q_ h]
theorem D6 {ls:List Int} {L:List Ln} (h:L.any ci=false) (g:L.any (kV ls)=true):ck ls L=27:=by unfold ck;rw [Q8 (by rw [h];decide),Q_ g]
theorem Hq {ls:List Int} {L:List Ln} (h:L.any ci=false) (g:L.any (kV ls)=false):ck ls L=0:=by unfold ck;rw [Q8 (by rw [h];decide),Q8 (by rw [g];decide)]
theorem tU {α:Type} {p:α->Bool} {l:List α} {i:Int} {x:α} (hx:l[i.toNat]? =some x) (h:p x=true):(l.drop i.toNat).any p=true:=by
 obtain ⟨h1,h2⟩:=List.getElem?_eq_some_iff.1 hx;rw [Rw h1,h2,Sr,h,Bool.true_or]
theorem pg {α:Type} {p:α->Bool} {l:List α} {i:Int} {x:α} (h0:0<=i) (hx:l[i.toNat]? =some x) (h:p x=false):(l.drop i.toNat).any p=(l.drop (i+1).toNat).any p:=by
 obtain ⟨h1,h2⟩:=List.getElem?_eq_some_iff.1 hx;rw [Rw h1,h2,Sr,h,Bool.false_or,show (i+1).toNat=i.toNat+1 by omega]
theorem tV {α:Type} {p:α->Bool} {l:List α} {i:Int} (h: ¬i<(l.length:Int)):(l.drop i.toNat).any p=false:=by
 rw [RC (by omega)];rfl
theorem tW (p:Int->Bool) (a:Int): ∀(f:Nat) (i:Int),(Acc.Hr p f i).any (eqP a)=(decide (i<=a/\a<i+f)&&p a)
 |0,i=>by
  rw [Rs (by omega)];rfl
 |f+1,i=>by
  rw [Acc.Hr];by_cases c:i=a
  ·subst c;rw [RB (by omega),SG];split
   ·rename_i h;rw [Sr,h,show eqP i i=true by simp [eqP],Bool.true_or]
   ·rename_i h;rw [tW p i f (i+1),Rs (by omega)];simpa using h
  ·have e:(decide (i<=a/\a<i+((f+1:Nat):Int)))=decide (i+1<=a/\a<i+1+f):=decide_eq_decide.2 (by omega);rw [e];split
   ·rw [Sr,show eqP a i=false by unfold eqP;rw [Rs (fun h=>c h.symm)],Bool.false_or,tW p a f (i+1)]
   ·rw [tW p a f (i+1)]
theorem ph (A:List Acc.AcD) (x:Ln):kV (Acc.bi (Acc.bf A) A.length) x= !Acc.bf A x.2.1:=by
 unfold kV Acc.bi;rw [tW];congr 1;rw [show decide (1<=x.2.1/\x.2.1<1+(A.length:Int))=decide (Acc.aQ A x.2.1) from decide_eq_decide.2 (by unfold Acc.aQ;omega)];unfold Acc.bf;rw [<-Bool.and_assoc,Bool.and_self]
def Sm (E:List Int) (A:List Acc.AcD) (S:List Ln) (R:List Rts.Rt) (K:List Lck.Lk) (N:List En):Prop:=E.length<=1000000/\A.length<=1000000/\S.length<=1000000/\R.length<=1000000/\K.length<=1000000/\N.length<=1000000/\InE N
def D7 (E:List Int) (A:List Acc.AcD) (S:List Ln) (R:List Rts.Rt) (K:List Lck.Lk) (N:List En) (B:List En) (p r:Int) (L:List Ln):Env where
 P:=Tryz.prog
 ty:=aJ
 specs:=ai [Ent.wc,Acc.Ha,Cv,Ent.mm,tT]
 frz:=fun|56=>true|_=>false
 heads:=fun|5=>some {slots:=[(9, .int .i64)],boxes:=[],keep:=[3,5],inv:=fun _ (x:Int×Unit)=>0<=x.1/\x.1<=L.length/\L.any ci=(L.drop x.1.toNat).any ci,measure:=fun _ (x:Int×Unit)=>(L.length-x.1).toNat}|10=>some {slots:=[(10, .int .i64)],boxes:=[],keep:=[3,5],inv:=fun _ (x:Int×Unit)=>0<=x.1/\x.1<=L.length/\L.any (kV (Acc.bi (Acc.bf A) A.length))=(L.drop x.1.toNat).any (kV (Acc.bi (Acc.bf A) A.length)),measure:=fun _ (x:Int×Unit)=>(L.length-x.1).toNat}|_=>none
abbrev cY (E:List Int) (A:List Acc.AcD) (S:List Ln) (R:List Rts.Rt) (K:List Lck.Lk) (N:List En):_root_.Go.Vm.Obj:=Obj.box [V.list LK.tmp I E,V.list LK.tmp AcT A,V.list LK.tmp LnT S,V.list LK.tmp RTy R,V.list LK.tmp Vl K,V.list LK.tmp EnT N]
abbrev cZ (p:Int) (r:Int) (L:List Ln):_root_.Go.Vm.Obj:=Obj.box [V.int IntKind.i64 p,V.int IntKind.i64 r,V.list LK.tmp LnT L]
def pi (E:List Int) (A:List Acc.AcD) (S:List Ln) (R:List Rts.Rt) (K:List Lck.Lk) (N:List En) (B:List En) (p:Int) (r:Int) (L:List Ln):Prop:=
 (Ent.InL L/\L.length<=(1000:Nat))/\((!decide ((Ent.ah p L (↑E.length:Int) (↑A.length:Int)).2=0))=true->((Ent.ah p L (↑E.length:Int) (↑A.length:Int)).2,())=(bF (↑E.length:Int) (↑A.length:Int) (Acc.bi (Acc.bf A) A.length) B (p,r,L),()))/\((!decide ((Ent.ah p L (↑E.length:Int) (↑A.length:Int)).2=0))=false->((some (cY E A S R K N)=some (cY E A S R K N)/\some (cZ p r L)=some (cZ p r L)/\True)/\0<=(0:Int)/\0<=(↑L.length:Int)/\L.any ci=(List.drop (Int.toNat 0) L).any ci)/\∀(x:Int×Unit),0<=x.1/\x.1<=L.length/\L.any ci=(List.drop x.1.toNat L).any ci->(decide (x.1<L.length)=true->(0<=x.1/\x.1<L.length)/\∀(x_1:Int×Int×Int×Int),L[x.1.toNat]? =some x_1->(decide (x_1.2.1<=3)=true->((28:Int),())=(bF (↑E.length:Int) (↑A.length:Int) (Acc.bi (Acc.bf A) A.length) B (p,r,L),()))/\(decide (x_1.2.1<=3)=false->(au (x.1+1))/\(some (cY E A S R K N)=some (cY E A S R K N)/\some (cZ p r L)=some (cZ p r L)/\True)/\(0<=x.1+1/\x.1+1<=L.length/\L.any ci=(List.drop (x.1+1).toNat L).any ci)/\(L.length-(x.1+1)).toNat<(L.length-x.1).toNat))/\(decide (x.1<L.length)=false->((some (cY E A S R K N)=some (cY E A S R K N)/\some (cZ p r L)=some (cZ p r L)/\True)/\0<=(0:Int)/\0<=(↑L.length:Int)/\L.any (kV (Acc.bi (Acc.bf A) A.length))=(List.drop (Int.toNat 0) L).any (kV (Acc.bi (Acc.bf A) A.length)))/\∀(x:Int×Unit),0<=x.1/\x.1<=L.length/\L.any (kV (Acc.bi (Acc.bf A) A.length))=(List.drop x.1.toNat L).any (kV (Acc.bi (Acc.bf A) A.length))->(decide (x.1<L.length)=true->(0<=x.1/\x.1<L.length)/\∀(x_1:Int×Int×Int×Int),L[x.1.toNat]? =some x_1->A.length<=(1000000:Nat)/\((!Acc.bf A x_1.2.1)=true->((27:Int),())=(bF (↑E.length:Int) (↑A.length:Int) (Acc.bi (Acc.bf A) A.length) B (p,r,L),()))/\((!Acc.bf A x_1.2.1)=false->(au (x.1+1))/\(some (cY E A S R K N)=some (cY E A S R K N)/\some (cZ p r L)=some (cZ p r L)/\True)/\(0<=x.1+1/\x.1+1<=L.length/\L.any (kV (Acc.bi (Acc.bf A) A.length))=(List.drop (x.1+1).toNat L).any (kV (Acc.bi (Acc.bf A) A.length)))/\(L.length-(x.1+1)).toNat<(L.length-x.1).toNat))/\(decide (x.1<L.length)=false->(decide (r=0)=true->((0:Int),())=(bF (↑E.length:Int) (↑A.length:Int) (Acc.bi (Acc.bf A) A.length) B (p,r,L),()))/\(decide (r=0)=false->(decide (r<0)=false->(decide (B.length<r)=true->((34:Int),())=(bF (↑E.length:Int) (↑A.length:Int) (Acc.bi (Acc.bf A) A.length) B (p,r,L),()))/\(decide (B.length<r)=false->(au (r-(1:Int)))/\(0<=r-(1:Int)/\r-(1:Int)<(↑B.length:Int))/\∀(x:Int×Int×List (Int×Int×Int×Int)),B[(r-(1:Int)).toNat]? =some x->((!decide (x.2.1=0))=false->B.length<=(1000000000:Nat)/\((!decide (bM B r=0))=true->((35:Int),())=(bF (↑E.length:Int) (↑A.length:Int) (Acc.bi (Acc.bf A) A.length) B (p,r,L),()))/\((!decide (bM B r=0))=false->(au (r-(1:Int)))/\(0<=r-(1:Int)/\r-(1:Int)<(↑B.length:Int))/\∀(x:Int×Int×List (Int×Int×Int×Int)),B[(r-(1:Int)).toNat]? =some x->(Ent.InL x.2.2/\x.2.2.length<=(1000:Nat))/\((!decide ((Ent.bt x.1 x.2.1 x.2.2).2=0))=false->L.length<=(1000000:Nat)/\((!decide (L=(Ent.bt x.1 x.2.1 x.2.2).1.2.2))=true->((30:Int),())=(bF (↑E.length:Int) (↑A.length:Int) (Acc.bi (Acc.bf A) A.length) B (p,r,L),()))/\((!decide (L=(Ent.bt x.1 x.2.1 x.2.2).1.2.2))=false->((0:Int),())=(bF (↑E.length:Int) (↑A.length:Int) (Acc.bi (Acc.bf A) A.length) B (p,r,L),())))/\((!decide ((Ent.bt x.1 x.2.1 x.2.2).2=0))= !false->((30:Int),())=(bF (↑E.length:Int) (↑A.length:Int) (Acc.bi (Acc.bf A) A.length) B (p,r,L),()))))/\((!decide (x.2.1=0))= !false->((35:Int),())=(bF (↑E.length:Int) (↑A.length:Int) (Acc.bi (Acc.bf A) A.length) B (p,r,L),()))))/\(decide (r<0)= !false->((34:Int),())=(bF (↑E.length:Int) (↑A.length:Int) (Acc.bi (Acc.bf A) A.length) B (p,r,L),()))))))
theorem zo (E:List Int) (A:List Acc.AcD) (S:List Ln) (R:List Rts.Rt) (K:List Lck.Lk) (N:List En) (B:List En) (p r:Int) (L:List Ln) (h:Sm E A S R K N/\B.length<=1000000/\InE B/\Ent.InL L/\L.length<=1000):pi E A S R K N B p r L:=by
 obtain ⟨⟨l1,l2,l3,l4,l5,l6,hi⟩,hb,hib,hil,hl⟩:=h;unfold pi;simp only [Q7,Q6,Rg,Rl,Rb,Rd];refine ⟨⟨hil,hl⟩,fun c=>by rw [LY c],fun c=>⟨⟨⟨trivial,trivial,trivial⟩,by omega,by omega,rfl⟩, ?_⟩⟩;rintro ⟨i,⟨⟩⟩ ⟨h0,h1,ho⟩;dsimp only at h0 h1 ho⊢;refine ⟨fun d=>⟨⟨h0,d⟩,fun x hx=>⟨fun k=> ?_,fun k=>⟨by omega,⟨trivial,trivial,trivial⟩,⟨by omega,by omega, ?_⟩,by omega⟩⟩⟩,fun d=>⟨⟨⟨trivial,trivial,trivial⟩,by omega,by omega,rfl⟩, ?_⟩⟩
 ·have:=D5 (ls:=Acc.bi (Acc.bf A) A.length) (ho.trans (tU hx (by unfold ci;rw [RB k])));rw [Cu c (by rw [this];decide),this]
 ·rw [ho,pg h0 hx (by unfold ci;rw [Rs k])]
 replace ho:=ho.trans (tV d);clear h0 h1 d;rintro ⟨j,⟨⟩⟩ ⟨h0,h1,hn⟩;dsimp only at h0 h1 hn⊢;refine ⟨fun d=>⟨⟨h0,d⟩,fun x hx=>⟨l2,fun k=> ?_,fun k=>⟨by omega,⟨trivial,trivial,trivial⟩,⟨by omega,by omega, ?_⟩,by omega⟩⟩⟩,fun d=> ?_⟩
 ·have:=D6 ho (hn.trans (tU hx (by rw [ph,k];rfl)));rw [Cu c (by rw [this];decide),this]
 ·rw [hn,pg h0 hx (by rw [ph,k];rfl)]
 have hp:=Hq ho (hn.trans (tV d));rw [LZ c hp];dsimp only;clear d h0 h1;refine ⟨fun c=> ?_,fun c=>⟨fun d=>⟨fun e=> ?_,fun e=>⟨by omega,by omega,fun x hx=>⟨fun f=>⟨by omega,fun g=> ?_,fun g=>⟨by omega,by omega,fun y hy=>⟨dp hib hy,fun k=>⟨by omega,fun m=> ?_,fun m=> ?_⟩,fun k=> ?_⟩⟩⟩,fun f=> ?_⟩⟩⟩,fun d=> ?_⟩⟩
 ·unfold dU;rw [Q_ c]
 ·unfold dU;rw [Q8 c,Q_ (.inr e)]
 ·rw [gB c (by omega) hx,pk,Q_ (.inr g)]
 ·rw [hx] at hy;cases hy;rw [gB c (by omega) hx,pk,Q8 (fun q=>q.elim (fun q=>q f) (fun q=>q g)),Q_ (.inr m)]
 ·rw [hx] at hy;cases hy;rw [gB c (by omega) hx,pk,Q8 (fun q=>q.elim (fun q=>q f) (fun q=>q g)),Q8 (fun q=>q.elim (fun q=>q k) (fun q=>q m))]
 ·rw [hx] at hy;cases hy;rw [gB c (by omega) hx,pk,Q8 (fun q=>q.elim (fun q=>q f) (fun q=>q g)),Q_ (.inl k)]
 ·rw [gB c (by omega) hx,pk,Q_ (.inl f)]
 ·unfold dU;rw [Q8 c,Q_ (.inl d)]
def Hs:FSpec Tryz.prog:=mkF 92 (.c (.g (.c (.l I) (.c (.l AcT) (.c (.l LnT) (.c (.l RTy) (.c (.l Vl) (.c (.l EnT) .z))))))) (.c (.l EnT) (.c (.g (.c .j (.c .j (.c (.l LnT) .z)))) .z))) [.int .i64] (fun x=>(fun (E:List Int) (A:List Acc.AcD) (S:List Ln) (R:List Rts.Rt) (K:List Lck.Lk) (N:List En) (B:List En) (p r:Int) (L:List Ln)=>(Sm E A S R K N/\B.length<=1000000/\InE B/\Ent.InL L/\L.length<=1000,bF E.length A.length (Acc.bi (Acc.bf A) A.length) B (p,r,L),())) x.1.1 x.1.2.1 x.1.2.2.1 x.1.2.2.2.1 x.1.2.2.2.2.1 x.1.2.2.2.2.2.1 x.2.1 x.2.2.1.1 x.2.2.1.2.1 x.2.2.1.2.2.1) fun ⟨⟨E,A,S,R,K,N,_⟩,B,⟨p,r,L,_⟩,_⟩ h=>av (E:=D7 E A S R K N B p r L) (zo E A S R K N B p r L h) (ab rfl _ [] rfl rfl) Tryz.func92
end Bks
end
section
namespace Bks
open Go.Vm
end Bks
end
section
namespace Bks
open Go.Vm
end Bks
end
section
namespace Bks
open Go.Vm
end Bks
end
section
namespace Bks
open Go.Vm
instance decLs:DecidableEq (List Ln):=inferInstance
instance decEn:DecidableEq En:= @instDecidableEqProd Int (Int×List Ln) inferInstance (@instDecidableEqProd Int (List Ln) inferInstance decLs)
instance decEns:DecidableEq (List En):= @instDecidableEqList En decEn
def bL (E:List Int) (A:List Acc.AcD) (S:List Ln) (R:List Rts.Rt) (K:List Lck.Lk) (N:List En) (E2:List Int) (A2:List Acc.AcD) (S2:List Ln) (R2:List Rts.Rt) (K2:List Lck.Lk) (N2:List En):Bool:=decide (E=E2)&&(decide (A=A2)&&(decide (S=S2)&&(decide (R=R2)&&(decide (K=K2)&&decide (N=N2)))))
def mn (E:List Int) (A:List Acc.AcD) (S:List Ln) (R:List Rts.Rt) (K:List Lck.Lk) (N:List En) (E2:List Int) (A2:List Acc.AcD) (S2:List Ln) (R2:List Rts.Rt) (K2:List Lck.Lk) (N2:List En):Env where
 P:=Tryz.prog
 ty:=aJ
 specs:=ai [Stk.vV,Eql.LO,Stk.oQ,Rts.kW,Eql.LP,Ent.oQ]
 frz:=fun|70=>true|_=>false
 heads:=fun|4=>some {slots:=[(5, .int .i64)],boxes:=[],keep:=[2,3],inv:=fun _ (x:Int×Unit)=>0<=x.1/\x.1<=N.length/\N.take x.1.toNat=N2.take x.1.toNat,measure:=fun _ (x:Int×Unit)=>(N.length-x.1).toNat}|_=>none
abbrev g_ (E2:List Int) (A2:List Acc.AcD) (S2:List Ln) (R2:List Rts.Rt) (K2:List Lck.Lk) (N2:List En):_root_.Go.Vm.Obj:=Obj.box [V.list LK.tmp I E2,V.list LK.tmp AcT A2,V.list LK.tmp LnT S2,V.list LK.tmp RTy R2,V.list LK.tmp Vl K2,V.list LK.tmp EnT N2]
abbrev hU (E:List Int) (A:List Acc.AcD) (S:List Ln) (R:List Rts.Rt) (K:List Lck.Lk) (N:List En):_root_.Go.Vm.Obj:=Obj.box [V.list LK.tmp I E,V.list LK.tmp AcT A,V.list LK.tmp LnT S,V.list LK.tmp RTy R,V.list LK.tmp Vl K,V.list LK.tmp EnT N]
def fz (E:List Int) (A:List Acc.AcD) (S:List Ln) (R:List Rts.Rt) (K:List Lck.Lk) (N:List En) (E2:List Int) (A2:List Acc.AcD) (S2:List Ln) (R2:List Rts.Rt) (K2:List Lck.Lk) (N2:List En):Prop:=
 E.length<=(1000000000:Nat)/\((!decide (E=E2))=false->A.length<=(1000000000:Nat)/\((!decide (A=A2))=false->S.length<=(1000000000:Nat)/\((!decide (S=S2))=false->(R.length<=(1000000:Nat)/\R2.length<=(1000000:Nat))/\((!decide (R=R2))=false->K.length<=(1000000000:Nat)/\((!decide (K=K2))=false->((!decide ((↑N.length:Int)=(↑N2.length:Int)))=true->(false,())=(bL E A S R K N E2 A2 S2 R2 K2 N2,()))/\((!decide ((↑N.length:Int)=(↑N2.length:Int)))=false->((some (hU E A S R K N)=some (hU E A S R K N)/\some (g_ E2 A2 S2 R2 K2 N2)=some (g_ E2 A2 S2 R2 K2 N2)/\True)/\0<=(0:Int)/\0<=(↑N.length:Int)/\List.take (Int.toNat 0) N=List.take (Int.toNat 0) N2)/\∀(x:Int×Unit),0<=x.1/\x.1<=N.length/\List.take x.1.toNat N=List.take x.1.toNat N2->(decide (x.1<N.length)=true->(0<=x.1/\x.1<N.length)/\∀(x_1:Int×Int×List (Int×Int×Int×Int)),N[x.1.toNat]? =some x_1->(0<=x.1/\x.1<N2.length)/\∀(x_2:Int×Int×List (Int×Int×Int×Int)),N2[x.1.toNat]? =some x_2->x_1.2.2.length<=(1000000000:Nat)/\((!Ent.f7 x_1.1 x_1.2.1 x_1.2.2 x_2.1 x_2.2.1 x_2.2.2)=true->(false,())=(bL E A S R K N E2 A2 S2 R2 K2 N2,()))/\((!Ent.f7 x_1.1 x_1.2.1 x_1.2.2 x_2.1 x_2.2.1 x_2.2.2)=false->(au (x.1+1))/\(some (hU E A S R K N)=some (hU E A S R K N)/\some (g_ E2 A2 S2 R2 K2 N2)=some (g_ E2 A2 S2 R2 K2 N2)/\True)/\(0<=x.1+1/\x.1+1<=N.length/\List.take (x.1+1).toNat N=List.take (x.1+1).toNat N2)/\(N.length-(x.1+1)).toNat<(N.length-x.1).toNat))/\(decide (x.1<N.length)=false->(true,())=(bL E A S R K N E2 A2 S2 R2 K2 N2,()))))/\((!decide (K=K2))= !false->(false,())=(bL E A S R K N E2 A2 S2 R2 K2 N2,())))/\((!decide (R=R2))= !false->(false,())=(bL E A S R K N E2 A2 S2 R2 K2 N2,())))/\((!decide (S=S2))= !false->(false,())=(bL E A S R K N E2 A2 S2 R2 K2 N2,())))/\((!decide (A=A2))= !false->(false,())=(bL E A S R K N E2 A2 S2 R2 K2 N2,())))/\((!decide (E=E2))= !false->(false,())=(bL E A S R K N E2 A2 S2 R2 K2 N2,()))
theorem ku (E:List Int) (A:List Acc.AcD) (S:List Ln) (R:List Rts.Rt) (K:List Lck.Lk) (N:List En) (E2:List Int) (A2:List Acc.AcD) (S2:List Ln) (R2:List Rts.Rt) (K2:List Lck.Lk) (N2:List En) (h:Sm E A S R K N/\Sm E2 A2 S2 R2 K2 N2):fz E A S R K N E2 A2 S2 R2 K2 N2:=by
 obtain ⟨⟨l1,l2,l3,l4,l5,l6,hi⟩,⟨m1,m2,m3,m4,m5,m6,mi⟩⟩:=h;unfold fz bL;simp only [Rb,Rd,Rg,Rl];refine ⟨by omega,fun a=>⟨by omega,fun b=>⟨by omega,fun c=>⟨by omega,fun d=>⟨by omega,fun e=>⟨fun f=> ?_,fun f=>⟨⟨⟨trivial,trivial,trivial⟩,by omega,by omega,rfl⟩, ?_⟩⟩,fun e=> ?_⟩,fun d=> ?_⟩,fun c=> ?_⟩,fun b=> ?_⟩,fun a=> ?_⟩
 ·have f:(N.length:Int)≠N2.length:=by simpa using f
  rw [a,b,c,d,e,Rs (fun k=>f (by rw [k]))];rfl
 ·have f:(N.length:Int)=N2.length:=by simpa using f
  rw [a,b,c,d,e];rintro ⟨i,⟨⟩⟩ ⟨i0,i1,ht⟩;dsimp only at i0 i1 ht⊢;simp only [Q7,Q6,SG];refine ⟨fun c=>⟨⟨i0,c⟩,fun x hx=>⟨⟨i0,by omega⟩,fun y hy=>⟨by have:=(dp hi hx).2;omega,fun d=> ?_,fun d=>⟨by omega,⟨trivial,trivial,trivial⟩,⟨by omega,by omega, ?_⟩,by omega⟩⟩⟩⟩,fun c=> ?_⟩
  ·rw [Rs];intro e;subst e;rw [hx] at hy;cases hy;simp [Ent.f7] at d
  ·rw [show (i+1).toNat=i.toNat+1 by omega];simp only [Ent.f7,Q7] at d;exact Rts.oL ht hx hy (Prod.ext d.1 (Prod.ext d.2.1 d.2.2))
  ·rw [Rh (by omega),Rh (by omega)] at ht;rw [RB ht]
 ·rw [a,b,c,d,e];rfl
 ·rw [a,b,c,d];rfl
 ·rw [a,b,c];rfl
 ·rw [a,b];rfl
 ·rw [a];rfl
set_option maxRecDepth 20000
def kW:FSpec Tryz.prog:=mkF 16 (.c (.g (.c (.l I) (.c (.l AcT) (.c (.l LnT) (.c (.l RTy) (.c (.l Vl) (.c (.l EnT) .z))))))) (.c (.g (.c (.l I) (.c (.l AcT) (.c (.l LnT) (.c (.l RTy) (.c (.l Vl) (.c (.l EnT) .z))))))) .z)) [.bool] (fun x=>(fun (E:List Int) (A:List Acc.AcD) (S:List Ln) (R:List Rts.Rt) (K:List Lck.Lk) (N:List En) (E2:List Int) (A2:List Acc.AcD) (S2:List Ln) (R2:List Rts.Rt) (K2:List Lck.Lk) (N2:List En)=>(Sm E A S R K N/\Sm E2 A2 S2 R2 K2 N2,bL E A S R K N E2 A2 S2 R2 K2 N2,())) x.1.1 x.1.2.1 x.1.2.2.1 x.1.2.2.2.1 x.1.2.2.2.2.1 x.1.2.2.2.2.2.1 x.2.1.1 x.2.1.2.1 x.2.1.2.2.1 x.2.1.2.2.2.1 x.2.1.2.2.2.2.1 x.2.1.2.2.2.2.2.1) fun ⟨⟨E,A,S,R,K,N,_⟩,⟨E2,A2,S2,R2,K2,N2,_⟩,_⟩ h=>av (E:=mn E A S R K N E2 A2 S2 R2 K2 N2) (ku E A S R K N E2 A2 S2 R2 K2 N2 h) (ab rfl _ [] rfl rfl) Tryz.func16
end Bks
end
section
namespace Bks
open Go.Vm
abbrev Po:=Int×Int×Int×Ln
def kv (p i:Int):List Ln->Nat->List Po
 |[],_=>[]
 |x::r,k=>(((k+1:Nat):Int),i+1,p,x)::kv p i r (k+1)
def hZ:List En->Int->Nat->List Po
 |[],_,_=>[]
 |x::r,i,k=>kv x.1 i x.2.2 k++hZ r (i+1) (k+x.2.2.length)
def aB (N:List En):List Po:=hZ N 0 0
theorem Cw {p i k:Int} {L:List Ln} {n:Nat} {x:Ln} (h0:0<=k) (hx:L[k.toNat]? =some x):kv p i (L.drop k.toNat) n=(((n+1:Nat):Int),i+1,p,x)::kv p i (L.drop (k+1).toNat) (n+1):=by
 obtain ⟨h1,h2⟩:=List.getElem?_eq_some_iff.1 hx;rw [Rw h1,h2,show (k+1).toNat=k.toNat+1 by omega];rfl
theorem O7 {p i k:Int} {L:List Ln} {n:Nat} (h: ¬k<(L.length:Int)):kv p i (L.drop k.toNat) n=[]:=by
 rw [RC (by omega)];rfl
theorem Cx {N:List En} {i:Int} {n:Nat} {x:En} (h0:0<=i) (hx:N[i.toNat]? =some x):hZ (N.drop i.toNat) i n=kv x.1 i x.2.2 n++hZ (N.drop (i+1).toNat) (i+1) (n+x.2.2.length):=by
 obtain ⟨h1,h2⟩:=List.getElem?_eq_some_iff.1 hx;rw [Rw h1,h2,show (i+1).toNat=i.toNat+1 by omega];rfl
theorem O8 {N:List En} {i:Int} {n:Nat} (h: ¬i<(N.length:Int)):hZ (N.drop i.toNat) i n=[]:=by
 rw [RC (by omega)];rfl
def zp (N:List En):Env where
 P:=Tryz.prog
 ty:=aJ
 heads:=fun|3=>some {slots:=[(4, .int .i64),(3, .slc 9000 PoT)],boxes:=[],inv:=fun _ (x:Int×List Po×Unit)=>0<=x.1/\x.1<=N.length/\(x.2.1.length:Int)<=1000*x.1/\aB N=x.2.1++hZ (N.drop x.1.toNat) x.1 x.2.1.length,measure:=fun _ (x:Int×List Po×Unit)=>(N.length-x.1).toNat}|6=>some {slots:=[(4, .int .i64),(5, .int .i64),(3, .slc 9000 PoT)],boxes:=[],inv:=fun st (x:Int×Int×List Po×Unit)=> ∃y,N[x.1.toNat]? =some y/\x.1=st.int 4/\0<=x.1/\x.1<N.length/\0<=x.2.1/\x.2.1<=y.2.2.length/\(x.2.2.1.length:Int)<=1000*x.1+x.2.1/\aB N=x.2.2.1++(kv y.1 x.1 (y.2.2.drop x.2.1.toNat) x.2.2.1.length++hZ (N.drop (x.1+1).toNat) (x.1+1) (x.2.2.1.length+(y.2.2.length-x.2.1.toNat))),measure:=fun _ (x:Int×Int×List Po×Unit)=>1000-x.2.1.toNat}|_=>none
def nC (N:List En):Prop:=
 (True/\0<=(0:Int)/\0<=(↑N.length:Int)/\(↑(0:Nat):Int)<=(1000:Int)*(0:Int)/\aB N=hZ (List.drop (Int.toNat 0) N) 0 0)/\∀(x:Int×List (Int×Int×Int×Int×Int×Int×Int)×Unit),0<=x.1/\x.1<=N.length/\(↑x.2.1.length:Int)<=(1000:Int)*x.1/\aB N=x.2.1++hZ (List.drop x.1.toNat N) x.1 x.2.1.length->(decide (x.1<N.length)=true->(True/\∃y,N[x.1.toNat]? =some y/\x.1=x.1/\0<=x.1/\x.1<N.length/\0<=(0:Int)/\0<=(↑y.2.2.length:Int)/\(↑x.2.1.length:Int)<=(1000:Int)*x.1+(0:Int)/\aB N=x.2.1++(kv y.1 x.1 (List.drop (Int.toNat 0) y.2.2) x.2.1.length++hZ (List.drop (x.1+1).toNat N) (x.1+1) (x.2.1.length+(y.2.2.length-Int.toNat 0))))/\∀(x_1:Int×Int×List (Int×Int×Int×Int×Int×Int×Int)×Unit),(∃y,N[x_1.1.toNat]? =some y/\x_1.1=x.1/\0<=x_1.1/\x_1.1<N.length/\0<=x_1.2.1/\x_1.2.1<=y.2.2.length/\(↑x_1.2.2.1.length:Int)<=(1000:Int)*x_1.1+x_1.2.1/\aB N=x_1.2.2.1++(kv y.1 x_1.1 (List.drop x_1.2.1.toNat y.2.2) x_1.2.2.1.length++hZ (List.drop (x_1.1+1).toNat N) (x_1.1+1) (x_1.2.2.1.length+(y.2.2.length-x_1.2.1.toNat))))->(0<=x_1.1/\x_1.1<N.length)/\∀(x_2:Int×Int×List (Int×Int×Int×Int)),N[x_1.1.toNat]? =some x_2->(decide (x_1.2.1<x_2.2.2.length)=true->(au ((↑x_1.2.2.1.length:Int)+1))/\(au (x_1.1+1))/\(0<=x_1.1/\x_1.1<N.length)/\∀(x_3:Int×Int×List (Int×Int×Int×Int)),N[x_1.1.toNat]? =some x_3->(0<=x_1.1/\x_1.1<N.length)/\∀(x_4:Int×Int×List (Int×Int×Int×Int)),N[x_1.1.toNat]? =some x_4->(0<=x_1.2.1/\x_1.2.1<x_4.2.2.length)/\∀(x_5:Int×Int×Int×Int),x_4.2.2[x_1.2.1.toNat]? =some x_5->((x_1.2.2.1.length+(1:Nat))*(56:Nat)<=(140737488355328:Nat)/\x_1.2.2.1.length+(1:Nat)<=(4611686018427387904:Nat))/\(au (x_1.2.1+1))/\True/\(∃y,N[x_1.1.toNat]? =some y/\x_1.1=x.1/\0<=x_1.1/\x_1.1<N.length/\0<=x_1.2.1+1/\x_1.2.1+1<=y.2.2.length/\(↑(x_1.2.2.1++[((↑x_1.2.2.1.length:Int)+1,x_1.1+1,x_3.1,x_5.1,x_5.2.1,x_5.2.2.1,x_5.2.2.2)]).length:Int)<=(1000:Int)*x_1.1+(x_1.2.1+1)/\aB N=x_1.2.2.1++[((↑x_1.2.2.1.length:Int)+1,x_1.1+1,x_3.1,x_5.1,x_5.2.1,x_5.2.2.1,x_5.2.2.2)]++(kv y.1 x_1.1 (List.drop (x_1.2.1+1).toNat y.2.2) (x_1.2.2.1++[((↑x_1.2.2.1.length:Int)+1,x_1.1+1,x_3.1,x_5.1,x_5.2.1,x_5.2.2.1,x_5.2.2.2)]).length++hZ (List.drop (x_1.1+1).toNat N) (x_1.1+1) ((x_1.2.2.1++[((↑x_1.2.2.1.length:Int)+1,x_1.1+1,x_3.1,x_5.1,x_5.2.1,x_5.2.2.1,x_5.2.2.2)]).length+(y.2.2.length-(x_1.2.1+1).toNat))))/\(1000:Nat)-(x_1.2.1+1).toNat<(1000:Nat)-x_1.2.1.toNat)/\(decide (x_1.2.1<x_2.2.2.length)=false->(au (x_1.1+1))/\True/\(0<=x_1.1+1/\x_1.1+1<=N.length/\(↑x_1.2.2.1.length:Int)<=(1000:Int)*(x_1.1+1)/\aB N=x_1.2.2.1++hZ (List.drop (x_1.1+1).toNat N) (x_1.1+1) x_1.2.2.1.length)/\(N.length-(x_1.1+1)).toNat<(N.length-x.1).toNat))/\(decide (x.1<N.length)=false->(x.2.1,())=(aB N,()))
theorem wd (N:List En) (h:N.length<=1000000/\InE N):nC N:=by
 obtain ⟨h,hi⟩:=h;unfold nC;simp only [Q7,Q6];refine ⟨⟨trivial,by omega,by omega,by simp,rfl⟩, ?_⟩;rintro ⟨i,out,⟨⟩⟩ ⟨h0,h1,h2,hb⟩;dsimp only at h0 h1 h2 hb⊢;refine ⟨fun c=>⟨⟨trivial, ?_⟩, ?_⟩,fun c=> ?_⟩
 ·have hx:N[i.toNat]? =some N[i.toNat]:=List.getElem?_eq_getElem (by omega);exact ⟨_,hx,trivial,h0,c,by omega,by omega,by omega,by rw [hb,Cx h0 hx];rfl⟩
 ·clear hb h0 h1 h2 c;rintro ⟨j,k,ys,⟨⟩⟩ ⟨y,hy,e,j0,j1,k0,k1,k2,hb⟩;dsimp only at hy e j0 j1 k0 k1 k2 hb⊢;have hly:=(dp hi hy).2;refine ⟨⟨j0,j1⟩,fun x hx=> ?_⟩;rw [hy] at hx;cases hx;refine ⟨fun c=>⟨by omega,by omega,⟨j0,j1⟩,fun z hz=> ?_⟩,fun c=> ?_⟩
  ·rw [hy] at hz;cases hz;refine ⟨⟨j0,j1⟩,fun z hz=> ?_⟩;rw [hy] at hz;cases hz;refine ⟨⟨k0,c⟩,fun z hz=>⟨⟨by omega,by omega⟩,by omega,trivial,⟨y,hy,e,j0,j1,by omega,by omega,by simp only [Re,Rm];omega, ?_⟩,by omega⟩⟩;rw [hb,Cw k0 hz,RA,Re,Rm,show ys.length+1+(y.2.2.length-(k+1).toNat)=ys.length+(y.2.2.length-k.toNat) by omega];rfl
  ·refine ⟨by omega,trivial,⟨by omega,by omega,by omega, ?_⟩,by omega⟩;rw [hb,O7 c,RM,show ys.length+(y.2.2.length-k.toNat)=ys.length by omega]
 ·rw [hb,O8 c,RH]
set_option maxRecDepth 20000
def D8:FSpec Tryz.prog:=mkF 174 (.c (.l EnT) .z) [.slc 0 PoT] (fun x=>(fun (N:List En)=>(N.length<=1000000/\InE N,aB N,())) x.1) fun ⟨N,_⟩ h=>av (E:=zp N) (wd N h) (ab rfl [] [] rfl rfl) Tryz.func174
def kw (a:Int) (x:Po):Bool:=decide (x.2.2.2.2.1=a)
def cg (N:List En) (a:Int):Bool:=(aB N).any (kw a)
theorem Ht (p i:Int): ∀(L:List Ln) (k:Nat),(kv p i L k).length=L.length
 |[],_=>rfl
 |x::r,k=>by rw [kv,Rj,Ht p i r,Rj]
theorem Hu: ∀(N:List En) (i:Int) (k:Nat),InE N->(hZ N i k).length<=1000*N.length
 |[],_,_,_=>by simp [hZ]
 |x::r,i,k,h=>by
  have h1:=(h x (by simp)).2;have h2:=Hu r (i+1) (k+x.2.2.length) (fun y hy=>h y (by simp [hy]));rw [hZ,Re,Ht,Rj];omega
theorem jr {N:List En} (h:InE N):(aB N).length<=1000*N.length:=Hu N 0 0 h
def D9 (E:List Int) (A:List Acc.AcD) (S:List Ln) (R:List Rts.Rt) (K:List Lck.Lk) (N:List En) (a:Int):Env where
 P:=Tryz.prog
 ty:=aJ
 specs:=ai [D8]
 frz:=fun|9=>true|_=>false
 heads:=fun|3=>some {slots:=[(6, .int .i64)],boxes:=[],keep:=[2],inv:=fun _ (x:Int×Unit)=>0<=x.1/\x.1<=(aB N).length/\(aB N).any (kw a)=((aB N).drop x.1.toNat).any (kw a),measure:=fun _ (x:Int×Unit)=>((aB N).length-x.1).toNat}|_=>none
abbrev h_ (E:List Int) (A:List Acc.AcD) (S:List Ln) (R:List Rts.Rt) (K:List Lck.Lk) (N:List En):_root_.Go.Vm.Obj:=Obj.box [V.list LK.tmp I E,V.list LK.tmp AcT A,V.list LK.tmp LnT S,V.list LK.tmp RTy R,V.list LK.tmp Vl K,V.list LK.tmp EnT N]
def pl (E:List Int) (A:List Acc.AcD) (S:List Ln) (R:List Rts.Rt) (K:List Lck.Lk) (N:List En) (a:Int):Prop:=
 (N.length<=(1000000:Nat)/\InE N)/\((some (h_ E A S R K N)=some (h_ E A S R K N)/\True)/\0<=(0:Int)/\0<=(↑(aB N).length:Int)/\(aB N).any (kw a)=(List.drop (Int.toNat 0) (aB N)).any (kw a))/\∀(x:Int×Unit),0<=x.1/\x.1<=(↑(aB N).length:Int)/\(aB N).any (kw a)=(List.drop x.1.toNat (aB N)).any (kw a)->(decide (x.1<(↑(aB N).length:Int))=true->(0<=x.1/\x.1<(↑(aB N).length:Int))/\∀(x_1:Int×Int×Int×Int×Int×Int×Int),(aB N)[x.1.toNat]? =some x_1->(decide (x_1.2.2.2.2.1=a)=true->(true,())=(cg N a,()))/\(decide (x_1.2.2.2.2.1=a)=false->(au (x.1+1))/\(some (h_ E A S R K N)=some (h_ E A S R K N)/\True)/\(0<=x.1+1/\x.1+1<=(↑(aB N).length:Int)/\(aB N).any (kw a)=(List.drop (x.1+1).toNat (aB N)).any (kw a))/\((↑(aB N).length:Int)-(x.1+1)).toNat<((↑(aB N).length:Int)-x.1).toNat))/\(decide (x.1<(↑(aB N).length:Int))=false->(false,())=(cg N a,()))
theorem zq (E:List Int) (A:List Acc.AcD) (S:List Ln) (R:List Rts.Rt) (K:List Lck.Lk) (N:List En) (a:Int) (h:Sm E A S R K N):pl E A S R K N a:=by
 obtain ⟨l1,l2,l3,l4,l5,l6,hi⟩:=h;unfold pl cg;simp only [Q7,Q6];have hll:=jr hi;refine ⟨⟨l6,hi⟩,⟨⟨trivial,trivial⟩,by omega,by omega,rfl⟩, ?_⟩;rintro ⟨i,⟨⟩⟩ ⟨h0,h1,hb⟩;dsimp only at h0 h1 hb⊢;rw [hb];refine ⟨fun c=>⟨⟨h0,c⟩,fun x hx=>⟨fun k=> ?_,fun k=>⟨by omega,⟨trivial,trivial⟩,⟨by omega,by omega, ?_⟩,by omega⟩⟩⟩,fun c=> ?_⟩
 ·rw [tU hx (by unfold kw;rw [RB k])]
 ·rw [pg h0 hx (by unfold kw;rw [Rs k])]
 ·rw [tV c]
def Hv:FSpec Tryz.prog:=mkF 124 (.c (.g (.c (.l I) (.c (.l AcT) (.c (.l LnT) (.c (.l RTy) (.c (.l Vl) (.c (.l EnT) .z))))))) (.c .j .z)) [.bool] (fun x=>(fun (E:List Int) (A:List Acc.AcD) (S:List Ln) (R:List Rts.Rt) (K:List Lck.Lk) (N:List En) (a:Int)=>(Sm E A S R K N,cg N a,())) x.1.1 x.1.2.1 x.1.2.2.1 x.1.2.2.2.1 x.1.2.2.2.2.1 x.1.2.2.2.2.2.1 x.2.1) fun ⟨⟨E,A,S,R,K,N,_⟩,a,_⟩ h=>av (E:=D9 E A S R K N a) (zq E A S R K N a h) (ab rfl _ [] rfl rfl) Tryz.func124
end Bks
end
section
namespace Bks
open Go.Vm
abbrev nI:List Int:=[]
abbrev nL:List Ln:=[]
abbrev nR:List Rts.Rt:=[]
abbrev nK:List Lck.Lk:=[]
abbrev nE:List En:=[]
def tX:Env where
 P:=Tryz.prog
 ty:=aJ
 specs:=ai [Acc.pm]
abbrev L0:Ann:={slots:=bB 0 [.list .full I, .list .full AcT, .list .full LnT, .list .full RTy, .list .full Vl, .list .full EnT],boxes:=[],inv:=fun _ _=>True}
def kX:Prop:=
 True/\True/\([],Acc.aR,[],[],[],[],())=(nI,Acc.aR,nL,nR,nK,nE,())
theorem po:kX:=by
 unfold kX;exact ⟨trivial,trivial,rfl⟩
set_option maxRecDepth 20000
def pm:FSpec Tryz.prog:=mkG 18 .z (fun x=>(True,(.agg [.list .full I [], .list .full AcT Acc.aR, .list .full LnT [], .list .full RTy [], .list .full Vl [], .list .full EnT []]))) fun _ _=>Pure.of_condG (E:=tX) (sh:=[some 6]) (ann:=L0) (x:=(nI,Acc.aR,nL,nR,nK,nE,())) (by kernel_rfl) po rfl (ab rfl _ [] rfl rfl) mixed Tryz.func18
def pp:Env where
 P:=Tryz.prog
 ty:=aJ
 specs:=ai [Acc.tY]
abbrev Hw:Ann:={slots:=bB 0 [.list .full I, .list .full AcT, .list .full LnT, .list .full RTy, .list .full Vl, .list .full EnT],boxes:=[],inv:=fun _ _=>True}
def jt:Prop:=
 True/\True/\([],Acc.aR,[],[],[],[],())=(nI,Acc.aR,nL,nR,nK,nE,())
theorem mo:jt:=by
 unfold jt;exact ⟨trivial,trivial,rfl⟩
def tY:FSpec Tryz.prog:=mkG 35 .z (fun x=>(True,(.agg [.list .full I [], .list .full AcT Acc.aR, .list .full LnT [], .list .full RTy [], .list .full Vl [], .list .full EnT []]))) fun _ _=>Pure.of_condG (E:=pp) (sh:=[some 6]) (ann:=Hw) (x:=(nI,Acc.aR,nL,nR,nK,nE,())) (by kernel_rfl) mo rfl (ab rfl _ [] rfl rfl) mixed Tryz.func35
def L1 (l:List (Int)):Env:=ee
def we (l:List Int):Prop:=
 ((true=true->l.length=(0:Nat))->([],())=(l,()))/\((false=true->l.length=(0:Nat))->(((0:Nat)+l.length)*(8:Nat)<=(140737488355328:Nat)/\(0:Nat)+l.length<=(4611686018427387904:Nat)/\((0:Nat)<l.length∨(0:Nat)=(0:Nat)))/\(l,())=(l,()))
theorem Hx (l:List (Int)) (h:l.length<=1000000):we l:=by
 unfold we;refine ⟨fun e=> ?_,fun _=>⟨⟨by omega,by omega, .inr rfl⟩,rfl⟩⟩;have:=Rk (e rfl);rw [this]
def o_:FSpec Tryz.prog:=mkF 71 (.c (.l I) .z) [.slc 0 I] (fun x=>(fun (l:List (Int))=>(l.length<=1000000,l,())) x.1) fun ⟨l,_⟩ h=>av (E:=L1 l) (Hx l h) (ab rfl [] [] rfl rfl) Tryz.func71
def L2 (l:List (Int×Int×Bool×Bool)):Env:=ee
def wg (l:List (Int×Int×Bool×Bool)):Prop:=
 ((true=true->l.length=(0:Nat))->([],())=(l,()))/\((false=true->l.length=(0:Nat))->(((0:Nat)+l.length)*(24:Nat)<=(140737488355328:Nat)/\(0:Nat)+l.length<=(4611686018427387904:Nat)/\((0:Nat)<l.length∨(0:Nat)=(0:Nat)))/\(l,())=(l,()))
theorem Hy (l:List (Int×Int×Bool×Bool)) (h:l.length<=1000000):wg l:=by
 unfold wg;refine ⟨fun e=> ?_,fun _=>⟨⟨by omega,by omega, .inr rfl⟩,rfl⟩⟩;have:=Rk (e rfl);rw [this]
def ml:FSpec Tryz.prog:=mkF 72 (.c (.l AcT) .z) [.slc 0 AcT] (fun x=>(fun (l:List (Int×Int×Bool×Bool))=>(l.length<=1000000,l,())) x.1) fun ⟨l,_⟩ h=>av (E:=L2 l) (Hy l h) (ab rfl [] [] rfl rfl) Tryz.func72
def L3 (l:List (Int×Int)):Env:=ee
def wh (l:List (Int×Int)):Prop:=
 ((true=true->l.length=(0:Nat))->([],())=(l,()))/\((false=true->l.length=(0:Nat))->(((0:Nat)+l.length)*(16:Nat)<=(140737488355328:Nat)/\(0:Nat)+l.length<=(4611686018427387904:Nat)/\((0:Nat)<l.length∨(0:Nat)=(0:Nat)))/\(l,())=(l,()))
theorem Hz (l:List (Int×Int)) (h:l.length<=1000000):wh l:=by
 unfold wh;refine ⟨fun e=> ?_,fun _=>⟨⟨by omega,by omega, .inr rfl⟩,rfl⟩⟩;have:=Rk (e rfl);rw [this]
def pb:FSpec Tryz.prog:=mkF 75 (.c (.l Vl) .z) [.slc 0 Vl] (fun x=>(fun (l:List (Int×Int))=>(l.length<=1000000,l,())) x.1) fun ⟨l,_⟩ h=>av (E:=L3 l) (Hz l h) (ab rfl [] [] rfl rfl) Tryz.func75
def L4 (l:List (En)):Env:=ee
def wi (l:List En):Prop:=
 ((true=true->l.length=(0:Nat))->([],())=(l,()))/\((false=true->l.length=(0:Nat))->(((0:Nat)+l.length)*(40:Nat)<=(140737488355328:Nat)/\(0:Nat)+l.length<=(4611686018427387904:Nat)/\((0:Nat)<l.length∨(0:Nat)=(0:Nat)))/\(l,())=(l,()))
theorem HA (l:List (En)) (h:l.length<=1000000):wi l:=by
 unfold wi;refine ⟨fun e=> ?_,fun _=>⟨⟨by omega,by omega, .inr rfl⟩,rfl⟩⟩;have:=Rk (e rfl);rw [this]
def tZ:FSpec Tryz.prog:=mkF 76 (.c (.l EnT) .z) [.slc 0 EnT] (fun x=>(fun (l:List (En))=>(l.length<=1000000,l,())) x.1) fun ⟨l,_⟩ h=>av (E:=L4 l) (HA l h) (ab rfl [] [] rfl rfl) Tryz.func76
theorem pq {α:Type} {l:List α} {i:Nat} {x:α} (h:l[i]? =some x):l.set i x=l:=by
 refine Sv fun j=> ?_;by_cases c:i=j
 ·subst c;rw [List.getElem?_set_self ((List.getElem?_eq_some_iff.1 h).1),h]
 ·rw [List.getElem?_set_ne c]
def HB (E:List Int) (A:List Acc.AcD) (S:List Ln) (R:List Rts.Rt) (K:List Lck.Lk) (N:List En):Env where
 P:=Tryz.prog
 ty:=aJ
 specs:=ai [o_,ml,Stk.bV,Rts.bV,pb,tZ,Ent.bV]
 frz:=fun|8=>true|11=>true|14=>true|17=>true|20=>true|38=>true|_=>false
 heads:=fun|3=>some {slots:=[(28, .int .i64),(23, .slc 23 EnT)],boxes:=[],keep:=[1,2,3],inv:=fun _ (x:Int×List En×Unit)=>0<=x.1/\x.1<=N.length/\x.2.1=N,measure:=fun _ (x:Int×List En×Unit)=>(N.length-x.1).toNat}|_=>none
abbrev HC:Ann:={slots:=bB 0 [.list .part I, .list .part AcT, .list .part LnT, .list .part RTy, .list .part Vl, .list .part EnT],boxes:=[],inv:=fun _ _=>True}
abbrev ju (E:List Int) (A:List Acc.AcD) (S:List Ln) (R:List Rts.Rt) (K:List Lck.Lk):_root_.Go.Vm.Obj:=Obj.box [V.list LK.part I E,V.list LK.part AcT A,V.list LK.part Stk.STy S,V.list LK.part RTy R,V.list LK.part Vl K,V.slc (23:Nat) (0:Nat) none]
abbrev jv (E:List Int) (A:List Acc.AcD) (S:List Ln) (R:List Rts.Rt) (K:List Lck.Lk) (N:List En):_root_.Go.Vm.Obj:=Obj.box [V.list LK.tmp I E,V.list LK.tmp AcT A,V.list LK.tmp LnT S,V.list LK.tmp RTy R,V.list LK.tmp Vl K,V.list LK.tmp EnT N]
def sf (E:List Int) (A:List Acc.AcD) (S:List Ln) (R:List Rts.Rt) (K:List Lck.Lk) (N:List En):Prop:=
 E.length<=(1000000:Nat)/\A.length<=(1000000:Nat)/\S.length<=(1000000000:Nat)/\R.length<=(1000000:Nat)/\K.length<=(1000000:Nat)/\N.length<=(1000000:Nat)/\((some (jv E A S R K N)=some (jv E A S R K N)/\some (Obj.box [V.nils,V.nils,V.nils,V.nils,V.nils,V.nils])=some (Obj.box [V.nils,V.nils,V.nils,V.nils,V.nils,V.nils])/\some (ju E A S R K)=some (ju E A S R K)/\True)/\0<=(0:Int)/\0<=(↑N.length:Int)/\N=N)/\∀(x:Int×List (Int×Int×List (Int×Int×Int×Int))×Unit),0<=x.1/\x.1<=N.length/\x.2.1=N->(ag (x.1<N.length)->(0<=x.1/\x.1<N.length)/\∀(x_1:Int×Int×List (Int×Int×Int×Int)),N[x.1.toNat]? =some x_1->x_1.2.2.length<=(1000000000:Nat)/\(0<=x.1/\x.1<x.2.1.length)/\x.1.toNat<x.2.1.length/\∀(y:Int×Int×List (Int×Int×Int×Int)),x.2.1[x.1.toNat]? =some y->(au (x.1+1))/\(some (jv E A S R K N)=some (jv E A S R K N)/\some (Obj.box [V.nils,V.nils,V.nils,V.nils,V.nils,V.nils])=some (Obj.box [V.nils,V.nils,V.nils,V.nils,V.nils,V.nils])/\some (ju E A S R K)=some (ju E A S R K)/\True)/\(0<=x.1+1/\x.1+1<=N.length/\x.2.1.set x.1.toNat (y.1,y.2.1,x_1.2.2)=N)/\(N.length-(x.1+1)).toNat<(N.length-x.1).toNat)/\(aj (x.1<N.length)->True/\(E,A,S,R,K,x.2.1,())=(E,A,S,R,K,N,()))
theorem D_ (E:List Int) (A:List Acc.AcD) (S:List Ln) (R:List Rts.Rt) (K:List Lck.Lk) (N:List En) (h:Sm E A S R K N):sf E A S R K N:=by
 unfold sf aj ag;obtain ⟨l1,l2,l3,l4,l5,l6,hi⟩:=h;refine ⟨by omega,by omega,by omega,by omega,by omega,by omega,⟨⟨rfl,rfl,rfl,trivial⟩,by omega,by omega,rfl⟩, ?_⟩;rintro ⟨i,M,⟨⟩⟩ ⟨h0,h1,hb⟩;dsimp only at h0 h1 hb⊢;subst hb;simp only [Q7,Q6];refine ⟨fun c=>⟨⟨h0,c⟩,fun x hx=>⟨by have:=(dp hi hx).2;omega,⟨h0,c⟩,by omega,fun y hy=>⟨by omega,⟨trivial,trivial,trivial,trivial⟩,⟨by omega,by omega, ?_⟩,by omega⟩⟩⟩,fun c=>⟨trivial,trivial⟩⟩;rw [hx] at hy;cases hy;exact pq hx
def L5:FSpec Tryz.prog:=mkG 42 (.c (.g (.c (.l I) (.c (.l AcT) (.c (.l LnT) (.c (.l RTy) (.c (.l Vl) (.c (.l EnT) .z))))))) .z) (fun x=>(fun (E:List Int) (A:List Acc.AcD) (S:List Ln) (R:List Rts.Rt) (K:List Lck.Lk) (N:List En)=>(Sm E A S R K N,(.agg [.list .part I E, .list .part AcT A, .list .part LnT S, .list .part RTy R, .list .part Vl K, .list .part EnT N]))) x.1.1 x.1.2.1 x.1.2.2.1 x.1.2.2.2.1 x.1.2.2.2.2.1 x.1.2.2.2.2.2.1) fun ⟨⟨E,A,S,R,K,N,_⟩,_⟩ h=>Pure.of_condG (E:=HB E A S R K N) (sh:=[some 6]) (ann:=HC) (x:=(fun (E:List Int) (A:List Acc.AcD) (S:List Ln) (R:List Rts.Rt) (K:List Lck.Lk) (N:List En)=>(E,A,S,R,K,N,())) E A S R K N) (by kernel_rfl) (D_ E A S R K N h) rfl (ab rfl _ [] rfl rfl) mixed Tryz.func42
end Bks
end
end
end Go.Proofs.YtabicbgeoiilmaaGreatDoor
