import Derived.Test.YtabicbgeoiilmaaGreatDoorDsk2
noncomputable section
namespace Go.Proofs.YtabicbgeoiilmaaGreatDoor.Dsk
open Go.Vm
open Bks (En InE dp Sm pq o_ ml pb tZ)
def E9 (E:List Int) (A:List Acc.AcD) (S:List Ln) (R:List Rts.Rt) (K:List Lck.Lk) (N:List En):Env where
 P:=Tryz.prog
 ty:=aJ
 specs:=ai [o_,ml,Stk.bV,Rts.bV,pb,tZ,Ent.bV]
 frz:=fun|8=>true|11=>true|14=>true|17=>true|20=>true|38=>true|_=>false
 heads:=fun|3=>some {slots:=[(28, .int .i64),(23, .slc 23 EnT)],boxes:=[],keep:=[1,2,3],inv:=fun _ (x:Int×List En×Unit)=>0<=x.1/\x.1<=N.length/\x.2.1=N,measure:=fun _ (x:Int×List En×Unit)=>(N.length-x.1).toNat}|_=>none
abbrev E_:Ann:={slots:=bB 0 [.list .part I, .list .part AcT, .list .part LnT, .list .part RTy, .list .part Vl, .slc 23 EnT],boxes:=[],inv:=fun _ _=>True}
abbrev ig (E:List Int) (A:List Acc.AcD) (S:List Ln) (R:List Rts.Rt) (K:List Lck.Lk):_root_.Go.Vm.Obj:=Obj.box [V.list LK.part I E,V.list LK.part AcT A,V.list LK.part Stk.STy S,V.list LK.part RTy R,V.list LK.part Vl K,V.slc (23:Nat) (0:Nat) none]
abbrev ii (E:List Int) (A:List Acc.AcD) (S:List Ln) (R:List Rts.Rt) (K:List Lck.Lk) (N:List En):_root_.Go.Vm.Obj:=Obj.box [V.list LK.tmp I E,V.list LK.tmp AcT A,V.list LK.tmp LnT S,V.list LK.tmp RTy R,V.list LK.tmp Vl K,V.list LK.tmp EnT N]
def kH (E:List Int) (A:List Acc.AcD) (S:List Ln) (R:List Rts.Rt) (K:List Lck.Lk) (N:List En):Prop:=
 E.length<=(1000000:Nat)/\A.length<=(1000000:Nat)/\S.length<=(1000000000:Nat)/\R.length<=(1000000:Nat)/\K.length<=(1000000:Nat)/\N.length<=(1000000:Nat)/\((some (ii E A S R K N)=some (ii E A S R K N)/\some (Obj.box [V.nils,V.nils,V.nils,V.nils,V.nils,V.nils])=some (Obj.box [V.nils,V.nils,V.nils,V.nils,V.nils,V.nils])/\some (ig E A S R K)=some (ig E A S R K)/\True)/\0<=(0:Int)/\0<=(↑N.length:Int)/\N=N)/\∀(x:Int×List (Int×Int×List (Int×Int×Int×Int))×Unit),0<=x.1/\x.1<=N.length/\x.2.1=N->(ag (x.1<N.length)->(0<=x.1/\x.1<N.length)/\∀(x_1:Int×Int×List (Int×Int×Int×Int)),N[x.1.toNat]? =some x_1->x_1.2.2.length<=(1000000000:Nat)/\(0<=x.1/\x.1<x.2.1.length)/\x.1.toNat<x.2.1.length/\∀(y:Int×Int×List (Int×Int×Int×Int)),x.2.1[x.1.toNat]? =some y->(au (x.1+1))/\(some (ii E A S R K N)=some (ii E A S R K N)/\some (Obj.box [V.nils,V.nils,V.nils,V.nils,V.nils,V.nils])=some (Obj.box [V.nils,V.nils,V.nils,V.nils,V.nils,V.nils])/\some (ig E A S R K)=some (ig E A S R K)/\True)/\(0<=x.1+1/\x.1+1<=N.length/\x.2.1.set x.1.toNat (y.1,y.2.1,x_1.2.2)=N)/\(N.length-(x.1+1)).toNat<(N.length-x.1).toNat)/\(aj (x.1<N.length)->True/\(E,A,S,R,K,x.2.1,())=(E,A,S,R,K,N,()))
theorem Ap (E:List Int) (A:List Acc.AcD) (S:List Ln) (R:List Rts.Rt) (K:List Lck.Lk) (N:List En):dV (E9 E A S R K N) Tryz.f42 [.agg [.list .tmp I E, .list .tmp AcT A, .list .tmp LnT S, .list .tmp RTy R, .list .tmp Vl K, .list .tmp EnT N]] [] [some 6] E_ (E,A,S,R,K,N,())=kH E A S R K N:=by kernel_rfl
theorem Aq (E:List Int) (A:List Acc.AcD) (S:List Ln) (R:List Rts.Rt) (K:List Lck.Lk) (N:List En) (h:Sm E A S R K N):kH E A S R K N:=by
 unfold kH aj ag;obtain ⟨l1,l2,l3,l4,l5,l6,hi⟩:=h;refine ⟨by omega,by omega,by omega,by omega,by omega,by omega,⟨⟨rfl,rfl,rfl,trivial⟩,by omega,by omega,rfl⟩, ?_⟩;rintro ⟨i,M,⟨⟩⟩ ⟨h0,h1,hb⟩;dsimp only at h0 h1 hb⊢;subst hb;simp only [Q7,Q6];refine ⟨fun c=>⟨⟨h0,c⟩,fun x hx=>⟨by have:=(dp hi hx).2;omega,⟨h0,c⟩,by omega,fun y hy=>⟨by omega,⟨trivial,trivial,trivial,trivial⟩,⟨by omega,by omega, ?_⟩,by omega⟩⟩⟩,fun c=>⟨trivial,trivial⟩⟩;rw [hx] at hy;cases hy;exact pq hx
set_option maxRecDepth 20000
theorem Fa (E:List Int) (A:List Acc.AcD) (S:List Ln) (R:List Rts.Rt) (K:List Lck.Lk) (N:List En) (h:Sm E A S R K N):UpdC Tryz.prog 42 [.agg [.list .tmp I E, .list .tmp AcT A, .list .tmp LnT S, .list .tmp RTy R, .list .tmp Vl K, .list .tmp EnT N]] [] (.agg [.list .part I E, .list .part AcT A, .list .part LnT S, .list .part RTy R, .list .part Vl K, .slc 23 0 none]) [(23, .arr 0 EnT N)]:=
 by have k:=UpdC.of_cond (Ap E A S R K N) (Aq E A S R K N h) (ab rfl [o_,ml,Stk.bV,Rts.bV,pb,tZ,Ent.bV] [] rfl rfl) mixed Tryz.func42;exact k
def MI (E:List Int) (A:List Acc.AcD) (S:List Ln) (R:List Rts.Rt) (K:List Lck.Lk) (N:List En):Prop×V×Store:=(Sm E A S R K N, .agg [.list .part I E, .list .part AcT A, .list .part LnT S, .list .part RTy R, .list .part Vl K, .slc 23 0 none],[(23, .arr 0 EnT N)])
def bW:OSpec Tryz.prog where
 f:=42
 run:=fun args σ=>match args,σ with
  |[.agg [v0_0,v0_1,v0_2,v0_3,v0_4,v0_5]],[]=>(asL I v0_0:Option (List Int)).bind fun E=>(asL AcT v0_1:Option (List Acc.AcD)).bind fun A=>(asL LnT v0_2:Option (List Ln)).bind fun S=>(asL RTy v0_3:Option (List Rts.Rt)).bind fun R=>(asL Vl v0_4:Option (List Lck.Lk)).bind fun K=>(asL EnT v0_5:Option (List En)).bind fun N=>some (MI E A S R K N)
  |_,_=>none
 ok:=fun args σ pre r σ' h hp=>by
  try dsimp only at h
  split at h
  ·rename_i v0_0 v0_1 v0_2 v0_3 v0_4 v0_5;obtain ⟨E,h0_0,h⟩:=Ra.1 h;obtain ⟨A,h0_1,h⟩:=Ra.1 h;obtain ⟨S,h0_2,h⟩:=Ra.1 h;obtain ⟨R,h0_3,h⟩:=Ra.1 h;obtain ⟨K,h0_4,h⟩:=Ra.1 h;obtain ⟨N,h0_5,h⟩:=Ra.1 h;exact eL h hp fun h=>(Fa E A S R K N h).weak (.cons (Weak.agg (.cons (aT h0_0) (.cons (aT h0_1) (.cons (aT h0_2) (.cons (aT h0_3) (.cons (aT h0_4) (.cons (aT h0_5) .nil))))))) .nil)
  ·cases h
end Go.Proofs.YtabicbgeoiilmaaGreatDoor.Dsk
