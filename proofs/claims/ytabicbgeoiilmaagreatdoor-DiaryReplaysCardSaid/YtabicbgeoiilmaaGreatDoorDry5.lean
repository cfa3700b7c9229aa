import Derived.Test.YtabicbgeoiilmaaGreatDoorDry2
import Derived.Test.YtabicbgeoiilmaaGreatDoorDsk9
import Derived.Test.YtabicbgeoiilmaaGreatDoorUse1
import Derived.Test.YtabicbgeoiilmaaGreatDoorBks8
namespace Go.Proofs.YtabicbgeoiilmaaGreatDoor
noncomputable section
section
namespace Dry
open Go.Vm
theorem EE {s t r:By} {p:Nat} (h:s.drop p=t++10::r):s.drop (p+t.length+1)=r:=by
 rw [show p+t.length+1=p+(t.length+1) by omega,<-SK,h];simp
theorem wU: ∀{l:By},(10:UInt8)∈l->∃r,l=l.takeWhile (· ≠10)++10::r
 |[],h=>by cases h
 |c::l,h=>by
  by_cases e:c=10
  ·subst e;exact ⟨l,by simp⟩
  ·obtain ⟨r,hr⟩:=wU (l:=l) (by rcases Rp.1 h with h|h;exact absurd h.symm e;exact h);refine ⟨r, ?_⟩;rw [List.takeWhile_cons_of_pos (by simpa using e),RP,<-hr]
theorem gD {s:By} {a:Int} (h:(al s a).2.2=0):0<=a/\a<=s.length/\s.drop a.toNat=(al s a).1++10::s.drop (al s a).2.1.toNat/\(al s a).2.1=a+(al s a).1.length+1/\(al s a).2.1<=s.length:=by
 unfold al at h⊢;split at h
 ·cases h
 ·rename_i c1;rw [Q8 c1];split at h
  ·rename_i c2;rw [Q_ c2];obtain ⟨r,hr⟩:=wU c2;have hd:=EE (s:=s) (p:=a.toNat) hr;dsimp only;have hl:=congrArg List.length hr;rw [Re,Rj,RE] at hl;refine ⟨by omega,by omega, ?_,rfl,by omega⟩;rw [show (a+(((s.drop a.toNat).takeWhile (· ≠10)).length:Int)+1).toNat=a.toNat+((s.drop a.toNat).takeWhile (· ≠10)).length+1 by omega,hd];exact hr
  ·cases h
theorem zS {s:By} (h:(aC s).2=0):s=gG++Lib.itoa (aC s).1:=by
 unfold aC at h⊢;split at h
 ·rename_i c;exact absurd h c
 ·rename_i c1;rw [Q8 c1];have c1:=Decidable.not_not.1 c1;split at h
  ·rename_i c;exact absurd h c
  ·rename_i c2;rw [Q8 c2];have c2:=Decidable.not_not.1 c2;split at h
   ·cases h
   ·rename_i c3;rw [Q8 c3];dsimp only;rw [Cm.Qz] at c1 c2 c3⊢;split at c1
    ·rename_i hp;rw [Q_ hp] at c2 c3⊢;have hp:=(bZ _ _).1 hp;have hp:s.take 4=gG:=hp;obtain ⟨⟨_,n2⟩,⟨n3,n4⟩,⟨n5,n6⟩,n7,n8,_⟩:=mw c2;generalize (aK s (↑gG.length,0).1 0 10000).1=n at*;generalize (aK s (↑gG.length,0).1 0 10000).2.1=e at*;have e4:((↑(gG:By).length,(0:Int)):Int×Int).1.toNat=4:=rfl;rw [e4,show e.toNat=s.length by omega,Ss] at n8;rw [n8,<-hp,Si]
    ·split at c1<;>cases c1
end Dry
end
section
namespace Dry
open Go.Vm
abbrev Ok (c:Cm.CmD):Prop:=Cm.ah c=0/\Cm.InC c
theorem pS {c:Cm.CmD} {r:List Cm.CmD} (h:Cm.ah c=0):bg (c::r)=(Cm.gE c,0)::bg r:=by
 have h1:Cm.bU c=(Cm.gE c,0):=by
  unfold Cm.bU;rw [Q_ h]
 rw [bg,h1,Q_ rfl]
theorem wV: ∀{L:List Cm.CmD},(∀c∈L,Cm.ah c=0)->(bg L).find? zT=none
 |[],_=>rfl
 |c::r,h=>by
  rw [pS (h c RF),List.find?_cons_of_neg (by simp [zT])];exact wV fun d hd=>h d (Rq _ hd)
theorem Pl {L:List Cm.CmD} (h1:L.length<=10000) (h2: ∀c∈L,Cm.ah c=0) (h3:(dy L++cF (bg L)).length<=1000000):bb L=(dy L++cF (bg L),0):=by
 unfold bb;rw [Q8 (by omega),wV h2];dsimp only;rw [Q8 (by omega)]
theorem EF (c:Cm.CmD) (r:List Cm.CmD) (h:Cm.ah c=0):cF (bg (c::r))=Cm.gE c++10::cF (bg r):=by
 rw [pS h];simp [cF]
theorem CJ {s:By}: ∀(k:Nat) (a:Int) (acc:List Cm.CmD),0<=a->a<=s.length->(cS s k a acc).2.2=0->∃L,L.length=k/\cS s k a acc=(acc++L,((acc++L).length:Int),0)/\(∀c∈L,Ok c)/\s.drop a.toNat=cF (bg L)
 |0,a,acc,h0,h1,h=>by
  rw [cS] at h⊢;split at h
  ·cases h
  ·rename_i c;refine ⟨[],rfl,by rw [Q8 c,RH],fun _ hc=>(Sj hc).elim, ?_⟩;rw [List.drop_eq_nil_of_le (by omega)];rfl
 |k+1,a,acc,h0,h1,h=>by
  rw [cS] at h⊢;split at h
  ·rename_i c;exact absurd h c
  ·rename_i c1;rw [Q8 c1];split at h
   ·rename_i c;exact absurd h c
   ·rename_i c2;rw [Q8 c2];obtain ⟨_,_,l3,l4,l5⟩:=gD (Decidable.not_not.1 c1);obtain ⟨r1,r2,r3⟩:=Cm.Ej (Decidable.not_not.1 c2);generalize (Cm.ak (al s a).1).1=c at*;obtain ⟨L,g1,g2,g3,g4⟩:=CJ k (al s a).2.1 (acc++[c]) (by omega) l5 h;refine ⟨c::L,by rw [Rj,g1], ?_, ?_, ?_⟩
    ·rw [g2,RA];rfl
    ·intro d hd;rcases Rp.1 hd with rfl|hd
     ·exact ⟨r1,r3⟩
     ·exact g3 d hd
    ·rw [EF c L r1,l3,g4,r2]
theorem H_ {s:By}: ∀(k:Nat) (a:Int) (acc:List Cm.CmD),¬(cS s k a acc).2.2=0->(cS s k a acc).1=[]
 |0,a,acc,h=>by
  rw [cS] at h⊢;split
  ·rfl
  ·rename_i c;rw [Q8 c] at h;exact absurd rfl h
 |k+1,a,acc,h=>by
  rw [cS] at h⊢;split
  ·rfl
  ·rename_i c1;rw [Q8 c1] at h;split
   ·rfl
   ·rename_i c2;rw [Q8 c2] at h;exact H_ k _ _ h
theorem Mq {s:By} (h: ¬(aa s).2.2=0):(aa s).1=[]:=by
 unfold aa at h⊢;split
 ·rfl
 ·rename_i c1;rw [Q8 c1] at h;split
  ·rfl
  ·rename_i c2;rw [Q8 c2] at h;split
   ·rfl
   ·rename_i c3;rw [Q8 c3] at h;exact H_ _ _ _ h
theorem wW {s:By} (h:(aa s).2.2=0):bb (aa s).1=(s,0)/\(aa s).2.1=((aa s).1.length:Int)/\(∀c∈(aa s).1,Ok c)/\(aa s).1.length<=10000:=by
 unfold aa at h⊢;split at h
 ·cases h
 ·rename_i c1;rw [Q8 c1];split at h
  ·rename_i c;exact absurd h c
  ·rename_i c2;rw [Q8 c2];split at h
   ·rename_i c;exact absurd h c
   ·rename_i c3;rw [Q8 c3];obtain ⟨_,_,l3,l4,l5⟩:=gD (Decidable.not_not.1 c2);have c3:=Decidable.not_not.1 c3;have f1:=zS c3;obtain ⟨f2,f3⟩:=pR c3;obtain ⟨L,g1,g2,g3,g4⟩:=CJ _ _ _ (by omega) l5 h;have hs:s=dy L++cF (bg L):=by
     rw [f1,g4] at l3;rw [show (0:Int).toNat=0 from rfl,Sz] at l3;rw [l3];have:((aC (al s 0).1).1:Int)=(L.length:Int):=by omega
     rw [this];simp [dy]
    rw [g2,RM];dsimp only;refine ⟨?_,rfl,g3,by omega⟩;rw [Pl (by omega) (fun c hc=>(g3 c hc).1) (by rw [<-hs];omega),<-hs]
theorem uj (s:By):(∀c∈(aa s).1,Ok c)/\(aa s).1.length<=10000:=by
 by_cases h:(aa s).2.2=0
 ·obtain ⟨_,_,h3,h4⟩:=wW h;exact ⟨h3,h4⟩
 ·rw [Mq h];exact ⟨fun _ h=>(by cases h),by simp⟩
theorem QF {s:By} (h: ∀a:Nat,((s.drop a).takeWhile (· ≠10)).length<=10000):fX s:=fun a=>by
 unfold al;split
 ·simp
 ·split
  ·exact h _
  ·simp
theorem fD {s:By} (h:s.length<=10000):fX s:=QF fun a=>by
 have:=sq s a;omega
end Dry
end
section
namespace Dry
open Go.Vm
open Dsk (Bk bk0 aA)
def QG (L:List Cm.CmD):Prop×V:=((∀c∈L,Cm.InC c), .tuple [.str (bb L).1, .int .i64 (bb L).2])
def EG:FSpec Tryz.prog where
 f:=9
 run:=fun
  |[v0]=>(asL Cm v0:Option (List Cm.CmD)).bind fun L=>some (QG L)
  |_=>none
 ok:=fun args pre r h hp=>by
  split at h
  ·rename_i v0;obtain ⟨l,h0,h⟩:=Ra.1 h;exact zU h hp fun h=>(Ia l h).weak (.cons (aT h0) .nil)
  ·cases h
theorem uk {l:List Cm.CmD} (h: ∀c∈l,Cm.InC c):Dsk.InC l:=fun c hc z hz=>(h c hc).2 z hz _ (by simp [Cm.lnL])
abbrev bkN:Bk:=([],Acc.aR,[],[],[],[])
def aF (s:By):Bk×Int×Int:=if (aa s).2.2=0 then aA bkN (aa s).1 else (bk0,(aa s).2.1,(aa s).2.2)
def wX (s:By):Env where
 P:=Tryz.prog
 ty:=oG
 specs:=ai [jw,Bks.pm,Dsk.mE]
abbrev wY:Ann:={slots:=bB 0 [.list .part I, .list .part AcT, .list .part LnT, .list .part RTy, .list .part Vl, .list .part EnT, .int .i64, .int .i64],boxes:=[],inv:=fun _ _=>True}
def li (s:By):Prop:=
 fX s/\((!decide ((aa s).2.2=0))=true->True/\([],[],[],[],[],[],(aa s).2.1,(aa s).2.2,())=((aF s).1.1,(aF s).1.2.1,(aF s).1.2.2.1,(aF s).1.2.2.2.1,(aF s).1.2.2.2.2.1,(aF s).1.2.2.2.2.2,(aF s).2.1,(aF s).2.2,()))/\((!decide ((aa s).2.2=0))=false->True/\(Dsk.Szn 500000 ([],Acc.aR,[],[],[],[])/\(aa s).1.length<=(500000:Nat)/\Dsk.InC (aa s).1)/\True/\((aA ([],Acc.aR,[],[],[],[]) (aa s).1).1.1,(aA ([],Acc.aR,[],[],[],[]) (aa s).1).1.2.1,(aA ([],Acc.aR,[],[],[],[]) (aa s).1).1.2.2.1,(aA ([],Acc.aR,[],[],[],[]) (aa s).1).1.2.2.2.1,(aA ([],Acc.aR,[],[],[],[]) (aa s).1).1.2.2.2.2.1,(aA ([],Acc.aR,[],[],[],[]) (aa s).1).1.2.2.2.2.2,(aA ([],Acc.aR,[],[],[],[]) (aa s).1).2.1,(aA ([],Acc.aR,[],[],[],[]) (aa s).1).2.2,())=((aF s).1.1,(aF s).1.2.1,(aF s).1.2.2.1,(aF s).1.2.2.2.1,(aF s).1.2.2.2.2.1,(aF s).1.2.2.2.2.2,(aF s).2.1,(aF s).2.2,()))
theorem ul (s:By) (h:fX s):li s:=by
 unfold li;obtain ⟨d1,d2⟩:=uj s;refine ⟨h,fun c=>⟨trivial, ?_⟩,fun c=>⟨trivial,⟨⟨by decide,by decide,by decide,by decide,by decide,by decide,fun _ h=>(Sj h).elim⟩,by omega,uk fun c hc=>(d1 c hc).2⟩,trivial, ?_⟩⟩
 ·have e:aF s=(bk0,(aa s).2.1,(aa s).2.2):=Q8 (by simpa using c);rw [e];rfl
 ·have e:aF s=aA bkN (aa s).1:=Q_ (by simpa using c);rw [e]
set_option maxRecDepth 20000
def kC:FSpec Tryz.prog:=mkG 14 (.c .s .z) (fun x=>(fun (s:By)=>(fX s,(.tuple [.agg [.list .part I ((aF s).1.1), .list .part AcT ((aF s).1.2.1), .list .part LnT ((aF s).1.2.2.1), .list .part RTy ((aF s).1.2.2.2.1), .list .part Vl ((aF s).1.2.2.2.2.1), .list .part EnT ((aF s).1.2.2.2.2.2)], .int .i64 (aF s).2.1, .int .i64 (aF s).2.2]))) x.1) fun ⟨s,_⟩ h=>Pure.of_condG (E:=wX s) (sh:=[some 6,none,none]) (ann:=wY) (x:=(fun (s:By)=>((aF s).1.1,(aF s).1.2.1,(aF s).1.2.2.1,(aF s).1.2.2.2.1,(aF s).1.2.2.2.2.1,(aF s).1.2.2.2.2.2,(aF s).2.1,(aF s).2.2,())) s) (by kernel_rfl) (ul s h) rfl (ab rfl _ [] rfl rfl) mixed Tryz.func14
abbrev stC:List Cm.CmD:=[(1,1,0,0,0,false,false,(0,0),[]),(1,2,0,0,0,false,false,(0,0),[]),(2,0,1,0,0,false,false,(0,0),[]),(2,0,2,0,0,true,false,(0,0),[]),(7,1,0,0,0,false,false,(0,0),[(1,4,0,5),(1,5,0, -5)])]
def EH:Env where
 P:=Tryz.prog
 ty:=oG
abbrev EI:Ann:={slots:=bB 0 [.list .full Cm],boxes:=[],inv:=fun _ _=>True}
def pT:Prop:=
 True/\([((1:Int),(1:Int),(0:Int),(0:Int),(0:Int),false,false,((0:Int),(0:Int)),[]),((1:Int),(2:Int),(0:Int),(0:Int),(0:Int),false,false,((0:Int),(0:Int)),[]),((2:Int),(0:Int),(1:Int),(0:Int),(0:Int),false,false,((0:Int),(0:Int)),[]),((2:Int),(0:Int),(2:Int),(0:Int),(0:Int),true,false,((0:Int),(0:Int)),[]),((7:Int),(1:Int),(0:Int),(0:Int),(0:Int),false,false,((0:Int),(0:Int)),[((1:Int),(4:Int),(0:Int),(5:Int)),((1:Int),(5:Int),(0:Int),(-5:Int))])],())=(stC,())
theorem zV:pT:=by
 unfold pT;exact ⟨trivial,rfl⟩
def Ib:FSpec Tryz.prog:=mkG 19 .z (fun x=>(True,(.list .full Cm stC))) fun _ _=>Pure.of_condG (E:=EH) (sh:=[none]) (ann:=EI) (x:=(stC,())) (by kernel_rfl) zV rfl (ab rfl [] [] rfl rfl) mixed Tryz.func19
abbrev w0:By:=[(108:UInt8),(111:UInt8),(103:UInt8),(32:UInt8),(49:UInt8),(10:UInt8),(101:UInt8),(110:UInt8),(116:UInt8),(105:UInt8),(116:UInt8),(121:UInt8),(32:UInt8),(51:UInt8),(10:UInt8)]
abbrev w1:By:=[(108:UInt8),(111:UInt8),(103:UInt8),(32:UInt8),(50:UInt8),(10:UInt8),(101:UInt8),(110:UInt8),(116:UInt8),(105:UInt8),(116:UInt8),(121:UInt8),(32:UInt8),(49:UInt8),(10:UInt8),(108:UInt8),(111:UInt8),(99:UInt8),(107:UInt8),(32:UInt8),(49:UInt8),(32:UInt8),(53:UInt8),(10:UInt8)]
abbrev w2:By:=[(108:UInt8),(111:UInt8),(103:UInt8),(32:UInt8),(50:UInt8),(10:UInt8),(101:UInt8),(110:UInt8),(116:UInt8),(105:UInt8),(116:UInt8),(121:UInt8),(32:UInt8),(49:UInt8),(10:UInt8),(108:UInt8),(97:UInt8),(99:UInt8),(107:UInt8),(32:UInt8),(49:UInt8),(32:UInt8),(53:UInt8),(10:UInt8)]
abbrev w3:By:=[(108:UInt8),(111:UInt8),(103:UInt8),(32:UInt8),(48:UInt8),(10:UInt8),(120:UInt8)]
abbrev w4:By:=[(108:UInt8),(111:UInt8),(103:UInt8),(32:UInt8),(53:UInt8),(10:UInt8),(101:UInt8),(110:UInt8),(116:UInt8),(105:UInt8),(116:UInt8),(121:UInt8),(32:UInt8),(49:UInt8),(10:UInt8),(101:UInt8),(110:UInt8),(116:UInt8),(105:UInt8),(116:UInt8),(121:UInt8),(32:UInt8),(50:UInt8),(10:UInt8),(97:UInt8),(99:UInt8),(99:UInt8),(111:UInt8),(117:UInt8),(110:UInt8),(116:UInt8),(32:UInt8),(48:UInt8),(32:UInt8),(49:UInt8),(32:UInt8),(48:UInt8),(32:UInt8),(48:UInt8),(10:UInt8),(97:UInt8),(99:UInt8),(99:UInt8),(111:UInt8),(117:UInt8),(110:UInt8),(116:UInt8),(32:UInt8),(48:UInt8),(32:UInt8),(50:UInt8),(32:UInt8),(49:UInt8),(32:UInt8),(48:UInt8),(10:UInt8),(112:UInt8),(111:UInt8),(115:UInt8),(116:UInt8),(32:UInt8),(49:UInt8),(32:UInt8),(50:UInt8),(32:UInt8),(49:UInt8),(32:UInt8),(52:UInt8),(32:UInt8),(48:UInt8),(32:UInt8),(53:UInt8),(32:UInt8),(49:UInt8),(32:UInt8),(53:UInt8),(32:UInt8),(48:UInt8),(32:UInt8),(45:UInt8),(53:UInt8),(10:UInt8)]
abbrev w5:By:=[(108:UInt8),(111:UInt8),(103:UInt8),(32:UInt8),(49:UInt8),(10:UInt8),(101:UInt8),(110:UInt8),(116:UInt8),(105:UInt8),(116:UInt8),(121:UInt8),(32:UInt8),(57:UInt8),(10:UInt8)]
abbrev w6:By:=[(108:UInt8),(111:UInt8),(103:UInt8),(32:UInt8),(49:UInt8)]
theorem d0:aa w0=([(1,3,0,0,0,false,false,(0,0),[])],1,0):=by kernel_rfl
theorem d1:aa w1=([(1,1,0,0,0,false,false,(0,0),[]),(6,1,5,0,0,false,false,(0,0),[])],2,0):=by kernel_rfl
theorem d2:aa w2=([],2,8):=by kernel_rfl
theorem d3:(aa w3).2.2=6:=by kernel_rfl
theorem d4:aa w4=(stC,5,0):=by kernel_rfl
theorem d5:aa w5=([(1,9,0,0,0,false,false,(0,0),[])],1,0):=by kernel_rfl
theorem d6:(aa w6).2.2=4:=by kernel_rfl
theorem d7:bb [(0,0,0,0,0,false,false,(0,0),[])]=([],25):=by kernel_rfl
theorem Ic {s:By} {L:List Cm.CmD} {n:Int} (h:aa s=(L,n,0)):bb L=(s,0)/\∀c∈L,Cm.InC c:=by
 obtain ⟨h1,_,h3,_⟩:=wW (s:=s) (by rw [h]);rw [h] at h1 h3;exact ⟨h1,fun c hc=>(h3 c hc).2⟩
def stB:Bk:=([1,2],[(0,1,true,false),(0,1,false,false),(0,1,false,false),(0,1,false,false),(0,2,true,false)],[],[],[],[(1,0,[(1,4,0,5),(1,5,0, -5)])])
theorem r0:aA bkN stC=(stB,5,0):=by kernel_rfl
theorem r1:aA bkN [(1,9,0,0,0,false,false,(0,0),[])]=(bkN,0,23):=by kernel_rfl
theorem e4:aF w4=(stB,5,0):=by
 unfold aF;rw [d4,Q_ rfl,r0]
theorem e5:aF w5=(bkN,0,23):=by
 unfold aF;rw [d5,Q_ rfl,r1]
theorem in0:Cm.InC (0,0,0,0,0,false,false,(0,0),[]):=by
 refine ⟨fun n hn=>Cm.Pb ?_,fun x hx=>by cases hx⟩;revert n hn;decide
def EJ:Env where
 P:=Tryz.prog
 ty:=oG
 specs:=ai [EG,jw,Ib,kC]
def pU:Prop:=
 (∀(c:Int×Int×Int×Int×Int×Bool×Bool×(Int×Int)×List (Int×Int×Int×Int)),c∈[((1:Int),(3:Int),(0:Int),(0:Int),(0:Int),false,false,((0:Int),(0:Int)),[])]->Cm.InC c)/\fX [(108:UInt8),(111:UInt8),(103:UInt8),(32:UInt8),(50:UInt8),(10:UInt8),(101:UInt8),(110:UInt8),(116:UInt8),(105:UInt8),(116:UInt8),(121:UInt8),(32:UInt8),(49:UInt8),(10:UInt8),(108:UInt8),(111:UInt8),(99:UInt8),(107:UInt8),(32:UInt8),(49:UInt8),(32:UInt8),(53:UInt8),(10:UInt8)]/\fX [(108:UInt8),(111:UInt8),(103:UInt8),(32:UInt8),(50:UInt8),(10:UInt8),(101:UInt8),(110:UInt8),(116:UInt8),(105:UInt8),(116:UInt8),(121:UInt8),(32:UInt8),(49:UInt8),(10:UInt8),(108:UInt8),(97:UInt8),(99:UInt8),(107:UInt8),(32:UInt8),(49:UInt8),(32:UInt8),(53:UInt8),(10:UInt8)]/\fX [(108:UInt8),(111:UInt8),(103:UInt8),(32:UInt8),(48:UInt8),(10:UInt8),(120:UInt8)]/\(∀(c:Int×Int×Int×Int×Int×Bool×Bool×(Int×Int)×List (Int×Int×Int×Int)),c∈[((0:Int),(0:Int),(0:Int),(0:Int),(0:Int),false,false,((0:Int),(0:Int)),[])]->Cm.InC c)/\True/\(∀(c:Int×Int×Int×Int×Int×Bool×Bool×(Int×Int)×List (Int×Int×Int×Int)),c∈stC->Cm.InC c)/\fX (bb stC).1/\fX [(108:UInt8),(111:UInt8),(103:UInt8),(32:UInt8),(49:UInt8),(10:UInt8),(101:UInt8),(110:UInt8),(116:UInt8),(105:UInt8),(116:UInt8),(121:UInt8),(32:UInt8),(57:UInt8),(10:UInt8)]/\fX [(108:UInt8),(111:UInt8),(103:UInt8),(32:UInt8),(49:UInt8)]/\(ag ((bb [((1:Int),(3:Int),(0:Int),(0:Int),(0:Int),false,false,((0:Int),(0:Int)),[])]).1=[(108:UInt8),(111:UInt8),(103:UInt8),(32:UInt8),(49:UInt8),(10:UInt8),(101:UInt8),(110:UInt8),(116:UInt8),(105:UInt8),(116:UInt8),(121:UInt8),(32:UInt8),(51:UInt8),(10:UInt8)])->(ag ((bb [((1:Int),(3:Int),(0:Int),(0:Int),(0:Int),false,false,((0:Int),(0:Int)),[])]).2=0)->(ag ((↑(aa [(108:UInt8),(111:UInt8),(103:UInt8),(32:UInt8),(50:UInt8),(10:UInt8),(101:UInt8),(110:UInt8),(116:UInt8),(105:UInt8),(116:UInt8),(121:UInt8),(32:UInt8),(49:UInt8),(10:UInt8),(108:UInt8),(111:UInt8),(99:UInt8),(107:UInt8),(32:UInt8),(49:UInt8),(32:UInt8),(53:UInt8),(10:UInt8)]).1.length:Int)=(2:Int))->(ag ((aa [(108:UInt8),(111:UInt8),(103:UInt8),(32:UInt8),(50:UInt8),(10:UInt8),(101:UInt8),(110:UInt8),(116:UInt8),(105:UInt8),(116:UInt8),(121:UInt8),(32:UInt8),(49:UInt8),(10:UInt8),(108:UInt8),(111:UInt8),(99:UInt8),(107:UInt8),(32:UInt8),(49:UInt8),(32:UInt8),(53:UInt8),(10:UInt8)]).2.1=2)->(ag ((aa [(108:UInt8),(111:UInt8),(103:UInt8),(32:UInt8),(50:UInt8),(10:UInt8),(101:UInt8),(110:UInt8),(116:UInt8),(105:UInt8),(116:UInt8),(121:UInt8),(32:UInt8),(49:UInt8),(10:UInt8),(108:UInt8),(111:UInt8),(99:UInt8),(107:UInt8),(32:UInt8),(49:UInt8),(32:UInt8),(53:UInt8),(10:UInt8)]).2.2=0)->(ag ((aa [(108:UInt8),(111:UInt8),(103:UInt8),(32:UInt8),(50:UInt8),(10:UInt8),(101:UInt8),(110:UInt8),(116:UInt8),(105:UInt8),(116:UInt8),(121:UInt8),(32:UInt8),(49:UInt8),(10:UInt8),(108:UInt8),(97:UInt8),(99:UInt8),(107:UInt8),(32:UInt8),(49:UInt8),(32:UInt8),(53:UInt8),(10:UInt8)]).2.1=2)->(ag ((aa [(108:UInt8),(111:UInt8),(103:UInt8),(32:UInt8),(50:UInt8),(10:UInt8),(101:UInt8),(110:UInt8),(116:UInt8),(105:UInt8),(116:UInt8),(121:UInt8),(32:UInt8),(49:UInt8),(10:UInt8),(108:UInt8),(97:UInt8),(99:UInt8),(107:UInt8),(32:UInt8),(49:UInt8),(32:UInt8),(53:UInt8),(10:UInt8)]).2.2=8)->(ag ((aa [(108:UInt8),(111:UInt8),(103:UInt8),(32:UInt8),(48:UInt8),(10:UInt8),(120:UInt8)]).2.2=6)->(ag ((bb [((0:Int),(0:Int),(0:Int),(0:Int),(0:Int),false,false,((0:Int),(0:Int)),[])]).2=25)->(ag ((bb stC).2=0)->(ag ((aF (bb stC).1).2.1=5)->(ag ((aF (bb stC).1).2.2=0)->(ag ((↑(aF (bb stC).1).1.2.2.2.2.2.length:Int)=(1:Int))->(ag ((aF [(108:UInt8),(111:UInt8),(103:UInt8),(32:UInt8),(49:UInt8),(10:UInt8),(101:UInt8),(110:UInt8),(116:UInt8),(105:UInt8),(116:UInt8),(121:UInt8),(32:UInt8),(57:UInt8),(10:UInt8)]).2.1=0)->(ag ((aF [(108:UInt8),(111:UInt8),(103:UInt8),(32:UInt8),(49:UInt8),(10:UInt8),(101:UInt8),(110:UInt8),(116:UInt8),(105:UInt8),(116:UInt8),(121:UInt8),(32:UInt8),(57:UInt8),(10:UInt8)]).2.2=23)->(decide ((aa [(108:UInt8),(111:UInt8),(103:UInt8),(32:UInt8),(49:UInt8)]).2.2=4),())=(true,()))/\(aP ((aF [(108:UInt8),(111:UInt8),(103:UInt8),(32:UInt8),(49:UInt8),(10:UInt8),(101:UInt8),(110:UInt8),(116:UInt8),(105:UInt8),(116:UInt8),(121:UInt8),(32:UInt8),(57:UInt8),(10:UInt8)]).2.2=23)->(false,())=(true,())))/\(aP ((aF [(108:UInt8),(111:UInt8),(103:UInt8),(32:UInt8),(49:UInt8),(10:UInt8),(101:UInt8),(110:UInt8),(116:UInt8),(105:UInt8),(116:UInt8),(121:UInt8),(32:UInt8),(57:UInt8),(10:UInt8)]).2.1=0)->(false,())=(true,())))/\(aP ((↑(aF (bb stC).1).1.2.2.2.2.2.length:Int)=(1:Int))->(false,())=(true,())))/\(aP ((aF (bb stC).1).2.2=0)->(false,())=(true,())))/\(aP ((aF (bb stC).1).2.1=5)->(false,())=(true,())))/\(aP ((bb stC).2=0)->(false,())=(true,())))/\(aP ((bb [((0:Int),(0:Int),(0:Int),(0:Int),(0:Int),false,false,((0:Int),(0:Int)),[])]).2=25)->(false,())=(true,())))/\(aP ((aa [(108:UInt8),(111:UInt8),(103:UInt8),(32:UInt8),(48:UInt8),(10:UInt8),(120:UInt8)]).2.2=6)->(false,())=(true,())))/\(aP ((aa [(108:UInt8),(111:UInt8),(103:UInt8),(32:UInt8),(50:UInt8),(10:UInt8),(101:UInt8),(110:UInt8),(116:UInt8),(105:UInt8),(116:UInt8),(121:UInt8),(32:UInt8),(49:UInt8),(10:UInt8),(108:UInt8),(97:UInt8),(99:UInt8),(107:UInt8),(32:UInt8),(49:UInt8),(32:UInt8),(53:UInt8),(10:UInt8)]).2.2=8)->(false,())=(true,())))/\(aP ((aa [(108:UInt8),(111:UInt8),(103:UInt8),(32:UInt8),(50:UInt8),(10:UInt8),(101:UInt8),(110:UInt8),(116:UInt8),(105:UInt8),(116:UInt8),(121:UInt8),(32:UInt8),(49:UInt8),(10:UInt8),(108:UInt8),(97:UInt8),(99:UInt8),(107:UInt8),(32:UInt8),(49:UInt8),(32:UInt8),(53:UInt8),(10:UInt8)]).2.1=2)->(false,())=(true,())))/\(aP ((aa [(108:UInt8),(111:UInt8),(103:UInt8),(32:UInt8),(50:UInt8),(10:UInt8),(101:UInt8),(110:UInt8),(116:UInt8),(105:UInt8),(116:UInt8),(121:UInt8),(32:UInt8),(49:UInt8),(10:UInt8),(108:UInt8),(111:UInt8),(99:UInt8),(107:UInt8),(32:UInt8),(49:UInt8),(32:UInt8),(53:UInt8),(10:UInt8)]).2.2=0)->(false,())=(true,())))/\(aP ((aa [(108:UInt8),(111:UInt8),(103:UInt8),(32:UInt8),(50:UInt8),(10:UInt8),(101:UInt8),(110:UInt8),(116:UInt8),(105:UInt8),(116:UInt8),(121:UInt8),(32:UInt8),(49:UInt8),(10:UInt8),(108:UInt8),(111:UInt8),(99:UInt8),(107:UInt8),(32:UInt8),(49:UInt8),(32:UInt8),(53:UInt8),(10:UInt8)]).2.1=2)->(false,())=(true,())))/\(aP ((↑(aa [(108:UInt8),(111:UInt8),(103:UInt8),(32:UInt8),(50:UInt8),(10:UInt8),(101:UInt8),(110:UInt8),(116:UInt8),(105:UInt8),(116:UInt8),(121:UInt8),(32:UInt8),(49:UInt8),(10:UInt8),(108:UInt8),(111:UInt8),(99:UInt8),(107:UInt8),(32:UInt8),(49:UInt8),(32:UInt8),(53:UInt8),(10:UInt8)]).1.length:Int)=(2:Int))->(false,())=(true,())))/\(aP ((bb [((1:Int),(3:Int),(0:Int),(0:Int),(0:Int),false,false,((0:Int),(0:Int)),[])]).2=0)->(false,())=(true,())))/\(aP ((bb [((1:Int),(3:Int),(0:Int),(0:Int),(0:Int),false,false,((0:Int),(0:Int)),[])]).1=[(108:UInt8),(111:UInt8),(103:UInt8),(32:UInt8),(49:UInt8),(10:UInt8),(101:UInt8),(110:UInt8),(116:UInt8),(105:UInt8),(116:UInt8),(121:UInt8),(32:UInt8),(51:UInt8),(10:UInt8)])->(false,())=(true,()))
theorem zW:pU:=by
 unfold pU aP ag;have k0:=Ic d0;have k4:=Ic d4;simp only [k0.1,k4.1,d1,d2,d3,d6,d7,e4,e5];refine ⟨k0.2,fD (by decide),fD (by decide),fD (by decide),fun c hc=> ?_,trivial,k4.2,fD (by decide),fD (by decide),fD (by decide), ?_⟩
 ·rw [Ru.1 hc];exact in0
 ·simp [stB]
def wZ:FSpec Tryz.prog:=mkF 8 .z [.bool] (fun x=>(True,true,())) fun _ _=>av (E:=EJ) zW (ab rfl _ [] rfl rfl) Tryz.func8
end Dry
end
section
namespace Dry
open Go.Vm
set_option maxRecDepth 20000
end Dry
end
section
namespace Dry
open Go.Vm
open Dsk (Bk bk0 aA)
def um (s:By):Env where
 P:=Tryz.prog
 ty:=oG
 specs:=ai [zR,Bks.tY,Dsk.zX]
 frz:=fun|10=>true|_=>false
abbrev uo:Ann:={slots:=bB 0 [.list .part I, .list .part AcT, .list .part LnT, .list .part RTy, .list .part Vl, .list .part EnT, .int .i64, .int .i64],boxes:=[],inv:=fun _ _=>True}
def jX (s:By):Prop:=
 fX s/\((!decide ((aa s).2.2=0))=true->True/\([],[],[],[],[],[],(aa s).2.1,(aa s).2.2,())=((aF s).1.1,(aF s).1.2.1,(aF s).1.2.2.1,(aF s).1.2.2.2.1,(aF s).1.2.2.2.2.1,(aF s).1.2.2.2.2.2,(aF s).2.1,(aF s).2.2,()))/\((!decide ((aa s).2.2=0))=false->True/\(Dsk.Szn 500000 ([],Acc.aR,[],[],[],[])/\(aa s).1.length<=(500000:Nat)/\Dsk.InC (aa s).1)/\True/\((aA ([],Acc.aR,[],[],[],[]) (aa s).1).1.1,(aA ([],Acc.aR,[],[],[],[]) (aa s).1).1.2.1,(aA ([],Acc.aR,[],[],[],[]) (aa s).1).1.2.2.1,(aA ([],Acc.aR,[],[],[],[]) (aa s).1).1.2.2.2.1,(aA ([],Acc.aR,[],[],[],[]) (aa s).1).1.2.2.2.2.1,(aA ([],Acc.aR,[],[],[],[]) (aa s).1).1.2.2.2.2.2,(aA ([],Acc.aR,[],[],[],[]) (aa s).1).2.1,(aA ([],Acc.aR,[],[],[],[]) (aa s).1).2.2,())=((aF s).1.1,(aF s).1.2.1,(aF s).1.2.2.1,(aF s).1.2.2.2.1,(aF s).1.2.2.2.2.1,(aF s).1.2.2.2.2.2,(aF s).2.1,(aF s).2.2,()))
theorem rK (s:By) (h:fX s):jX s:=by
 unfold jX;obtain ⟨d1,d2⟩:=uj s;refine ⟨h,fun c=>⟨trivial, ?_⟩,fun c=>⟨trivial,⟨⟨by decide,by decide,by decide,by decide,by decide,by decide,fun _ h=>(Sj h).elim⟩,by omega,uk fun c hc=>(d1 c hc).2⟩,trivial, ?_⟩⟩
 ·have e:aF s=(bk0,(aa s).2.1,(aa s).2.2):=Q8 (by simpa using c);rw [e];rfl
 ·have e:aF s=aA bkN (aa s).1:=Q_ (by simpa using c);rw [e]
set_option maxRecDepth 20000
def nP:FSpec Tryz.prog:=mkG 15 (.c .s .z) (fun x=>(fun (s:By)=>(fX s,(.tuple [.agg [.list .part I ((aF s).1.1), .list .part AcT ((aF s).1.2.1), .list .part LnT ((aF s).1.2.2.1), .list .part RTy ((aF s).1.2.2.2.1), .list .part Vl ((aF s).1.2.2.2.2.1), .list .part EnT ((aF s).1.2.2.2.2.2)], .int .i64 (aF s).2.1, .int .i64 (aF s).2.2]))) x.1) fun ⟨s,_⟩ h=>Pure.of_condG (E:=um s) (sh:=[some 6,none,none]) (ann:=uo) (x:=(fun (s:By)=>((aF s).1.1,(aF s).1.2.1,(aF s).1.2.2.1,(aF s).1.2.2.2.1,(aF s).1.2.2.2.2.1,(aF s).1.2.2.2.2.2,(aF s).2.1,(aF s).2.2,())) s) (by kernel_rfl) (rK s h) rfl (ab rfl _ [] rfl rfl) mixed Tryz.func15
theorem sr (E:List Int) (A:List Acc.AcD) (S:List Cm.LnD) (R:List Rts.Rt) (K:List Lck.Lk) (N:List Bks.En):Bks.bL E A S R K N E A S R K N=true:=by
 unfold Bks.bL;simp
theorem zY {n m:Nat} {B:Bk} (h:Dsk.Szn n B) (k:n<=m):Dsk.Szn m B:=⟨Ro h.1 k,Ro h.2.1 k,Ro h.2.2.1 k,Ro h.2.2.2.1 k,Ro h.2.2.2.2.1 k,Ro h.2.2.2.2.2.1 k,h.2.2.2.2.2.2⟩
theorem zZ: ∀(l:List Cm.CmD) (n:Nat) (B:Bk) (i:Int),Dsk.Szn n B->Dsk.InC l->Dsk.Szn (n+l.length) (Dsk.bN B l i).1
 |[],n,B,i,h,_=>h
 |c::r,n,B,i,h,hl=>by
  rw [Dsk.bN];have hc:=Dsk.OP h (hl c (RF ..));split
  ·have:=zZ r (n+1) _ (i+1) hc (fun x hx=>hl x (Rq _ hx));rw [Rj,show n+(r.length+1)=n+1+r.length by omega];exact this
  ·exact zY h (Nat.le_add_right _ _)
theorem QH {n:Nat} {B:Bk} (h:Dsk.Szn n B) (hn:n<=1000000):Bks.Sm B.1 B.2.1 B.2.2.1 B.2.2.2.1 B.2.2.2.2.1 B.2.2.2.2.2:=Dsk.CK (by exact h) hn
theorem uq: ∀(l:List Cm.CmD) (B:Bk) (i:Int),Dsk.bN B l i=((aA B l).1,i+(aA B l).2.1,(aA B l).2.2)
 |[],B,i=>by simp [aA,Dsk.bN]
 |c::r,B,i=>by
  unfold aA;rw [Dsk.bN,Dsk.bN];split
  ·rw [uq r _ (i+1),uq r _ (0+1),Int.zero_add,Int.add_assoc]
  ·simp
theorem z_: ∀(l:List Cm.CmD) (B:Bk),0<=(aA B l).2.1/\(aA B l).2.1<=l.length
 |[],B=>by simp [aA,Dsk.bN]
 |c::r,B=>by
  unfold aA;rw [Dsk.bN];split
  ·rw [uq];have:=z_ r (Dsk.apF B c).1;rw [Rj];dsimp only;omega
  ·rw [Rj];dsimp only;omega
theorem CL: ∀(l m:List Cm.CmD) (B:Bk) (i:Int),Dsk.bN B (l++m) i=if (Dsk.bN B l i).2.2=0 then Dsk.bN (Dsk.bN B l i).1 m (Dsk.bN B l i).2.1 else Dsk.bN B l i
 |[],m,B,i=>by
  rw [RM,Dsk.bN,Q_ rfl]
 |c::r,m,B,i=>by
  rw [RP,Dsk.bN,Dsk.bN];split
  ·exact CL r m _ _
  ·rfl
theorem Mr {l:List Cm.CmD} (n:Nat) (B:Bk):aA B l=if (aA B (l.take n)).2.2=0 then ((aA (aA B (l.take n)).1 (l.drop n)).1,(aA B (l.take n)).2.1+(aA (aA B (l.take n)).1 (l.drop n)).2.1,(aA (aA B (l.take n)).1 (l.drop n)).2.2) else aA B (l.take n):=by
 have h:=CL (l.take n) (l.drop n) B 0;rw [Si] at h;rw [<-uq];exact h
theorem CM:Dsk.Szn 500000 bkN:=⟨by decide,by decide,by decide,by decide,by decide,by decide,fun _ h=>(Sj h).elim⟩
theorem Ms:Dsk.Szn 100 bkN:=⟨by decide,by decide,by decide,by decide,by decide,by decide,fun _ h=>(Sj h).elim⟩
theorem Pm (B:Bk):(B.1,B.2.1,B.2.2.1,B.2.2.2.1,B.2.2.2.2.1,B.2.2.2.2.2)=B:=rfl
theorem Mt (s:By):Dsk.Szn 510000 (aF s).1:=by
 obtain ⟨d1,d2⟩:=uj s;unfold aF;split
 ·exact zY (zZ _ 500000 bkN 0 CM (uk fun c hc=>(d1 c hc).2)) (by omega)
 ·exact Dsk.Id _
def Pp (s:By) (cut:Int):Env where
 P:=Tryz.prog
 ty:=oG
 specs:=ai [wZ,kC,nP,Bks.kW,jw,Bks.pm,Dsk.mE]
def ur (s:By) (cut:Int):Prop:=
 (ag ((3000:Int)<(↑(List.length s):Int))->True/\(true,())=(true,()))/\(aj ((3000:Int)<(↑(List.length s):Int))->fX s/\fX s/\(Bks.Sm (aF s).1.1 (aF s).1.2.1 (aF s).1.2.2.1 (aF s).1.2.2.2.1 (aF s).1.2.2.2.2.1 (aF s).1.2.2.2.2.2/\Bks.Sm (aF s).1.1 (aF s).1.2.1 (aF s).1.2.2.1 (aF s).1.2.2.2.1 (aF s).1.2.2.2.2.1 (aF s).1.2.2.2.2.2)/\((!Bks.bL (aF s).1.1 (aF s).1.2.1 (aF s).1.2.2.1 (aF s).1.2.2.2.1 (aF s).1.2.2.2.2.1 (aF s).1.2.2.2.2.2 (aF s).1.1 (aF s).1.2.1 (aF s).1.2.2.1 (aF s).1.2.2.2.1 (aF s).1.2.2.2.2.1 (aF s).1.2.2.2.2.2)=false->((!decide ((aF s).2.1=(aF s).2.1))=false->((!decide ((aF s).2.2=(aF s).2.2))=true->(false,())=(true,()))/\((!decide ((aF s).2.2=(aF s).2.2))=false->fX s/\((!decide ((aa s).2.2=0))=false->(aj (cut<0)->(ag ((↑(aa s).1.length:Int)<cut)->True/\(true,())=(true,()))/\(aj ((↑(aa s).1.length:Int)<cut)->True/\(0<=cut/\cut<=(↑(aa s).1.length:Int))/\(Dsk.Szn 500000 ([],Acc.aR,[],[],[],[])/\(List.take cut.toNat (List.drop 0 (aa s).1)).length<=(500000:Nat)/\Dsk.InC (List.take cut.toNat (List.drop 0 (aa s).1)))/\((!decide ((aA ([],Acc.aR,[],[],[],[]) (List.take cut.toNat (List.drop 0 (aa s).1))).2.2=0))=true->(ag ((aF s).2.2=(aA ([],Acc.aR,[],[],[],[]) (List.take cut.toNat (List.drop 0 (aa s).1))).2.2)->(ag ((aF s).2.1=(aA ([],Acc.aR,[],[],[],[]) (List.take cut.toNat (List.drop 0 (aa s).1))).2.1)->True/\(true,())=(true,()))/\(aP ((aF s).2.1=(aA ([],Acc.aR,[],[],[],[]) (List.take cut.toNat (List.drop 0 (aa s).1))).2.1)->(false,())=(true,())))/\(aP ((aF s).2.2=(aA ([],Acc.aR,[],[],[],[]) (List.take cut.toNat (List.drop 0 (aa s).1))).2.2)->(false,())=(true,())))/\((!decide ((aA ([],Acc.aR,[],[],[],[]) (List.take cut.toNat (List.drop 0 (aa s).1))).2.2=0))=false->(0<=cut/\cut<=(↑(aa s).1.length:Int))/\(Dsk.Szn 500000 (aA ([],Acc.aR,[],[],[],[]) (List.take cut.toNat (List.drop 0 (aa s).1))).1/\(List.take ((aa s).1.length-cut.toNat) (List.drop cut.toNat (aa s).1)).length<=(500000:Nat)/\Dsk.InC (List.take ((aa s).1.length-cut.toNat) (List.drop cut.toNat (aa s).1)))/\(Bks.Sm (aA (aA ([],Acc.aR,[],[],[],[]) (List.take cut.toNat (List.drop 0 (aa s).1))).1 (List.take ((aa s).1.length-cut.toNat) (List.drop cut.toNat (aa s).1))).1.1 (aA (aA ([],Acc.aR,[],[],[],[]) (List.take cut.toNat (List.drop 0 (aa s).1))).1 (List.take ((aa s).1.length-cut.toNat) (List.drop cut.toNat (aa s).1))).1.2.1 (aA (aA ([],Acc.aR,[],[],[],[]) (List.take cut.toNat (List.drop 0 (aa s).1))).1 (List.take ((aa s).1.length-cut.toNat) (List.drop cut.toNat (aa s).1))).1.2.2.1 (aA (aA ([],Acc.aR,[],[],[],[]) (List.take cut.toNat (List.drop 0 (aa s).1))).1 (List.take ((aa s).1.length-cut.toNat) (List.drop cut.toNat (aa s).1))).1.2.2.2.1 (aA (aA ([],Acc.aR,[],[],[],[]) (List.take cut.toNat (List.drop 0 (aa s).1))).1 (List.take ((aa s).1.length-cut.toNat) (List.drop cut.toNat (aa s).1))).1.2.2.2.2.1 (aA (aA ([],Acc.aR,[],[],[],[]) (List.take cut.toNat (List.drop 0 (aa s).1))).1 (List.take ((aa s).1.length-cut.toNat) (List.drop cut.toNat (aa s).1))).1.2.2.2.2.2/\Bks.Sm (aF s).1.1 (aF s).1.2.1 (aF s).1.2.2.1 (aF s).1.2.2.2.1 (aF s).1.2.2.2.2.1 (aF s).1.2.2.2.2.2)/\(Bks.bL (aA (aA ([],Acc.aR,[],[],[],[]) (List.take cut.toNat (List.drop 0 (aa s).1))).1 (List.take ((aa s).1.length-cut.toNat) (List.drop cut.toNat (aa s).1))).1.1 (aA (aA ([],Acc.aR,[],[],[],[]) (List.take cut.toNat (List.drop 0 (aa s).1))).1 (List.take ((aa s).1.length-cut.toNat) (List.drop cut.toNat (aa s).1))).1.2.1 (aA (aA ([],Acc.aR,[],[],[],[]) (List.take cut.toNat (List.drop 0 (aa s).1))).1 (List.take ((aa s).1.length-cut.toNat) (List.drop cut.toNat (aa s).1))).1.2.2.1 (aA (aA ([],Acc.aR,[],[],[],[]) (List.take cut.toNat (List.drop 0 (aa s).1))).1 (List.take ((aa s).1.length-cut.toNat) (List.drop cut.toNat (aa s).1))).1.2.2.2.1 (aA (aA ([],Acc.aR,[],[],[],[]) (List.take cut.toNat (List.drop 0 (aa s).1))).1 (List.take ((aa s).1.length-cut.toNat) (List.drop cut.toNat (aa s).1))).1.2.2.2.2.1 (aA (aA ([],Acc.aR,[],[],[],[]) (List.take cut.toNat (List.drop 0 (aa s).1))).1 (List.take ((aa s).1.length-cut.toNat) (List.drop cut.toNat (aa s).1))).1.2.2.2.2.2 (aF s).1.1 (aF s).1.2.1 (aF s).1.2.2.1 (aF s).1.2.2.2.1 (aF s).1.2.2.2.2.1 (aF s).1.2.2.2.2.2=true->(-9223372036854775808<=(aA ([],Acc.aR,[],[],[],[]) (List.take cut.toNat (List.drop 0 (aa s).1))).2.1+(aA (aA ([],Acc.aR,[],[],[],[]) (List.take cut.toNat (List.drop 0 (aa s).1))).1 (List.take ((aa s).1.length-cut.toNat) (List.drop cut.toNat (aa s).1))).2.1/\(aA ([],Acc.aR,[],[],[],[]) (List.take cut.toNat (List.drop 0 (aa s).1))).2.1+(aA (aA ([],Acc.aR,[],[],[],[]) (List.take cut.toNat (List.drop 0 (aa s).1))).1 (List.take ((aa s).1.length-cut.toNat) (List.drop cut.toNat (aa s).1))).2.1<=9223372036854775807)/\(ag ((aA ([],Acc.aR,[],[],[],[]) (List.take cut.toNat (List.drop 0 (aa s).1))).2.1+(aA (aA ([],Acc.aR,[],[],[],[]) (List.take cut.toNat (List.drop 0 (aa s).1))).1 (List.take ((aa s).1.length-cut.toNat) (List.drop cut.toNat (aa s).1))).2.1=(aF s).2.1)->(ag ((aA (aA ([],Acc.aR,[],[],[],[]) (List.take cut.toNat (List.drop 0 (aa s).1))).1 (List.take ((aa s).1.length-cut.toNat) (List.drop cut.toNat (aa s).1))).2.2=(aF s).2.2)->True/\(true,())=(true,()))/\(aP ((aA (aA ([],Acc.aR,[],[],[],[]) (List.take cut.toNat (List.drop 0 (aa s).1))).1 (List.take ((aa s).1.length-cut.toNat) (List.drop cut.toNat (aa s).1))).2.2=(aF s).2.2)->(false,())=(true,())))/\(aP ((aA ([],Acc.aR,[],[],[],[]) (List.take cut.toNat (List.drop 0 (aa s).1))).2.1+(aA (aA ([],Acc.aR,[],[],[],[]) (List.take cut.toNat (List.drop 0 (aa s).1))).1 (List.take ((aa s).1.length-cut.toNat) (List.drop cut.toNat (aa s).1))).2.1=(aF s).2.1)->(false,())=(true,())))/\(Bks.bL (aA (aA ([],Acc.aR,[],[],[],[]) (List.take cut.toNat (List.drop 0 (aa s).1))).1 (List.take ((aa s).1.length-cut.toNat) (List.drop cut.toNat (aa s).1))).1.1 (aA (aA ([],Acc.aR,[],[],[],[]) (List.take cut.toNat (List.drop 0 (aa s).1))).1 (List.take ((aa s).1.length-cut.toNat) (List.drop cut.toNat (aa s).1))).1.2.1 (aA (aA ([],Acc.aR,[],[],[],[]) (List.take cut.toNat (List.drop 0 (aa s).1))).1 (List.take ((aa s).1.length-cut.toNat) (List.drop cut.toNat (aa s).1))).1.2.2.1 (aA (aA ([],Acc.aR,[],[],[],[]) (List.take cut.toNat (List.drop 0 (aa s).1))).1 (List.take ((aa s).1.length-cut.toNat) (List.drop cut.toNat (aa s).1))).1.2.2.2.1 (aA (aA ([],Acc.aR,[],[],[],[]) (List.take cut.toNat (List.drop 0 (aa s).1))).1 (List.take ((aa s).1.length-cut.toNat) (List.drop cut.toNat (aa s).1))).1.2.2.2.2.1 (aA (aA ([],Acc.aR,[],[],[],[]) (List.take cut.toNat (List.drop 0 (aa s).1))).1 (List.take ((aa s).1.length-cut.toNat) (List.drop cut.toNat (aa s).1))).1.2.2.2.2.2 (aF s).1.1 (aF s).1.2.1 (aF s).1.2.2.1 (aF s).1.2.2.2.1 (aF s).1.2.2.2.2.1 (aF s).1.2.2.2.2.2= !true->(false,())=(true,())))))/\(bu (cut<0)->True/\(true,())=(true,())))/\((!decide ((aa s).2.2=0))= !false->True/\(true,())=(true,()))))/\((!decide ((aF s).2.1=(aF s).2.1))= !false->(false,())=(true,())))/\((!Bks.bL (aF s).1.1 (aF s).1.2.1 (aF s).1.2.2.1 (aF s).1.2.2.2.1 (aF s).1.2.2.2.2.1 (aF s).1.2.2.2.2.2 (aF s).1.1 (aF s).1.2.1 (aF s).1.2.2.1 (aF s).1.2.2.2.1 (aF s).1.2.2.2.2.1 (aF s).1.2.2.2.2.2)= !false->(false,())=(true,())))
theorem Mv (s:By) (cut:Int):Ie (Pp s cut) Tryz.f6 [.str s, .int .i64 cut] [.bool] (true,())=ur s cut:=by kernel_rfl
theorem Mw (s:By) (cut:Int):ur s cut:=by
 unfold ur aj bu aP ag;refine ⟨fun _=>⟨trivial,rfl⟩,fun c=> ?_⟩;have hs:fX s:=fD (by have:=of_decide_eq_false c;omega);have hm:=QH (Mt s) (by decide);rw [sr];refine ⟨hs,hs,⟨hm,hm⟩,fun _=>⟨fun _=>⟨by simp,fun _=>⟨hs,fun g=>⟨fun c0=>⟨fun _=>⟨trivial,rfl⟩,fun c1=> ?_⟩,fun _=>⟨trivial,rfl⟩⟩,fun _=>⟨trivial,rfl⟩⟩⟩,by simp⟩,by simp⟩;obtain ⟨d1,d2⟩:=uj s;have hI:=uk fun c hc=>(d1 c hc).2;have c0:=of_decide_eq_false c0;have c1:=of_decide_eq_false c1;have e:aF s=aA ([],Acc.aR,[],[],[],[]) (aa s).1:=Q_ (by simpa using g);rw [Mr cut.toNat ([],Acc.aR,[],[],[],[])] at e;simp only [Sz,Pm];rw [Rh (l:=(aa s).1.drop cut.toNat) (by simp)];generalize (aa s).1=L at*;have i1:Dsk.InC (L.take cut.toNat):=fun x hx=>hI x (Sl hx);have i2:Dsk.InC (L.drop cut.toNat):=fun x hx=>hI x (List.mem_of_mem_drop hx);have n1:(L.take cut.toNat).length<=10000:=by rw [Rz];omega
 have n2:(L.drop cut.toNat).length<=10000:=by rw [RE];omega
 have z1:=zZ _ 100 ([],Acc.aR,[],[],[],[]) 0 Ms i1;have b1:=z_ (L.take cut.toNat) ([],Acc.aR,[],[],[],[]);have hr1:Dsk.bN ([],Acc.aR,[],[],[],[]) (L.take cut.toNat) 0=aA ([],Acc.aR,[],[],[],[]) (L.take cut.toNat):=rfl;rw [hr1] at z1;refine ⟨trivial,⟨by omega,by omega⟩,⟨CM,by omega,i1⟩,fun r=> ?_,fun r=> ?_⟩
 ·rw [Q8 (by simpa using r)] at e;rw [e];simp
 ·rw [Q_ (by simpa using r)] at e;rw [e] at hm⊢;dsimp only at hm⊢;rw [sr];have b2:=z_ (L.drop cut.toNat) (aA ([],Acc.aR,[],[],[],[]) (L.take cut.toNat)).1;refine ⟨⟨by omega,by omega⟩,⟨zY z1 (by omega),by omega,i2⟩,⟨hm,hm⟩, ?_⟩;simp only [decide_true];refine ⟨fun _=>⟨⟨by omega,by omega⟩, ?_⟩,by simp⟩;simp
theorem Mx (s:By) (cut:Int):Pure Tryz.prog 6 [.str s, .int .i64 cut] (.bool true):=
 by have k:=Pure.of_cond (Mv s cut) (Mw s cut) (ab rfl [wZ,kC,nP,Bks.kW,jw,Bks.pm,Dsk.mE] [] rfl rfl) mixed Tryz.func6;exact k
end Dry
end
end
end Go.Proofs.YtabicbgeoiilmaaGreatDoor
