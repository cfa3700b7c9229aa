/-
  DiaryWrites, DiaryReads, DiaryBack: the walks.
-/
import Derived.Test.YtabicbgeoiilmaaGreatDoorDry2
import Derived.Test.YtabicbgeoiilmaaGreatDoorDsk9
import Derived.Test.YtabicbgeoiilmaaGreatDoorUse1
section
namespace Go.Proofs.YtabicbgeoiilmaaGreatDoor.Dry
open Go.Vm
theorem line_drop {s t r:By} {p:Nat} (h:s.drop p=t++10::r):s.drop (p+t.length+1)=r:=by
 rw [show p+t.length+1=p+(t.length+1) by omega,<-List.drop_drop,h];simp
theorem tw_split: ∀{l:By},(10:UInt8)∈l->∃r,l=l.takeWhile (· ≠10)++10::r
 |[],h=>by cases h
 |c::l,h=>by
  by_cases e:c=10
  ·subst e;exact ⟨l,by simp⟩
  ·obtain ⟨r,hr⟩:=tw_split (l:=l) (by rcases List.mem_cons.1 h with h|h;exact absurd h.symm e;exact h);refine ⟨r, ?_⟩;rw [List.takeWhile_cons_of_pos (by simpa using e),List.cons_append,<-hr]
theorem line_read {s:By} {a:Int} (h:(lineF s a).2.2=0):0<=a/\a<=s.length/\s.drop a.toNat=(lineF s a).1++10::s.drop (lineF s a).2.1.toNat/\(lineF s a).2.1=a+(lineF s a).1.length+1/\(lineF s a).2.1<=s.length:=by
 unfold lineF at h⊢;split at h
 ·cases h
 ·rename_i c1;rw [if_neg c1];split at h
  ·rename_i c2;rw [if_pos c2];obtain ⟨r,hr⟩:=tw_split c2;have hd:=line_drop (s:=s) (p:=a.toNat) hr;dsimp only;have hl:=congrArg List.length hr;rw [List.length_append,List.length_cons,List.length_drop] at hl;refine ⟨by omega,by omega, ?_,rfl,by omega⟩;rw [show (a+(((s.drop a.toNat).takeWhile (· ≠10)).length:Int)+1).toNat=a.toNat+((s.drop a.toNat).takeWhile (· ≠10)).length+1 by omega,hd];exact hr
  ·cases h
theorem first_read {s:By} (h:(firstF s).2=0):s=logW++Lib.itoa (firstF s).1:=by
 unfold firstF at h⊢;split at h
 ·rename_i c;exact absurd h c
 ·rename_i c1;rw [if_neg c1];have c1:=Decidable.not_not.1 c1;split at h
  ·rename_i c;exact absurd h c
  ·rename_i c2;rw [if_neg c2];have c2:=Decidable.not_not.1 c2;split at h
   ·cases h
   ·rename_i c3;rw [if_neg c3];dsimp only;rw [Cm.lit0] at c1 c2 c3⊢;split at c1
    ·rename_i hp;rw [if_pos hp] at c2 c3⊢;have hp:=(hasPrefix_iff _ _).1 hp;have hp:s.take 4=logW:=hp;obtain ⟨⟨_,n2⟩,⟨n3,n4⟩,⟨n5,n6⟩,n7,n8,_⟩:=numF_zero c2;generalize (numF s (↑logW.length,0).1 0 10000).1=n at*;generalize (numF s (↑logW.length,0).1 0 10000).2.1=e at*;have e4:((↑(logW:By).length,(0:Int)):Int×Int).1.toNat=4:=rfl;rw [e4,show e.toNat=s.length by omega,List.take_length] at n8;rw [n8,<-hp,List.take_append_drop]
    ·split at c1<;>cases c1
end Go.Proofs.YtabicbgeoiilmaaGreatDoor.Dry
end
section
namespace Go.Proofs.YtabicbgeoiilmaaGreatDoor.Dry
open Go.Vm
abbrev Ok (c:Cm.CmD):Prop:=Cm.checkF c=0/\Cm.InC c
theorem texts_cons {c:Cm.CmD} {r:List Cm.CmD} (h:Cm.checkF c=0):textsL (c::r)=(Cm.textF c,0)::textsL r:=by
 have h1:Cm.printF c=(Cm.textF c,0):=by
  unfold Cm.printF;rw [if_pos h]
 rw [textsL,h1,if_pos rfl]
theorem ok_texts: ∀{L:List Cm.CmD},(∀c∈L,Cm.checkF c=0)->(textsL L).find? badX=none
 |[],_=>rfl
 |c::r,h=>by
  rw [texts_cons (h c List.mem_cons_self),List.find?_cons_of_neg (by simp [badX])];exact ok_texts fun d hd=>h d (List.mem_cons_of_mem _ hd)
theorem enc_of {L:List Cm.CmD} (h1:L.length<=10000) (h2: ∀c∈L,Cm.checkF c=0) (h3:(headF L++bodyF (textsL L)).length<=1000000):encodeF L=(headF L++bodyF (textsL L),0):=by
 unfold encodeF;rw [if_neg (by omega),ok_texts h2];dsimp only;rw [if_neg (by omega)]
theorem body_cons (c:Cm.CmD) (r:List Cm.CmD) (h:Cm.checkF c=0):bodyF (textsL (c::r))=Cm.textF c++10::bodyF (textsL r):=by
 rw [texts_cons h];simp [bodyF]
theorem go_read {s:By}: ∀(k:Nat) (a:Int) (acc:List Cm.CmD),0<=a->a<=s.length->(decGo s k a acc).2.2=0->∃L,L.length=k/\decGo s k a acc=(acc++L,((acc++L).length:Int),0)/\(∀c∈L,Ok c)/\s.drop a.toNat=bodyF (textsL L)
 |0,a,acc,h0,h1,h=>by
  rw [decGo] at h⊢;split at h
  ·cases h
  ·rename_i c;refine ⟨[],rfl,by rw [if_neg c,List.append_nil],fun _ hc=>(List.not_mem_nil hc).elim, ?_⟩;rw [List.drop_eq_nil_of_le (by omega)];rfl
 |k+1,a,acc,h0,h1,h=>by
  rw [decGo] at h⊢;split at h
  ·rename_i c;exact absurd h c
  ·rename_i c1;rw [if_neg c1];split at h
   ·rename_i c;exact absurd h c
   ·rename_i c2;rw [if_neg c2];obtain ⟨_,_,l3,l4,l5⟩:=line_read (Decidable.not_not.1 c1);obtain ⟨r1,r2,r3⟩:=Cm.read_back (Decidable.not_not.1 c2);generalize (Cm.cparseF (lineF s a).1).1=c at*;obtain ⟨L,g1,g2,g3,g4⟩:=go_read k (lineF s a).2.1 (acc++[c]) (by omega) l5 h;refine ⟨c::L,by rw [List.length_cons,g1], ?_, ?_, ?_⟩
    ·rw [g2,List.append_assoc];rfl
    ·intro d hd;rcases List.mem_cons.1 hd with rfl|hd
     ·exact ⟨r1,r3⟩
     ·exact g3 d hd
    ·rw [body_cons c L r1,l3,g4,r2]
theorem go_err {s:By}: ∀(k:Nat) (a:Int) (acc:List Cm.CmD),¬(decGo s k a acc).2.2=0->(decGo s k a acc).1=[]
 |0,a,acc,h=>by
  rw [decGo] at h⊢;split
  ·rfl
  ·rename_i c;rw [if_neg c] at h;exact absurd rfl h
 |k+1,a,acc,h=>by
  rw [decGo] at h⊢;split
  ·rfl
  ·rename_i c1;rw [if_neg c1] at h;split
   ·rfl
   ·rename_i c2;rw [if_neg c2] at h;exact go_err k _ _ h
theorem dec_err {s:By} (h: ¬(decodeF s).2.2=0):(decodeF s).1=[]:=by
 unfold decodeF at h⊢;split
 ·rfl
 ·rename_i c1;rw [if_neg c1] at h;split
  ·rfl
  ·rename_i c2;rw [if_neg c2] at h;split
   ·rfl
   ·rename_i c3;rw [if_neg c3] at h;exact go_err _ _ _ h
theorem read_law {s:By} (h:(decodeF s).2.2=0):encodeF (decodeF s).1=(s,0)/\(decodeF s).2.1=((decodeF s).1.length:Int)/\(∀c∈(decodeF s).1,Ok c)/\(decodeF s).1.length<=10000:=by
 unfold decodeF at h⊢;split at h
 ·cases h
 ·rename_i c1;rw [if_neg c1];split at h
  ·rename_i c;exact absurd h c
  ·rename_i c2;rw [if_neg c2];split at h
   ·rename_i c;exact absurd h c
   ·rename_i c3;rw [if_neg c3];obtain ⟨_,_,l3,l4,l5⟩:=line_read (Decidable.not_not.1 c2);have c3:=Decidable.not_not.1 c3;have f1:=first_read c3;obtain ⟨f2,f3⟩:=first_in c3;obtain ⟨L,g1,g2,g3,g4⟩:=go_read _ _ _ (by omega) l5 h;have hs:s=headF L++bodyF (textsL L):=by
     rw [f1,g4] at l3;rw [show (0:Int).toNat=0 from rfl,List.drop_zero] at l3;rw [l3];have:((firstF (lineF s 0).1).1:Int)=(L.length:Int):=by omega
     rw [this];simp [headF]
    rw [g2,List.nil_append];dsimp only;refine ⟨?_,rfl,g3,by omega⟩;rw [enc_of (by omega) (fun c hc=>(g3 c hc).1) (by rw [<-hs];omega),<-hs]
theorem dec_ok (s:By):(∀c∈(decodeF s).1,Ok c)/\(decodeF s).1.length<=10000:=by
 by_cases h:(decodeF s).2.2=0
 ·obtain ⟨_,_,h3,h4⟩:=read_law h;exact ⟨h3,h4⟩
 ·rw [dec_err h];exact ⟨fun _ h=>(by cases h),by simp⟩
theorem ln_of {s:By} (h: ∀a:Nat,((s.drop a).takeWhile (· ≠10)).length<=10000):LnOk s:=fun a=>by
 unfold lineF;split
 ·simp
 ·split
  ·exact h _
  ·simp
theorem ln_short {s:By} (h:s.length<=10000):LnOk s:=ln_of fun a=>by
 have:=while_len s a;omega
end Go.Proofs.YtabicbgeoiilmaaGreatDoor.Dry
end
section
namespace Go.Proofs.YtabicbgeoiilmaaGreatDoor.Dry
open Go.Vm
open Dsk (Bk bk0 repF)
noncomputable def q_enc (L:List Cm.CmD):Prop×V:=((∀c∈L,Cm.InC c), .tuple [.str (encodeF L).1, .int .i64 (encodeF L).2])
noncomputable def sp_encode:FSpec Tryz.prog where
 f:=9
 run:=fun
  |[v0]=>(asL Cm v0:Option (List Cm.CmD)).bind fun L=>some (q_enc L)
  |_=>none
 ok:=fun args pre r h hp=>by
  split at h
  ·rename_i v0;obtain ⟨l,h0,h⟩:=Option.bind_eq_some_iff.1 h;exact of_q h hp fun h=>(enc_pure l h).weak (.cons (asL_weak h0) .nil)
  ·cases h
theorem inl_of {l:List Cm.CmD} (h: ∀c∈l,Cm.InC c):Dsk.InC l:=fun c hc z hz=>(h c hc).2 z hz _ (by simp [Cm.lnL])
abbrev bkN:Bk:=([],Acc.ownL,[],[],[],[])
def repD (s:By):Bk×Int×Int:=if (decodeF s).2.2=0 then repF bkN (decodeF s).1 else (bk0,(decodeF s).2.1,(decodeF s).2.2)
noncomputable def env_replayd (s:By):Env where
 P:=Tryz.prog
 ty:=tys1
 specs:=specsOf [sp_decode,Bks.sp_new,Dsk.sp_replay]
abbrev ann_replayd:Ann:={slots:=numP 0 [.list .part I, .list .part AcT, .list .part LnT, .list .part RTy, .list .part Vl, .list .part EnT, .int .i64, .int .i64],boxes:=[],inv:=fun _ _=>True}
def g_replayd_vc (s:By):Prop:=
 LnOk s/\((!decide ((decodeF s).2.2=(0:Int)))=true->True/\([],[],[],[],[],[],(decodeF s).2.1,(decodeF s).2.2,())=((repD s).1.1,(repD s).1.2.1,(repD s).1.2.2.1,(repD s).1.2.2.2.1,(repD s).1.2.2.2.2.1,(repD s).1.2.2.2.2.2,(repD s).2.1,(repD s).2.2,()))/\((!decide ((decodeF s).2.2=(0:Int)))=false->True/\(Dsk.Szn (500000:Nat) ([],Acc.ownL,[],[],[],[])/\(decodeF s).1.length<=(500000:Nat)/\Dsk.InC (decodeF s).1)/\True/\((repF ([],Acc.ownL,[],[],[],[]) (decodeF s).1).1.1,(repF ([],Acc.ownL,[],[],[],[]) (decodeF s).1).1.2.1,(repF ([],Acc.ownL,[],[],[],[]) (decodeF s).1).1.2.2.1,(repF ([],Acc.ownL,[],[],[],[]) (decodeF s).1).1.2.2.2.1,(repF ([],Acc.ownL,[],[],[],[]) (decodeF s).1).1.2.2.2.2.1,(repF ([],Acc.ownL,[],[],[],[]) (decodeF s).1).1.2.2.2.2.2,(repF ([],Acc.ownL,[],[],[],[]) (decodeF s).1).2.1,(repF ([],Acc.ownL,[],[],[],[]) (decodeF s).1).2.2,())=((repD s).1.1,(repD s).1.2.1,(repD s).1.2.2.1,(repD s).1.2.2.2.1,(repD s).1.2.2.2.2.1,(repD s).1.2.2.2.2.2,(repD s).2.1,(repD s).2.2,()))
theorem g_replayd_ok (s:By) (h:LnOk s):g_replayd_vc s:=by
 unfold g_replayd_vc;obtain ⟨d1,d2⟩:=dec_ok s;refine ⟨h,fun c=>⟨trivial, ?_⟩,fun c=>⟨trivial,⟨⟨by decide,by decide,by decide,by decide,by decide,by decide,fun _ h=>(List.not_mem_nil h).elim⟩,by omega,inl_of fun c hc=>(d1 c hc).2⟩,trivial, ?_⟩⟩
 ·have e:repD s=(bk0,(decodeF s).2.1,(decodeF s).2.2):=if_neg (by simpa using c);rw [e];rfl
 ·have e:repD s=repF bkN (decodeF s).1:=if_pos (by simpa using c);rw [e]
set_option maxRecDepth 20000
noncomputable def sp_replayd:FSpec Tryz.prog:=mkG 14 (.c .s .z) (fun x=>(fun (s:By)=>(LnOk s,(.tuple [.agg [.list .part I ((repD s).1.1), .list .part AcT ((repD s).1.2.1), .list .part LnT ((repD s).1.2.2.1), .list .part RTy ((repD s).1.2.2.2.1), .list .part Vl ((repD s).1.2.2.2.2.1), .list .part EnT ((repD s).1.2.2.2.2.2)], .int .i64 (repD s).2.1, .int .i64 (repD s).2.2]))) x.1) fun ⟨s,_⟩ h=>Pure.of_condG (E:=env_replayd s) (sh:=[some 6,none,none]) (ann:=ann_replayd) (x:=(fun (s:By)=>((repD s).1.1,(repD s).1.2.1,(repD s).1.2.2.1,(repD s).1.2.2.2.1,(repD s).1.2.2.2.2.1,(repD s).1.2.2.2.2.2,(repD s).2.1,(repD s).2.2,())) s) (by kernel_rfl) (g_replayd_ok s h) rfl (specs_ok rfl _ [] rfl rfl) mixed Tryz.func14
abbrev stC:List Cm.CmD:=[(1,1,0,0,0,false,false,(0,0),[]),(1,2,0,0,0,false,false,(0,0),[]),(2,0,1,0,0,false,false,(0,0),[]),(2,0,2,0,0,true,false,(0,0),[]),(7,1,0,0,0,false,false,(0,0),[(1,4,0,5),(1,5,0, -5)])]
noncomputable def env_start:Env where
 P:=Tryz.prog
 ty:=tys1
abbrev ann_start:Ann:={slots:=numP 0 [.list .full Cm],boxes:=[],inv:=fun _ _=>True}
def g_start_vc:Prop:=
 True/\([((1:Int),(1:Int),(0:Int),(0:Int),(0:Int),false,false,((0:Int),(0:Int)),[]),((1:Int),(2:Int),(0:Int),(0:Int),(0:Int),false,false,((0:Int),(0:Int)),[]),((2:Int),(0:Int),(1:Int),(0:Int),(0:Int),false,false,((0:Int),(0:Int)),[]),((2:Int),(0:Int),(2:Int),(0:Int),(0:Int),true,false,((0:Int),(0:Int)),[]),((7:Int),(1:Int),(0:Int),(0:Int),(0:Int),false,false,((0:Int),(0:Int)),[((1:Int),(4:Int),(0:Int),(5:Int)),((1:Int),(5:Int),(0:Int),(-5:Int))])],())=(stC,())
theorem g_start_ok:g_start_vc:=by
 unfold g_start_vc;exact ⟨trivial,rfl⟩
noncomputable def sp_start:FSpec Tryz.prog:=mkG 19 .z (fun x=>(True,(.list .full Cm stC))) fun _ _=>Pure.of_condG (E:=env_start) (sh:=[none]) (ann:=ann_start) (x:=(stC,())) (by kernel_rfl) g_start_ok rfl (specs_ok rfl [] [] rfl rfl) mixed Tryz.func19
abbrev w0:By:=[(108:UInt8),(111:UInt8),(103:UInt8),(32:UInt8),(49:UInt8),(10:UInt8),(101:UInt8),(110:UInt8),(116:UInt8),(105:UInt8),(116:UInt8),(121:UInt8),(32:UInt8),(51:UInt8),(10:UInt8)]
abbrev w1:By:=[(108:UInt8),(111:UInt8),(103:UInt8),(32:UInt8),(50:UInt8),(10:UInt8),(101:UInt8),(110:UInt8),(116:UInt8),(105:UInt8),(116:UInt8),(121:UInt8),(32:UInt8),(49:UInt8),(10:UInt8),(108:UInt8),(111:UInt8),(99:UInt8),(107:UInt8),(32:UInt8),(49:UInt8),(32:UInt8),(53:UInt8),(10:UInt8)]
abbrev w2:By:=[(108:UInt8),(111:UInt8),(103:UInt8),(32:UInt8),(50:UInt8),(10:UInt8),(101:UInt8),(110:UInt8),(116:UInt8),(105:UInt8),(116:UInt8),(121:UInt8),(32:UInt8),(49:UInt8),(10:UInt8),(108:UInt8),(97:UInt8),(99:UInt8),(107:UInt8),(32:UInt8),(49:UInt8),(32:UInt8),(53:UInt8),(10:UInt8)]
abbrev w3:By:=[(108:UInt8),(111:UInt8),(103:UInt8),(32:UInt8),(48:UInt8),(10:UInt8),(120:UInt8)]
abbrev w4:By:=[(108:UInt8),(111:UInt8),(103:UInt8),(32:UInt8),(53:UInt8),(10:UInt8),(101:UInt8),(110:UInt8),(116:UInt8),(105:UInt8),(116:UInt8),(121:UInt8),(32:UInt8),(49:UInt8),(10:UInt8),(101:UInt8),(110:UInt8),(116:UInt8),(105:UInt8),(116:UInt8),(121:UInt8),(32:UInt8),(50:UInt8),(10:UInt8),(97:UInt8),(99:UInt8),(99:UInt8),(111:UInt8),(117:UInt8),(110:UInt8),(116:UInt8),(32:UInt8),(48:UInt8),(32:UInt8),(49:UInt8),(32:UInt8),(48:UInt8),(32:UInt8),(48:UInt8),(10:UInt8),(97:UInt8),(99:UInt8),(99:UInt8),(111:UInt8),(117:UInt8),(110:UInt8),(116:UInt8),(32:UInt8),(48:UInt8),(32:UInt8),(50:UInt8),(32:UInt8),(49:UInt8),(32:UInt8),(48:UInt8),(10:UInt8),(112:UInt8),(111:UInt8),(115:UInt8),(116:UInt8),(32:UInt8),(49:UInt8),(32:UInt8),(50:UInt8),(32:UInt8),(49:UInt8),(32:UInt8),(52:UInt8),(32:UInt8),(48:UInt8),(32:UInt8),(53:UInt8),(32:UInt8),(49:UInt8),(32:UInt8),(53:UInt8),(32:UInt8),(48:UInt8),(32:UInt8),(45:UInt8),(53:UInt8),(10:UInt8)]
abbrev w5:By:=[(108:UInt8),(111:UInt8),(103:UInt8),(32:UInt8),(49:UInt8),(10:UInt8),(101:UInt8),(110:UInt8),(116:UInt8),(105:UInt8),(116:UInt8),(121:UInt8),(32:UInt8),(57:UInt8),(10:UInt8)]
abbrev w6:By:=[(108:UInt8),(111:UInt8),(103:UInt8),(32:UInt8),(49:UInt8)]
theorem d0:decodeF w0=([(1,3,0,0,0,false,false,(0,0),[])],1,0):=by kernel_rfl
theorem d1:decodeF w1=([(1,1,0,0,0,false,false,(0,0),[]),(6,1,5,0,0,false,false,(0,0),[])],2,0):=by kernel_rfl
theorem d2:decodeF w2=([],2,8):=by kernel_rfl
theorem d3:(decodeF w3).2.2=6:=by kernel_rfl
theorem d4:decodeF w4=(stC,5,0):=by kernel_rfl
theorem d5:decodeF w5=([(1,9,0,0,0,false,false,(0,0),[])],1,0):=by kernel_rfl
theorem d6:(decodeF w6).2.2=4:=by kernel_rfl
theorem d7:encodeF [(0,0,0,0,0,false,false,(0,0),[])]=([],25):=by kernel_rfl
theorem of_dec {s:By} {L:List Cm.CmD} {n:Int} (h:decodeF s=(L,n,0)):encodeF L=(s,0)/\∀c∈L,Cm.InC c:=by
 obtain ⟨h1,_,h3,_⟩:=read_law (s:=s) (by rw [h]);rw [h] at h1 h3;exact ⟨h1,fun c hc=>(h3 c hc).2⟩
def stB:Bk:=([1,2],[(0,1,true,false),(0,1,false,false),(0,1,false,false),(0,1,false,false),(0,2,true,false)],[],[],[],[(1,0,[(1,4,0,5),(1,5,0, -5)])])
theorem r0:repF bkN stC=(stB,5,0):=by kernel_rfl
theorem r1:repF bkN [(1,9,0,0,0,false,false,(0,0),[])]=(bkN,0,23):=by kernel_rfl
theorem e4:repD w4=(stB,5,0):=by
 unfold repD;rw [d4,if_pos rfl,r0]
theorem e5:repD w5=(bkN,0,23):=by
 unfold repD;rw [d5,if_pos rfl,r1]
theorem in0:Cm.InC (0,0,0,0,0,false,false,(0,0),[]):=by
 refine ⟨fun n hn=>Cm.in_lit ?_,fun x hx=>by cases hx⟩;revert n hn;decide
noncomputable def env_awake:Env where
 P:=Tryz.prog
 ty:=tys1
 specs:=specsOf [sp_encode,sp_decode,sp_start,sp_replayd]
def g_awake_vc:Prop:=
 (∀(c:Int×Int×Int×Int×Int×Bool×Bool×(Int×Int)×List (Int×Int×Int×Int)),c∈[((1:Int),(3:Int),(0:Int),(0:Int),(0:Int),false,false,((0:Int),(0:Int)),[])]->Cm.InC c)/\LnOk [(108:UInt8),(111:UInt8),(103:UInt8),(32:UInt8),(50:UInt8),(10:UInt8),(101:UInt8),(110:UInt8),(116:UInt8),(105:UInt8),(116:UInt8),(121:UInt8),(32:UInt8),(49:UInt8),(10:UInt8),(108:UInt8),(111:UInt8),(99:UInt8),(107:UInt8),(32:UInt8),(49:UInt8),(32:UInt8),(53:UInt8),(10:UInt8)]/\LnOk [(108:UInt8),(111:UInt8),(103:UInt8),(32:UInt8),(50:UInt8),(10:UInt8),(101:UInt8),(110:UInt8),(116:UInt8),(105:UInt8),(116:UInt8),(121:UInt8),(32:UInt8),(49:UInt8),(10:UInt8),(108:UInt8),(97:UInt8),(99:UInt8),(107:UInt8),(32:UInt8),(49:UInt8),(32:UInt8),(53:UInt8),(10:UInt8)]/\LnOk [(108:UInt8),(111:UInt8),(103:UInt8),(32:UInt8),(48:UInt8),(10:UInt8),(120:UInt8)]/\(∀(c:Int×Int×Int×Int×Int×Bool×Bool×(Int×Int)×List (Int×Int×Int×Int)),c∈[((0:Int),(0:Int),(0:Int),(0:Int),(0:Int),false,false,((0:Int),(0:Int)),[])]->Cm.InC c)/\True/\(∀(c:Int×Int×Int×Int×Int×Bool×Bool×(Int×Int)×List (Int×Int×Int×Int)),c∈stC->Cm.InC c)/\LnOk (encodeF stC).1/\LnOk [(108:UInt8),(111:UInt8),(103:UInt8),(32:UInt8),(49:UInt8),(10:UInt8),(101:UInt8),(110:UInt8),(116:UInt8),(105:UInt8),(116:UInt8),(121:UInt8),(32:UInt8),(57:UInt8),(10:UInt8)]/\LnOk [(108:UInt8),(111:UInt8),(103:UInt8),(32:UInt8),(49:UInt8)]/\(decide ((encodeF [((1:Int),(3:Int),(0:Int),(0:Int),(0:Int),false,false,((0:Int),(0:Int)),[])]).1=[(108:UInt8),(111:UInt8),(103:UInt8),(32:UInt8),(49:UInt8),(10:UInt8),(101:UInt8),(110:UInt8),(116:UInt8),(105:UInt8),(116:UInt8),(121:UInt8),(32:UInt8),(51:UInt8),(10:UInt8)])=true->(decide ((encodeF [((1:Int),(3:Int),(0:Int),(0:Int),(0:Int),false,false,((0:Int),(0:Int)),[])]).2=(0:Int))=true->(decide ((↑(decodeF [(108:UInt8),(111:UInt8),(103:UInt8),(32:UInt8),(50:UInt8),(10:UInt8),(101:UInt8),(110:UInt8),(116:UInt8),(105:UInt8),(116:UInt8),(121:UInt8),(32:UInt8),(49:UInt8),(10:UInt8),(108:UInt8),(111:UInt8),(99:UInt8),(107:UInt8),(32:UInt8),(49:UInt8),(32:UInt8),(53:UInt8),(10:UInt8)]).1.length:Int)=(2:Int))=true->(decide ((decodeF [(108:UInt8),(111:UInt8),(103:UInt8),(32:UInt8),(50:UInt8),(10:UInt8),(101:UInt8),(110:UInt8),(116:UInt8),(105:UInt8),(116:UInt8),(121:UInt8),(32:UInt8),(49:UInt8),(10:UInt8),(108:UInt8),(111:UInt8),(99:UInt8),(107:UInt8),(32:UInt8),(49:UInt8),(32:UInt8),(53:UInt8),(10:UInt8)]).2.1=(2:Int))=true->(decide ((decodeF [(108:UInt8),(111:UInt8),(103:UInt8),(32:UInt8),(50:UInt8),(10:UInt8),(101:UInt8),(110:UInt8),(116:UInt8),(105:UInt8),(116:UInt8),(121:UInt8),(32:UInt8),(49:UInt8),(10:UInt8),(108:UInt8),(111:UInt8),(99:UInt8),(107:UInt8),(32:UInt8),(49:UInt8),(32:UInt8),(53:UInt8),(10:UInt8)]).2.2=(0:Int))=true->(decide ((decodeF [(108:UInt8),(111:UInt8),(103:UInt8),(32:UInt8),(50:UInt8),(10:UInt8),(101:UInt8),(110:UInt8),(116:UInt8),(105:UInt8),(116:UInt8),(121:UInt8),(32:UInt8),(49:UInt8),(10:UInt8),(108:UInt8),(97:UInt8),(99:UInt8),(107:UInt8),(32:UInt8),(49:UInt8),(32:UInt8),(53:UInt8),(10:UInt8)]).2.1=(2:Int))=true->(decide ((decodeF [(108:UInt8),(111:UInt8),(103:UInt8),(32:UInt8),(50:UInt8),(10:UInt8),(101:UInt8),(110:UInt8),(116:UInt8),(105:UInt8),(116:UInt8),(121:UInt8),(32:UInt8),(49:UInt8),(10:UInt8),(108:UInt8),(97:UInt8),(99:UInt8),(107:UInt8),(32:UInt8),(49:UInt8),(32:UInt8),(53:UInt8),(10:UInt8)]).2.2=(8:Int))=true->(decide ((decodeF [(108:UInt8),(111:UInt8),(103:UInt8),(32:UInt8),(48:UInt8),(10:UInt8),(120:UInt8)]).2.2=(6:Int))=true->(decide ((encodeF [((0:Int),(0:Int),(0:Int),(0:Int),(0:Int),false,false,((0:Int),(0:Int)),[])]).2=(25:Int))=true->(decide ((encodeF stC).2=(0:Int))=true->(decide ((repD (encodeF stC).1).2.1=(5:Int))=true->(decide ((repD (encodeF stC).1).2.2=(0:Int))=true->(decide ((↑(repD (encodeF stC).1).1.2.2.2.2.2.length:Int)=(1:Int))=true->(decide ((repD [(108:UInt8),(111:UInt8),(103:UInt8),(32:UInt8),(49:UInt8),(10:UInt8),(101:UInt8),(110:UInt8),(116:UInt8),(105:UInt8),(116:UInt8),(121:UInt8),(32:UInt8),(57:UInt8),(10:UInt8)]).2.1=(0:Int))=true->(decide ((repD [(108:UInt8),(111:UInt8),(103:UInt8),(32:UInt8),(49:UInt8),(10:UInt8),(101:UInt8),(110:UInt8),(116:UInt8),(105:UInt8),(116:UInt8),(121:UInt8),(32:UInt8),(57:UInt8),(10:UInt8)]).2.2=(23:Int))=true->(decide ((decodeF [(108:UInt8),(111:UInt8),(103:UInt8),(32:UInt8),(49:UInt8)]).2.2=(4:Int)),())=(true,()))/\(decide ((repD [(108:UInt8),(111:UInt8),(103:UInt8),(32:UInt8),(49:UInt8),(10:UInt8),(101:UInt8),(110:UInt8),(116:UInt8),(105:UInt8),(116:UInt8),(121:UInt8),(32:UInt8),(57:UInt8),(10:UInt8)]).2.2=(23:Int))= !true->(false,())=(true,())))/\(decide ((repD [(108:UInt8),(111:UInt8),(103:UInt8),(32:UInt8),(49:UInt8),(10:UInt8),(101:UInt8),(110:UInt8),(116:UInt8),(105:UInt8),(116:UInt8),(121:UInt8),(32:UInt8),(57:UInt8),(10:UInt8)]).2.1=(0:Int))= !true->(false,())=(true,())))/\(decide ((↑(repD (encodeF stC).1).1.2.2.2.2.2.length:Int)=(1:Int))= !true->(false,())=(true,())))/\(decide ((repD (encodeF stC).1).2.2=(0:Int))= !true->(false,())=(true,())))/\(decide ((repD (encodeF stC).1).2.1=(5:Int))= !true->(false,())=(true,())))/\(decide ((encodeF stC).2=(0:Int))= !true->(false,())=(true,())))/\(decide ((encodeF [((0:Int),(0:Int),(0:Int),(0:Int),(0:Int),false,false,((0:Int),(0:Int)),[])]).2=(25:Int))= !true->(false,())=(true,())))/\(decide ((decodeF [(108:UInt8),(111:UInt8),(103:UInt8),(32:UInt8),(48:UInt8),(10:UInt8),(120:UInt8)]).2.2=(6:Int))= !true->(false,())=(true,())))/\(decide ((decodeF [(108:UInt8),(111:UInt8),(103:UInt8),(32:UInt8),(50:UInt8),(10:UInt8),(101:UInt8),(110:UInt8),(116:UInt8),(105:UInt8),(116:UInt8),(121:UInt8),(32:UInt8),(49:UInt8),(10:UInt8),(108:UInt8),(97:UInt8),(99:UInt8),(107:UInt8),(32:UInt8),(49:UInt8),(32:UInt8),(53:UInt8),(10:UInt8)]).2.2=(8:Int))= !true->(false,())=(true,())))/\(decide ((decodeF [(108:UInt8),(111:UInt8),(103:UInt8),(32:UInt8),(50:UInt8),(10:UInt8),(101:UInt8),(110:UInt8),(116:UInt8),(105:UInt8),(116:UInt8),(121:UInt8),(32:UInt8),(49:UInt8),(10:UInt8),(108:UInt8),(97:UInt8),(99:UInt8),(107:UInt8),(32:UInt8),(49:UInt8),(32:UInt8),(53:UInt8),(10:UInt8)]).2.1=(2:Int))= !true->(false,())=(true,())))/\(decide ((decodeF [(108:UInt8),(111:UInt8),(103:UInt8),(32:UInt8),(50:UInt8),(10:UInt8),(101:UInt8),(110:UInt8),(116:UInt8),(105:UInt8),(116:UInt8),(121:UInt8),(32:UInt8),(49:UInt8),(10:UInt8),(108:UInt8),(111:UInt8),(99:UInt8),(107:UInt8),(32:UInt8),(49:UInt8),(32:UInt8),(53:UInt8),(10:UInt8)]).2.2=(0:Int))= !true->(false,())=(true,())))/\(decide ((decodeF [(108:UInt8),(111:UInt8),(103:UInt8),(32:UInt8),(50:UInt8),(10:UInt8),(101:UInt8),(110:UInt8),(116:UInt8),(105:UInt8),(116:UInt8),(121:UInt8),(32:UInt8),(49:UInt8),(10:UInt8),(108:UInt8),(111:UInt8),(99:UInt8),(107:UInt8),(32:UInt8),(49:UInt8),(32:UInt8),(53:UInt8),(10:UInt8)]).2.1=(2:Int))= !true->(false,())=(true,())))/\(decide ((↑(decodeF [(108:UInt8),(111:UInt8),(103:UInt8),(32:UInt8),(50:UInt8),(10:UInt8),(101:UInt8),(110:UInt8),(116:UInt8),(105:UInt8),(116:UInt8),(121:UInt8),(32:UInt8),(49:UInt8),(10:UInt8),(108:UInt8),(111:UInt8),(99:UInt8),(107:UInt8),(32:UInt8),(49:UInt8),(32:UInt8),(53:UInt8),(10:UInt8)]).1.length:Int)=(2:Int))= !true->(false,())=(true,())))/\(decide ((encodeF [((1:Int),(3:Int),(0:Int),(0:Int),(0:Int),false,false,((0:Int),(0:Int)),[])]).2=(0:Int))= !true->(false,())=(true,())))/\(decide ((encodeF [((1:Int),(3:Int),(0:Int),(0:Int),(0:Int),false,false,((0:Int),(0:Int)),[])]).1=[(108:UInt8),(111:UInt8),(103:UInt8),(32:UInt8),(49:UInt8),(10:UInt8),(101:UInt8),(110:UInt8),(116:UInt8),(105:UInt8),(116:UInt8),(121:UInt8),(32:UInt8),(51:UInt8),(10:UInt8)])= !true->(false,())=(true,()))
theorem g_awake_ok:g_awake_vc:=by
 unfold g_awake_vc;have k0:=of_dec d0;have k4:=of_dec d4;simp only [k0.1,k4.1,d1,d2,d3,d6,d7,e4,e5];refine ⟨k0.2,ln_short (by decide),ln_short (by decide),ln_short (by decide),fun c hc=> ?_,trivial,k4.2,ln_short (by decide),ln_short (by decide),ln_short (by decide), ?_⟩
 ·rw [List.mem_singleton.1 hc];exact in0
 ·simp [stB]
noncomputable def sp_awake:FSpec Tryz.prog:=mkF 8 .z [.bool] (fun x=>(True,true,())) fun _ _=>Pure.of_cond (E:=env_awake) (by kernel_rfl) g_awake_ok (specs_ok rfl _ [] rfl rfl) mixed Tryz.func8
end Go.Proofs.YtabicbgeoiilmaaGreatDoor.Dry
end
section
namespace Go.Proofs.YtabicbgeoiilmaaGreatDoor.Dry
open Go.Vm
noncomputable def env_dw (l:List Cm.CmD):Env where
 P:=Tryz.prog
 ty:=tys1
 specs:=specsOf [sp_few,sp_awake,sp_encode,sp_rencode]
def g_dw_vc (l:List Cm.CmD):Prop:=
 l.length<=(9223372036854775807:Nat)/\((!fewC l)=true->True/\(true,())=(true,()))/\((!fewC l)=false->(∀(c:Int×Int×Int×Int×Int×Bool×Bool×(Int×Int)×List (Int×Int×Int×Int)),c∈l->Cm.InC c)/\(∀(c:Int×Int×Int×Int×Int×Bool×Bool×(Int×Int)×List (Int×Int×Int×Int)),c∈l->Cm.InC c)/\(decide ((encodeF l).1=(encodeF l).1)=true->(decide ((encodeF l).2=(encodeF l).2)=true->True/\(true,())=(true,()))/\(decide ((encodeF l).2=(encodeF l).2)= !true->(false,())=(true,())))/\(decide ((encodeF l).1=(encodeF l).1)= !true->(false,())=(true,())))
theorem g_dw_eq (l:List Cm.CmD):Cond (env_dw l) Tryz.f3 [.list .part Cm l] [.bool] (true,())=g_dw_vc l:=by kernel_rfl
theorem g_dw_ok (l:List Cm.CmD) (h:(∀c∈l,Cm.InC c)/\l.length<=9223372036854775807):g_dw_vc l:=by
 unfold g_dw_vc;refine ⟨h.2,fun _=>⟨trivial,rfl⟩,fun _=>⟨h.1,h.1, ?_⟩⟩;simp
set_option maxRecDepth 20000
theorem dw_pure (l:List Cm.CmD) (h:(∀c∈l,Cm.InC c)/\l.length<=9223372036854775807):Pure Tryz.prog 3 [.list .part Cm l] (.bool true):=
 by have k:=Pure.of_cond (g_dw_eq l) (g_dw_ok l h) (specs_ok rfl [sp_few,sp_awake,sp_encode,sp_rencode] [] rfl rfl) mixed Tryz.func3;exact k
end Go.Proofs.YtabicbgeoiilmaaGreatDoor.Dry
end
