/-
  Replay, and the document's.
-/
import Derived.Test.YtabicbgeoiilmaaGreatDoorDsk6
section
namespace Go.Proofs.YtabicbgeoiilmaaGreatDoor.Dsk
open Go.Vm
open Bks (En InE Sm ine_at ownP)
set_option maxRecDepth 20000
theorem acc_move_len {A:List Acc.AcD} {a p:Int}:(Acc.moveF A a p).1.length<=A.length:=by
 unfold Acc.moveF;split
 ·simp
 ·split
  ·simp
  ·split
   ·simp
   ·simp
theorem ap_eq {B:Bk} {c:Cm.CmD} (h:Cm.checkF c=0):apF B c=doF B c:=if_pos h
end Go.Proofs.YtabicbgeoiilmaaGreatDoor.Dsk
end
section
namespace Go.Proofs.YtabicbgeoiilmaaGreatDoor.Dsk
open Go.Vm
open Bks (En InE Sm ine_at ownP)
def Szn (n:Nat) (B:Bk):Prop:=B.1.length<=n/\B.2.1.length<=n/\B.2.2.1.length<=n/\B.2.2.2.1.length<=n/\B.2.2.2.2.1.length<=n/\B.2.2.2.2.2.length<=n/\InE B.2.2.2.2.2
theorem szn_0 (n:Nat):Szn n bk0:=⟨Nat.zero_le _,Nat.zero_le _,Nat.zero_le _,Nat.zero_le _,Nat.zero_le _,Nat.zero_le _,fun _ h=>by cases h⟩
theorem fin_sz {n:Nat} {e:Int} {B:Bk} (h:Szn n B):Szn n (fin e B).1:=by
 unfold fin;split
 ·exact h
 ·exact szn_0 n
theorem cur_len (l:List Int) (c:Int):(Cur.addF l c).1.length<=l.length+1:=by
 unfold Cur.addF;split
 ·simp
 ·split<;>simp
theorem acc_len (l:List Acc.AcD) (x:Acc.AcD):(Acc.addF l x).1.length<=l.length+1:=by
 unfold Acc.addF;split
 ·simp
 ·split<;>simp
theorem gr_len (A L:List Acc.AcD) (N:List En) (a e:Int) (n:Nat) (h1:A.length<=n) (h2:L.length<=n):(grF A L N a e).1.length<=n:=by
 unfold grF;split
 ·exact h1
 ·split
  ·exact h1
  ·exact h2
theorem stk_len (l:List Ln) (x:Ln) (n:Int):(Stk.addF l x n).1.length<=l.length+1:=by
 unfold Stk.addF;split
 ·simp
 ·split<;>simp
theorem rts_len (l:List Rts.Rt) (x:Rts.Rt):(Rts.setF l x).1.length<=l.length+1:=by
 unfold Rts.setF;split
 ·split
  ·simp
  ·split<;>simp
 ·simp
theorem lck_len (l:List Lck.Lk) (a b n:Int):(Lck.addF l a b n).1.length<=l.length+1:=by
 unfold Lck.addF;split
 ·simp
 ·split<;>simp
theorem put_sz {K:List Lck.Lk} {N:List En} {x:En} (hi:InE N) (hx:Ent.InL x.2.2/\x.2.2.length<=1000):(putF K N x).1.length<=N.length+1/\InE (putF K N x).1:=by
 unfold putF;split
 ·exact ⟨Nat.le_succ _,hi⟩
 ·split
  ·exact ⟨Nat.le_succ _,hi⟩
  ·refine ⟨by simp,fun y hy=> ?_⟩;rcases List.mem_append.1 hy with hy|hy
   ·exact hi y hy
   ·rw [List.mem_singleton.1 hy];exact hx
theorem post_sz {E:List Int} {A:List Acc.AcD} {K:List Lck.Lk} {N:List En} {p:Int} {L:List Ln} (hi:InE N) (hx:Ent.InL L/\L.length<=1000):(postF E A K N p L).1.length<=N.length+1/\InE (postF E A K N p L).1:=by
 unfold postF;split
 ·exact ⟨Nat.le_succ _,hi⟩
 ·split
  ·exact ⟨Nat.le_succ _,hi⟩
  ·split
   ·exact ⟨Nat.le_succ _,hi⟩
   ·exact put_sz hi hx
theorem neg_in {L:List Ln} (h:Ent.InL L) (k:Ent.hasLeast L=false):Ent.InL (L.map Ent.negLn):=by
 intro x hx;obtain ⟨y,hy,rfl⟩:=List.mem_map.1 hx;have h1:=h y hy;have h2:y.2.2.2≠ -9223372036854775808:=by
  intro e;unfold Ent.hasLeast at k;rw [List.any_eq_false] at k;exact k y hy (by simpa using e)
 obtain ⟨a1,a2⟩:=h1;refine ⟨?_, ?_⟩<;>(simp only [Ent.negLn];omega)
theorem opp_in {y:En} (h:Ent.InL y.2.2/\y.2.2.length<=1000):Ent.InL (Ent.oppF y.1 y.2.1 y.2.2).1.2.2/\(Ent.oppF y.1 y.2.1 y.2.2).1.2.2.length<=1000:=by
 refine ⟨?_,Nat.le_trans (opp_len y) h.2⟩;unfold Ent.oppF;split
 ·intro x hx;cases hx
 ·rename_i k;exact neg_in h.1 (by simpa using k)
theorem rev_sz {K:List Lck.Lk} {N:List En} {a b:Int} (hi:InE N):(revF K N a b).1.length<=N.length+1/\InE (revF K N a b).1:=by
 unfold revF;split
 ·exact ⟨Nat.le_succ _,hi⟩
 ·split
  ·exact ⟨Nat.le_succ _,hi⟩
  ·split
   ·exact ⟨Nat.le_succ _,hi⟩
   ·rename_i y hy;unfold rvY;split
    ·exact ⟨Nat.le_succ _,hi⟩
    ·exact put_sz hi (opp_in (ine_at hi hy))
theorem ap_sz {n:Nat} {B:Bk} {c:Cm.CmD} (h:Szn n B) (hl:Ent.InL (Cm.linesF c)):Szn (n+1) (apF B c).1:=by
 obtain ⟨E,A,S,R,K,N⟩:=B;obtain ⟨k,a,b,c,d,s,q,⟨m1,m2⟩,l⟩:=c;obtain ⟨h1,h2,h3,h4,h5,h6,hi⟩:=h;dsimp only at h1 h2 h3 h4 h5 h6 hi;by_cases hc:Cm.checkF (k,a,b,c,d,s,q,(m1,m2),l)=0
 ·rw [ap_eq hc];have hll:=chk_lines hc;simp only [Cm.linesF] at hll hl;unfold doF;dsimp only;split
  ·exact fin_sz ⟨Nat.le_trans (cur_len _ _) (by omega),by dsimp only;omega,by dsimp only;omega,by dsimp only;omega,by dsimp only;omega,by dsimp only;omega,hi⟩
  split
  ·exact fin_sz ⟨by dsimp only;omega,gr_len _ _ _ _ _ _ (by omega) (Nat.le_trans (acc_len _ _) (by omega)),by dsimp only;omega,by dsimp only;omega,by dsimp only;omega,by dsimp only;omega,hi⟩
  split
  ·exact fin_sz ⟨by dsimp only;omega,gr_len _ _ _ _ _ _ (by omega) (Nat.le_trans acc_move_len (by omega)),by dsimp only;omega,by dsimp only;omega,by dsimp only;omega,by dsimp only;omega,hi⟩
  split
  ·exact fin_sz ⟨by dsimp only;omega,by dsimp only;omega,Nat.le_trans (stk_len _ _ _) (by omega),by dsimp only;omega,by dsimp only;omega,by dsimp only;omega,hi⟩
  split
  ·exact fin_sz ⟨by dsimp only;omega,by dsimp only;omega,by dsimp only;omega,Nat.le_trans (rts_len _ _) (by omega),by dsimp only;omega,by dsimp only;omega,hi⟩
  split
  ·exact fin_sz ⟨by dsimp only;omega,by dsimp only;omega,by dsimp only;omega,by dsimp only;omega,Nat.le_trans (lck_len _ _ _ _) (by omega),by dsimp only;omega,hi⟩
  split
  ·have hp:=post_sz (E:=E) (A:=A) (K:=K) (p:=a) hi ⟨hl,Nat.le_trans hll (by decide)⟩;exact fin_sz ⟨by dsimp only;omega,by dsimp only;omega,by dsimp only;omega,by dsimp only;omega,by dsimp only;omega,Nat.le_trans hp.1 (by omega),hp.2⟩
  ·have hp:=rev_sz (K:=K) (a:=a) (b:=b) hi;exact fin_sz ⟨by dsimp only;omega,by dsimp only;omega,by dsimp only;omega,by dsimp only;omega,by dsimp only;omega,Nat.le_trans hp.1 (by omega),hp.2⟩
 ·rw [ap_bad hc];exact szn_0 _
theorem sm_of {n:Nat} {E:List Int} {A:List Acc.AcD} {S:List Ln} {R:List Rts.Rt} {K:List Lck.Lk} {N:List En} (h:Szn n (E,A,S,R,K,N)) (hn:n<=1000000):Sm E A S R K N:=by
 obtain ⟨h1,h2,h3,h4,h5,h6,hi⟩:=h;dsimp only at h1 h2 h3 h4 h5 h6 hi;exact ⟨by omega,by omega,by omega,by omega,by omega,by omega,hi⟩
def repGo:Bk->List Cm.CmD->Int->Bk×Int×Int
 |B,[],i=>(B,i,0)
 |B,c::r,i=>if (apF B c).2=0 then repGo (apF B c).1 r (i+1) else (B,i,(apF B c).2)
def repF (B:Bk) (l:List Cm.CmD):Bk×Int×Int:=repGo B l 0
theorem rep_stop {B:Bk} {l:List Cm.CmD} {i:Int} {c:Cm.CmD} (hc:l[i.toNat]? =some c) (h: ¬(apF B c).2=0):repGo B (l.drop i.toNat) i=(B,i,(apF B c).2):=by
 obtain ⟨h1,h2⟩:=List.getElem?_eq_some_iff.1 hc;rw [List.drop_eq_getElem_cons h1,h2,repGo,if_neg h]
theorem rep_next {B:Bk} {l:List Cm.CmD} {i:Int} {c:Cm.CmD} (h0:0<=i) (hc:l[i.toNat]? =some c) (h:(apF B c).2=0):repGo B (l.drop i.toNat) i=repGo (apF B c).1 (l.drop (i+1).toNat) (i+1):=by
 obtain ⟨h1,h2⟩:=List.getElem?_eq_some_iff.1 hc;rw [List.drop_eq_getElem_cons h1,h2,repGo,if_pos h,show (i+1).toNat=i.toNat+1 by omega]
theorem rep_end {B:Bk} {l:List Cm.CmD} {i:Int} (h: ¬i<(l.length:Int)) (h1:i<=l.length):repGo B (l.drop i.toNat) i=(B,(l.length:Int),0):=by
 rw [List.drop_of_length_le (by omega),repGo,show i=(l.length:Int) by omega]
end Go.Proofs.YtabicbgeoiilmaaGreatDoor.Dsk
end
section
namespace Go.Proofs.YtabicbgeoiilmaaGreatDoor.Dsk
open Go.Vm
open Bks (En InE Sm ine_at ownP)
abbrev CmT:Ty:= .pair I (.pair I (.pair I (.pair I (.pair I (.pair .bool (.pair .bool (.pair Vl (.slice LnT))))))))
noncomputable def tys1:TypeId->Option Ty:=fun|57=>some CmT|i=>tys0 i
def InC (l:List Cm.CmD):Prop:= ∀c∈l,Ent.InL (Cm.linesF c)
theorem inc_at {l:List Cm.CmD} {i:Nat} {c:Cm.CmD} (h:InC l) (hc:l[i]? =some c):Ent.InL (Cm.linesF c):=h c (List.mem_of_getElem? hc)
theorem szn_step {i:Int} {n:Nat} {l:List Cm.CmD} {B:Bk} {c:Cm.CmD} (h:InC l) (hc:l[i.toNat]? =some c) (h0:0<=i) (hz:Szn (n+i.toNat) B):Szn (n+(i+1).toNat) (apF B c).1:=by
 rw [show n+(i+1).toNat=n+i.toNat+1 by omega];exact ap_sz hz (inc_at h hc)
noncomputable def env_replay (E:List Int) (A:List Acc.AcD) (S:List Ln) (R:List Rts.Rt) (K:List Lck.Lk) (N:List En) (l:List Cm.CmD):Env where
 P:=Tryz.prog
 ty:=tys1
 specs:=specsOf [Bks.sp_copy,sp_apply]
 heads:=fun|3=>some {slots:=[(15, .int .i64)],boxes:=[(4,[.list .part I, .list .part AcT, .list .part LnT, .list .part RTy, .list .part Vl, .list .part EnT])],keep:=[],drop:=[2],inv:=fun _ (x:Int×List Int×List Acc.AcD×List Ln×List Rts.Rt×List Lck.Lk×List En×Unit)=>0<=x.1/\x.1<=l.length/\Szn (500000+x.1.toNat) (x.2.1,x.2.2.1,x.2.2.2.1,x.2.2.2.2.1,x.2.2.2.2.2.1,x.2.2.2.2.2.2.1)/\repGo (x.2.1,x.2.2.1,x.2.2.2.1,x.2.2.2.2.1,x.2.2.2.2.2.1,x.2.2.2.2.2.2.1) (l.drop x.1.toNat) x.1=repF (E,A,S,R,K,N) l,measure:=fun _ (x:Int×List Int×List Acc.AcD×List Ln×List Rts.Rt×List Lck.Lk×List En×Unit)=>(l.length-x.1).toNat}|_=>none
abbrev ann_replay:Ann:={slots:=numP 0 [.list .part I, .list .part AcT, .list .part LnT, .list .part RTy, .list .part Vl, .list .part EnT, .int .i64, .int .i64],boxes:=[],inv:=fun _ _=>True}
def g_replay_vc (E:List Int) (A:List Acc.AcD) (S:List Ln) (R:List Rts.Rt) (K:List Lck.Lk) (N:List En) (l:List Cm.CmD):Prop:=
 Sm E A S R K N/\(True/\0<=(0:Int)/\0<=(↑l.length:Int)/\Szn ((500000:Nat)+Int.toNat (0:Int)) (E,A,S,R,K,N)/\repGo (E,A,S,R,K,N) (List.drop (Int.toNat (0:Int)) l) (0:Int)=repF (E,A,S,R,K,N) l)/\∀(x:Int×List Int×List (Int×Int×Bool×Bool)×List (Int×Int×Int×Int)×List (Int×Int×Int×Int×Int×Int)×List (Int×Int)×List (Int×Int×List (Int×Int×Int×Int))×Unit),0<=x.1/\x.1<=(↑l.length:Int)/\Szn ((500000:Nat)+x.1.toNat) (x.2.1,x.2.2.1,x.2.2.2.1,x.2.2.2.2.1,x.2.2.2.2.2.1,x.2.2.2.2.2.2.1)/\repGo (x.2.1,x.2.2.1,x.2.2.2.1,x.2.2.2.2.1,x.2.2.2.2.2.1,x.2.2.2.2.2.2.1) (List.drop x.1.toNat l) x.1=repF (E,A,S,R,K,N) l->(decide (x.1<(↑l.length:Int))=true->(0<=x.1/\x.1<(↑l.length:Int))/\∀(x_1:Int×Int×Int×Int×Int×Bool×Bool×(Int×Int)×List (Int×Int×Int×Int)),l[x.1.toNat]? =some x_1->(Sm x.2.1 x.2.2.1 x.2.2.2.1 x.2.2.2.2.1 x.2.2.2.2.2.1 x.2.2.2.2.2.2.1/\Ent.InL x_1.2.2.2.2.2.2.2.2)/\((!decide ((apF (x.2.1,x.2.2.1,x.2.2.2.1,x.2.2.2.2.1,x.2.2.2.2.2.1,x.2.2.2.2.2.2.1) x_1).2=(0:Int)))=true->True/\(x.2.1,x.2.2.1,x.2.2.2.1,x.2.2.2.2.1,x.2.2.2.2.2.1,x.2.2.2.2.2.2.1,x.1,(apF (x.2.1,x.2.2.1,x.2.2.2.1,x.2.2.2.2.1,x.2.2.2.2.2.1,x.2.2.2.2.2.2.1) x_1).2,())=((repF (E,A,S,R,K,N) l).1.1,(repF (E,A,S,R,K,N) l).1.2.1,(repF (E,A,S,R,K,N) l).1.2.2.1,(repF (E,A,S,R,K,N) l).1.2.2.2.1,(repF (E,A,S,R,K,N) l).1.2.2.2.2.1,(repF (E,A,S,R,K,N) l).1.2.2.2.2.2,(repF (E,A,S,R,K,N) l).2.1,(repF (E,A,S,R,K,N) l).2.2,()))/\((!decide ((apF (x.2.1,x.2.2.1,x.2.2.2.1,x.2.2.2.2.1,x.2.2.2.2.2.1,x.2.2.2.2.2.2.1) x_1).2=(0:Int)))=false->(-9223372036854775808<=x.1+1/\x.1+1<=9223372036854775807)/\True/\(0<=x.1+1/\x.1+1<=(↑l.length:Int)/\Szn ((500000:Nat)+(x.1+1).toNat) (apF (x.2.1,x.2.2.1,x.2.2.2.1,x.2.2.2.2.1,x.2.2.2.2.2.1,x.2.2.2.2.2.2.1) x_1).1/\repGo (apF (x.2.1,x.2.2.1,x.2.2.2.1,x.2.2.2.2.1,x.2.2.2.2.2.1,x.2.2.2.2.2.2.1) x_1).1 (List.drop (x.1+1).toNat l) (x.1+1)=repF (E,A,S,R,K,N) l)/\((↑l.length:Int)-(x.1+1)).toNat<((↑l.length:Int)-x.1).toNat))/\(decide (x.1<(↑l.length:Int))=false->True/\(x.2.1,x.2.2.1,x.2.2.2.1,x.2.2.2.2.1,x.2.2.2.2.2.1,x.2.2.2.2.2.2.1,(↑l.length:Int),(0:Int),())=((repF (E,A,S,R,K,N) l).1.1,(repF (E,A,S,R,K,N) l).1.2.1,(repF (E,A,S,R,K,N) l).1.2.2.1,(repF (E,A,S,R,K,N) l).1.2.2.2.1,(repF (E,A,S,R,K,N) l).1.2.2.2.2.1,(repF (E,A,S,R,K,N) l).1.2.2.2.2.2,(repF (E,A,S,R,K,N) l).2.1,(repF (E,A,S,R,K,N) l).2.2,()))
theorem g_replay_ok (E:List Int) (A:List Acc.AcD) (S:List Ln) (R:List Rts.Rt) (K:List Lck.Lk) (N:List En) (l:List Cm.CmD) (h:Szn 500000 (E,A,S,R,K,N)/\l.length<=500000/\InC l):g_replay_vc E A S R K N l:=by
 obtain ⟨hz0,hl,hC⟩:=h;unfold g_replay_vc;simp only [decide_eq_true_eq,decide_eq_false_iff_not,Bool.not_eq_true',Bool.not_eq_false',Bool.not_true,Bool.not_false];refine ⟨sm_of hz0 (by decide),⟨trivial,Int.le_refl 0,by omega,hz0,rfl⟩, ?_⟩;rintro ⟨i,E1,A1,S1,R1,K1,N1,⟨⟩⟩ ⟨h0,h1,hz,hr⟩;dsimp only at h0 h1 hz hr⊢;refine ⟨fun hi=>⟨⟨h0,hi⟩,fun c hc=>⟨⟨sm_of hz (by omega),inc_at hC hc⟩,fun he=>⟨trivial, ?_⟩,fun he=>⟨⟨by omega,by omega⟩,trivial,⟨by omega,by omega,szn_step hC hc h0 hz,(rep_next h0 hc he).symm.trans hr⟩,by omega⟩⟩⟩,fun hi=>⟨trivial, ?_⟩⟩
 ·have e:=(rep_stop hc he).symm.trans hr;rw [<-e]
 ·have e:=(rep_end hi h1).symm.trans hr;rw [<-e]
set_option maxRecDepth 20000
noncomputable def sp_replay:FSpec Tryz.prog:=mkG 17 (.c (.g (.c (.l I) (.c (.l AcT) (.c (.l LnT) (.c (.l RTy) (.c (.l Vl) (.c (.l EnT) .z))))))) (.c (.l CmT) .z)) (fun x=>(fun (E:List Int) (A:List Acc.AcD) (S:List Ln) (R:List Rts.Rt) (K:List Lck.Lk) (N:List En) (l:List Cm.CmD)=>(Szn 500000 (E,A,S,R,K,N)/\l.length<=500000/\InC l,(.tuple [.agg [.list .part I ((repF (E,A,S,R,K,N) l).1.1), .list .part AcT ((repF (E,A,S,R,K,N) l).1.2.1), .list .part LnT ((repF (E,A,S,R,K,N) l).1.2.2.1), .list .part RTy ((repF (E,A,S,R,K,N) l).1.2.2.2.1), .list .part Vl ((repF (E,A,S,R,K,N) l).1.2.2.2.2.1), .list .part EnT ((repF (E,A,S,R,K,N) l).1.2.2.2.2.2)], .int .i64 (repF (E,A,S,R,K,N) l).2.1, .int .i64 (repF (E,A,S,R,K,N) l).2.2]))) x.1.1 x.1.2.1 x.1.2.2.1 x.1.2.2.2.1 x.1.2.2.2.2.1 x.1.2.2.2.2.2.1 x.2.1) fun ⟨⟨E,A,S,R,K,N,_⟩,l,_⟩ h=>Pure.of_condG (E:=env_replay E A S R K N l) (sh:=[some 6,none,none]) (ann:=ann_replay) (x:=(fun (E:List Int) (A:List Acc.AcD) (S:List Ln) (R:List Rts.Rt) (K:List Lck.Lk) (N:List En) (l:List Cm.CmD)=>((repF (E,A,S,R,K,N) l).1.1,(repF (E,A,S,R,K,N) l).1.2.1,(repF (E,A,S,R,K,N) l).1.2.2.1,(repF (E,A,S,R,K,N) l).1.2.2.2.1,(repF (E,A,S,R,K,N) l).1.2.2.2.2.1,(repF (E,A,S,R,K,N) l).1.2.2.2.2.2,(repF (E,A,S,R,K,N) l).2.1,(repF (E,A,S,R,K,N) l).2.2,())) E A S R K N l) (by kernel_rfl) (g_replay_ok E A S R K N l h) rfl (specs_ok rfl _ [] rfl rfl) mixed Tryz.func17
end Go.Proofs.YtabicbgeoiilmaaGreatDoor.Dsk
end
