/-
  ApplyStays.
-/
import Derived.Test.YtabicbgeoiilmaaGreatAccA
import Derived.Test.YtabicbgeoiilmaaGreatDskC
set_option linter.unusedVariables false
section
namespace Go.Proofs.YtabicbgeoiilmaaGreat.Acc
open Go.Vm
end Go.Proofs.YtabicbgeoiilmaaGreat.Acc
end
section
namespace Go.Proofs.YtabicbgeoiilmaaGreat.Rts
open Go.Vm
theorem bad_iff: ∀(l:List Rt) (i:Int),(badL l i).2=0↔∀x∈l,mayR x=0
 |[],i=>by simp [badL]
 |x::r,i=>by
  rw [badL,List.forall_mem_cons,<-bad_iff r (i+1)];split
  ·rename_i h;simp [h]
  ·rename_i h;simp [h]
theorem check_iff {l:List Rt}:(checkF l).2=0↔l.length<=2000/\∀x∈l,mayR x=0:=by
 unfold checkF;split
 ·exact ⟨fun h=>(by cases h),fun h=>by omega⟩
 ·rw [bad_iff];exact ⟨fun h=>⟨by omega,h⟩,fun h=>h.2⟩
end Go.Proofs.YtabicbgeoiilmaaGreat.Rts
namespace Go.Proofs.YtabicbgeoiilmaaGreat.Cur
open Go.Vm
open Rts (moneyB)
end Go.Proofs.YtabicbgeoiilmaaGreat.Cur
namespace Go.Proofs.YtabicbgeoiilmaaGreat.Lck
open Go.Vm
end Go.Proofs.YtabicbgeoiilmaaGreat.Lck
namespace Go.Proofs.YtabicbgeoiilmaaGreat.Stk
open Go.Vm
end Go.Proofs.YtabicbgeoiilmaaGreat.Stk
namespace Go.Proofs.YtabicbgeoiilmaaGreat.Ent
open Go.Vm
theorem bad_none {n k:Int}: ∀(L:List Ln) (i:Int),badF L n k i=none↔∀x∈L,lineF x n k=0
 |[],i=>by simp [badF]
 |x::r,i=>by
  rw [badF,List.forall_mem_cons,<-bad_none r (i+1)];split
  ·rename_i h;simp [h]
  ·rename_i h;simp only [Decidable.not_not] at h;simp [h]
theorem bad_some {n k:Int}: ∀(L:List Ln) (i:Int) (q:Int×Int),badF L n k i=some q->q.2≠0
 |[],i,q,h=>by cases h
 |x::r,i,q,h=>by
  rw [badF] at h;split at h
  ·rename_i c;cases h;exact c
  ·exact bad_some r (i+1) q h
theorem check_iff {p n k:Int} {L:List Ln}:(checkF p L n k).2=0↔(0<=p/\p<=23)/\(2<=L.length/\L.length<=50)/\(∀x∈L,lineF x n k=0)/\unbal L=false:=by
 unfold checkF;split
 ·exact ⟨fun h=>(by cases h),fun h=>by omega⟩
 ·split
  ·exact ⟨fun h=>(by cases h),fun h=>by omega⟩
  ·split
   ·rename_i r hr;refine ⟨fun h=>absurd h (bad_some _ _ _ hr),fun h=> ?_⟩;rw [(bad_none L 0).2 h.2.2.1] at hr;cases hr
   ·rename_i hr;split
    ·rename_i hu;refine ⟨fun h=>(by cases h),fun h=> ?_⟩;rw [h.2.2.2] at hu;cases hu
    ·rename_i hu;exact ⟨fun _=>⟨by omega,by omega,(bad_none L 0).1 hr,Bool.eq_false_iff.2 hu⟩,fun _=>rfl⟩
end Go.Proofs.YtabicbgeoiilmaaGreat.Ent
namespace Go.Proofs.YtabicbgeoiilmaaGreat.Bks
open Go.Vm
def Eok (n:Int) (A:List Acc.AcD) (P:List En) (x:En):Prop:=(0<=x.1/\x.1<=23)/\(2<=x.2.2.length/\x.2.2.length<=50)/\(∀z∈x.2.2,Ent.lineF z n A.length=0/\3<z.2.1/\Acc.leafF A z.2.1=true)/\Ent.unbal x.2.2=false/\turnedF P x.2.1 x.2.2=0
theorem placed_iff {A:List Acc.AcD} {L:List Ln}:placedF (Acc.thoseF (Acc.leafF A) A.length) L=0↔∀z∈L,3<z.2.1/\Acc.leafF A z.2.1=true:=by
 unfold placedF;split
 ·rename_i h;obtain ⟨z,z1,z2⟩:=List.any_eq_true.1 h;refine ⟨fun h=>(by cases h),fun k=> ?_⟩;have:=(k z z1).1;unfold ownP at z2;rw [decide_eq_true_eq] at z2;omega
 ·rename_i h;have h:=List.any_eq_false.1 (Bool.eq_false_iff.2 h);split
  ·rename_i g;obtain ⟨z,z1,z2⟩:=List.any_eq_true.1 g;refine ⟨fun h=>(by cases h),fun k=> ?_⟩;rw [inn_leaf,(k z z1).2] at z2;cases z2
  ·rename_i g;have g:=List.any_eq_false.1 (Bool.eq_false_iff.2 g);refine ⟨fun _ z hz=>⟨?_, ?_⟩,fun _=>rfl⟩
   ·have:=h z hz;unfold ownP at this;rw [decide_eq_true_eq] at this;omega
   ·have:=g z hz;rw [inn_leaf] at this;simpa using this
theorem entry_iff {n:Int} {A:List Acc.AcD} {P:List En} {x:En}:entryF n A.length (Acc.thoseF (Acc.leafF A) A.length) P x=0↔Eok n A P x:=by
 unfold Eok;refine ⟨fun h=> ?_,fun h=> ?_⟩
 ·obtain ⟨h1,h2,h3⟩:=ent_parts h;rw [Ent.check_iff] at h1;rw [placed_iff] at h2;exact ⟨h1.1,h1.2.1,fun z hz=>⟨h1.2.2.1 z hz,h2 z hz⟩,h1.2.2.2,h3⟩
 ·obtain ⟨h1,h2,h3,h4,h5⟩:=h;rw [entry_3 (Ent.check_iff.2 ⟨h1,h2,fun z hz=>(h3 z hz).1,h4⟩) (placed_iff.2 fun z hz=>(h3 z hz).2)];exact h5
theorem go_none {n k:Int} {ls:List Int} {N:List En} (h: ∀(j:Nat) x,N[j]? =some x->entryF n k ls (N.take j) x=0): ∀(f:Nat) (i:Int),entGo n k ls N f i=none
 |0,_=>rfl
 |f+1,i=>by
  rw [entGo];split
  ·rfl
  ·rename_i x hx;rw [if_pos (h _ x hx)];exact go_none h f (i+1)
theorem all_iff {n:Int} {A:List Acc.AcD} {N:List En}:(allF N n A.length (Acc.thoseF (Acc.leafF A) A.length)).2=0↔N.length<=2000/\∀(j:Nat) x,N[j]? =some x->Eok n A (N.take j) x:=by
 refine ⟨fun h=>⟨?_,fun j x hx=>entry_iff.1 (ent_ok h j x hx)⟩,fun h=> ?_⟩
 ·unfold allF at h;split at h
  ·cases h
  ·omega
 ·unfold allF;rw [if_neg (by omega),go_none fun j x hx=>entry_iff.2 (h.2 j x hx)];rfl
theorem check_iff {E:List Int} {A:List Acc.AcD} {S:List Ln} {R:List Rts.Rt} {K:List Lck.Lk} {N:List En}:(checkF E A S R K N).2.2=0↔(Cur.checkF E).2=0/\(Acc.checkF A).2=0/\(Stk.checkF S E.length).2=0/\(Rts.checkF R).2=0/\(Lck.checkF K E.length).2=0/\N.length<=2000/\∀(j:Nat) x,N[j]? =some x->Eok E.length A (N.take j) x:=by
 refine ⟨fun h=> ?_,fun h=> ?_⟩
 ·obtain ⟨h1,h2,h3,h4,h5,h6⟩:=ok_parts h;exact ⟨h1,h2,h3,h4,h5,all_iff.1 h6⟩
 ·obtain ⟨h1,h2,h3,h4,h5,h6⟩:=h;unfold checkF;rw [step_0 h1,step_0 h2,step_0 h3,step_0 h4,step_0 h5,step_0 (all_iff.2 h6)]
theorem ln_mem {p i:Int} {z:Ln}: ∀(L:List Ln) (k:Nat),z∈L->∃q∈lnGo p i L k,q.2.2.2=z
 |[],_,h=>by cases h
 |x::r,k,h=>by
  rw [lnGo];rcases List.mem_cons.1 h with rfl|h
  ·exact ⟨_,List.mem_cons_self,rfl⟩
  ·obtain ⟨q,h1,h2⟩:=ln_mem r (k+1) h;exact ⟨q,List.mem_cons_of_mem _ h1,h2⟩
theorem po_mem {z:Ln} {x:En} (hz:z∈x.2.2): ∀(N:List En) (i:Int) (k:Nat),x∈N->∃q∈poGo N i k,q.2.2.2=z
 |[],_,_,h=>by cases h
 |y::r,i,k,h=>by
  rw [poGo];rcases List.mem_cons.1 h with rfl|h
  ·obtain ⟨q,h1,h2⟩:=ln_mem _ k hz;exact ⟨q,List.mem_append_left _ h1,h2⟩
  ·obtain ⟨q,h1,h2⟩:=po_mem hz r (i+1) (k+y.2.2.length) h;exact ⟨q,List.mem_append_right _ h1,h2⟩
end Go.Proofs.YtabicbgeoiilmaaGreat.Bks
namespace Go.Proofs.YtabicbgeoiilmaaGreat.Dsk
open Go.Vm
open Bks (En InE Ln ownP Eok)
theorem put_in {K:List Lck.Lk} {N:List En} {x:En} (h:(putF K N x).2=0):(putF K N x).1=N++[x]/\N.length<2000:=by
 unfold putF at*;split at h
 ·cases h
 ·split at h
  ·cases h
  ·rename_i c1 c2;rw [if_neg c1,if_neg c2];exact ⟨rfl,by omega⟩
end Go.Proofs.YtabicbgeoiilmaaGreat.Dsk
end
section
namespace Go.Proofs.YtabicbgeoiilmaaGreat.Dsk
open Go.Vm
open Bks (En InE Sm ine_at ownP Ok fewF sameB)
theorem ap_bk0 {B:Bk} {c:Cmd.CmD} (h: ¬(apF B c).2=0):(apF B c).1=bk0:=by
 have hf: ∀(e:Int) (C:Bk),¬(fin e C).2=0->(fin e C).1=bk0:=fun e C h=>by
  by_cases k:e=0
  ·rw [fin_ok k] at h;exact absurd rfl h
  ·rw [fin_bad k]
 by_cases hc:Cmd.checkF c=0
 ·obtain ⟨E,A,S,R,K,N⟩:=B;obtain ⟨k,a,b,c,d,s,q,⟨m1,m2⟩,l⟩:=c;rw [ap_eq hc] at h⊢;unfold doF at h⊢;dsimp only at h⊢;repeat' split at h
  all_goals simp only [*,if_true,if_false]
  all_goals exact hf _ _ h
 ·rw [ap_bad hc]
set_option maxRecDepth 20000
end Go.Proofs.YtabicbgeoiilmaaGreat.Dsk
end
