/-
  What captured variables are; the first of a list that is so.
-/
import Derived.Test.YtabicbgeoiilmaaGreatDoorSeat
namespace Go.Proofs.YtabicbgeoiilmaaGreatDoor
open Go.Vm
def idxGo {α:Type} (p:α->Bool):List α->Int->Int
 |[],_=> -1
 |x::r,i=>if p x=true then i else idxGo p r (i+1)
def idxF {α:Type} (p:α->Bool) (l:List α):Int:=idxGo p l 0
theorem idx_next {α:Type} {p:α->Bool} {l:List α} {i:Int} {x:α} (h0:0<=i) (hx:l[i.toNat]? =some x):idxGo p (l.drop i.toNat) i=if p x=true then i else idxGo p (l.drop (i+1).toNat) (i+1):=by
 obtain ⟨h1,h2⟩:=List.getElem?_eq_some_iff.1 hx;rw [List.drop_eq_getElem_cons h1,h2,show (i+1).toNat=i.toNat+1 by omega];rfl
theorem idx_hit {α:Type} {p:α->Bool} {l:List α} {i:Int} {x:α} (h0:0<=i) (hx:l[i.toNat]? =some x) (h:p x=true):idxGo p (l.drop i.toNat) i=i:=by rw [idx_next h0 hx,if_pos h]
theorem idx_miss {α:Type} {p:α->Bool} {l:List α} {i:Int} {x:α} (h0:0<=i) (hx:l[i.toNat]? =some x) (h:p x=false):idxGo p (l.drop i.toNat) i=idxGo p (l.drop (i+1).toNat) (i+1):=by rw [idx_next h0 hx,if_neg (by rw [h];decide)]
theorem idx_end {α:Type} {p:α->Bool} {l:List α} {i:Int} (h: ¬i<(l.length:Int)):idxGo p (l.drop i.toNat) i= -1:=by
 rw [List.drop_of_length_le (by omega)];rfl
theorem idxGo_bounds {α:Type} (p:α->Bool): ∀(l:List α) (i:Int),0<=i->idxGo p l i= -1∨(i<=idxGo p l i/\idxGo p l i<i+l.length)
 |[],i,_=> .inl rfl
 |x::r,i,h=>by
  rw [idxGo];split
  ·simp only [List.length_cons];omega
  ·rcases idxGo_bounds p r (i+1) (by omega) with h|h
   ·exact .inl h
   ·simp only [List.length_cons] at*;omega
theorem idx_bounds {α:Type} (p:α->Bool) (l:List α):idxF p l= -1∨(0<=idxF p l/\idxF p l<l.length):=by
 have:=idxGo_bounds p l 0 (Int.le_refl _);unfold idxF;omega
theorem idxGo_any {α:Type} (p:α->Bool): ∀(l:List α) (i:Int),0<=i->(0<=idxGo p l i↔l.any p=true)
 |[],i,_=>by simp [idxGo]
 |x::r,i,h=>by
  rw [idxGo,List.any_cons];by_cases c:p x=true
  ·simp [c,h]
  ·rw [if_neg c,idxGo_any p r (i+1) (by omega)];simp [c]
theorem idx_any {α:Type} (p:α->Bool) (l:List α):decide (0<=idxF p l)=l.any p:=by
 rw [Bool.eq_iff_iff,decide_eq_true_eq];exact idxGo_any p l 0 (Int.le_refl _)
noncomputable def orSp {P:Program} (a b:FSpec P) (hf:b.f=a.f):FSpec P where
 f:=a.f
 run:=fun args=>match a.run args with
  |some r=>some r
  |none=>b.run args
 ok:=fun args pre r h hp=>by
  split at h
  ·rename_i q hq;cases h;exact a.ok args pre r hq hp
  ·rw [<-hf];exact b.ok args pre r h hp
end Go.Proofs.YtabicbgeoiilmaaGreatDoor
