import Derived.Test.YtabicbgeoiilmaaGreatDoorSeat
noncomputable section
namespace Go.Proofs.YtabicbgeoiilmaaGreatDoor
open Go.Vm
def bm {α:Type} (p:α->Bool):List α->Int->Int
 |[],_=> -1
 |x::r,i=>if p x=true then i else bm p r (i+1)
def bj {α:Type} (p:α->Bool) (l:List α):Int:=bm p l 0
theorem xD {α:Type} {p:α->Bool} {l:List α} {i:Int} {x:α} (h0:0<=i) (hx:l[i.toNat]? =some x):bm p (l.drop i.toNat) i=if p x=true then i else bm p (l.drop (i+1).toNat) (i+1):=by
 obtain ⟨h1,h2⟩:=List.getElem?_eq_some_iff.1 hx;rw [Rw h1,h2,show (i+1).toNat=i.toNat+1 by omega];rfl
theorem ga {α:Type} {p:α->Bool} {l:List α} {i:Int} {x:α} (h0:0<=i) (hx:l[i.toNat]? =some x) (h:p x=true):bm p (l.drop i.toNat) i=i:=by rw [xD h0 hx,Q_ h]
theorem dW {α:Type} {p:α->Bool} {l:List α} {i:Int} {x:α} (h0:0<=i) (hx:l[i.toNat]? =some x) (h:p x=false):bm p (l.drop i.toNat) i=bm p (l.drop (i+1).toNat) (i+1):=by rw [xD h0 hx,Q8 (by rw [h];decide)]
theorem gb {α:Type} {p:α->Bool} {l:List α} {i:Int} (h: ¬i<(l.length:Int)):bm p (l.drop i.toNat) i= -1:=by
 rw [RC (by omega)];rfl
theorem lA {α:Type} (p:α->Bool): ∀(l:List α) (i:Int),0<=i->bm p l i= -1∨(i<=bm p l i/\bm p l i<i+l.length)
 |[],i,_=> .inl rfl
 |x::r,i,h=>by
  rw [bm];split
  ·simp only [Rj];omega
  ·rcases lA p r (i+1) (by omega) with h|h
   ·exact .inl h
   ·simp only [Rj] at*;omega
theorem AM {α:Type} (p:α->Bool) (l:List α):bj p l= -1∨(0<=bj p l/\bj p l<l.length):=by
 have:=lA p l 0 (SA _);unfold bj;omega
theorem sF {α:Type} (p:α->Bool): ∀(l:List α) (i:Int),0<=i->(0<=bm p l i↔l.any p=true)
 |[],i,_=>by simp [bm]
 |x::r,i,h=>by
  rw [bm,Sr];by_cases c:p x=true
  ·simp [c,h]
  ·rw [Q8 c,sF p r (i+1) (by omega)];simp [c]
theorem jy {α:Type} (p:α->Bool) (l:List α):decide (0<=bj p l)=l.any p:=by
 rw [Bool.eq_iff_iff,Q7];exact sF p l 0 (SA _)
def Q3 {P:Program} (a b:FSpec P) (hf:b.f=a.f):FSpec P where
 f:=a.f
 run:=fun args=>match a.run args with
  |some r=>some r
  |none=>b.run args
 ok:=fun args pre r h hp=>by
  split at h
  ·rename_i q hq;cases h;exact a.ok args pre r hq hp
  ·rw [<-hf];exact b.ok args pre r h hp
end Go.Proofs.YtabicbgeoiilmaaGreatDoor
