/-
  ApplyStays.
-/
import Derived.Test.YtabicbgeoiilmaaGreatAccA
import Derived.Test.YtabicbgeoiilmaaGreatDskC
set_option linter.unusedVariables false
section
namespace Go.Proofs.YtabicbgeoiilmaaGreat.Acc
open Go.Vm
def Cyc (l:List AcD) (a:Int):Prop:= ∃k,0<k/\it l a k=a/\∀i,0<i->i<k->isIn l (it l a i)
theorem it_add (l:List AcD) (a:Int) (j:Nat): ∀i,it l a (j+i)=it l (it l a j) i
 |0=>rfl
 |i+1=>by
  show parA l (it l a (j+i))=parA l (it l (it l a j) i);rw [it_add l a j i]
theorem cyc_min {l:List AcD} {a:Int} (h:Cyc l a): ∃k,0<k/\it l a k=a/\∀i,0<i->i<k->isIn l (it l a i)/\it l a i≠a:=by
 obtain ⟨k,h0,h1,h2⟩:=h;induction k using Nat.strongRecOn with
 |ind k ih=>
  by_cases c: ∃i,0<i/\i<k/\it l a i=a
  ·obtain ⟨i,i0,i1,i2⟩:=c;exact ih i i1 i0 i2 (fun j j0 j1=>h2 j j0 (by omega))
  ·exact ⟨k,h0,h1,fun i i0 i1=>⟨h2 i i0 i1,fun e=>c ⟨i,i0,i1,e⟩⟩⟩
theorem cyc_of {l:List AcD} {a:Int} (ha:isIn l a) (h:roundF l a=true):Cyc l a:=by
 obtain ⟨a1,a2⟩:=ha;have h:rndGo l a l.length a=a:=of_decide_eq_true h;rcases rnd_it (l:=l) (a:=a) l.length 0 with ⟨k,k1,k2,k3,k4,k5⟩|⟨k1,k2⟩
 ·have k3:rndGo l a l.length a=it l a k:=k3;exact ⟨k,k1,k3.symm.trans h,fun i i0 i1=>(k5 i i0 i1).2⟩
 ·have k1:rndGo l a l.length a=it l a (0+l.length):=k1;exact absurd (k1.symm.trans h) (k2 (0+l.length) (by omega) (by omega)).1
theorem of_cyc {l:List AcD} {a:Int} (ha:isIn l a) (h:Cyc l a):roundF l a=true:=by
 rw [round_eq ha];unfold roundR;obtain ⟨m,e,hw,hs⟩:=up_its ha;rw [e,last_its,show parA l (it l a m)=it l a (m+1) from rfl];obtain ⟨k,h0,h1,h2⟩:=cyc_min h;refine decide_eq_true (Classical.byContradiction fun e1=> ?_);have hno: ∀i,0<i->i<=m->it l a i≠a:=fun i h0 h1=>(hw.inn (it l a i) (mem_its.2 ⟨i-1,by omega,by rw [show i-1+1=i by omega]⟩)).2;have hk:m+1<k:=by
  by_cases h3:k<=m
  ·exact absurd h1 (hno k h0 h3)
  ·by_cases h4:k=m+1
   ·exact absurd (h4▸h1) e1
   ·omega
 have hmem:it l a (m+1)∈its l a m:=Classical.byContradiction fun hn=>hs ⟨(h2 (m+1) (by omega) hk).1,e1,hn⟩;obtain ⟨j,hj,ej⟩:=mem_its.1 hmem;have hper:=it_per (l:=l) (a:=a) (j:=j+1) (d:=m-j) (by rw [show j+1+(m-j)=m+1 by omega];exact ej.symm);have:=hper (k-(m-j)) (by omega);rw [show k-(m-j)+(m-j)=k by omega,h1] at this;exact (h2 (k-(m-j)) (by omega) (by omega)).2 this.symm
theorem mem_up {l:List AcD} {p a:Int} (hp:isIn l p) (hn: ∀c,isIn l c->¬Cyc l c) {m:Nat} (h0:0<m) (h1:it l p m=a) (ha:isIn l a) (h2: ∀i,0<i->i<m->isIn l (it l p i)):a∈upF l p:=by
 obtain ⟨k,e,hw,hs⟩:=up_its hp;rw [e];by_cases c:m<=k
 ·exact mem_its.2 ⟨m-1,by omega,by rw [show m-1+1=m by omega];exact h1⟩
 ·exfalso;have hin: ∀i,0<i->i<=m->isIn l (it l p i):=fun i i0 i1=>by
   by_cases c:i=m
   ·rw [c,h1];exact ha
   ·exact h2 i i0 (by omega)
  by_cases e1:it l p (k+1)=p
  ·exact hn p hp ⟨k+1,by omega,e1,fun i i0 i1=>hin i i0 (by omega)⟩
  ·have hmem:it l p (k+1)∈its l p k:=Classical.byContradiction fun hq=>hs ⟨hin (k+1) (by omega) (by omega),e1,hq⟩;obtain ⟨j,hj,ej⟩:=mem_its.1 hmem;refine hn (it l p (j+1)) (hin _ (by omega) (by omega)) ⟨k-j,by omega, ?_,fun i i0 i1=> ?_⟩
   ·rw [<-it_add,show j+1+(k-j)=k+1 by omega];exact ej.symm
   ·rw [<-it_add];exact hin _ (by omega) (by omega)
theorem par_app {l:List AcD} {x:AcD} {b:Int} (hl:0<l.length) (h:b<=l.length):parA (l++[x]) b=parA l b:=by
 unfold parA;rw [List.getElem?_append_left (by omega)]
theorem par_le {l:List AcD} (h: ∀y∈l,y.1<=l.length) (b:Int):parA l b<=l.length:=by
 unfold parA;cases e:l[(b-1).toNat]? with
 |none=>exact Int.natCast_nonneg _
 |some y=>exact h y (List.mem_of_getElem? e)
theorem it_app {l:List AcD} {x:AcD} {b:Int} (hl:0<l.length) (hp: ∀y∈l,y.1<=l.length) (hb:b<=l.length): ∀k,it (l++[x]) b k=it l b k/\it l b k<=l.length
 |0=>⟨rfl,hb⟩
 |k+1=>by
  obtain ⟨h1,h2⟩:=it_app (x:=x) hl hp hb k;refine ⟨?_,par_le hp _⟩;show parA (l++[x]) (it (l++[x]) b k)=parA l (it l b k);rw [h1,par_app hl h2]
theorem cyc_app {l:List AcD} {x:AcD} (hl:0<l.length) (hp: ∀y∈l,y.1<=l.length) (hx:x.1<=l.length) (hn: ∀c,isIn l c->¬Cyc l c): ∀c,isIn (l++[x]) c->¬Cyc (l++[x]) c:=by
 rintro c ⟨c1,c2⟩ ⟨k,k0,k1,k2⟩;rw [List.length_append,List.length_singleton] at c2;by_cases e:c<=l.length
 ·refine hn c ⟨c1,e⟩ ⟨k,k0,(it_app hl hp e k).1.symm.trans k1,fun i i0 i1=> ?_⟩;have h1:=k2 i i0 i1;obtain ⟨h2,h3⟩:=it_app (x:=x) hl hp e i;rw [h2] at h1;exact ⟨h1.1,h3⟩
 ·have h1:it (l++[x]) c 1=x.1:=parA_at (by rw [show it (l++[x]) c 0=c from rfl,show (c-1).toNat=l.length by omega];exact List.getElem?_concat_length ..);obtain ⟨j,rfl⟩: ∃j,k=1+j:=⟨k-1,by omega⟩
  rw [it_add,h1] at k1;have:=it_app (x:=x) hl hp hx j;omega
theorem cyc_set {l m:List AcD} {a p:Int} (ha:isIn l a) (hi: ∀b,isIn m b->isIn l b) (hs: ∀b,isIn l b->parA m b=if b=a then p else parA l b) (hp:p≠a) (hu:a∉upF l p) (hn: ∀c,isIn l c->¬Cyc l c): ∀c,isIn m c->¬Cyc m c:=by
 have key: ¬Cyc m a:=fun h=>by
  obtain ⟨k,k0,k1,k2⟩:=cyc_min h;have e1: ∀j,j<k->it m a (j+1)=it l p j:=by
   intro j;induction j with
   |zero=>intro _;show parA m a=p;rw [hs a ha,if_pos rfl]
   |succ j ih=>
    intro hj;have h1:=ih (by omega);have h2:=k2 (j+1) (by omega) hj;show parA m (it m a (j+1))=parA l (it l p j);rw [hs _ (hi _ h2.1),if_neg h2.2,h1]
  by_cases c1:k=1
  ·subst c1;exact hp ((e1 0 (by omega)).symm.trans k1)
  ·have e2:=e1 (k-1) (by omega);rw [show k-1+1=k by omega,k1] at e2;have hin: ∀i,i<k-1->isIn l (it l p i):=fun i hi2=>by
    rw [<-e1 i (by omega)];exact hi _ (k2 (i+1) (by omega) (by omega)).1
   exact hu (mem_up (hin 0 (by omega)) hn (m:=k-1) (by omega) e2.symm ha (fun i _ h=>hin i h))
 rintro c hc ⟨k,k0,k1,k2⟩;by_cases q: ∃i,i<k/\it m c i=a
 ·obtain ⟨i,i1,i2⟩:=q;refine key ⟨k,k0, ?_,fun j j0 j1=> ?_⟩
  ·rw [<-i2,<-it_add,Nat.add_comm,it_add,k1]
  ·rw [<-i2,<-it_add];by_cases c1:i+j<k
   ·exact k2 _ (by omega) c1
   ·rw [show i+j=k+(i+j-k) by omega,it_add,k1];by_cases c2:i+j=k
    ·rw [show i+j-k=0 by omega];exact hc
    ·exact k2 _ (by omega) (by omega)
 ·have e1: ∀i,i<=k->it m c i=it l c i:=by
   intro i;induction i with
   |zero=>intro _;rfl
   |succ i ih=>
    intro hik;have h1:=ih (by omega);have hin:isIn l (it m c i):=by
     by_cases c0:i=0
     ·subst c0;exact hi _ hc
     ·exact hi _ (k2 i (by omega) (by omega))
    show parA m (it m c i)=parA l (it l c i);rw [hs _ hin,if_neg (fun e=>q ⟨i,by omega,e⟩),h1]
  exact hn c (hi _ hc) ⟨k,k0,(e1 k (Nat.le_refl _)).symm.trans k1,fun i i0 i1=>by rw [<-e1 i (by omega)];exact hi _ (k2 i i0 i1)⟩
theorem bad_none {n:Int}: ∀(l:List AcD) (i:Int),badA n l i=none↔∀x∈l,mayA x n=0
 |[],i=>by simp [badA]
 |x::r,i=>by
  rw [badA,List.forall_mem_cons,<-bad_none r (i+1)];split
  ·rename_i h;simp [h]
  ·rename_i h;simp [h]
theorem bad_some {n:Int}: ∀(l:List AcD) (i:Int) (q:Int×Int),badA n l i=some q->q.2≠0
 |[],i,q,h=>by cases h
 |x::r,i,q,h=>by
  rw [badA] at h;split at h
  ·exact bad_some r (i+1) q h
  ·rename_i c;cases h;exact c
theorem th_none {p:Int->Bool}: ∀(f:Nat) (i:Int),thGo p f i=[]↔∀a,i<=a->a<i+f->p a=false
 |0,i=>by rw [thGo];exact ⟨fun _ a h1 h2=>by omega,fun _=>rfl⟩
 |f+1,i=>by
  rw [thGo];split
  ·rename_i h;exact ⟨fun h=>(by cases h),fun k=>absurd h (by rw [k i (by omega) (by omega)];decide)⟩
  ·rename_i h;rw [th_none f (i+1)];refine ⟨fun k a h1 h2=> ?_,fun k a h1 h2=>k a (by omega) (by omega)⟩;by_cases e:a=i
   ·subst e;exact Bool.eq_false_iff.2 h
   ·exact k a (by omega) (by omega)
theorem check_iff {l:List AcD}:(checkF l).2=0↔l.length<=60/\l.take 3=ownL/\(∀x∈l,mayA x l.length=0)/\∀a,isIn l a->¬Cyc l a:=by
 unfold checkF checkG;split
 ·exact ⟨fun h=>(by cases h),fun h=>by omega⟩
 ·split
  ·rename_i h;exact ⟨fun h=>(by cases h),fun k=>absurd k.2.1 h⟩
  ·rename_i h1 h2;have h2:l.take 3=ownL:=Classical.byContradiction h2;split
   ·rename_i r hr;refine ⟨fun k=>absurd k (bad_some _ _ _ hr),fun k=> ?_⟩;rw [(bad_none l 0).2 k.2.2.1] at hr;cases hr
   ·rename_i hr;have hr:=(bad_none l 0).1 hr;unfold endF;cases ht:thoseF (roundF l) l.length with
    |nil=>
     refine ⟨fun _=>⟨by omega,h2,hr,fun a ha hc=> ?_⟩,fun _=>rfl⟩;have:=(th_none l.length 1).1 ht a ha.1 (by have:=ha.2;omega);rw [of_cyc ha hc] at this;cases this
    |cons y r=>
     refine ⟨fun k=>(by cases k),fun k=> ?_⟩;have:thoseF (roundF l) l.length=[]:=(th_none l.length 1).2 fun a h1 h3=>by
      cases e:roundF l a with
      |false=>rfl
      |true=>exact absurd (cyc_of ⟨h1,by omega⟩ e) (k.2.2.2 a ⟨h1,by omega⟩)
     rw [this] at ht;cases ht
theorem place_mono {p n m:Int} (h:placeF p n=0) (hm:n<=m):placeF p m=0:=by
 unfold placeF at*;split at h
 ·cases h
 ·split at h
  ·cases h
  ·rw [if_neg (by omega),if_neg (by omega)]
theorem place_in {p n:Int} (h:placeF p n=0):0<=p/\p<=n:=by
 unfold placeF at h;split at h
 ·cases h
 ·omega
theorem mayA_iff {x:AcD} {n:Int}:mayA x n=0↔placeF x.1 n=0/\kindF x.2.1 x.2.2.1 x.2.2.2=0:=by
 unfold mayA;split
 ·rename_i h;exact ⟨fun k=>⟨h,k⟩,fun k=>k.2⟩
 ·rename_i h;exact ⟨fun k=>absurd k h,fun k=>absurd k.1 h⟩
theorem mayA_mono {x:AcD} {n m:Int} (h:mayA x n=0) (hm:n<=m):mayA x m=0:=by
 rw [mayA_iff] at*;exact ⟨place_mono h.1 hm,h.2⟩
theorem own_len {l:List AcD} (h:l.take 3=ownL):3<=l.length:=by
 have:=congrArg List.length h;rw [List.length_take,show ownL.length=3 from rfl] at this;omega
theorem add_ok {l:List AcD} {x:AcD} (h:(checkF l).2=0) (hx:(addF l x).2=0):(addF l x).1=l++[x]/\(checkF (l++[x])).2=0:=by
 rw [check_iff] at h;obtain ⟨h1,h2,h3,h4⟩:=h;have hl:=own_len h2;unfold addF at hx⊢;split at hx
 ·cases hx
 ·split at hx
  ·rename_i g1 g2;rw [if_neg g1,if_pos g2];refine ⟨rfl,check_iff.2 ⟨by rw [List.length_append,List.length_singleton];omega,by rw [List.take_append_of_le_length hl];exact h2,fun y hy=> ?_, ?_⟩⟩
   ·rw [List.length_append,List.length_singleton];rcases List.mem_append.1 hy with hy|hy
    ·exact mayA_mono (h3 y hy) (by omega)
    ·rw [List.mem_singleton.1 hy];exact mayA_mono g2 (by omega)
   ·exact cyc_app (by omega) (fun y hy=>(place_in (mayA_iff.1 (h3 y hy)).1).2) (place_in (mayA_iff.1 g2).1).2 h4
  ·rename_i g1 g2;exact absurd hx g2
theorem move_ok {l:List AcD} {a p:Int} (h:(checkF l).2=0) (hx:(moveF l a p).2=0): ∃y,y.1=p/\(moveF l a p).1=l.set (a-1).toNat y/\(checkF (l.set (a-1).toNat y)).2=0:=by
 rw [check_iff] at h;obtain ⟨h1,h2,h3,h4⟩:=h;have hl:=own_len h2;by_cases c1: ¬isIn l a∨placeF p l.length=21
 ·rw [mv_in c1] at hx;cases hx
 by_cases c2:a<=3∨placeF p l.length≠0
 ·rw [mv_own c1 c2] at hx;cases hx
 by_cases c3:p=a∨a∈upF l p
 ·rw [mv_cir c1 c2 c3] at hx;cases hx
 have ha:isIn l a:=Classical.byContradiction fun k=>c1 (.inl k);have hp:placeF p l.length=0:=Classical.byContradiction fun k=>c2 (.inr k);obtain ⟨a1,a2⟩:=ha;obtain ⟨x,hx2⟩: ∃x,l[(a-1).toNat]? =some x:=⟨_,List.getElem?_eq_getElem (by omega)⟩
 rw [mv_ok c1 c2 c3 hx2];refine ⟨_,rfl,rfl,check_iff.2 ⟨by rw [List.length_set];exact h1, ?_,fun y hy=> ?_, ?_⟩⟩
 ·rw [<-h2];refine List.ext_getElem? fun i=> ?_;rw [List.getElem?_take,List.getElem?_take];split
  ·rw [List.getElem?_set_ne (by omega)]
  ·rfl
 ·rw [List.length_set];rcases List.mem_or_eq_of_mem_set hy with hy|hy
  ·exact h3 y hy
  ·rw [hy];exact mayA_iff.2 ⟨hp,(mayA_iff.1 (h3 x (List.mem_of_getElem? hx2))).2⟩
 ·refine cyc_set (l:=l) (a:=a) (p:=p) ⟨a1,a2⟩ (fun b hb=>⟨hb.1,by have:=hb.2;rwa [List.length_set] at this⟩) (fun b hb=> ?_) (fun e=>c3 (.inl e)) (fun e=>c3 (.inr e)) h4;obtain ⟨b1,b2⟩:=hb;unfold parA;split
  ·rename_i e;rw [e,List.getElem?_set_self (by omega)];rfl
  ·rename_i e;rw [List.getElem?_set_ne (by omega)]
theorem leaf_iff {l:List AcD} {a:Int}:leafF l a=true↔isIn l a/\∀x∈l,x.1≠a:=by
 unfold leafF;rw [Bool.and_eq_true,decide_eq_true_eq,Bool.not_eq_true',List.any_eq_false];refine and_congr_right fun _=>forall_congr' fun x=>forall_congr' fun _=> ?_;unfold upLf;rw [decide_eq_true_eq]
theorem leaf_app {l:List AcD} {x:AcD} {a:Int} (h:leafF l a=true) (hx:x.1≠a):leafF (l++[x]) a=true:=by
 rw [leaf_iff] at*;refine ⟨⟨h.1.1,by have:=h.1.2;rw [List.length_append];omega⟩,fun y hy=> ?_⟩;rcases List.mem_append.1 hy with hy|hy
 ·exact h.2 y hy
 ·rw [List.mem_singleton.1 hy];exact hx
theorem leaf_set {l:List AcD} {y:AcD} {i:Nat} {a:Int} (h:leafF l a=true) (hy:y.1≠a):leafF (l.set i y) a=true:=by
 rw [leaf_iff] at*;refine ⟨⟨h.1.1,by have:=h.1.2;rw [List.length_set];exact this⟩,fun z hz=> ?_⟩;rcases List.mem_or_eq_of_mem_set hz with hz|hz
 ·exact h.2 z hz
 ·rw [hz];exact hy
end Go.Proofs.YtabicbgeoiilmaaGreat.Acc
end
section
namespace Go.Proofs.YtabicbgeoiilmaaGreat.Rts
open Go.Vm
theorem bad_iff: ∀(l:List Rt) (i:Int),(badL l i).2=0↔∀x∈l,mayR x=0
 |[],i=>by simp [badL]
 |x::r,i=>by
  rw [badL,List.forall_mem_cons,<-bad_iff r (i+1)];split
  ·rename_i h;simp [h]
  ·rename_i h;simp [h]
theorem check_iff {l:List Rt}:(checkF l).2=0↔l.length<=2000/\∀x∈l,mayR x=0:=by
 unfold checkF;split
 ·exact ⟨fun h=>(by cases h),fun h=>by omega⟩
 ·rw [bad_iff];exact ⟨fun h=>⟨by omega,h⟩,fun h=>h.2⟩
theorem set_ok {l:List Rt} {x:Rt} (h:(checkF l).2=0) (hx:(setF l x).2=0):(checkF (setF l x).1).2=0/\l.length<=(setF l x).1.length/\(setF l x).1.length<=l.length+1:=by
 obtain ⟨h1,h2⟩:=check_iff.1 h;by_cases c1:mayR x=0
 ·by_cases c2:0<=lastF l x
  ·rw [set_there c1 c2];refine ⟨check_iff.2 ⟨by rw [List.length_set];exact h1,fun y hy=> ?_⟩,by simp,by simp⟩;rcases List.mem_or_eq_of_mem_set hy with hy|hy
   ·exact h2 y hy
   ·rw [hy];exact c1
  ·by_cases c3:2000<=(l.length:Int)
   ·rw [set_full c1 c2 c3] at hx;cases hx
   ·rw [set_new c1 c2 c3];refine ⟨check_iff.2 ⟨by rw [List.length_append,List.length_singleton];omega,fun y hy=> ?_⟩,by simp,by simp⟩;rcases List.mem_append.1 hy with hy|hy
    ·exact h2 y hy
    ·rw [List.mem_singleton.1 hy];exact c1
 ·rw [set_bad c1] at hx;exact absurd hx c1
end Go.Proofs.YtabicbgeoiilmaaGreat.Rts
namespace Go.Proofs.YtabicbgeoiilmaaGreat.Cur
open Go.Vm
open Rts (moneyB)
theorem check_iff {l:List Int}:(checkF l).2=0↔l.length<=40/\∀c∈l,moneyB c=true:=by
 unfold checkF;have hb:0<=idxF bad l↔l.any bad=true:=idxGo_any bad l 0 (Int.le_refl _);split
 ·exact ⟨fun h=>(by cases h),fun h=>by omega⟩
 ·split
  ·rename_i h;refine ⟨fun h=>(by cases h),fun k=> ?_⟩;obtain ⟨c,c1,c2⟩:=List.any_eq_true.1 (hb.1 h);unfold bad at c2;rw [k.2 c c1] at c2;cases c2
  ·rename_i h;refine ⟨fun _=>⟨by omega,fun c hc=> ?_⟩,fun _=>rfl⟩;have h3:=List.any_eq_false.1 (Bool.eq_false_iff.2 fun k=>h (hb.2 k)) c hc;unfold bad at h3;simpa using h3
theorem add_ok {l:List Int} {c:Int} (h:(checkF l).2=0) (hc:(addF l c).2=0):(addF l c).1=l++[c]/\(checkF (l++[c])).2=0:=by
 obtain ⟨h1,h2⟩:=check_iff.1 h;unfold addF at hc⊢;split at hc
 ·cases hc
 ·split at hc
  ·cases hc
  ·rename_i g1 g2;rw [if_neg g1,if_neg g2];refine ⟨rfl,check_iff.2 ⟨by rw [List.length_append,List.length_singleton];omega,fun y hy=> ?_⟩⟩;rcases List.mem_append.1 hy with hy|hy
   ·exact h2 y hy
   ·rw [List.mem_singleton.1 hy];simpa using g1
end Go.Proofs.YtabicbgeoiilmaaGreat.Cur
namespace Go.Proofs.YtabicbgeoiilmaaGreat.Lck
open Go.Vm
theorem may_mono {l:List Lk} {a b n m:Int} (h:mayF l a b n=0) (hm:n<=m):mayF l a b m=0:=by
 unfold mayF at*;split at h
 ·cases h
 ·rename_i c1;split at h
  ·cases h
  ·rename_i c2;split at h
   ·cases h
   ·rename_i c3;rw [if_neg (by omega),if_neg c2,if_neg c3]
theorem k_iff {n:Int} {l:List Lk}: ∀(f:Nat) (i:Nat),l.length<=i+f->((kGo n l f i).2=0↔∀(j:Nat) x,i<=j->l[j]? =some x->mayF (l.take j) x.1 x.2 n=0)
 |0,i,hf=>by
  rw [kGo];refine ⟨fun _ j x hj hx=> ?_,fun _=>rfl⟩;have:=(List.getElem?_eq_some_iff.1 hx).1;omega
 |f+1,i,hf=>by
  rw [kGo,Int.toNat_natCast];split
  ·rename_i e;refine ⟨fun _ j x hj hx=> ?_,fun _=>rfl⟩;have h1:=(List.getElem?_eq_some_iff.1 hx).1;have h2:=List.getElem?_eq_none_iff.1 e;omega
  ·rename_i x e;split
   ·rename_i c;rw [show (i:Int)+1=((i+1:Nat):Int) by omega,k_iff f (i+1) (by omega)];refine ⟨fun h j y hj hy=> ?_,fun h j y hj hy=>h j y (by omega) hy⟩;by_cases k:j=i
    ·subst k;rw [e] at hy;cases hy;exact c
    ·exact h j y (by omega) hy
   ·rename_i c;exact ⟨fun h=>absurd h c,fun h=>absurd (h i x (Nat.le_refl _) e) c⟩
theorem check_iff {l:List Lk} {n:Int}:(checkF l n).2=0↔l.length<=400/\∀(j:Nat) x,l[j]? =some x->mayF (l.take j) x.1 x.2 n=0:=by
 unfold checkF;split
 ·exact ⟨fun h=>(by cases h),fun h=>by omega⟩
 ·have:=k_iff (n:=n) (l:=l) l.length 0 (by omega);rw [show kGo n l l.length 0=kGo n l l.length ((0:Nat):Int) from rfl,this];exact ⟨fun h=>⟨by omega,fun j x hx=>h j x (Nat.zero_le _) hx⟩,fun h j x _ hx=>h.2 j x hx⟩
theorem check_mono {l:List Lk} {n m:Int} (h:(checkF l n).2=0) (hm:n<=m):(checkF l m).2=0:=by
 rw [check_iff] at*;exact ⟨h.1,fun j x hx=>may_mono (h.2 j x hx) hm⟩
theorem add_ok {l:List Lk} {a b n:Int} (h:(checkF l n).2=0) (hx:(addF l a b n).2=0):(addF l a b n).1=l++[(a,b)]/\(checkF (l++[(a,b)]) n).2=0:=by
 obtain ⟨h1,h2⟩:=check_iff.1 h;unfold addF at hx⊢;split at hx
 ·cases hx
 ·split at hx
  ·rename_i g1 g2;rw [if_neg g1,if_pos g2];refine ⟨rfl,check_iff.2 ⟨by rw [List.length_append,List.length_singleton];omega,fun j x hj=> ?_⟩⟩;by_cases c:j<l.length
   ·rw [List.getElem?_append_left c] at hj;rw [List.take_append_of_le_length (Nat.le_of_lt c)];exact h2 j x hj
   ·have h3:=(List.getElem?_eq_some_iff.1 hj).1;rw [List.length_append,List.length_singleton] at h3;have e:j=l.length:=by omega
    subst e;rw [List.getElem?_concat_length] at hj;cases hj;rw [List.take_append_of_le_length (Nat.le_refl _),List.take_length];exact g2
  ·rename_i g1 g2;exact absurd hx g2
end Go.Proofs.YtabicbgeoiilmaaGreat.Lck
namespace Go.Proofs.YtabicbgeoiilmaaGreat.Stk
open Go.Vm
theorem last_mono {l:List Stk} {n m:Int} (h:lastF l n=0) (hm:n<=m):lastF l m=0:=by
 unfold lastF at*;split at h
 ·cases h
 ·rename_i c1;rw [if_neg (by omega)];exact h
theorem check_iff {l:List Stk} {n:Int}:(checkF l n).2=0↔l.length<=400/\∀i:Nat,i<l.length->lastF (l.take (i+1)) n=0:=by
 unfold checkF;split
 ·exact ⟨fun h=>(by cases h),fun h=>by omega⟩
 ·split
  ·rename_i i hi;have h1:=List.find?_some hi;have h2:=List.mem_range.1 (List.mem_of_find?_eq_some hi);have h1:lastF (l.take (i+1)) n≠0:=by unfold badAt at h1;simpa using h1
   exact ⟨fun h=>absurd h h1,fun h=>absurd (h.2 i h2) h1⟩
  ·rename_i hi;refine ⟨fun _=>⟨by omega,fun i h=> ?_⟩,fun _=>rfl⟩;have:=List.find?_eq_none.1 hi i (List.mem_range.2 h);unfold badAt at this;simpa using this
theorem check_mono {l:List Stk} {n m:Int} (h:(checkF l n).2=0) (hm:n<=m):(checkF l m).2=0:=by
 rw [check_iff] at*;exact ⟨h.1,fun i hi=>last_mono (h.2 i hi) hm⟩
theorem add_ok {l:List Stk} {s:Stk} {n:Int} (h:(checkF l n).2=0) (hx:(addF l s n).2=0):(addF l s n).1=l++[s]/\(checkF (l++[s]) n).2=0:=by
 obtain ⟨h1,h2⟩:=check_iff.1 h;unfold addF at hx⊢;split at hx
 ·cases hx
 ·split at hx
  ·rename_i g1 g2;rw [if_neg g1,if_pos g2];refine ⟨rfl,check_iff.2 ⟨by rw [List.length_append,List.length_singleton];omega,fun i hi=> ?_⟩⟩;rw [List.length_append,List.length_singleton] at hi;by_cases c:i<l.length
   ·rw [List.take_append_of_le_length (by omega)];exact h2 i c
   ·rw [List.take_of_length_le (by rw [List.length_append,List.length_singleton];omega)];exact g2
  ·rename_i g1 g2;exact absurd hx g2
end Go.Proofs.YtabicbgeoiilmaaGreat.Stk
namespace Go.Proofs.YtabicbgeoiilmaaGreat.Ent
open Go.Vm
theorem bad_none {n k:Int}: ∀(L:List Ln) (i:Int),badF L n k i=none↔∀x∈L,lineF x n k=0
 |[],i=>by simp [badF]
 |x::r,i=>by
  rw [badF,List.forall_mem_cons,<-bad_none r (i+1)];split
  ·rename_i h;simp [h]
  ·rename_i h;simp only [Decidable.not_not] at h;simp [h]
theorem bad_some {n k:Int}: ∀(L:List Ln) (i:Int) (q:Int×Int),badF L n k i=some q->q.2≠0
 |[],i,q,h=>by cases h
 |x::r,i,q,h=>by
  rw [badF] at h;split at h
  ·rename_i c;cases h;exact c
  ·exact bad_some r (i+1) q h
theorem check_iff {p n k:Int} {L:List Ln}:(checkF p L n k).2=0↔(0<=p/\p<=23)/\(2<=L.length/\L.length<=50)/\(∀x∈L,lineF x n k=0)/\unbal L=false:=by
 unfold checkF;split
 ·exact ⟨fun h=>(by cases h),fun h=>by omega⟩
 ·split
  ·exact ⟨fun h=>(by cases h),fun h=>by omega⟩
  ·split
   ·rename_i r hr;refine ⟨fun h=>absurd h (bad_some _ _ _ hr),fun h=> ?_⟩;rw [(bad_none L 0).2 h.2.2.1] at hr;cases hr
   ·rename_i hr;split
    ·rename_i hu;refine ⟨fun h=>(by cases h),fun h=> ?_⟩;rw [h.2.2.2] at hu;cases hu
    ·rename_i hu;exact ⟨fun _=>⟨by omega,by omega,(bad_none L 0).1 hr,Bool.eq_false_iff.2 hu⟩,fun _=>rfl⟩
theorem line_mono {x:Ln} {n k n' k':Int} (h:lineF x n k=0) (hn:n<=n') (hk:k<=k'):lineF x n' k'=0:=by
 unfold lineF at*;split at h
 ·cases h
 ·split at h
  ·cases h
  ·split at h
   ·cases h
   ·rename_i c1 c2 c3;rw [if_neg (by omega),if_neg (by omega),if_neg (by omega)];exact h
theorem line_neg {x:Ln} {n k:Int} (h:lineF x n k=0):lineF (negLn x) n k=0:=by
 unfold lineF at*;split at h
 ·cases h
 ·split at h
  ·cases h
  ·split at h
   ·cases h
   ·split at h
    ·cases h
    ·rename_i c1 c2 c3 c4;unfold negLn;rw [if_neg c1,if_neg c2,if_neg c3,if_neg (by simp only;omega)]
theorem whole_neg (e:Int): ∀L:List Ln,wholeF (L.map negLn) e= -wholeF L e:=by
 have hs: ∀(l:List Int) (a:Int),l.foldl (· + ·) a=a+l.foldl (· + ·) 0:=by
  intro l;induction l with
  |nil=>intro a;simp
  |cons x r ih=>intro a;simp only [List.foldl_cons];rw [ih (a+x),ih (0+x)];omega
 intro L;induction L with
 |nil=>rfl
 |cons x r ih=>
  unfold wholeF amtsL at*;rw [List.map_cons,List.filter_cons,List.filter_cons];by_cases c:x.1=e
  ·rw [if_pos (show decide ((negLn x).1=e)=true from decide_eq_true c),if_pos (show decide (x.1=e)=true from decide_eq_true c),List.map_cons,List.map_cons,List.foldl_cons,List.foldl_cons,hs _ (0+_),hs _ (0+x.2.2.2),ih];show 0+ -x.2.2.2+_=_;omega
  ·rw [if_neg (show¬decide ((negLn x).1=e)=true from fun h=>c (of_decide_eq_true h)),if_neg (show¬decide (x.1=e)=true from fun h=>c (of_decide_eq_true h))];exact ih
theorem unbal_iff {L:List Ln}:unbal L=false↔∀x∈L,wholeF L x.1=0:=by
 unfold unbal;rw [List.any_eq_false];refine ⟨fun h x hx=> ?_,fun h e he=> ?_⟩
 ·have:=h x.1 (mem_entsF.2 ⟨x,hx,rfl⟩);simpa using this
 ·obtain ⟨x,hx,rfl⟩:=mem_entsF.1 he;simpa using h x hx
theorem unbal_neg {L:List Ln} (h:unbal L=false):unbal (L.map negLn)=false:=by
 rw [unbal_iff] at*;intro x hx;obtain ⟨y,hy,rfl⟩:=List.mem_map.1 hx;rw [whole_neg];have:=h y hy;show -wholeF L y.1=0;omega
end Go.Proofs.YtabicbgeoiilmaaGreat.Ent
namespace Go.Proofs.YtabicbgeoiilmaaGreat.Bks
open Go.Vm
def Eok (n:Int) (A:List Acc.AcD) (P:List En) (x:En):Prop:=(0<=x.1/\x.1<=23)/\(2<=x.2.2.length/\x.2.2.length<=50)/\(∀z∈x.2.2,Ent.lineF z n A.length=0/\3<z.2.1/\Acc.leafF A z.2.1=true)/\Ent.unbal x.2.2=false/\turnedF P x.2.1 x.2.2=0
theorem placed_iff {A:List Acc.AcD} {L:List Ln}:placedF (Acc.thoseF (Acc.leafF A) A.length) L=0↔∀z∈L,3<z.2.1/\Acc.leafF A z.2.1=true:=by
 unfold placedF;split
 ·rename_i h;obtain ⟨z,z1,z2⟩:=List.any_eq_true.1 h;refine ⟨fun h=>(by cases h),fun k=> ?_⟩;have:=(k z z1).1;unfold ownP at z2;rw [decide_eq_true_eq] at z2;omega
 ·rename_i h;have h:=List.any_eq_false.1 (Bool.eq_false_iff.2 h);split
  ·rename_i g;obtain ⟨z,z1,z2⟩:=List.any_eq_true.1 g;refine ⟨fun h=>(by cases h),fun k=> ?_⟩;rw [inn_leaf,(k z z1).2] at z2;cases z2
  ·rename_i g;have g:=List.any_eq_false.1 (Bool.eq_false_iff.2 g);refine ⟨fun _ z hz=>⟨?_, ?_⟩,fun _=>rfl⟩
   ·have:=h z hz;unfold ownP at this;rw [decide_eq_true_eq] at this;omega
   ·have:=g z hz;rw [inn_leaf] at this;simpa using this
theorem entry_iff {n:Int} {A:List Acc.AcD} {P:List En} {x:En}:entryF n A.length (Acc.thoseF (Acc.leafF A) A.length) P x=0↔Eok n A P x:=by
 unfold Eok;refine ⟨fun h=> ?_,fun h=> ?_⟩
 ·obtain ⟨h1,h2,h3⟩:=ent_parts h;rw [Ent.check_iff] at h1;rw [placed_iff] at h2;exact ⟨h1.1,h1.2.1,fun z hz=>⟨h1.2.2.1 z hz,h2 z hz⟩,h1.2.2.2,h3⟩
 ·obtain ⟨h1,h2,h3,h4,h5⟩:=h;rw [entry_3 (Ent.check_iff.2 ⟨h1,h2,fun z hz=>(h3 z hz).1,h4⟩) (placed_iff.2 fun z hz=>(h3 z hz).2)];exact h5
theorem go_none {n k:Int} {ls:List Int} {N:List En} (h: ∀(j:Nat) x,N[j]? =some x->entryF n k ls (N.take j) x=0): ∀(f:Nat) (i:Int),entGo n k ls N f i=none
 |0,_=>rfl
 |f+1,i=>by
  rw [entGo];split
  ·rfl
  ·rename_i x hx;rw [if_pos (h _ x hx)];exact go_none h f (i+1)
theorem all_iff {n:Int} {A:List Acc.AcD} {N:List En}:(allF N n A.length (Acc.thoseF (Acc.leafF A) A.length)).2=0↔N.length<=2000/\∀(j:Nat) x,N[j]? =some x->Eok n A (N.take j) x:=by
 refine ⟨fun h=>⟨?_,fun j x hx=>entry_iff.1 (ent_ok h j x hx)⟩,fun h=> ?_⟩
 ·unfold allF at h;split at h
  ·cases h
  ·omega
 ·unfold allF;rw [if_neg (by omega),go_none fun j x hx=>entry_iff.2 (h.2 j x hx)];rfl
theorem check_iff {E:List Int} {A:List Acc.AcD} {S:List Ln} {R:List Rts.Rt} {K:List Lck.Lk} {N:List En}:(checkF E A S R K N).2.2=0↔(Cur.checkF E).2=0/\(Acc.checkF A).2=0/\(Stk.checkF S E.length).2=0/\(Rts.checkF R).2=0/\(Lck.checkF K E.length).2=0/\N.length<=2000/\∀(j:Nat) x,N[j]? =some x->Eok E.length A (N.take j) x:=by
 refine ⟨fun h=> ?_,fun h=> ?_⟩
 ·obtain ⟨h1,h2,h3,h4,h5,h6⟩:=ok_parts h;exact ⟨h1,h2,h3,h4,h5,all_iff.1 h6⟩
 ·obtain ⟨h1,h2,h3,h4,h5,h6⟩:=h;unfold checkF;rw [step_0 h1,step_0 h2,step_0 h3,step_0 h4,step_0 h5,step_0 (all_iff.2 h6)]
theorem eok_mono {n m:Int} {A B:List Acc.AcD} {P:List En} {x:En} (h:Eok n A P x) (hn:n<=m) (hA:A.length<=B.length) (hl: ∀z∈x.2.2,Acc.leafF A z.2.1=true->Acc.leafF B z.2.1=true):Eok m B P x:=
 ⟨h.1,h.2.1,fun z hz=>⟨Ent.line_mono (h.2.2.1 z hz).1 hn (by omega),(h.2.2.1 z hz).2.1,hl z hz (h.2.2.1 z hz).2.2⟩,h.2.2.2⟩
theorem ln_mem {p i:Int} {z:Ln}: ∀(L:List Ln) (k:Nat),z∈L->∃q∈lnGo p i L k,q.2.2.2=z
 |[],_,h=>by cases h
 |x::r,k,h=>by
  rw [lnGo];rcases List.mem_cons.1 h with rfl|h
  ·exact ⟨_,List.mem_cons_self,rfl⟩
  ·obtain ⟨q,h1,h2⟩:=ln_mem r (k+1) h;exact ⟨q,List.mem_cons_of_mem _ h1,h2⟩
theorem po_mem {z:Ln} {x:En} (hz:z∈x.2.2): ∀(N:List En) (i:Int) (k:Nat),x∈N->∃q∈poGo N i k,q.2.2.2=z
 |[],_,_,h=>by cases h
 |y::r,i,k,h=>by
  rw [poGo];rcases List.mem_cons.1 h with rfl|h
  ·obtain ⟨q,h1,h2⟩:=ln_mem _ k hz;exact ⟨q,List.mem_append_left _ h1,h2⟩
  ·obtain ⟨q,h1,h2⟩:=po_mem hz r (i+1) (k+y.2.2.length) h;exact ⟨q,List.mem_append_right _ h1,h2⟩
theorem used_mem {N:List En} {x:En} {z:Ln} (hx:x∈N) (hz:z∈x.2.2):usedF N z.2.1=true:=by
 obtain ⟨q,h1,h2⟩:=po_mem hz N 0 0 hx;exact List.any_eq_true.2 ⟨q,h1,by unfold accP;rw [h2];simp⟩
end Go.Proofs.YtabicbgeoiilmaaGreat.Bks
namespace Go.Proofs.YtabicbgeoiilmaaGreat.Dsk
open Go.Vm
open Bks (En InE Ln ownP Eok)
theorem gr_zero {A L:List Acc.AcD} {N:List En} {a e:Int} (h:(grF A L N a e).2=0):e=0/\(grF A L N a e).1=L/\(a=0∨Bks.usedF N a=false):=by
 unfold grF at*;split at h
 ·rename_i c;exact absurd h c
 ·rename_i c;have c:e=0:=Decidable.not_not.1 c;split at h
  ·cases h
  ·rename_i d;rw [if_neg (fun k=>k c),if_neg d];refine ⟨c,rfl, ?_⟩;by_cases k:a=0
   ·exact .inl k
   ·exact .inr (Bool.eq_false_iff.2 fun u=>d ⟨k,u⟩)
theorem ents_acc {n:Int} {A B:List Acc.AcD} {N:List En} {a:Int} (ha:a=0∨Bks.usedF N a=false) (hA:A.length<=B.length) (hB: ∀b,Acc.leafF A b=true->a≠b->Acc.leafF B b=true) (h: ∀(j:Nat) x,N[j]? =some x->Eok n A (N.take j) x): ∀(j:Nat) x,N[j]? =some x->Eok n B (N.take j) x:=by
 intro j x hx;have h1:=h j x hx;refine Bks.eok_mono h1 (Int.le_refl _) hA fun z hz hl=>hB _ hl fun e=> ?_;rcases ha with ha|ha
 ·have:=(h1.2.2.1 z hz).2.1;omega
 ·rw [e,Bks.used_mem (List.mem_of_getElem? hx) hz] at ha;cases ha
theorem ents_put {n:Int} {A:List Acc.AcD} {N:List En} {y:En} (hy:Eok n A N y) (h: ∀(j:Nat) x,N[j]? =some x->Eok n A (N.take j) x): ∀(j:Nat) x,(N++[y])[j]? =some x->Eok n A ((N++[y]).take j) x:=by
 intro j x hj;by_cases c:j<N.length
 ·rw [List.getElem?_append_left c] at hj;rw [List.take_append_of_le_length (Nat.le_of_lt c)];exact h j x hj
 ·have h3:=(List.getElem?_eq_some_iff.1 hj).1;rw [List.length_append,List.length_singleton] at h3;have e:j=N.length:=by omega
  subst e;rw [List.getElem?_concat_length] at hj;cases hj;rw [List.take_append_of_le_length (Nat.le_refl _),List.take_length];exact hy
theorem put_in {K:List Lck.Lk} {N:List En} {x:En} (h:(putF K N x).2=0):(putF K N x).1=N++[x]/\N.length<2000:=by
 unfold putF at*;split at h
 ·cases h
 ·split at h
  ·cases h
  ·rename_i c1 c2;rw [if_neg c1,if_neg c2];exact ⟨rfl,by omega⟩
def Grown (B C:Bk):Prop:=(C.1=B.1∨∃c,C.1=B.1++[c])/\(C.2.2.2.2.1=B.2.2.2.2.1∨∃c,C.2.2.2.2.1=B.2.2.2.2.1++[c])/\(C.2.2.2.2.2=B.2.2.2.2.2∨∃c,C.2.2.2.2.2=B.2.2.2.2.2++[c])/\B.2.1.length<=C.2.1.length/\B.2.2.1.length<=C.2.2.1.length/\B.2.2.2.1.length<=C.2.2.2.1.length/\C.1.length+C.2.1.length+C.2.2.1.length+C.2.2.2.1.length+C.2.2.2.2.1.length+C.2.2.2.2.2.length<=B.1.length+B.2.1.length+B.2.2.1.length+B.2.2.2.1.length+B.2.2.2.2.1.length+B.2.2.2.2.2.length+1
def chk (B:Bk):Prop:=(Bks.checkF B.1 B.2.1 B.2.2.1 B.2.2.2.1 B.2.2.2.2.1 B.2.2.2.2.2).2.2=0
theorem ap_stays {B:Bk} {c:Cmd.CmD} (hb:chk B) (h:(apF B c).2=0):chk (apF B c).1/\Grown B (apF B c).1:=by
 obtain ⟨E,A,S,R,K,N⟩:=B;obtain ⟨k,a,b,c,d,s,q,⟨m1,m2⟩,l⟩:=c;unfold chk at hb⊢;rw [Bks.check_iff] at hb;dsimp only at hb;obtain ⟨h1,h2,h3,h4,h5,h6,h7⟩:=hb;by_cases hc:Cmd.checkF (k,a,b,c,d,s,q,(m1,m2),l)=0
 ·rw [ap_eq hc] at h⊢;unfold doF at h⊢;dsimp only at h⊢;by_cases k1:k=1
  ·rw [if_pos k1] at h⊢;rw [fin_inv h];obtain ⟨e1,e2⟩:=Cur.add_ok h1 (fin_zero h);dsimp only;rw [e1];have hl:(E.length:Int)<=((E++[a]).length:Int):=by rw [List.length_append];omega
   refine ⟨Bks.check_iff.2 ⟨e2,h2,Stk.check_mono h3 hl,h4,Lck.check_mono h5 hl,h6,fun j x hx=>Bks.eok_mono (h7 j x hx) hl (Nat.le_refl _) fun z _ h=>h⟩, .inr ⟨a,rfl⟩, .inl rfl, .inl rfl,Nat.le_refl _,Nat.le_refl _,Nat.le_refl _, ?_⟩;simp only [List.length_append,List.length_singleton];omega
  rw [if_neg k1] at h⊢;by_cases k1:k=2
  ·rw [if_pos k1] at h⊢;rw [fin_inv h];obtain ⟨g1,g2,g3⟩:=gr_zero (fin_zero h);obtain ⟨e1,e2⟩:=Acc.add_ok h2 g1;dsimp only;rw [g2,e1];refine ⟨Bks.check_iff.2 ⟨h1,e2,h3,h4,h5,h6,ents_acc g3 (by rw [List.length_append];omega) (fun b hb hn=>Acc.leaf_app hb hn) h7⟩, .inl rfl, .inl rfl, .inl rfl, ?_,Nat.le_refl _,Nat.le_refl _, ?_⟩
   ·simp
   ·simp only [List.length_append,List.length_singleton];omega
  rw [if_neg k1] at h⊢;by_cases k1:k=3
  ·rw [if_pos k1] at h⊢;rw [fin_inv h];obtain ⟨g1,g2,g3⟩:=gr_zero (fin_zero h);obtain ⟨y,y1,e1,e2⟩:=Acc.move_ok h2 g1;dsimp only;rw [g2,e1];refine ⟨Bks.check_iff.2 ⟨h1,e2,h3,h4,h5,h6,ents_acc g3 (by rw [List.length_set];exact Nat.le_refl _) (fun z hz hn=>Acc.leaf_set hz (by rw [y1];exact hn)) h7⟩, .inl rfl, .inl rfl, .inl rfl, ?_,Nat.le_refl _,Nat.le_refl _, ?_⟩
   ·simp
   ·simp only [List.length_set];omega
  rw [if_neg k1] at h⊢;by_cases k1:k=4
  ·rw [if_pos k1] at h⊢;rw [fin_inv h];obtain ⟨e1,e2⟩:=Stk.add_ok h3 (fin_zero h);dsimp only;rw [e1];refine ⟨Bks.check_iff.2 ⟨h1,h2,e2,h4,h5,h6,h7⟩, .inl rfl, .inl rfl, .inl rfl,Nat.le_refl _, ?_,Nat.le_refl _, ?_⟩
   ·simp
   ·simp only [List.length_append,List.length_singleton];omega
  rw [if_neg k1] at h⊢;by_cases k1:k=5
  ·rw [if_pos k1] at h⊢;rw [fin_inv h];obtain ⟨e1,e2,e3⟩:=Rts.set_ok h4 (fin_zero h);dsimp only;exact ⟨Bks.check_iff.2 ⟨h1,h2,h3,e1,h5,h6,h7⟩, .inl rfl, .inl rfl, .inl rfl,Nat.le_refl _,Nat.le_refl _,e2,by dsimp only;omega⟩
  rw [if_neg k1] at h⊢;by_cases k1:k=6
  ·rw [if_pos k1] at h⊢;rw [fin_inv h];obtain ⟨e1,e2⟩:=Lck.add_ok h5 (fin_zero h);dsimp only;rw [e1];refine ⟨Bks.check_iff.2 ⟨h1,h2,h3,h4,e2,h6,h7⟩, .inl rfl, .inr ⟨_,rfl⟩, .inl rfl,Nat.le_refl _,Nat.le_refl _,Nat.le_refl _, ?_⟩;simp only [List.length_append,List.length_singleton];omega
  rw [if_neg k1] at h⊢;have fin2: ∀x,Eok E.length A N x->(putF K N x).2=0->(Bks.checkF E A S R K (putF K N x).1).2.2=0/\Grown (E,A,S,R,K,N) (E,A,S,R,K,(putF K N x).1):=fun x hx hp=>by
   obtain ⟨e1,e2⟩:=put_in hp;rw [e1];refine ⟨Bks.check_iff.2 ⟨h1,h2,h3,h4,h5,by rw [List.length_append,List.length_singleton];omega,ents_put hx h7⟩, .inl rfl, .inl rfl, .inr ⟨_,rfl⟩,Nat.le_refl _,Nat.le_refl _,Nat.le_refl _, ?_⟩;simp only [List.length_append,List.length_singleton];omega
  by_cases k1:k=7
  ·rw [if_pos k1] at h⊢;rw [fin_inv h];have h:=fin_zero h;dsimp only;by_cases k2:(Ent.checkF a l E.length A.length).2=0
   ·cases o:l.any ownP with
    |true=>rw [po_own k2 o] at h;cases h
    |false=>
     cases f:l.any (nleaf A) with
     |true=>rw [po_leaf k2 o f] at h;cases h
     |false=>
      rw [po_put k2 o f] at h⊢;rw [Ent.check_iff] at k2;refine fin2 _ ⟨k2.1,k2.2.1,fun z hz=>⟨k2.2.2.1 z hz, ?_, ?_⟩,k2.2.2.2,rfl⟩ h
      ·have:=List.any_eq_false.1 o z hz;unfold ownP at this;rw [decide_eq_true_eq] at this;omega
      ·have:=List.any_eq_false.1 f z hz;unfold nleaf at this;simpa using this
   ·rw [po_bad k2] at h;exact absurd h k2
  ·rw [if_neg k1] at h⊢;rw [fin_inv h];have h:=fin_zero h;dsimp only;by_cases p:b<0∨24<=b
   ·rw [rv_per p] at h;cases h
   by_cases m:mayF N a=0
   ·have hin:=may_in m;obtain ⟨y,hy⟩: ∃y,N[(a-1).toNat]? =some y:=⟨_,List.getElem?_eq_getElem (by omega)⟩
    have hm:=m;by_cases tw:y.2.1≠0∨Bks.revF N a≠0
    ·rw [may_twice (by omega) hy tw] at hm;cases hm
    rw [may_opp (by omega) hy tw] at hm;rw [rv_ok p m hy hm] at h⊢;have hyo:=h7 _ y hy;have e:(Ent.oppF y.1 y.2.1 y.2.2).1.2.2=y.2.2.map Ent.negLn:=by
     unfold Ent.oppF at hm⊢;split
     ·rename_i k2;rw [if_pos k2] at hm;cases hm
     ·rfl
    refine fin2 _ ⟨by simp only;omega, ?_, ?_, ?_, ?_⟩ h
    ·rw [e];simpa using hyo.2.1
    ·rw [e];intro z hz;obtain ⟨u,hu,rfl⟩:=List.mem_map.1 hz;have:=hyo.2.2.1 u hu;exact ⟨Ent.line_neg this.1,this.2⟩
    ·rw [e];exact Ent.unbal_neg hyo.2.2.2.1
    ·dsimp only;rw [Bks.turned_at (by omega) (by omega) hy];unfold Bks.turnY;rw [if_neg tw,if_neg (fun k=>k.elim (fun k=>k hm) (fun k=>k rfl))]
   ·rw [rv_may p m] at h;exact absurd h m
 ·rw [ap_bad hc] at h;exact absurd h hc
end Go.Proofs.YtabicbgeoiilmaaGreat.Dsk
end
section
namespace Go.Proofs.YtabicbgeoiilmaaGreat.Dsk
open Go.Vm
open Bks (En InE Sm ine_at ownP Ok fewF sameB)
def BkI (B:Bk) (c:Cmd.CmD) (x:Bk):Prop:=x=(apF B c).1
theorem ap_bk0 {B:Bk} {c:Cmd.CmD} (h: ¬(apF B c).2=0):(apF B c).1=bk0:=by
 have hf: ∀(e:Int) (C:Bk),¬(fin e C).2=0->(fin e C).1=bk0:=fun e C h=>by
  by_cases k:e=0
  ·rw [fin_ok k] at h;exact absurd rfl h
  ·rw [fin_bad k]
 by_cases hc:Cmd.checkF c=0
 ·obtain ⟨E,A,S,R,K,N⟩:=B;obtain ⟨k,a,b,c,d,s,q,⟨m1,m2⟩,l⟩:=c;rw [ap_eq hc] at h⊢;unfold doF at h⊢;dsimp only at h⊢;repeat' split at h
  all_goals simp only [*,if_true,if_false]
  all_goals exact hf _ _ h
 ·rw [ap_bad hc]
theorem sm_nil:Sm [] [] [] [] [] []:=⟨Nat.zero_le _,Nat.zero_le _,Nat.zero_le _,Nat.zero_le _,Nat.zero_le _,Nat.zero_le _,fun _ h=>by cases h⟩
theorem same_nil:sameB [] [] [] [] [] [] [] [] [] [] [] []=true:=by
 unfold sameB;simp
noncomputable def env_stays (E:List Int) (A:List Acc.AcD) (S:List Ln) (R:List Rts.Rt) (K:List Lck.Lk) (N:List En) (k a b c d:Int) (s q:Bool) (n m:Int) (l:List Ln):Env where
 P:=Tryz.prog
 ty:=tys1
 specs:=specsOf [Bks.sp_few,sp_awake,Bks.sp_check,sp_apply,Bks.sp_rsame,Ent.sp_same,Ent.sp_sameInts]
 heads:=fun|15=>some {slots:=[(13, .int .i64)],boxes:=[(8,[.list .part I, .list .part AcT, .list .part LnT, .list .part RTy, .list .part Vl, .list .part EnT])],keep:=[2],drop:=[3,5,6,7,9,10,11,12,15,16,17,18,19,20,21,22,23,24,25,26,27,28,29,30,31,32,33,34,35,36,37,38,39,40,41,42,43,44,45,46,47,48,49,50,51,52,53,54,55,56,57,58,59,60,61,62,63,64,65,66,67,68,69,70,71,72,73,74,75,76,77,78,79,80,81,82,83,84,85,86,87,88,89,90,91,92,93,94,95,96,97,98,99,100,101,102,103,104,105,106,107,108,109,110,111,112,113,114,115,116,117,118,119,120,121,122,123,124,125,126,127,128,129,130,131,132,133,134,135,136,137,138,139,140,141,142,143,144,145,146,147,148,149,150,151,152,153,154,155,156,157,158,159,160,161,162,163,164,165,166,167,168,169,170,171,172,173,174,175,176,177,178,179,180,181,182,183,184,185,186,187,188,189,190,191,192,193,194,195,196,197,198,199,200,201,202,203,204,205,206,207,208],inv:=fun _ (x:Int×List Int×List Acc.AcD×List Ln×List Rts.Rt×List Lck.Lk×List En×Unit)=>0<=x.1/\x.1<=N.length/\BkI (E,A,S,R,K,N) (k,a,b,c,d,s,q,(n,m),l) (x.2.1,x.2.2.1,x.2.2.2.1,x.2.2.2.2.1,x.2.2.2.2.2.1,x.2.2.2.2.2.2.1),measure:=fun _ (x:Int×List Int×List Acc.AcD×List Ln×List Rts.Rt×List Lck.Lk×List En×Unit)=>(N.length-x.1).toNat}|20=>some {slots:=[(14, .int .i64)],boxes:=[(8,[.list .part I, .list .part AcT, .list .part LnT, .list .part RTy, .list .part Vl, .list .part EnT])],keep:=[2],drop:=[3,5,6,7,9,10,11,12,13,15,16,17,18,19,20,21,22,23,24,25,26,27,28,29,30,31,32,33,34,35,36,37,38,39,40,41,42,43,44,45,46,47,48,49,50,51,52,53,54,55,56,57,58,59,60,61,62,63,64,65,66,67,68,69,70,71,72,73,74,75,76,77,78,79,80,81,82,83,84,85,86,87,88,89,90,91,92,93,94,95,96,97,98,99,100,101,102,103,104,105,106,107,108,109,110,111,112,113,114,115,116,117,118,119,120,121,122,123,124,125,126,127,128,129,130,131,132,133,134,135,136,137,138,139,140,141,142,143,144,145,146,147,148,149,150,151,152,153,154,155,156,157,158,159,160,161,162,163,164,165,166,167,168,169,170,171,172,173,174,175,176,177,178,179,180,181,182,183,184,185,186,187,188,189,190,191,192,193,194,195,196,197,198,199,200,201,202,203,204,205,206,207,208],inv:=fun _ (x:Int×List Int×List Acc.AcD×List Ln×List Rts.Rt×List Lck.Lk×List En×Unit)=>0<=x.1/\x.1<=K.length/\BkI (E,A,S,R,K,N) (k,a,b,c,d,s,q,(n,m),l) (x.2.1,x.2.2.1,x.2.2.2.1,x.2.2.2.2.1,x.2.2.2.2.2.1,x.2.2.2.2.2.2.1),measure:=fun _ (x:Int×List Int×List Acc.AcD×List Ln×List Rts.Rt×List Lck.Lk×List En×Unit)=>(K.length-x.1).toNat}|_=>none
abbrev bx_stays_1 (E:List Int) (A:List Acc.AcD) (S:List Ln) (R:List Rts.Rt) (K:List Lck.Lk) (N:List En):_root_.Go.Vm.Obj:=Obj.box [V.list LK.part I E,V.list LK.part AcT A,V.list LK.part LnT S,V.list LK.part RTy R,V.list LK.part Vl K,V.list LK.part EnT N]
def g_stays_vc (E:List Int) (A:List Acc.AcD) (S:List Ln) (R:List Rts.Rt) (K:List Lck.Lk) (N:List En) (k:Int) (a:Int) (b:Int) (c:Int) (d:Int) (s:Bool) (q:Bool) (n:Int) (m:Int) (l:List Ln):Prop:=
 N.length<=(9223372036854775807:Nat)/\((!fewF E A S R K N)=false->(decide ((39:Int)<(↑E.length:Int))=true->True/\(true,())=(true,()))/\(decide ((39:Int)<(↑E.length:Int))=false->Sm E A S R K N/\((!decide ((Bks.checkF E A S R K N).2.2=(0:Int)))=true->True/\(true,())=(true,()))/\((!decide ((Bks.checkF E A S R K N).2.2=(0:Int)))=false->(Sm E A S R K N/\Ent.InL l)/\((!decide ((apF (E,A,S,R,K,N) (k,a,b,c,d,s,q,(n,m),l)).2=(0:Int)))=true->(Sm (apF (E,A,S,R,K,N) (k,a,b,c,d,s,q,(n,m),l)).1.1 (apF (E,A,S,R,K,N) (k,a,b,c,d,s,q,(n,m),l)).1.2.1 (apF (E,A,S,R,K,N) (k,a,b,c,d,s,q,(n,m),l)).1.2.2.1 (apF (E,A,S,R,K,N) (k,a,b,c,d,s,q,(n,m),l)).1.2.2.2.1 (apF (E,A,S,R,K,N) (k,a,b,c,d,s,q,(n,m),l)).1.2.2.2.2.1 (apF (E,A,S,R,K,N) (k,a,b,c,d,s,q,(n,m),l)).1.2.2.2.2.2/\Sm [] [] [] [] [] [])/\(sameB (apF (E,A,S,R,K,N) (k,a,b,c,d,s,q,(n,m),l)).1.1 (apF (E,A,S,R,K,N) (k,a,b,c,d,s,q,(n,m),l)).1.2.1 (apF (E,A,S,R,K,N) (k,a,b,c,d,s,q,(n,m),l)).1.2.2.1 (apF (E,A,S,R,K,N) (k,a,b,c,d,s,q,(n,m),l)).1.2.2.2.1 (apF (E,A,S,R,K,N) (k,a,b,c,d,s,q,(n,m),l)).1.2.2.2.2.1 (apF (E,A,S,R,K,N) (k,a,b,c,d,s,q,(n,m),l)).1.2.2.2.2.2 [] [] [] [] [] []=true->True/\(true,())=(true,()))/\(sameB (apF (E,A,S,R,K,N) (k,a,b,c,d,s,q,(n,m),l)).1.1 (apF (E,A,S,R,K,N) (k,a,b,c,d,s,q,(n,m),l)).1.2.1 (apF (E,A,S,R,K,N) (k,a,b,c,d,s,q,(n,m),l)).1.2.2.1 (apF (E,A,S,R,K,N) (k,a,b,c,d,s,q,(n,m),l)).1.2.2.2.1 (apF (E,A,S,R,K,N) (k,a,b,c,d,s,q,(n,m),l)).1.2.2.2.2.1 (apF (E,A,S,R,K,N) (k,a,b,c,d,s,q,(n,m),l)).1.2.2.2.2.2 [] [] [] [] [] []= !true->(false,())=(true,())))/\((!decide ((apF (E,A,S,R,K,N) (k,a,b,c,d,s,q,(n,m),l)).2=(0:Int)))=false->Sm (apF (E,A,S,R,K,N) (k,a,b,c,d,s,q,(n,m),l)).1.1 (apF (E,A,S,R,K,N) (k,a,b,c,d,s,q,(n,m),l)).1.2.1 (apF (E,A,S,R,K,N) (k,a,b,c,d,s,q,(n,m),l)).1.2.2.1 (apF (E,A,S,R,K,N) (k,a,b,c,d,s,q,(n,m),l)).1.2.2.2.1 (apF (E,A,S,R,K,N) (k,a,b,c,d,s,q,(n,m),l)).1.2.2.2.2.1 (apF (E,A,S,R,K,N) (k,a,b,c,d,s,q,(n,m),l)).1.2.2.2.2.2/\((!decide ((Bks.checkF (apF (E,A,S,R,K,N) (k,a,b,c,d,s,q,(n,m),l)).1.1 (apF (E,A,S,R,K,N) (k,a,b,c,d,s,q,(n,m),l)).1.2.1 (apF (E,A,S,R,K,N) (k,a,b,c,d,s,q,(n,m),l)).1.2.2.1 (apF (E,A,S,R,K,N) (k,a,b,c,d,s,q,(n,m),l)).1.2.2.2.1 (apF (E,A,S,R,K,N) (k,a,b,c,d,s,q,(n,m),l)).1.2.2.2.2.1 (apF (E,A,S,R,K,N) (k,a,b,c,d,s,q,(n,m),l)).1.2.2.2.2.2).2.2=(0:Int)))=true->(false,())=(true,()))/\((!decide ((Bks.checkF (apF (E,A,S,R,K,N) (k,a,b,c,d,s,q,(n,m),l)).1.1 (apF (E,A,S,R,K,N) (k,a,b,c,d,s,q,(n,m),l)).1.2.1 (apF (E,A,S,R,K,N) (k,a,b,c,d,s,q,(n,m),l)).1.2.2.1 (apF (E,A,S,R,K,N) (k,a,b,c,d,s,q,(n,m),l)).1.2.2.2.1 (apF (E,A,S,R,K,N) (k,a,b,c,d,s,q,(n,m),l)).1.2.2.2.2.1 (apF (E,A,S,R,K,N) (k,a,b,c,d,s,q,(n,m),l)).1.2.2.2.2.2).2.2=(0:Int)))=false->(decide ((↑(apF (E,A,S,R,K,N) (k,a,b,c,d,s,q,(n,m),l)).1.1.length:Int)<(↑E.length:Int))=false->(decide ((↑(apF (E,A,S,R,K,N) (k,a,b,c,d,s,q,(n,m),l)).1.2.1.length:Int)<(↑A.length:Int))=false->(decide ((↑(apF (E,A,S,R,K,N) (k,a,b,c,d,s,q,(n,m),l)).1.2.2.1.length:Int)<(↑S.length:Int))=false->(decide ((↑(apF (E,A,S,R,K,N) (k,a,b,c,d,s,q,(n,m),l)).1.2.2.2.1.length:Int)<(↑R.length:Int))=false->(decide ((↑(apF (E,A,S,R,K,N) (k,a,b,c,d,s,q,(n,m),l)).1.2.2.2.2.1.length:Int)<(↑K.length:Int))=false->(decide ((↑(apF (E,A,S,R,K,N) (k,a,b,c,d,s,q,(n,m),l)).1.2.2.2.2.2.length:Int)<(↑N.length:Int))=true->(false,())=(true,()))/\(decide ((↑(apF (E,A,S,R,K,N) (k,a,b,c,d,s,q,(n,m),l)).1.2.2.2.2.2.length:Int)<(↑N.length:Int))=false->((some (bx_stays_1 E A S R K N)=some (bx_stays_1 E A S R K N)/\True)/\0<=(0:Int)/\0<=(↑N.length:Int)/\BkI (E,A,S,R,K,N) (k,a,b,c,d,s,q,(n,m),l) (apF (E,A,S,R,K,N) (k,a,b,c,d,s,q,(n,m),l)).1)/\∀(x:Int×List Int×List (Int×Int×Bool×Bool)×List (Int×Int×Int×Int)×List (Int×Int×Int×Int×Int×Int)×List (Int×Int)×List (Int×Int×List (Int×Int×Int×Int))×Unit),0<=x.1/\x.1<=(↑N.length:Int)/\BkI (E,A,S,R,K,N) (k,a,b,c,d,s,q,(n,m),l) (x.2.1,x.2.2.1,x.2.2.2.1,x.2.2.2.2.1,x.2.2.2.2.2.1,x.2.2.2.2.2.2.1)->(decide (x.1<(↑N.length:Int))=true->(0<=x.1/\x.1<(↑x.2.2.2.2.2.2.1.length:Int))/\∀(x_1:Int×Int×List (Int×Int×Int×Int)),x.2.2.2.2.2.2.1[x.1.toNat]? =some x_1->(0<=x.1/\x.1<(↑N.length:Int))/\∀(x_2:Int×Int×List (Int×Int×Int×Int)),N[x.1.toNat]? =some x_2->x_1.2.2.length<=(1000000000:Nat)/\((!Ent.sameE x_1.1 x_1.2.1 x_1.2.2 x_2.1 x_2.2.1 x_2.2.2)=true->(false,())=(true,()))/\((!Ent.sameE x_1.1 x_1.2.1 x_1.2.2 x_2.1 x_2.2.1 x_2.2.2)=false->(-9223372036854775808<=x.1+1/\x.1+1<=9223372036854775807)/\(some (bx_stays_1 E A S R K N)=some (bx_stays_1 E A S R K N)/\True)/\(0<=x.1+1/\x.1+1<=(↑N.length:Int)/\BkI (E,A,S,R,K,N) (k,a,b,c,d,s,q,(n,m),l) (x.2.1,x.2.2.1,x.2.2.2.1,x.2.2.2.2.1,x.2.2.2.2.2.1,x.2.2.2.2.2.2.1))/\((↑N.length:Int)-(x.1+1)).toNat<((↑N.length:Int)-x.1).toNat))/\(decide (x.1<(↑N.length:Int))=false->((some (bx_stays_1 E A S R K N)=some (bx_stays_1 E A S R K N)/\True)/\0<=(0:Int)/\0<=(↑K.length:Int)/\BkI (E,A,S,R,K,N) (k,a,b,c,d,s,q,(n,m),l) (x.2.1,x.2.2.1,x.2.2.2.1,x.2.2.2.2.1,x.2.2.2.2.2.1,x.2.2.2.2.2.2.1))/\∀(x:Int×List Int×List (Int×Int×Bool×Bool)×List (Int×Int×Int×Int)×List (Int×Int×Int×Int×Int×Int)×List (Int×Int)×List (Int×Int×List (Int×Int×Int×Int))×Unit),0<=x.1/\x.1<=(↑K.length:Int)/\BkI (E,A,S,R,K,N) (k,a,b,c,d,s,q,(n,m),l) (x.2.1,x.2.2.1,x.2.2.2.1,x.2.2.2.2.1,x.2.2.2.2.2.1,x.2.2.2.2.2.2.1)->(decide (x.1<(↑K.length:Int))=true->(0<=x.1/\x.1<(↑x.2.2.2.2.2.1.length:Int))/\∀(x_1:Int×Int),x.2.2.2.2.2.1[x.1.toNat]? =some x_1->(0<=x.1/\x.1<(↑K.length:Int))/\∀(x_2:Int×Int),K[x.1.toNat]? =some x_2->((!(decide (x_1.1=x_2.1)&&(decide (x_1.2=x_2.2)&&true)))=true->(false,())=(true,()))/\((!(decide (x_1.1=x_2.1)&&(decide (x_1.2=x_2.2)&&true)))=false->(-9223372036854775808<=x.1+1/\x.1+1<=9223372036854775807)/\(some (bx_stays_1 E A S R K N)=some (bx_stays_1 E A S R K N)/\True)/\(0<=x.1+1/\x.1+1<=(↑K.length:Int)/\BkI (E,A,S,R,K,N) (k,a,b,c,d,s,q,(n,m),l) (x.2.1,x.2.2.1,x.2.2.2.1,x.2.2.2.2.1,x.2.2.2.2.2.1,x.2.2.2.2.2.2.1))/\((↑K.length:Int)-(x.1+1)).toNat<((↑K.length:Int)-x.1).toNat))/\(decide (x.1<(↑K.length:Int))=false->(-9223372036854775808<=(↑x.2.1.length:Int)-(↑E.length:Int)/\(↑x.2.1.length:Int)-(↑E.length:Int)<=9223372036854775807)/\(-9223372036854775808<=(↑x.2.1.length:Int)-(↑E.length:Int)+(↑x.2.2.1.length:Int)/\(↑x.2.1.length:Int)-(↑E.length:Int)+(↑x.2.2.1.length:Int)<=9223372036854775807)/\(-9223372036854775808<=(↑x.2.1.length:Int)-(↑E.length:Int)+(↑x.2.2.1.length:Int)-(↑A.length:Int)/\(↑x.2.1.length:Int)-(↑E.length:Int)+(↑x.2.2.1.length:Int)-(↑A.length:Int)<=9223372036854775807)/\(-9223372036854775808<=(↑x.2.1.length:Int)-(↑E.length:Int)+(↑x.2.2.1.length:Int)-(↑A.length:Int)+(↑x.2.2.2.1.length:Int)/\(↑x.2.1.length:Int)-(↑E.length:Int)+(↑x.2.2.1.length:Int)-(↑A.length:Int)+(↑x.2.2.2.1.length:Int)<=9223372036854775807)/\(-9223372036854775808<=(↑x.2.1.length:Int)-(↑E.length:Int)+(↑x.2.2.1.length:Int)-(↑A.length:Int)+(↑x.2.2.2.1.length:Int)-(↑S.length:Int)/\(↑x.2.1.length:Int)-(↑E.length:Int)+(↑x.2.2.1.length:Int)-(↑A.length:Int)+(↑x.2.2.2.1.length:Int)-(↑S.length:Int)<=9223372036854775807)/\(-9223372036854775808<=(↑x.2.1.length:Int)-(↑E.length:Int)+(↑x.2.2.1.length:Int)-(↑A.length:Int)+(↑x.2.2.2.1.length:Int)-(↑S.length:Int)+(↑x.2.2.2.2.1.length:Int)/\(↑x.2.1.length:Int)-(↑E.length:Int)+(↑x.2.2.1.length:Int)-(↑A.length:Int)+(↑x.2.2.2.1.length:Int)-(↑S.length:Int)+(↑x.2.2.2.2.1.length:Int)<=9223372036854775807)/\(-9223372036854775808<=(↑x.2.1.length:Int)-(↑E.length:Int)+(↑x.2.2.1.length:Int)-(↑A.length:Int)+(↑x.2.2.2.1.length:Int)-(↑S.length:Int)+(↑x.2.2.2.2.1.length:Int)-(↑R.length:Int)/\(↑x.2.1.length:Int)-(↑E.length:Int)+(↑x.2.2.1.length:Int)-(↑A.length:Int)+(↑x.2.2.2.1.length:Int)-(↑S.length:Int)+(↑x.2.2.2.2.1.length:Int)-(↑R.length:Int)<=9223372036854775807)/\(-9223372036854775808<=(↑x.2.1.length:Int)-(↑E.length:Int)+(↑x.2.2.1.length:Int)-(↑A.length:Int)+(↑x.2.2.2.1.length:Int)-(↑S.length:Int)+(↑x.2.2.2.2.1.length:Int)-(↑R.length:Int)+(↑x.2.2.2.2.2.1.length:Int)/\(↑x.2.1.length:Int)-(↑E.length:Int)+(↑x.2.2.1.length:Int)-(↑A.length:Int)+(↑x.2.2.2.1.length:Int)-(↑S.length:Int)+(↑x.2.2.2.2.1.length:Int)-(↑R.length:Int)+(↑x.2.2.2.2.2.1.length:Int)<=9223372036854775807)/\(-9223372036854775808<=(↑x.2.1.length:Int)-(↑E.length:Int)+(↑x.2.2.1.length:Int)-(↑A.length:Int)+(↑x.2.2.2.1.length:Int)-(↑S.length:Int)+(↑x.2.2.2.2.1.length:Int)-(↑R.length:Int)+(↑x.2.2.2.2.2.1.length:Int)-(↑K.length:Int)/\(↑x.2.1.length:Int)-(↑E.length:Int)+(↑x.2.2.1.length:Int)-(↑A.length:Int)+(↑x.2.2.2.1.length:Int)-(↑S.length:Int)+(↑x.2.2.2.2.1.length:Int)-(↑R.length:Int)+(↑x.2.2.2.2.2.1.length:Int)-(↑K.length:Int)<=9223372036854775807)/\(-9223372036854775808<=(↑x.2.1.length:Int)-(↑E.length:Int)+(↑x.2.2.1.length:Int)-(↑A.length:Int)+(↑x.2.2.2.1.length:Int)-(↑S.length:Int)+(↑x.2.2.2.2.1.length:Int)-(↑R.length:Int)+(↑x.2.2.2.2.2.1.length:Int)-(↑K.length:Int)+(↑x.2.2.2.2.2.2.1.length:Int)/\(↑x.2.1.length:Int)-(↑E.length:Int)+(↑x.2.2.1.length:Int)-(↑A.length:Int)+(↑x.2.2.2.1.length:Int)-(↑S.length:Int)+(↑x.2.2.2.2.1.length:Int)-(↑R.length:Int)+(↑x.2.2.2.2.2.1.length:Int)-(↑K.length:Int)+(↑x.2.2.2.2.2.2.1.length:Int)<=9223372036854775807)/\(-9223372036854775808<=(↑x.2.1.length:Int)-(↑E.length:Int)+(↑x.2.2.1.length:Int)-(↑A.length:Int)+(↑x.2.2.2.1.length:Int)-(↑S.length:Int)+(↑x.2.2.2.2.1.length:Int)-(↑R.length:Int)+(↑x.2.2.2.2.2.1.length:Int)-(↑K.length:Int)+(↑x.2.2.2.2.2.2.1.length:Int)-(↑N.length:Int)/\(↑x.2.1.length:Int)-(↑E.length:Int)+(↑x.2.2.1.length:Int)-(↑A.length:Int)+(↑x.2.2.2.1.length:Int)-(↑S.length:Int)+(↑x.2.2.2.2.1.length:Int)-(↑R.length:Int)+(↑x.2.2.2.2.2.1.length:Int)-(↑K.length:Int)+(↑x.2.2.2.2.2.2.1.length:Int)-(↑N.length:Int)<=9223372036854775807)/\(0<=(↑E.length:Int)/\(↑E.length:Int)<=(↑x.2.1.length:Int))/\(List.take (↑E.length:Int).toNat x.2.1).length<=(1000000000:Nat)/\(decide (List.take (↑E.length:Int).toNat x.2.1=E)=true->(decide ((↑x.2.1.length:Int)-(↑E.length:Int)+(↑x.2.2.1.length:Int)-(↑A.length:Int)+(↑x.2.2.2.1.length:Int)-(↑S.length:Int)+(↑x.2.2.2.2.1.length:Int)-(↑R.length:Int)+(↑x.2.2.2.2.2.1.length:Int)-(↑K.length:Int)+(↑x.2.2.2.2.2.2.1.length:Int)-(↑N.length:Int)<=(1:Int))=true->True/\(true,())=(true,()))/\(decide ((↑x.2.1.length:Int)-(↑E.length:Int)+(↑x.2.2.1.length:Int)-(↑A.length:Int)+(↑x.2.2.2.1.length:Int)-(↑S.length:Int)+(↑x.2.2.2.2.1.length:Int)-(↑R.length:Int)+(↑x.2.2.2.2.2.1.length:Int)-(↑K.length:Int)+(↑x.2.2.2.2.2.2.1.length:Int)-(↑N.length:Int)<=(1:Int))= !true->(false,())=(true,())))/\(decide (List.take (↑E.length:Int).toNat x.2.1=E)= !true->(false,())=(true,()))))))/\(decide ((↑(apF (E,A,S,R,K,N) (k,a,b,c,d,s,q,(n,m),l)).1.2.2.2.2.1.length:Int)<(↑K.length:Int))= !false->(false,())=(true,())))/\(decide ((↑(apF (E,A,S,R,K,N) (k,a,b,c,d,s,q,(n,m),l)).1.2.2.2.1.length:Int)<(↑R.length:Int))= !false->(false,())=(true,())))/\(decide ((↑(apF (E,A,S,R,K,N) (k,a,b,c,d,s,q,(n,m),l)).1.2.2.1.length:Int)<(↑S.length:Int))= !false->(false,())=(true,())))/\(decide ((↑(apF (E,A,S,R,K,N) (k,a,b,c,d,s,q,(n,m),l)).1.2.1.length:Int)<(↑A.length:Int))= !false->(false,())=(true,())))/\(decide ((↑(apF (E,A,S,R,K,N) (k,a,b,c,d,s,q,(n,m),l)).1.1.length:Int)<(↑E.length:Int))= !false->(false,())=(true,())))))))/\((!fewF E A S R K N)= !false->True/\(true,())=(true,()))
theorem g_stays_eq (E:List Int) (A:List Acc.AcD) (S:List Ln) (R:List Rts.Rt) (K:List Lck.Lk) (N:List En) (k a b c d:Int) (s q:Bool) (n m:Int) (l:List Ln):Cond (env_stays E A S R K N k a b c d s q n m l) Tryz.f4 [.agg [.list .part I E, .list .part AcT A, .list .part LnT S, .list .part RTy R, .list .part Vl K, .list .part EnT N], .agg [.int .i64 k, .int .i64 a, .int .i64 b, .int .i64 c, .int .i64 d, .bool s, .bool q, .int .i64 n, .int .i64 m, .list .part LnT l]] [.bool] (true,())=g_stays_vc E A S R K N k a b c d s q n m l:=by kernel_rfl
theorem g_stays_ok (E:List Int) (A:List Acc.AcD) (S:List Ln) (R:List Rts.Rt) (K:List Lck.Lk) (N:List En) (k a b c d:Int) (s q:Bool) (n m:Int) (l:List Ln) (h:Ok E A S R K N/\Ent.InL l):g_stays_vc E A S R K N k a b c d s q n m l:=by
 obtain ⟨h,hL⟩:=h;unfold g_stays_vc;simp only [decide_eq_true_eq,decide_eq_false_iff_not,Bool.not_eq_true',Bool.not_eq_false',Bool.not_true,Bool.not_false];refine ⟨h.1,fun hf=> ?_,fun _=>by trivial⟩;have hs:=Bks.sm_few E A S R K N h hf;have hs2:=hs;obtain ⟨l1,l2,l3,l4,l5,l6,hi⟩:=hs2;refine ⟨fun _=>by trivial,fun _=>⟨hs,fun _=>by trivial,fun hch=>⟨⟨hs,hL⟩,fun he=> ?_,fun he=> ?_⟩⟩⟩
 ·rw [ap_bk0 he];exact ⟨⟨sm_nil,sm_nil⟩,fun _=>by trivial,fun hn=>by rw [show sameB bk0.1 bk0.2.1 bk0.2.2.1 bk0.2.2.2.1 bk0.2.2.2.2.1 bk0.2.2.2.2.2 [] [] [] [] [] []=true from same_nil] at hn;cases hn⟩
 ·obtain ⟨hk,g1,g2,g3,g4,g5,g6,g7⟩:=ap_stays (B:=(E,A,S,R,K,N)) (c:=(k,a,b,c,d,s,q,(n,m),l)) hch he;have hz:=ap_sz (c:=(k,a,b,c,d,s,q,(n,m),l)) (szn_few h hf) hL;unfold chk at hk;generalize hX:apF (E,A,S,R,K,N) (k,a,b,c,d,s,q,(n,m),l)=X at*;obtain ⟨⟨E2,A2,S2,R2,K2,N2⟩,e2⟩:=X;dsimp only at*;have hs3:=sm_of hz (by omega);have hs4:=hs3;obtain ⟨m1,m2,m3,m4,m5,m6,mi⟩:=hs4;have eE:E2.take E.length=E:=by
   rcases g1 with e|⟨x,e⟩
   ·rw [e,List.take_length]
   ·rw [e,List.take_append_of_le_length (Nat.le_refl _),List.take_length]
  have lE:E.length<=E2.length:=by
   have:=congrArg List.length eE;rw [List.length_take] at this;omega
  have eK: ∀(i:Nat) x,K[i]? =some x->K2[i]? =some x:=fun i x hx=>by
   rcases g2 with e|⟨y,e⟩
   ·rw [e];exact hx
   ·rw [e,List.getElem?_append_left (List.getElem?_eq_some_iff.1 hx).1];exact hx
  have lK:K.length<=K2.length:=by
   rcases g2 with e|⟨y,e⟩
   ·rw [e];exact Nat.le_refl _
   ·rw [e];simp
  have eN: ∀(i:Nat) x,N[i]? =some x->N2[i]? =some x:=fun i x hx=>by
   rcases g3 with e|⟨y,e⟩
   ·rw [e];exact hx
   ·rw [e,List.getElem?_append_left (List.getElem?_eq_some_iff.1 hx).1];exact hx
  have lN:N.length<=N2.length:=by
   rcases g3 with e|⟨y,e⟩
   ·rw [e];exact Nat.le_refl _
   ·rw [e];simp
  refine ⟨hs3,fun hn=>absurd hk hn,fun _=>⟨fun _=>⟨fun _=>⟨fun _=>⟨fun _=>⟨fun _=>⟨fun _=>by omega,fun _=>⟨⟨⟨trivial,trivial⟩,by omega,by omega,by unfold BkI;rw [hX]⟩, ?_⟩⟩,fun _=>by omega⟩,fun _=>by omega⟩,fun _=>by omega⟩,fun _=>by omega⟩,fun _=>by omega⟩⟩;rintro ⟨i,E3,A3,S3,R3,K3,N3,⟨⟩⟩ ⟨i0,i1,hI⟩;unfold BkI at hI⊢;rw [hX] at hI⊢;dsimp only at i0 i1 hI⊢;cases hI;refine ⟨fun hc=>⟨⟨i0,by omega⟩,fun x hx=>⟨⟨i0,hc⟩,fun y hy=> ?_⟩⟩,fun hc=>⟨⟨⟨trivial,trivial⟩,by omega,by omega,rfl⟩, ?_⟩⟩
  ·have exy:x=y:=by
    have:=eN _ y hy;rw [hx] at this;exact Option.some.inj this
   subst exy;refine ⟨Nat.le_trans (ine_at hi hy).2 (by omega),fun hn=> ?_,fun _=>⟨by omega,⟨trivial,trivial⟩,⟨by omega,by omega,rfl⟩,by omega⟩⟩;simp [Ent.sameE] at hn
  ·rintro ⟨j,E3,A3,S3,R3,K3,N3,⟨⟩⟩ ⟨j0,j1,hI⟩;dsimp only at j0 j1 hI⊢;cases hI;refine ⟨fun hc=>⟨⟨j0,by omega⟩,fun x hx=>⟨⟨j0,hc⟩,fun y hy=> ?_⟩⟩,fun hc=> ?_⟩
   ·have exy:x=y:=by
     have:=eK _ y hy;rw [hx] at this;exact Option.some.inj this
    subst exy;refine ⟨fun hn=> ?_,fun _=>⟨by omega,⟨trivial,trivial⟩,⟨by omega,by omega,rfl⟩,by omega⟩⟩;simp at hn
   ·have eE':List.take ((E.length:Int)).toNat E2=E:=by rw [Int.toNat_natCast];exact eE
    rw [eE'];refine ⟨by omega,by omega,by omega,by omega,by omega,by omega,by omega,by omega,by omega,by omega,by omega,by omega,by omega,fun _=>⟨fun _=>by trivial,fun hn=>by omega⟩,fun hn=>absurd rfl hn⟩
set_option maxRecDepth 20000
theorem stays_pure (E:List Int) (A:List Acc.AcD) (S:List Ln) (R:List Rts.Rt) (K:List Lck.Lk) (N:List En) (k a b c d:Int) (s q:Bool) (n m:Int) (l:List Ln) (h:Ok E A S R K N/\Ent.InL l):Pure Tryz.prog 4 [.agg [.list .part I E, .list .part AcT A, .list .part LnT S, .list .part RTy R, .list .part Vl K, .list .part EnT N], .agg [.int .i64 k, .int .i64 a, .int .i64 b, .int .i64 c, .int .i64 d, .bool s, .bool q, .int .i64 n, .int .i64 m, .list .part LnT l]] (.bool true):=
 by have k:=Pure.of_cond (g_stays_eq E A S R K N k a b c d s q n m l) (g_stays_ok E A S R K N k a b c d s q n m l h) (specs_ok rfl [Bks.sp_few,sp_awake,Bks.sp_check,sp_apply,Bks.sp_rsame,Ent.sp_same,Ent.sp_sameInts] [] rfl rfl) mixed Tryz.func4;exact k
end Go.Proofs.YtabicbgeoiilmaaGreat.Dsk
end
