import Derived.Test.YtabicbgeoiilmaaGreatDoorVmG
import Derived.ScopeJumps
namespace Go.Vm
open Go.RowKit (Below)
def bH (f:Nat->Bool):Nat->Nat
 |0=>0
 |t+1=>bH f t+(if f t then 1 else 0)
theorem yX {f g:Nat->Bool}: ∀{t:Nat},(∀j,j<t->f j=g j)->bH f t=bH g t
 |0,_=>rfl
 |t+1,h=>by simp only [bH];rw [yX (fun j hj=>h j (by omega)),h t (by omega)]
theorem yY {f g:Nat->Bool} {i:Nat} (hf:f i=false) (hg:g i=true): ∀{t:Nat},i<t->(∀j,j≠i->f j=g j)->bH g t=bH f t+1
 |0,h,_=>by omega
 |t+1,h,hs=>by
  simp only [bH];by_cases e:i=t
  ·subst e;rw [yX (f:=g) (g:=f) (fun j hj=>(hs j (by omega)).symm),hf,hg];simp
  ·rw [yY hf hg (by omega) hs,hs t (fun e2=>e e2.symm)];omega
theorem rp (f:Nat->Bool): ∀t,bH f t<=t
 |0=>Rf _
 |t+1=>by
  have:=rp f t;simp only [bH];split<;>omega
theorem o4 {f:Nat->Bool}: ∀{t:Nat},bH f t=t->∀i,i<t->f i=true
 |0,_,i,hi=>by omega
 |t+1,h,i,hi=>by
  simp only [bH] at h;have:=rp f t;split at h
  ·rename_i ht;by_cases e:i=t
   ·subst e;exact ht
   ·exact o4 (t:=t) (by omega) i (by omega)
  ·omega
theorem tB {f:Nat->Bool}: ∀{t:Nat},bH f t<t->∃i,i<t/\f i=false/\∀j,j<i->f j=true
 |0,h=>by omega
 |t+1,h=>by
  by_cases hc:bH f t<t
  ·obtain ⟨i,h1,h2,h3⟩:=tB hc;exact ⟨i,by omega,h2,h3⟩
  ·have h2:bH f t=t:=by have:=rp f t;omega
   refine ⟨t,by omega, ?_,fun j hj=>o4 h2 j hj⟩;simp only [bH] at h;cases hf:f t with
   |false=>rfl
   |true=>rw [hf] at h;simp at h;omega
structure AG (w0:Start) (F:Fr) (σ:Store) (s:List V) (ds:List Nat) (outs:List V) (S:Nat->Prop) (a:Act) (w:World) (μ:Mu):Prop where
 inv:Inv w0.B ⟨w,σ,μ,F⟩
 below:Since w0.X ⟨w,σ,μ,F⟩
 defers:a.defers=[]
 size:a.tmps.size=s.length
 off: ∀x c u,x∉ds->s[x]? =some c->a.tmps[x]? =some u->Rep ⟨w,σ,μ,F⟩ c u
 on: ∀(j d:Nat) v u,S j->ds[j]? =some d->outs[j]? =some v->a.tmps[d]? =some u->Rep ⟨w,σ,μ,F⟩ v u
theorem cp (p σ:Store) (k:Nat):Store.get (p++σ) k=(Store.get p k).or (Store.get σ k):=by
 induction p with
 |nil=>rfl
 |cons x r ih=>
  obtain ⟨i,o⟩:=x;rw [RP,a7,a7];split
  ·rfl
  ·exact ih
theorem OE {p:Store} {k:Nat} (h:k∈bc p): ∃o,Store.get p k=some o:=by
 induction p with
 |nil=>simp [bc] at h
 |cons x r ih=>
  obtain ⟨i,o⟩:=x;rw [a7];split
  ·exact ⟨_,rfl⟩
  ·rename_i hne;simp only [bc,Rp] at h;rcases h with rfl|h
   ·exact absurd rfl hne
   ·exact ih h
def ovS (f:Nat->Bool):Nat->Store->List Store->Store
 |_,σ,[]=>σ
 |i,σ,p::r=>ovS f (i+1) (if f i then p++σ else σ) r
theorem yZ {f g:Nat->Bool} {k:Nat}: ∀{ps:List Store} {n:Nat} {σ σ':Store},Store.get σ k=Store.get σ' k->(∀j q,ps[j]? =some q->k∈bc q->f (n+j)=g (n+j))->Store.get (ovS f n σ ps) k=Store.get (ovS g n σ' ps) k
 |[],_,_,_,h,_=>h
 |p::r,n,σ,σ',h,hj=>by
  simp only [ovS];refine yZ ?_ (fun j q hq hk=>by have:=hj (j+1) q (by simpa using hq) hk;rw [show n+1+j=n+(j+1) by omega];exact this);by_cases hk:k∈bc p
  ·have:=hj 0 p (by simp) hk;rw [RR] at this;rw [this];split
   ·rw [cp,cp,h]
   ·exact h
  ·have hn:=fv hk;split<;>split<;>simp [cp,hn,h]
theorem o5 {f:Nat->Bool}: ∀{ps:List Store} {n i:Nat} {σ:Store},(∀j,f (n+j)=decide (j<i))->ovS f n σ ps=jT σ (ps.take i)
 |[],_,_,_,_=>by simp [ovS,jT]
 |p::r,n,i,σ,h=>by
  simp only [ovS];have h0:=h 0;rw [RR] at h0;rw [h0];match i with
  |0=>
   simp only [RY,decide_false,Rx,if_false,List.take_zero,jT]
   have:=o5 (f:=f) (ps:=r) (n:=n+1) (i:=0) (σ:=σ) (fun j=>by rw [show n+1+j=n+(j+1) by omega,h];simp)
   rw [this]
   simp [jT]
  |i+1=>
   simp only [Nat.zero_lt_succ,decide_true,if_true,List.take_succ_cons,jT]
   exact o5 (fun j=>by rw [show n+1+j=n+(j+1) by omega,h];simp)
theorem vN {f:Nat->Bool}: ∀{ps:List Store} {n:Nat} {σ:Store},(∀j,j<ps.length->f (n+j)=true)->ovS f n σ ps=jT σ ps
 |[],_,_,_=>rfl
 |p::r,n,σ,h=>by
  simp only [ovS,jT];have h0:=h 0 (by simp);rw [RR] at h0;rw [h0,Q_ rfl];exact vN (fun j hj=>by rw [show n+1+j=n+(j+1) by omega];exact h (j+1) (by simpa using hj))
theorem tC {f g:Nat->Bool} {pre:Store}: ∀{ps:List Store} {n:Nat} {s1 s2:Store},(∀k,Store.get s1 k=Store.get (pre++s2) k)->(∀j,f (n+j)=g (n+j))->
 (∀j q,ps[j]? =some q->f (n+j)=true->∀k∈bc q,k∉bc pre)->∀k,Store.get (ovS g n s1 ps) k=Store.get (pre++ovS f n s2 ps) k
 |[],_,_,_,h,_,_,k=>h k
 |p::r,n,s1,s2,h,hfg,hd,k=>by
  simp only [ovS];refine tC (fun k=> ?_) (fun j=>by rw [show n+1+j=n+(j+1) by omega];exact hfg (j+1)) (fun j q hq hf=>hd (j+1) q (by simpa using hq) (by rw [show n+(j+1)=n+1+j by omega];exact hf)) k;have h0:=hfg 0;rw [RR] at h0;rw [<-h0];split
  ·rename_i hf;rw [cp,h k,cp,cp,cp];by_cases hk:k∈bc p
   ·have h1:=hd 0 p (by simp) (by rw [RR];exact hf) k hk;rw [fv h1];simp
   ·rw [fv hk];simp
  ·exact h k
theorem DF {f g:Nat->Bool} {pre:Store}: ∀{ps:List Store} {n i:Nat} {s1 s2:Store},ps[i]? =some pre->f (n+i)=false->g (n+i)=true->(∀j,j≠i->f (n+j)=g (n+j))->(∀k,Store.get s1 k=Store.get s2 k)->
 (∀j q,i<j->ps[j]? =some q->f (n+j)=true->∀k∈bc q,k∉bc pre)->∀k,Store.get (ovS g n s1 ps) k=Store.get (pre++ovS f n s2 ps) k
 |[],_,_,_,_,h,_,_,_,_,_,_=>by simp at h
 |p::r,n,i,s1,s2,h,hf,hg,hfg,hs,hd,k=>by
  simp only [ovS];match i with
  |0=>
   simp only [List.getElem?_cons_zero,Q9] at h
   subst h
   rw [RR] at hf hg
   rw [hf,hg]
   simp only [if_true,Rx,if_false]
   refine tC (fun k=> ?_) (fun j=>by rw [show n+1+j=n+(j+1) by omega];exact hfg (j+1) (by omega)) (fun j q hq hf'=>hd (j+1) q (by omega) (by simpa using hq) (by rw [show n+(j+1)=n+1+j by omega];exact hf')) k
   rw [cp,cp,hs]
  |i+1=>
   refine DF (i:=i) (by simpa using h) (by rw [show n+1+i=n+(i+1) by omega];exact hf) (by rw [show n+1+i=n+(i+1) by omega];exact hg) (fun j hj=>by rw [show n+1+j=n+(j+1) by omega];exact hfg (j+1) (by omega)) (fun k=> ?_)
    (fun j q hj hq hf'=>hd (j+1) q (by omega) (by simpa using hq) (by rw [show n+(j+1)=n+1+j by omega];exact hf')) k
   have h0:=hfg 0 (by omega)
   rw [RR] at h0
   rw [h0]
   split
   ·rw [cp,cp,hs]
   ·exact hs k
theorem l8 {a b:List Nat} {k:Nat} (h1:k∈a) (h2:k∈b):meets a b=true:=
 Sd.2 ⟨k,h1,Ry.2 h2⟩
theorem y7 {m:Nat} {g:lX}: ∀{fs:List lX} {n j:Nat} {f:lX},go m g n fs=true->fs[j]? =some f->lY f g=true->m.testBit (n+j)=true
 |[],_,_,_,_,h,_=>by simp at h
 |x::r,n,j,f,h,hj,hc=>by
  simp only [go,Ri,RT,Rb] at h;match j with
  |0=>
   simp only [List.getElem?_cons_zero,Q9] at hj
   subst hj
   rcases h.1 with h1|h1
   ·rw [hc] at h1;cases h1
   ·exact h1
  |j+1=>
   have:=y7 h.2 (by simpa using hj) hc
   rw [show n+1+j=n+(j+1) by omega] at this
   exact this
def onB (listed:Array Bool) (i:Nat):Bool:=listed.getD i false
theorem rq {l:List Oper} {i d:Nat} (h:(dI l)[i]? =some d): ∃o,l[i]? =some o/\o.dst.getD (1000000+i)=d:=by
 simp only [dI,List.getElem?_map,Rc,List.getElem?_zipIdx] at h;obtain ⟨p,⟨o,ho,rfl⟩,h2⟩:=h;exact ⟨o,ho,by simpa using h2⟩
theorem ns {l:List Oper} {i:Nat} {o:Oper} (h:l[i]? =some o): ∃d,(o.dst=some d∨(o.dst=none/\1000000<=d))/\(dI l)[i]? =some d:=by
 refine ⟨o.dst.getD (1000000+i), ?_, ?_⟩
 ·cases o.dst with
  |none=>exact .inr ⟨rfl,by simp⟩
  |some d=>exact .inl rfl
 ·simp [dI,List.getElem?_zipIdx,h]
theorem OF {a:Act} {o:Option Nat} {d:Nat} {u:Value} (h:o=some d∨(o=none/\1000000<=d)) (hs:a.tmps.size<=1000000):
 (a.put o u).tmps.size=a.tmps.size/\(a.put o u).defers=a.defers/\(∀x,d≠x->(a.put o u).tmps[x]? =a.tmps[x]?)/\∀u',(a.put o u).tmps[d]? =some u'->u'=u:=by
 rcases h with rfl|⟨rfl,h⟩
 ·refine ⟨by simp [Act.put],rfl,fun x hx=>by simp only [Act.put];exact Array.getElem?_setIfInBounds_ne hx,fun u' hu=> ?_⟩;simp only [Act.put] at hu;have hlt:d<a.tmps.size:=by
   have:=(Array.getElem?_eq_some_iff.1 hu).1;simpa using this
  rw [Array.getElem?_setIfInBounds_self_of_lt hlt] at hu;cases hu;rfl
 ·refine ⟨rfl,rfl,fun x _=>rfl,fun u' hu=> ?_⟩;have:=(Array.getElem?_eq_some_iff.1 hu).1;have e:(a.put none u).tmps.size=a.tmps.size:=rfl;omega
section
variable {w0:Start} {F:Fr}
theorem Qt {P:Program} {ops:Array Oper} {Q:Exit->Act->World->Prop} {σ:Store} {s:List V} {outs:List V} {τs pres:List Store} {t:Nat} {ms:List Nat} (hms:ms=cD ops.toList [])
 (ht:t<=ops.size) (hs1:s.length<=1000000) (hn:bP (dI (ops.toList.take t))=true)
 (hhead: ∀i,i<t->∃o,ops.toList[i]? =some o/\DA ops (dI (ops.toList.take t)) t i (dH ms i) o=true)
 (hlow: ∀i o,ops.toList[i]? =some o->Qm i o=true) (htail: ∀i,t<=i->i<ops.size->∀j,j<t->(dH ms i).testBit j=true)
 (hlen:outs.length=t)
 (hH:HeadsOk P ops ms s (ops.toList.take t) outs [] σ τs pres)
 (hfin: ∀a w μ,AG w0 F (jT σ pres) s (dI (ops.toList.take t)) outs (fun j=>j<t) a w μ->wpAny P .any ops Q (ops.size-t) (kp t ops.size) a w):
 ∀(fuel:Nat) (listed:Array Bool) (a:Act) (w:World) (μ:Mu),listed.size=ops.size->fuel+bH (onB listed) t=ops.size->(∀i,t<=i->onB listed i=false)->
  BZ ops.toList (fun i=>onB listed i=true)->AG w0 F (ovS (onB listed) 0 σ pres) s (dI (ops.toList.take t)) outs (fun j=>onB listed j=true) a w μ->wpAny P .any ops Q fuel listed a w:=by
 have htk:(ops.toList.take t).length=t:=by simp;omega
 have hpl:pres.length=t:=hH.lp.trans htk;have htl:τs.length=t:=hH.lt.trans htk;intro fuel;induction fuel with
 |zero=>
  intro listed a w μ hsz hcnt hoff hcl hg;have:=rp (onB listed) t;have e:t=ops.size:=by omega
  have hall:=o4 (f:=onB listed) (t:=t) (by omega);have hlit:listed=kp t ops.size:=by
   apply Array.ext
   ·simp [kp];omega
   ·intro i h1 h2;have:=hall i (by omega);simp only [onB,Rv,Array.getElem?_eq_getElem h1,R9] at this;rw [this];simp only [kp,List.getElem_toArray];rw [List.getElem_append_left (by simp;omega)];simp
  have hσ:ovS (onB listed) 0 σ pres=jT σ pres:=vN (fun j hj=>by rw [RQ];exact hall j (by omega));rw [hσ] at hg;have h2:=hfin a w μ ⟨hg.inv,hg.below,hg.defers,hg.size,hg.off,fun j d v u hj=>hg.on j d v u (hall j hj)⟩;rw [hlit];rw [e] at h2⊢;simpa using h2
 |succ fuel ih=>
  intro listed a w μ hsz hcnt hoff hcl hg;by_cases hall:bH (onB listed) t=t
  ·have hall':=o4 hall;have hlit:listed=kp t ops.size:=by
    apply Array.ext
    ·simp [kp];omega
    ·intro i h1 h2;by_cases hi:i<t
     ·have:=hall' i hi;simp only [onB,Rv,Array.getElem?_eq_getElem h1,R9] at this;rw [this];simp only [kp,List.getElem_toArray];rw [List.getElem_append_left (by simpa using hi)];simp
     ·have:=hoff i (by omega);simp only [onB,Rv,Array.getElem?_eq_getElem h1,R9] at this;rw [this];simp only [kp,List.getElem_toArray];rw [List.getElem_append_right (by simp;omega)];simp
   have hσ:ovS (onB listed) 0 σ pres=jT σ pres:=vN (fun j hj=>by rw [RQ];exact hall' j (by omega));rw [hσ] at hg;have h2:=hfin a w μ ⟨hg.inv,hg.below,hg.defers,hg.size,hg.off,fun j d v u hj=>hg.on j d v u (hall' j hj)⟩;rw [hlit];have e:fuel+1=ops.size-t:=by omega
   rw [e];exact h2
  ·have hlt:bH (onB listed) t<t:=by have:=rp (onB listed) t;omega
   refine ⟨fun hnil=> ?_,fun i hi=> ?_⟩
   ·obtain ⟨i,h1,h2,h3⟩:=tB hlt;obtain ⟨o,ho,_⟩:=hhead i h1;have:i∈Region.ready .any ops listed:=by
     rw [mem_ready];refine ⟨?_,o,by simpa using ho,fun e he hb=> ?_⟩
     ·have hi:i<listed.size:=by omega
      simp only [onB,Rv,Array.getElem?_eq_getElem hi,R9] at h2⊢;exact h2
     ·have:=hlow i o ho;simp only [Qm,RL,RT,Q7,Rb] at this;rcases this e (by simpa using he) with h4|h4
      ·exact h3 _ h4
      ·rw [hb] at h4;cases h4
    rw [hnil] at this;simp at this
   ·obtain ⟨hi0,o,ho,hw⟩:=mem_ready.1 hi;have hin:i<ops.size:=(Array.getElem?_eq_some_iff.1 ho).1;have hio:onB listed i=false:=by
     have hi:i<listed.size:=by omega
     simp only [onB,Rv,Array.getElem?_eq_getElem hi,R9] at hi0⊢;exact hi0
    have hbits: ∀j,(dH ms i).testBit j=true->j≠i->onB listed j=true:=by
     intro j hj hne;have hcl':BZ ops.toList (fun k=>onB listed k=true∨k=i):=by
      intro k o' hk hon e he hb;rcases hon with hon|rfl
      ·exact .inl (hcl k o' hk hon e he hb)
      ·have:o'=o:=by
        have h1:ops[k]? =some o':=by simpa using hk
        rw [ho] at h1;cases h1;rfl
       subst this;exact .inl (hw e (by simpa using he) hb)
     have hin2:=iC hcl' (l:=ops.toList) (ms:=[]) rfl (fun i m h=>by simp at h);rw [<-hms] at hin2;unfold dH at hj;cases hm:nth ms i with
     |none=>rw [hm] at hj;simp at hj
     |some m=>
      rw [hm] at hj;rcases hin2 i m hm (.inr rfl) j hj with h|h
      ·exact h
      ·exact absurd h hne
    have hit:i<t:=by
     apply Classical.byContradiction;intro hge;have:bH (onB listed) t=t:=by
      have: ∀k,k<=t->bH (onB listed) k=k:=by
       intro k;induction k with
       |zero=>intro _;rfl
       |succ k ihk=>
        intro hk;simp only [bH];rw [ihk (by omega),hbits k (htail i (by omega) hin k (by omega)) (by omega)];simp
      exact this t (Rf _)
     omega
    obtain ⟨o',ho',hb⟩:=hhead i hit;have e:o'=o:=by
     have h1:ops[i]? =some o':=by simpa using ho'
     rw [ho] at h1;cases h1;rfl
    subst e;have hb2:=hb;simp only [DA] at hb2;have hti:(ops.toList.take t)[i]? =some o':=by rw [List.getElem?_take,Q_ hit];exact ho'
    obtain ⟨d,hd,hdi⟩:=ns hti;obtain ⟨v,hv⟩: ∃v,outs[i]? =some v:=⟨_,List.getElem?_eq_getElem (by omega)⟩
    obtain ⟨τ,hτi⟩: ∃τ,τs[i]? =some τ:=⟨_,List.getElem?_eq_getElem (by omega)⟩
    obtain ⟨pre,hpi⟩: ∃pre,pres[i]? =some pre:=⟨_,List.getElem?_eq_getElem (by omega)⟩
    obtain ⟨si,hr,hcl0,hcase⟩:=hH.ok i o' v τ pre hti hv hτi hpi;have hprev: ∀j,onB listed j=true->∀k,(dH ms j).testBit k=true->onB listed k=true:=by
     intro j hj k hk;have hin2:=iC hcl (l:=ops.toList) (ms:=[]) rfl (fun i m h=>by simp at h);rw [<-hms] at hin2;unfold dH at hk;cases hm:nth ms j with
     |none=>rw [hm] at hk;simp at hk
     |some m=>rw [hm] at hk;exact hin2 j m hm hj k hk
    have hfoot: ∀j f',j<t->∀τj pj,τs[j]? =some τj->pres[j]? =some pj->∀j2 τ2 p2,j2<j->τs[j2]? =some τ2->pres[j2]? =some p2->f'=(bc τ2,bc p2)->lY f' (bc τj,bc pj)=true->(dH ms j).testBit j2=true:=by
     intro j f' hj τj pj h1 h2 j2 τ2 p2 hj2 h3 h4 e hc;have h5:=hH.foot j τj pj h1 h2;simp only [RJ,RQ,RM] at h5;have h6:=y7 (j:=j2) (f:=f') h5 (by
      rw [List.getElem?_take,Q_ hj2,List.getElem?_map];have:(List.zip τs pres)[j2]? =some (τ2,p2):=by rw [List.getElem?_zip_eq_some];exact ⟨h3,h4⟩
      rw [this,e];rfl) hc
     rwa [RQ] at h6
    have hagree: ∀k,k∈bc τ∨k∈bc pre->∀j q,pres[j]? =some q->k∈bc q->decide (j<i)=onB listed j:=by
     intro k hk j q hq hkq;have hjt:j<t:=by have:=(List.getElem?_eq_some_iff.1 hq).1;omega
     obtain ⟨τj,hτj⟩: ∃τj,τs[j]? =some τj:=⟨_,List.getElem?_eq_getElem (by omega)⟩
     rcases Nat.lt_trichotomy j i with hji|rfl|hji
     ·have hc:lY (bc τj,bc q) (bc τ,bc pre)=true:=by
       simp only [lY,RT];rcases hk with hk|hk
       ·exact .inl (.inl (l8 hkq hk))
       ·exact .inl (.inr (l8 hkq hk))
      have h5:=hbits j (hfoot i _ hit τ pre hτi hpi j τj q hji hτj hq rfl hc) (by omega);rw [h5];simp [hji]
     ·rw [hio];simp
     ·have hc:lY (bc τ,bc pre) (bc τj,bc q)=true:=by
       simp only [lY,RT];rcases hk with hk|hk
       ·exact .inr (l8 hkq hk)
       ·exact .inl (.inr (l8 hk hkq))
      have h5:=hfoot j _ hjt τj q hτj hq i τ pre hji hτi hpi rfl hc;cases hoj:onB listed j with
      |false=>simp;omega
      |true=>have:=hprev j hoj i h5;rw [hio] at this;cases this
    have hseq: ∀k,k∈bc τ∨k∈bc pre->Store.get (jT σ (pres.take i)) k=Store.get (ovS (onB listed) 0 σ pres) k:=by
     intro k hk;rw [<-o5 (f:=fun j=>decide (j<i)) (n:=0) (fun j=>by simp)];exact yZ rfl (fun j q hq hkq=>by rw [RQ];exact hagree k hk j q hq hkq)
    have hpart:Part (ovS (onB listed) 0 σ pres) τ:=by
     refine ⟨fun k o hk=> ?_,fun k cells hk=> ?_⟩
     ·rw [<-hseq k (.inl (B6 hk))];exact hH.sub i τ hτi k o hk
     ·have:=RL.1 hcl0 _ (DE hk);simpa using this
    have hnew: ∀k∈bc pre,k∈bc τ∨Store.get (ovS (onB listed) 0 σ pres) k=none:=by
     intro k hk;rcases hH.new i τ pre hτi hpi k hk with h5|h5
     ·exact .inl h5
     ·exact .inr (by rw [<-hseq k (.inr hk)];exact h5)
    have hins: ∀k,Store.get (ovS (onB (listed.setIfInBounds i true)) 0 σ pres) k=Store.get (pre++ovS (onB listed) 0 σ pres) k:=by
     have hset: ∀j,onB (listed.setIfInBounds i true) j=(if j=i then true else onB listed j):=by
      intro j;unfold onB;by_cases hji:j=i
      ·subst hji;simp [show j<listed.size by omega]
      ·rw [getD_set_ne false (fun e=>hji e.symm),Q8 hji]
     refine DF (i:=i) hpi (by rw [RQ];exact hio) (by rw [RQ,hset];simp) (fun j hj=>by rw [RQ,hset,Q8 hj]) (fun _=>rfl) (fun j q hj hq hon k hkq hkp=> ?_);rw [RQ] at hon;have:=hagree k (.inr hkp) j q hq hkq;rw [hon] at this;simp at this;omega
    have hR1: ∀k,fT (ovS (onB listed) 0 σ pres) τ k->Store.get (ovS (onB (listed.setIfInBounds i true)) 0 σ pres) k=Store.get (ovS (onB listed) 0 σ pres) k/\Store.get (pre++τ) k=none:=by
     rintro k ⟨⟨o2,h5⟩,h6⟩;have hkp:k∉bc pre:=by
      intro hk;rcases hnew k hk with h7|h7
      ·obtain ⟨o3,h8⟩:=OE h7;rw [h6] at h8;cases h8
      ·rw [h5] at h7;cases h7
     have:=fv hkp;exact ⟨by rw [hins,cp,this];rfl,by rw [cp,this];exact h6⟩
    have hR2: ∀k,¬fT (ovS (onB listed) 0 σ pres) τ k->Store.get (ovS (onB (listed.setIfInBounds i true)) 0 σ pres) k=Store.get (pre++τ) k:=by
     intro k hk;rw [hins,cp,cp];congr 1;cases hτk:Store.get τ k with
     |some o2=>exact hpart.sub k o2 hτk
     |none=>
      cases hsk:Store.get (ovS (onB listed) 0 σ pres) k with
      |none=>rfl
      |some o2=>exact absurd ⟨⟨o2,hsk⟩,hτk⟩ hk
    have hdst: ∀k q,(ops.toList.take t)[k]? =some q->k<t/\∃d,(q.dst=some d∨(q.dst=none/\1000000<=d))/\(dI (ops.toList.take t))[k]? =some d:=fun k q hk=>
     ⟨(by have:=(List.getElem?_eq_some_iff.1 hk).1;simp at this;omega),ns hk⟩
    have hsl:si.length=s.length:=by rw [hr.1,jo]
    have hlook: ∀x∈o'.looksAt ops,∀c u,si[x]? =some c->a.tmps[x]? =some u->Rep ⟨w,ovS (onB listed) 0 σ pres,μ,F⟩ c u:=by
     intro x hx c u hc hu;have hxs:x<s.length:=by rw [<-hsl];exact (List.getElem?_eq_some_iff.1 hc).1
     obtain ⟨c0,hc0⟩: ∃c0,(lZ s ((ops.toList.take t).take i) (outs.take i))[x]? =some c0:=⟨_,List.getElem?_eq_getElem (by rw [jo];exact hxs)⟩
     refine hr.2 x c0 c hc0 hc _ u ?_;by_cases hxd:x∈dI (ops.toList.take t)
     ·obtain ⟨j,hj⟩:=Sh.1 hxd;obtain ⟨q,hq,_⟩:=rq hj;obtain ⟨hjt,d',hqd,hj'⟩:=hdst j q hq;have e2:d'=x:=by rw [hj] at hj';exact (Option.some.inj hj').symm
      subst e2;have hqd:q.dst=some d':=hqd.resolve_right fun h=>absurd hxs (Nat.not_lt.2 (Ro hs1 h.2));have hx2:=RL.1 hb2 _ hx;have hx3:=RL.1 hx2 j (RX.2 hjt);simp only [RT,Rb,beq_eq_false_iff_ne,ne_eq,Ri,Q7] at hx3;rcases hx3 with h1|⟨h1,h2⟩
      ·exact absurd hj h1
      ·have hon:=hbits j h2 (by omega);obtain ⟨vj,hvj⟩: ∃vj,outs[j]? =some vj:=⟨_,List.getElem?_eq_getElem (by omega)⟩
       have:=vM (l:=(ops.toList.take t).take i) (vs:=outs.take i) (s:=s) (j:=j) (x:=d') (o:=q) (v:=vj) (by rw [List.getElem?_take,Q_ h1];exact hq) hqd (by rw [List.getElem?_take,Q_ h1];exact hvj) hxs (fun k q' hk hkd=>by
        have hki:k<i:=by
         have:=(List.getElem?_eq_some_iff.1 hk).1;simp at this;omega
        rw [List.getElem?_take,Q_ hki] at hk;obtain ⟨_,d2,hd2,hk2⟩:=hdst k q' hk;rcases hd2 with hd2|⟨hd2,_⟩<;>rw [hkd] at hd2<;>cases hd2;exact iD hn hk2 hj)
       rw [this] at hc0;cases hc0;exact hg.on j d' _ u hon hj hvj hu
     ·rw [l7 (fun q hq hqd=> ?_)] at hc0
      ·exact hg.off x c0 u hxd hc0 hu
      ·obtain ⟨k,hk⟩:=Sh.1 hq;have hki:k<i:=by
        have:=(List.getElem?_eq_some_iff.1 hk).1;simp at this;omega
       rw [List.getElem?_take,Q_ hki] at hk;obtain ⟨_,d2,hd2,hk2⟩:=hdst k q hk;rcases hd2 with hd2|⟨hd2,_⟩<;>rw [hqd] at hd2<;>cases hd2;exact hxd (Rr hk2)
    have hnext: ∀u w' μ',Inv w0.B ⟨w',ovS (onB (listed.setIfInBounds i true)) 0 σ pres,μ',F⟩->Rep ⟨w',ovS (onB (listed.setIfInBounds i true)) 0 σ pres,μ',F⟩ v u->Evo ⟨w,ovS (onB listed) 0 σ pres,μ,F⟩ ⟨w',ovS (onB (listed.setIfInBounds i true)) 0 σ pres,μ',F⟩->wpAny P .any ops Q fuel (listed.setIfInBounds i true) (a.put o'.dst u) w':=by
     intro u w' μ' hI hv' hE;have hset: ∀j,onB (listed.setIfInBounds i true) j=(if j=i then true else onB listed j):=by
      intro j;unfold onB;by_cases hji:j=i
      ·subst hji;simp [show j<listed.size by omega]
      ·rw [getD_set_ne false (fun e=>hji e.symm),Q8 hji]
     obtain ⟨p1,p2,p3,p4⟩:=OF (a:=a) (u:=u) hd (by rw [hg.size];exact hs1);refine ih _ _ _ μ' (by simpa using hsz) ?_ (fun j hj=> ?_) ?_ ⟨hI, ?_, ?_, ?_, ?_, ?_⟩
     ·rw [yY (f:=onB listed) (g:=onB (listed.setIfInBounds i true)) (i:=i) hio (by rw [hset];simp) hit (fun j hj=>by rw [hset,Q8 hj])];omega
     ·rw [hset,Q8 (by omega)];exact hoff j hj
     ·intro k q hk hon e he hbnd;rw [hset] at hon;show onB (listed.setIfInBounds i true) e.on=true;rw [hset];split
      ·rfl
      ·split at hon
       ·rename_i e2;subst e2;have:q=o':=by
         have h1:ops[k]? =some q:=by simpa using hk
         rw [ho] at h1;cases h1;rfl
        subst this;exact hw e (by simpa using he) hbnd
       ·exact hcl k q hk hon e he hbnd
     ·exact hg.below.evo hE
     ·rw [p2];exact hg.defers
     ·rw [p1];exact hg.size
     ·intro x c u' hx hc hu;have hdx:d≠x:=by
       intro e;subst e;exact hx (Rr hdi)
      rw [p3 x hdx] at hu;exact (hg.off x c u' hx hc hu).evo hE
     ·intro j d' v' u' hj hdj hvj hu;rw [hset] at hj;by_cases hji:j=i
      ·subst hji;rw [hdi] at hdj;cases hdj;rw [hv] at hvj;cases hvj;rw [p4 u' hu];exact hv'
      ·rw [Q8 hji] at hj;have hne:d≠d':=fun e=>hji (by
        subst e;exact iD hn hdj hdi)
       rw [p3 d' hne] at hu;exact (hg.on j d' v' u' hj hdj hvj hu).evo hE
    unfold wpOp;rw [ho];simp only;rcases hcase with ⟨hok,hiv⟩|⟨⟨hgn,hmv⟩,hτe,hpe⟩
    rotate_left
    ·have hwant:Region.wanted o' (yielded ops a.tmps)=true:=by simp [Region.wanted,hgn]
     rw [Q_ hwant];refine .inl (kR (hmv ⟨w,ovS (onB listed) 0 σ pres,μ,F⟩ a (hg.size.trans hsl.symm) hlook) ?_);rintro u w' ⟨hw',hu'⟩;simp only at hw';subst hw';obtain ⟨μ2,g1,g2,_⟩:=iy hg.inv hpart (w':=w') (τ':=pre++τ) (by rw [hpe];exact Inv.cut hg.inv hpart) (by rw [hpe];exact Evo.refl _) hR1 hR2;exact hnext u w' μ2 g1 (hu'.evo g2) g2
    obtain ⟨hrun,hskip⟩:=hok _ _ a w μ (Inv.cut hg.inv hpart) (fun b hb=>⟨w0.top b (Ro hg.below.size hb),fun ⟨k2,o2,_,q1,q2⟩=>by
     have:=hg.inv.ltB q1 q2;have h5:b<w.heap.size:=this;omega⟩) (hg.size.trans hsl.symm) (fun x hx c u hc hu=>Rep.cut (X:=⟨w,ovS (onB listed) 0 σ pres,μ,F⟩) hpart (hiv x hx c hc) (hlook x hx c u hc hu))
    by_cases hwant:Region.wanted o' (yielded ops a.tmps)=true
    ·rw [Q_ hwant];refine .inl (kR (hrun hwant) ?_);rintro u w' ⟨μ',h1,h2,h3⟩;obtain ⟨μ2,g1,g2,g3⟩:=iy hg.inv hpart h1 h3 hR1 hR2;exact hnext u w' μ2 g1 (g3 _ _ h2) g2
    ·rw [Q8 hwant];have hwf:Region.wanted o' (yielded ops a.tmps)=false:=by simpa using hwant
     obtain ⟨hpe,hvu⟩:=hskip hwf;obtain ⟨μ2,g1,g2,_⟩:=iy hg.inv hpart (w':=w) (τ':=pre++τ) (by rw [hpe];exact Inv.cut hg.inv hpart) (by rw [hpe];exact Evo.refl _) hR1 hR2;exact hnext undef w μ2 g1 (by rw [hvu];exact .tuple rfl (fun j c u hc=>by simp at hc)) g2
theorem y8 {E:Env} (hS:SpecsOk E) (hm:E.P.follows .mixedOrders=true) {id:Nat} {ops:Array Oper} {st:St} {k:St->Prop} {Q:Exit->Act->World->Prop} {a:Act} {w:World} {μ:Mu}
 (hQ: ∀st' a w μ,k st'->Agree (fg ops.toList) st.s st'.s->Good w0 F st' a w μ->Q .normal a w)
 (hs1:st.s.length<=1000000) (hb:Lh ops (cD ops.toList []) (np (cD ops.toList []) ops.size)=true) (h:jR E ops (cD ops.toList []) 0 [] (ops.toList.take (np (cD ops.toList []) ops.size)) st fun st'=>yQ E ops (ops.toList.drop (np (cD ops.toList []) ops.size)) st' k) (hg:Good w0 F st a w μ):(Code.region id ops true).wp E.P Q a w:=by
 generalize hms:cD ops.toList []=ms at h hb;generalize htt:np ms ops.size=t at h hb
 ·simp only [Lh,Ri,Q7,RL,RX,RT] at hb;obtain ⟨⟨⟨⟨⟨b1,b2⟩,b3⟩,b4⟩,b5⟩,b6⟩:=hb;have htk:(ops.toList.take t).length=t:=by simp;omega
  obtain ⟨outs,τs,pres,stF,h1,h2,h3,hag,h4⟩:=oz (fs:=[]) hS (fun o ho=>Sl ho) h;obtain ⟨k1,k2⟩:=h4 st.s (.refl _);have hlen:outs.length=t:=h1.trans htk;obtain ⟨hE,hI⟩:=dB hg.inv (w':={w with drawn:=w.drawn+1}) rfl rfl rfl (Rf _) (fun _ _=>rfl);have hhead: ∀i,i<t->∃o,ops.toList[i]? =some o/\DA ops (dI (ops.toList.take t)) t i (dH ms i) o=true:=by
   intro i hi;have:=b3 i hi;cases ho:nth ops.toList i with
   |none=>rw [ho] at this;simp at this
   |some o=>rw [ho] at this;exact ⟨o,ho,this⟩
  refine wp_region_any hm (Qt (w0:=w0) (F:=F) (σ:=st.σ) (s:=st.s) (outs:=outs) (τs:=τs) (pres:=pres) hms.symm b1 hs1 b2 hhead (fun i o ho=> ?_) (fun i hi hi2 j hj=> ?_) hlen k2 (fun a w μ hag2=> ?_) ops.size _ a _ μ (by simp) ?_ (fun i _=> ?_) ?_ ?_)
  ·have hi:i<ops.size:=by
    have:=(List.getElem?_eq_some_iff.1 ho).1;simpa using this
   have:=b4 i hi;rw [show nth ops.toList i=some o from ho] at this;exact this
  ·rcases b5 i hi2 with h5|h5
   ·omega
   ·exact h5 j hj
  ·have hgF:Good w0 F stF a w μ:=by
    rw [<-h3] at hag2;refine ⟨hag2.inv,RepL.ref k1 ⟨?_,fun x c u hc hu=> ?_⟩,hag2.below,hag2.defers⟩
    ·rw [jo];simpa using hag2.size
    ·simp only [Array.getElem?_toList] at hu;have hxs:x<st.s.length:=by
      have:=(List.getElem?_eq_some_iff.1 hc).1;rwa [jo] at this
     have hdst: ∀k q,(ops.toList.take t)[k]? =some q->k<t/\∃d,(q.dst=some d∨(q.dst=none/\1000000<=d))/\(dI (ops.toList.take t))[k]? =some d:=fun k q hk=>
      ⟨(by have:=(List.getElem?_eq_some_iff.1 hk).1;simp at this;omega),ns hk⟩
     by_cases hxd:x∈dI (ops.toList.take t)
     ·obtain ⟨j,hj⟩:=Sh.1 hxd;obtain ⟨q,hq,_⟩:=rq hj;obtain ⟨hjt,d',hqd,hj'⟩:=hdst j q hq;have e2:d'=x:=by rw [hj] at hj';exact (Option.some.inj hj').symm
      subst e2;have hqd:q.dst=some d':=hqd.resolve_right fun h=>absurd hxs (Nat.not_lt.2 (Ro hs1 h.2));obtain ⟨vj,hvj⟩: ∃vj,outs[j]? =some vj:=⟨_,List.getElem?_eq_getElem (by omega)⟩
      rw [vM (j:=j) hq hqd hvj hxs (fun i q' hi hd=>by
       obtain ⟨_,d2,hd2,hi2⟩:=hdst i q' hi;rcases hd2 with hd2|⟨hd2,_⟩<;>rw [hd] at hd2<;>cases hd2;exact iD b2 hi2 hj)] at hc
      cases hc;exact hag2.on j d' _ u hjt hj hvj hu
     ·rw [l7 (fun q hq hqd=>by
       obtain ⟨i,hi⟩:=Sh.1 hq;obtain ⟨_,d2,hd2,hi2⟩:=hdst i q hi;rcases hd2 with hd2|⟨hd2,_⟩<;>rw [hqd] at hd2<;>cases hd2;exact hxd (Rr hi2))] at hc
      exact hag2.off x c u hxd hc hu
   have hl:(ops.toList.drop t).length=ops.size-t:=by simp
   have:=wpAny_of_seq (P:=E.P) (ops:=ops) (md:= .any) (Q':=Q) (ops.toList.drop t) t (kp t ops.size) a w (fun j=>by simp [List.getElem?_drop]) (by rw [hl];exact b6)
    (ox hS (s0:=st.s) hQ _ stF a w μ (fun o ho=>List.mem_of_mem_drop ho) h2 hag hgF)
   rw [hl] at this;exact this
  ·have: ∀n,bH (onB (Array.replicate ops.size false)) n=0:=by
    intro n;induction n with
    |zero=>rfl
    |succ n ih=>
     have hoff:onB (Array.replicate ops.size false) n=false:=by
      simp only [onB,Rv,Array.getElem?_replicate];split<;>simp
     simp [bH,ih,hoff]
   rw [this];omega
  ·simp only [onB,Rv,Array.getElem?_replicate];split<;>simp
  ·intro i o _ hon;simp only [onB,Rv,Array.getElem?_replicate] at hon;split at hon<;>simp at hon
  ·have hσ0:ovS (onB (Array.replicate ops.size false)) 0 st.σ pres=st.σ:=by
    have:=o5 (f:=onB (Array.replicate ops.size false)) (ps:=pres) (n:=0) (i:=0) (σ:=st.σ) (fun j=>by
     simp only [onB,Rv,Array.getElem?_replicate];split<;>simp)
    rw [this];simp [jT]
   rw [hσ0];refine ⟨hI,hg.below.evo hE,hg.defers, ?_,fun x c u _ hc hu=> ?_,fun j d v u hj=> ?_⟩
   ·simpa using hg.slots.1
   ·exact (hg.slots.2 x c u hc (by simpa using hu)).evo hE
   ·simp only [onB,Rv,Array.getElem?_replicate] at hj;split at hj<;>simp at hj
theorem Ca {E:Env} (hS:SpecsOk E) (hm:E.P.follows .mixedOrders=true) {id:Nat} {ops:Array Oper} {st:St} {k:St->Prop} {Q:Exit->Act->World->Prop} {a:Act} {w:World} {μ:Mu}
 (hQ: ∀st' a w μ,k st'->Agree (fg ops.toList) st.s st'.s->Good w0 F st' a w μ->Q .normal a w)
 (h:B_ E ops st k) (hg:Good w0 F st a w μ):(Code.region id ops true).wp E.P Q a w:=by
 unfold B_ at h;simp only at h;split at h
 ·rename_i hb;exact y8 hS hm hQ hb.2 hb.1 h hg
 ·exact h.elim
end
end Go.Vm
namespace Go.Vm
open Go.RowKit (Below)
inductive Leaf where
 |normal|exit (id:Nat)|ret|goto (l:Nat)
def Leaf.ex:Leaf->Exit
 | .normal=> .normal
 | .exit i=> .exit i
 | .ret=> .ret
 | .goto l=> .goto l
def dJ:Code->Nat
 | .region id _ _=>id
 | .seq a b=>match a with
  | .skip=>dJ b
  | .label _=>dJ b
  |_=>dJ a
 | .cond _ a _=>dJ a
 | .block _ a=>dJ a
 | .loop a=>dJ a
 | .scope a=>dJ a
 |_=>1000000
def gp:Code->Option Nat
 | .seq a b=>match gp a with
  |some l=>some l
  |none=>gp b
 | .label l=>some l
 |_=>none
def rW:Code->Nat->Bool
 | .seq a b,l=>rW a l||rW b l
 | .label l',l=>l'==l
 |_,_=>false
def GT:Option Ann->List Nat
 |some a=>a.ws
 |none=>[]
def wrs (E:Env):Code->List Nat
 | .region _ ops _=>fg ops.toList
 | .seq a b=>wrs E a++wrs E b++GT (E.joins (dJ b))
 | .cond _ a b=>wrs E a++wrs E b
 | .block _ a=>wrs E a
 | .loop a=>wrs E a++GT (E.heads (dJ a))
 | .scope a=>wrs E a++(match gp a with
  |some l=>GT (E.joins (2000000+l))
  |none=>[])
 |_=>[]
def gx (E:Env):Code->Nat->List Nat
 | .seq a b,l=>if rW a l then gx E a l++wrs E b else gx E b l
 |_,_=>[]
theorem l9 {E:Env}: ∀{c:Code} {l i:Nat},i∈gx E c l->i∈wrs E c
 | .seq a b,l,i,h=>by
  simp only [gx] at h;simp only [wrs,Rn];split at h
  ·rcases Rn.1 h with h|h
   ·exact .inl (.inl (l9 h))
   ·exact .inl (.inr h)
  ·exact .inl (.inr (l9 h))
 | .skip,_,_,h| .region _ _ _,_,_,h| .cond _ _ _,_,_,h| .block _ _,_,_,h| .loop _,_,_,h| .rangeFunc _ _ _ _,_,_,h| .exit _,_,_,h| .scope _,_,_,h| .goto _,_,_,h| .label _,_,_,h| .ret,_,_,h| .refuse _,_,_,h=>by simp [gx] at h
def fV (next:St->Prop) (K:Leaf->St->Prop):Leaf->St->Prop
 | .normal,st=>next st
 |e,st=>K e st
def rr (id:Nat) (K:Leaf->St->Prop):Leaf->St->Prop
 | .exit i,st=>if i=id then K .normal st else K (.exit i) st
 |e,st=>K e st
def ru (E:Env) (ops:Array Oper) (draw:Bool) (st:St) (k:St->Prop):Prop:=
 if draw then B_ E ops st k else yQ E ops ops.toList st k
def DG (pins:List Nat) (j:Option Ann) (wr:List Nat) (va vb:St->(Leaf->St->Prop)->Prop) (st:St) (K:Leaf->St->Prop):Prop:=
 match j with
 |none=>va st (fV (fun st'=>vb st' K) K)
 |some ann=>va st (fV (fun st'=>vC pins ann wr st st' (ann.inv st)) K)/\∀x,ann.inv st x->vb (head ann wr st x) K
def Cb (c:V) (vx vy:Prop):Prop:=
 match c with
 | .kb true=>vx
 | .kb false=>vy
 | .bool b=>(b=true->vx)/\(b=false->vy)
 | .bq p=>(p true->vx)/\(p false->vy)
 |_=>False
def tD (vb:St->(Leaf->St->Prop)->Prop) (K:Leaf->St->Prop):Nat->St->Prop
 |0,st=>vb st (fV (fun _=>False) K)
 |n+1,st=>vb st (fV (tD vb K n) K)
def Cc (pins:List Nat) (un:Nat) (j:Option Ann) (wr:List Nat) (vb:St->(Leaf->St->Prop)->Prop) (st:St) (K:Leaf->St->Prop):Prop:=
 match j with
 |none=>tD vb K un st
 |some ann=>vC pins ann wr st st (ann.inv st)/\∀x,ann.inv st x->vb (head ann wr st x) (fV (fun st'=>vC pins ann wr st st' fun x'=>ann.inv st x'/\ann.measure st x'<ann.measure st x) K)
def y9 (l:Nat) (J:St->Prop) (K:Leaf->St->Prop):Leaf->St->Prop
 | .goto l',st=>l'=l/\J st
 |e,st=>K e st
def Cd (l:Nat) (vl:Nat->St->(Leaf->St->Prop)->Prop) (K:Leaf->St->Prop):Nat->St->Prop
 |0,_=>False
 |n+1,st=>vl l st (y9 l (Cd l vl K n) K)
def vO (pins:List Nat) (un:Nat->Nat) (lb:Option Nat) (j:Nat->Option Ann) (wr:Nat->List Nat) (vb:St->(Leaf->St->Prop)->Prop) (vl:Nat->St->(Leaf->St->Prop)->Prop) (st:St) (K:Leaf->St->Prop):Prop:=
 match lb with
 |none=>False
 |some l=>match j l with
  |none=>vb st (y9 l (Cd l vl K (un l)) K)
  |some ann=>vb st (y9 l (fun s1=>vC pins ann (wr l) s1 s1 (ann.inv s1)/\
   ∀x,ann.inv s1 x->vl l (head ann (wr l) s1 x) (y9 l (fun st'=>vC pins ann (wr l) s1 st' fun x'=>ann.inv s1 x'/\ann.measure s1 x'<ann.measure s1 x) K)) K)
def vc2 (E:Env):Code->(St->(Leaf->St->Prop)->Prop)×(Nat->St->(Leaf->St->Prop)->Prop)
 | .skip=>(fun st K=>K .normal st,fun _ _ _=>False)
 | .region _ ops draw=>(fun st K=>ru E ops draw st (K .normal),fun _ _ _=>False)
 | .seq a b=>(DG E.pins (E.joins (dJ b)) (wrs E a) (vc2 E a).1 (vc2 E b).1,fun l st K=>if rW a l then DG E.pins none [] ((vc2 E a).2 l) (vc2 E b).1 st K else (vc2 E b).2 l st K)
 | .cond c x y=>(fun st K=>Cb (eW st.s c) ((vc2 E x).1 st K) ((vc2 E y).1 st K),fun _ _ _=>False)
 | .block id c=>(fun st K=>(vc2 E c).1 st (rr id K),fun _ _ _=>False)
 | .loop c=>(Cc E.pins (E.unr (dJ c)) (E.heads (dJ c)) (wrs E c) (vc2 E c).1,fun _ _ _=>False)
 | .scope c=>(vO E.pins (fun l=>E.unr (2000000+l)) (gp c) (fun l=>E.joins (2000000+l)) (gx E c) (vc2 E c).1 (vc2 E c).2,fun _ _ _=>False)
 | .exit id=>(fun st K=>K (.exit id) st,fun _ _ _=>False)
 | .goto l=>(fun st K=>K (.goto l) st,fun _ _ _=>False)
 | .label l'=>(fun st K=>K .normal st,fun l st K=>if l'=l then K .normal st else False)
 | .ret=>(fun st K=>K .ret st,fun _ _ _=>False)
 |_=>(fun _ _=>False,fun _ _ _=>False)
def vc (E:Env) (c:Code) (st:St) (K:Leaf->St->Prop):Prop:=(vc2 E c).1 st K
theorem nt: ∀{c:Code} {l:Nat},rW c l=false->findLabel c l=none
 | .seq a b,l,h=>by
  simp only [rW,Bool.or_eq_false_iff] at h;simp only [findLabel,nt h.1,nt h.2]
 | .label l',l,h=>by
  simp only [rW] at h;simp [findLabel,h]
 | .skip,_,_| .region _ _ _,_,_| .cond _ _ _,_,_| .block _ _,_,_| .loop _,_,_| .rangeFunc _ _ _ _,_,_| .exit _,_,_| .scope _,_,_| .goto _,_,_| .ret,_,_| .refuse _,_,_=>rfl
theorem nu: ∀{c:Code} {l:Nat},rW c l=true->∃r,findLabel c l=some r
 | .seq a b,l,h=>by
  simp only [rW,RT] at h;simp only [findLabel];cases ha:findLabel a l with
  |some r=>exact ⟨_,rfl⟩
  |none=>
   rcases h with h|h
   ·obtain ⟨r,hr⟩:=nu h;rw [ha] at hr;cases hr
   ·exact nu h
 | .label l',l,h=>by
  simp only [rW] at h;exact ⟨.skip,by simp [findLabel,h]⟩
theorem fh: ∀{c:Code} {l:Nat},gp c=some l->∃r,findLabel c l=some r
 | .seq a b,l,h=>by
  simp only [gp] at h;simp only [findLabel];cases ha:findLabel a l with
  |some r=>exact ⟨_,rfl⟩
  |none=>
   split at h
   ·rename_i l' hl';cases h;obtain ⟨r,hr⟩:=fh hl';rw [ha] at hr;cases hr
   ·exact fh h
 | .label l',l,h=>by
  simp only [gp,Q9] at h;subst h;exact ⟨.skip,by simp [findLabel]⟩
theorem GU {w0:Start} {F:Fr} {E:Env} (hF: ∀e∈F.pin,e.1∈E.pins) (hS:SpecsOk E) (hm:E.P.follows .mixedOrders=true): ∀(c:Code),(∀(st:St) (K:Leaf->St->Prop) (Q:Exit->Act->World->Prop),
 (∀e st' a w μ,K e st'->Agree (wrs E c) st.s st'.s->Good w0 F st' a w μ->Q e.ex a w)->vc E c st K->∀a w μ,Good w0 F st a w μ->c.wp E.P Q a w)/\
 (∀(l:Nat) (rest:Code),findLabel c l=some rest->∀(st:St) (K:Leaf->St->Prop) (Q:Exit->Act->World->Prop),
 (∀e st' a w μ,K e st'->Agree (gx E c l) st.s st'.s->Good w0 F st' a w μ->Q e.ex a w)->(vc2 E c).2 l st K->∀a w μ,Good w0 F st a w μ->rest.wp E.P Q a w):=by
 intro c;induction c with
 |skip=>refine ⟨?_,fun l rest hf=>by simp [findLabel] at hf⟩;intro st K Q hQ h a w μ hg;exact wp_skip (hQ .normal _ _ _ _ h (.refl _ _) hg)
 |region id ops draw=>
  refine ⟨?_,fun l rest hf=>by simp [findLabel] at hf⟩;intro st K Q hQ h a w μ hg;change ru E ops draw st (K .normal) at h;unfold ru at h;split at h
  ·rename_i hd;subst hd;exact Ca hS hm (fun st' a' w' μ' hk hag hg'=>hQ .normal _ _ _ _ hk hag hg') h hg
  ·rename_i hd;have:draw=false:=by simpa using hd
   subst this;exact wp_region_list (ox hS (s0:=st.s) (fun st' a' w' μ' hk hag hg'=>hQ .normal _ _ _ _ hk hag hg') _ _ _ _ _ (fun _ h=>h) h (.refl _ _) hg)
 |seq x y ihx0 ihy0=>
  have ihx:=ihx0.1;have ihy:=ihy0.1;refine ⟨?_, ?_⟩;rotate_left
  ·intro l rest hf st K Q hQ h a w μ hg;simp only [vc2] at h;simp only [findLabel] at hf;split at h
   ·rename_i hl;obtain ⟨rx,hrx⟩:=nu hl;rw [hrx] at hf;cases hf;refine wp_seq (ihx0.2 l rx hrx _ _ _ (fun e st' a' w' μ' he hag hg'=> ?_) h a w μ hg);have hag2:Agree (gx E (.seq x y) l) st.s st'.s:=hag.sub (fun i hi=>by simp [gx,hl,hi]);cases e with
    |normal=>exact ihy _ _ _ (fun e st2 a2 w2 μ2 he2 hag3 hg2=>hQ e _ _ _ _ he2 (hag2.trans (hag3.sub (fun i hi=>by simp [gx,hl,hi]))) hg2) he _ _ _ hg'
    |exit id=>exact hQ (.exit id) _ _ _ _ he hag2 hg'
    |ret=>exact hQ .ret _ _ _ _ he hag2 hg'
    |goto l=>exact hQ (.goto l) _ _ _ _ he hag2 hg'
   ·rename_i hl;rw [nt (by simpa using hl)] at hf;exact ihy0.2 l rest hf _ _ _ (fun e st' a' w' μ' he hag hg'=>hQ e _ _ _ _ he (hag.sub (fun i hi=>by simp [gx,hl,hi])) hg') h a w μ hg
  intro st K Q hQ h a w μ hg;change DG E.pins (E.joins (dJ y)) (wrs E x) (vc E x) (vc E y) st K at h;refine wp_seq ?_;unfold DG at h;split at h
  ·refine ihx _ _ _ (fun e st' a' w' μ' he hag hg'=> ?_) h a w μ hg;have hag2:Agree (wrs E (.seq x y)) st.s st'.s:=hag.sub (fun i hi=>by simp [wrs,hi]);cases e with
   |normal=>exact ihy _ _ _ (fun e st2 a2 w2 μ2 he2 hag3 hg2=>hQ e _ _ _ _ he2 (hag2.trans (hag3.sub (fun i hi=>by simp [wrs,hi]))) hg2) he _ _ _ hg'
   |exit id=>exact hQ (.exit id) _ _ _ _ he hag2 hg'
   |ret=>exact hQ .ret _ _ _ _ he hag2 hg'
   |goto l=>exact hQ (.goto l) _ _ _ _ he hag2 hg'
  ·rename_i ann hj;obtain ⟨h1,h2⟩:=h;refine ihx _ _ _ (fun e st' a' w' μ' he hag hg'=> ?_) h1 a w μ hg;have hag2:Agree (wrs E (.seq x y)) st.s st'.s:=hag.sub (fun i hi=>by simp [wrs,hi]);cases e with
   |normal=>
    obtain ⟨x',μ2,k1,k2,k3,k4⟩:=jP hF he (nm hag.1 (fun i hi=>hag.2 i (Ann.m_off hi).1)) hg'.inv hg'.slots;have hag4:Agree (wrs E (.seq x y)) st.s (head ann (wrs E x) st x').s:=kQ (fun i hi=>by simp [wrs,hi]) (fun i hi=>by simp only [wrs,hj,GT,Rn];exact .inr hi) _ _;exact ihy _ _ _ (fun e st2 a2 w2 μ2 he2 hag3 hg2=>hQ e _ _ _ _ he2 (hag4.trans (hag3.sub (fun i hi=>by simp [wrs,hi]))) hg2) (h2 x' k1) _ _ _ ⟨k2,k3,hg'.below.anew k4,hg'.defers⟩
   |exit id=>exact hQ (.exit id) _ _ _ _ he hag2 hg'
   |ret=>exact hQ .ret _ _ _ _ he hag2 hg'
   |goto l=>exact hQ (.goto l) _ _ _ _ he hag2 hg'
 |cond c x y ihx ihy=>
  have ihx:=ihx.1;have ihy:=ihy.1;refine ⟨?_,fun l rest hf=>by simp [findLabel] at hf⟩;intro st K Q hQ h a w μ hg;change Cb (eW st.s c) (vc E x st K) (vc E y st K) at h;unfold Cb at h;have hr:=hg.eval c;have hx: ∀e st' a w μ,K e st'->Agree (wrs E x) st.s st'.s->Good w0 F st' a w μ->Q e.ex a w:=fun e st' a w μ h1 h2 h3=>hQ e st' a w μ h1 (h2.sub (fun i hi=>by simp [wrs,hi])) h3;have hy: ∀e st' a w μ,K e st'->Agree (wrs E y) st.s st'.s->Good w0 F st' a w μ->Q e.ex a w:=fun e st' a w μ h1 h2 h3=>hQ e st' a w μ h1 (h2.sub (fun i hi=>by simp [wrs,hi])) h3;split at h
  ·rename_i hc;rw [hc] at hr;exact wp_cond_true hr.kb_inv (ihx _ _ _ hx h _ _ _ hg)
  ·rename_i hc;rw [hc] at hr;exact wp_cond_false hr.kb_inv (ihy _ _ _ hy h _ _ _ hg)
  ·rename_i b hc;rw [hc] at hr;exact wp_cond_split hr.bool_inv (fun e=>ihx _ _ _ hx (h.1 e) _ _ _ hg) (fun e=>ihy _ _ _ hy (h.2 e) _ _ _ hg)
  ·rename_i p hc;rw [hc] at hr;generalize hu:a.eval c=u at hr;cases hr with
   | @bq _ b hp=>
    exact wp_cond_split hu (fun e=>ihx _ _ _ hx (h.1 (e▸hp)) _ _ _ hg) (fun e=>ihy _ _ _ hy (h.2 (e▸hp)) _ _ _ hg)
  ·exact h.elim
 |block id c ih=>
  have ih:=ih.1;refine ⟨?_,fun l rest hf=>by simp [findLabel] at hf⟩;intro st K Q hQ h a w μ hg;change vc E c st (rr id K) at h;refine wp_block (ih _ _ _ (fun e st' a' w' μ' he hag hg'=> ?_) h _ _ _ hg);cases e with
  |normal=>exact hQ .normal _ _ _ _ he hag hg'
  |exit i=>
   simp only [Leaf.ex,Exit.inBlock];simp only [rr] at he;split at he
   ·rename_i e;rw [Q_ e];exact hQ .normal _ _ _ _ he hag hg'
   ·rename_i e;rw [Q8 e];exact hQ (.exit i) _ _ _ _ he hag hg'
  |ret=>exact hQ .ret _ _ _ _ he hag hg'
  |goto l=>exact hQ (.goto l) _ _ _ _ he hag hg'
 |loop c ih=>
  have ih:=ih.1;refine ⟨?_,fun l rest hf=>by simp [findLabel] at hf⟩;intro st K Q hQ h a w μ hg;change Cc E.pins (E.unr (dJ c)) (E.heads (dJ c)) (wrs E c) (vc E c) st K at h;unfold Cc at h;have hsub: ∀i∈wrs E c,i∈wrs E (.loop c):=fun i hi=>by simp [wrs,hi]
  split at h
  ·refine wp_loop_ghost (fun n a' w'=> ∃st1 μ',Agree (wrs E c) st.s st1.s/\tD (vc E c) K n st1/\Good w0 F st1 a' w' μ') _ ⟨st,μ, .refl _ _,h,hg⟩ ?_;rintro n a' w' ⟨st1,μ',hag1,hn,hg1⟩;have key: ∀(J:St->Prop),(∀st2,J st2->∃m,m<n/\tD (vc E c) K m st2)->vc E c st1 (fV J K)->_:=fun J hJ hv=>
    ih st1 (fV J K) (Exit.then (fun a2 w2=> ∃m,m<n/\∃st2 μ2,Agree (wrs E c) st.s st2.s/\tD (vc E c) K m st2/\Good w0 F st2 a2 w2 μ2) Q) (fun e st2 a2 w2 μ2 he hag hg2=>by
     cases e with
     |normal=>
      obtain ⟨m,hm,hl⟩:=hJ _ he;exact ⟨m,hm,st2,μ2,hag1.trans hag,hl,hg2⟩
     |exit id=>exact hQ (.exit id) _ _ _ _ he ((hag1.trans hag).sub hsub) hg2
     |ret=>exact hQ .ret _ _ _ _ he ((hag1.trans hag).sub hsub) hg2
     |goto l=>exact hQ (.goto l) _ _ _ _ he ((hag1.trans hag).sub hsub) hg2) hv a' w' μ' hg1
   cases n with
   |zero=>exact key (fun _=>False) (fun _ hf=>hf.elim) hn
   |succ n=>exact key (tD (vc E c) K n) (fun st2 h2=>⟨n,by omega,h2⟩) hn
  ·rename_i ann hj;obtain ⟨h1,h2⟩:=h;obtain ⟨x0,μ0,k1,k2,k3,k4⟩:=jP hF h1 rfl hg.inv hg.slots;refine wp_loop_ghost (fun n a' w'=> ∃x μ',ann.inv st x/\ann.measure st x=n/\Good w0 F (head ann (wrs E c) st x) a' w' μ') _ ⟨x0,μ0,k1,rfl,⟨k2,k3,hg.below.anew k4,hg.defers⟩⟩ ?_;rintro n a' w' ⟨x,μ',hx,hm,hg'⟩;have hag4: ∀x,Agree (wrs E (.loop c)) st.s (head ann (wrs E c) st x).s:=fun x=>kQ hsub (fun i hi=>by simp only [wrs,hj,GT,Rn];exact .inr hi) _ _;refine ih _ _ _ (fun e st' a2 w2 μ2 he hag hg2=> ?_) (h2 x hx) _ _ _ hg';have hag5:Agree (wrs E (.loop c)) st.s st'.s:=(hag4 x).trans (hag.sub hsub);cases e with
   |normal=>
    have hmask:br (ann.m (wrs E c)) 0 st'.s=br (ann.m (wrs E c)) 0 st.s:=
     nm hag5.1 (fun i hi=>hag5.2 i (by simp only [wrs,hj,GT,Rn,not_or];exact Ann.m_off hi))
    obtain ⟨x2,μ3,⟨j1,j2⟩,j3,j4,j5⟩:=jP hF he hmask hg2.inv hg2.slots;exact ⟨_,by rw [hm] at j2;exact j2,x2,μ3,j1,rfl,⟨j3,j4,hg2.below.anew j5,hg2.defers⟩⟩
   |exit id=>exact hQ (.exit id) _ _ _ _ he hag5 hg2
   |ret=>exact hQ .ret _ _ _ _ he hag5 hg2
   |goto l=>exact hQ (.goto l) _ _ _ _ he hag5 hg2
 |exit id=>refine ⟨?_,fun l rest hf=>by simp [findLabel] at hf⟩;intro st K Q hQ h a w μ hg;exact wp_exit (hQ (.exit id) _ _ _ _ h (.refl _ _) hg)
 |label l'=>
  refine ⟨?_,fun l rest hf=> ?_⟩
  ·intro st K Q hQ h a w μ hg;exact wp_label (hQ .normal _ _ _ _ h (.refl _ _) hg)
  ·intro st K Q hQ h a w μ hg;simp only [findLabel] at hf;split at hf
   ·cases hf;simp only [vc2] at h;split at h
    ·exact wp_skip (hQ .normal _ _ _ _ h (.refl _ _) hg)
    ·exact h.elim
   ·cases hf
 |ret=>refine ⟨?_,fun l rest hf=>by simp [findLabel] at hf⟩;intro st K Q hQ h a w μ hg;exact wp_ret (hQ .ret _ _ _ _ h (.refl _ _) hg)
 |rangeFunc _ _ _ _ _ _=>refine ⟨?_,fun l rest hf=>by simp [findLabel] at hf⟩;intro st K Q hQ h a w μ hg;exact h.elim
 |scope c ih=>
  refine ⟨?_,fun l rest hf=>by simp [findLabel] at hf⟩;intro st K Q hQ h a w μ hg;change vO E.pins (fun l=>E.unr (2000000+l)) (gp c) (fun l=>E.joins (2000000+l)) (gx E c) (vc2 E c).1 (vc2 E c).2 st K at h;unfold vO at h;have hsub: ∀i∈wrs E c,i∈wrs E (.scope c):=fun i hi=>by simp [wrs,hi]
  split at h
  ·exact h.elim
  ·rename_i l hlb;split at h
   ·obtain ⟨rest,hfl⟩:=fh hlb;let p:Act->World->Nat->Prop:=fun a' w' n=> ∃st1 μ',Agree (wrs E c) st.s st1.s/\Cd l (vc2 E c).2 K n st1/\Good w0 F st1 a' w' μ'
    refine wp_scope_jumps l (fun a' w'=> ∃n,p a' w' n) (fun a' w'=>leastOf (p a' w')) hfl ?_ ?_
    ·refine ih.1 _ _ _ (fun e st' a' w' μ' he hag hg'=> ?_) h a w μ hg;have hag2:=hag.sub hsub;cases e with
     |normal=>exact hQ .normal _ _ _ _ he hag2 hg'
     |exit id=>exact hQ (.exit id) _ _ _ _ he hag2 hg'
     |ret=>exact hQ .ret _ _ _ _ he hag2 hg'
     |goto l'=>
      obtain ⟨rfl,he⟩:=he;exact ⟨rfl,_,st',μ',hag,he,hg'⟩
    ·intro a1 w1 hJ;obtain ⟨st1,μ1,hag1,hn,hg1⟩:=(leastOf_spec hJ).1;generalize hm:leastOf (p a1 w1)=n at hn;cases n with
     |zero=>exact hn.elim
     |succ n=>
      refine ih.2 l rest hfl _ _ _ (fun e st' a' w' μ' he hag hg'=> ?_) hn a1 w1 μ1 hg1;have hagw:Agree (wrs E c) st1.s st'.s:=hag.sub (fun i hi=>l9 hi);have hag2:=(hag1.trans hagw).sub hsub;cases e with
      |normal=>exact hQ .normal _ _ _ _ he hag2 hg'
      |exit id=>exact hQ (.exit id) _ _ _ _ he hag2 hg'
      |ret=>exact hQ .ret _ _ _ _ he hag2 hg'
      |goto l'=>
       obtain ⟨rfl,he⟩:=he;have hp:p a' w' n:=⟨st',μ',hag1.trans hagw,he,hg'⟩
       refine ⟨rfl,⟨_,hp⟩, ?_⟩;show leastOf (p a' w')<_;have:=(leastOf_spec ⟨_,hp⟩).2 _ hp;omega
   ·rename_i ann hj;obtain ⟨rest,hfl⟩:=fh hlb;let p:Act->World->Nat->Prop:=fun a' w' n=> ∃s1 x μ',Agree (wrs E c) st.s s1.s/\
     (∀x,ann.inv s1 x->(vc2 E c).2 l (head ann (gx E c l) s1 x) (y9 l (fun st'=>vC E.pins ann (gx E c l) s1 st' fun x'=>ann.inv s1 x'/\ann.measure s1 x'<ann.measure s1 x) K))/\
     ann.inv s1 x/\ann.measure s1 x=n/\Good w0 F (head ann (gx E c l) s1 x) a' w' μ'
    have hagh: ∀(s1:St) x,Agree (gx E c l++ann.ws) s1.s (head ann (gx E c l) s1 x).s:=fun s1 x=>kQ (fun i hi=>by simp [hi]) (fun i hi=>by simp [hi]) _ _;have hall: ∀i∈gx E c l++ann.ws,i∈wrs E (.scope c):=fun i hi=>by
     rcases Rn.1 hi with hi|hi
     ·exact hsub i (l9 hi)
     ·simp only [wrs,hlb,Rn];exact .inr (by simp only at hj;rw [hj];exact hi)
    refine wp_scope_jumps l (fun a' w'=> ∃n,p a' w' n) (fun a' w'=>leastOf (p a' w')) hfl ?_ ?_
    ·refine ih.1 _ _ _ (fun e st' a' w' μ' he hag hg'=> ?_) h a w μ hg;have hag2:=hag.sub hsub;cases e with
     |normal=>exact hQ .normal _ _ _ _ he hag2 hg'
     |exit id=>exact hQ (.exit id) _ _ _ _ he hag2 hg'
     |ret=>exact hQ .ret _ _ _ _ he hag2 hg'
     |goto l'=>
      obtain ⟨rfl,he,h2⟩:=he;obtain ⟨x2,μ3,j1,j3,j4,j5⟩:=jP hF he rfl hg'.inv hg'.slots;exact ⟨rfl,_,st',x2,μ3,hag,h2,j1,rfl,⟨j3,j4,hg'.below.anew j5,hg'.defers⟩⟩
    ·intro a1 w1 hJ;obtain ⟨s1,x,μ1,hag0,h2,hx,hmx,hg1⟩:=(leastOf_spec hJ).1;refine ih.2 l rest hfl _ _ _ (fun e st' a' w' μ' he hag hg'=> ?_) (h2 x hx) a1 w1 μ1 hg1;have hag3:Agree (gx E c l++ann.ws) s1.s st'.s:=(hagh s1 x).trans (hag.sub (fun i hi=>by simp [hi]));have hag2:=(hag0.sub hsub).trans (hag3.sub hall);cases e with
     |normal=>exact hQ .normal _ _ _ _ he hag2 hg'
     |exit id=>exact hQ (.exit id) _ _ _ _ he hag2 hg'
     |ret=>exact hQ .ret _ _ _ _ he hag2 hg'
     |goto l'=>
      obtain ⟨rfl,he⟩:=he;have hmask:br (ann.m (gx E c l')) 0 st'.s=br (ann.m (gx E c l')) 0 s1.s:=nm hag3.1 (fun i hi=>hag3.2 i (by
       have:=Ann.m_off hi;simp only [Rn,not_or];exact this))
      obtain ⟨x2,μ3,⟨j1,j2⟩,j3,j4,j5⟩:=jP hF he hmask hg'.inv hg'.slots;have hp:p a' w' (ann.measure s1 x2):=⟨s1,x2,μ3,hag0,h2,j1,rfl,⟨j3,j4,hg'.below.anew j5,hg'.defers⟩⟩
      refine ⟨rfl,⟨_,hp⟩, ?_⟩;show leastOf (p a' w')<leastOf (p a1 w1);rw [<-hmx];exact Nat.lt_of_le_of_lt ((leastOf_spec ⟨_,hp⟩).2 _ hp) j2
 |goto l=>refine ⟨?_,fun l rest hf=>by simp [findLabel] at hf⟩;intro st K Q hQ h a w μ hg;exact wp_goto (hQ (.goto l) _ _ _ _ h (.refl _ _) hg)
 |refuse _=>refine ⟨?_,fun l rest hf=>by simp [findLabel] at hf⟩;intro st K Q hQ h a w μ hg;exact h.elim
theorem l_ {w0:Start} {F:Fr} {E:Env} (hF: ∀e∈F.pin,e.1∈E.pins) (hS:SpecsOk E) (hm:E.P.follows .mixedOrders=true) (c:Code) (st:St) (K:Leaf->St->Prop) (Q:Exit->Act->World->Prop)
 (hQ: ∀e st' a w μ,K e st'->Agree (wrs E c) st.s st'.s->Good w0 F st' a w μ->Q e.ex a w) (h:vc E c st K) (a:Act) (w:World) (μ:Mu) (hg:Good w0 F st a w μ):c.wp E.P Q a w:=
 (GU hF hS hm c).1 st K Q hQ h a w μ hg
end Go.Vm
