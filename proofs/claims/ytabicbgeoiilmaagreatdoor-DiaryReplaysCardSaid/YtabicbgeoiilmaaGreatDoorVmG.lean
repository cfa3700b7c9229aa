import Derived.Test.YtabicbgeoiilmaaGreatDoorVmF
namespace Go.Vm
open Go.RowKit (Below)
def Ref (v v':V):Prop:= ∀(X:Ctx) (u:Value),Rep X v u->Rep X v' u
def RefL (s s':List V):Prop:=s'.length=s.length/\∀(i:Nat) v v',s[i]? =some v->s'[i]? =some v'->Ref v v'
theorem Ref.refl (v:V):Ref v v:=fun _ _ h=>h
theorem RefL.refl (s:List V):RefL s s:=⟨rfl,fun i v v' h h'=>by rw [h] at h';cases h';exact .refl _⟩
theorem RefL.trans {s t u:List V} (h:RefL s t) (k:RefL t u):RefL s u:=by
 refine ⟨k.1.trans h.1,fun i v v' hv hv'=> ?_⟩;have hi:i<t.length:=by rw [h.1];exact (List.getElem?_eq_some_iff.1 hv).1
 exact fun X x hx=>k.2 i _ v' (List.getElem?_eq_getElem hi) hv' X x (h.2 i v _ hv (List.getElem?_eq_getElem hi) X x hx)
theorem yR (s:List V) (d:Option Nat) (v:V):(cW s d v).length=s.length:=by cases d<;>simp [cW]
theorem RefL.put {s t:List V} (h:RefL s t) (d:Option Nat) (v:V):RefL (cW s d v) (cW t d v):=by
 cases d with
 |none=>exact h
 |some d=>
  refine ⟨by simpa [cW] using h.1,fun i x x' hx hx'=> ?_⟩;simp only [cW,List.getElem?_set] at hx hx';split at hx
  ·rename_i e;subst e;rw [Q_ rfl] at hx';split at hx
   ·cases hx;split at hx'
    ·cases hx';exact .refl _
    ·cases hx'
   ·cases hx
  ·rename_i e;rw [Q8 e] at hx';exact h.2 i x x' hx hx'
theorem RepL.ref {X:Ctx} {s t:List V} {us:List Value} (h:RefL s t) (hr:RepL X s us):RepL X t us:=
 ⟨by rw [h.1];exact hr.1,fun j c u hc hu=>by
  have hj:j<s.length:=by rw [<-h.1];exact (List.getElem?_eq_some_iff.1 hc).1
  exact h.2 j _ c (List.getElem?_eq_getElem hj) hc X u (hr.2 j _ u (List.getElem?_eq_getElem hj) hu)⟩
def Lg (P:Program) (all:Array Oper) (o:Oper) (s:List V) (v:V) (σ σ':Store):Prop:=
 ∀(B:Nat->Prop) (F:Fr) (a:Act) (w:World) (μ:Mu),Inv B ⟨w,σ,μ,F⟩->(∀b,w.heap.size<=b->B b)->a.tmps.size=s.length->
  (∀x∈o.looksAt all,∀c u,s[x]? =some c->a.tmps[x]? =some u->Rep ⟨w,σ,μ,F⟩ c u)->
  (Region.wanted o (yielded all a.tmps)=true->OpRuns P o a.eval w fun u w'=> ∃μ',Inv B ⟨w',σ',μ',F⟩/\Rep ⟨w',σ',μ',F⟩ v u/\Evo ⟨w,σ,μ,F⟩ ⟨w',σ',μ',F⟩)/\
  (Region.wanted o (yielded all a.tmps)=false->σ'=σ/\v= .tuple [])
theorem vF {X:Ctx} {s:List V} {a:Act} (hsz:a.tmps.size=s.length) {x:Operand} (h: ∀t,x= .tmp t->∀c u,s[t]? =some c->a.tmps[t]? =some u->Rep X c u):Rep X (eW s x) (a.eval x):=by
 cases x with
 |tmp t=>
  simp only [eW,Act.eval];by_cases ht:t<s.length
  ·have h1:s[t]? =some s[t]:=List.getElem?_eq_getElem ht;have ht2:t<a.tmps.size:=by rw [hsz];exact ht
   have h2:a.tmps[t]? =some a.tmps[t]:=Array.getElem?_eq_getElem ht2;have:=h t rfl _ _ h1 h2;simpa [nth,h1,Rv,h2] using this
  ·have h1:s[t]? =none:=List.getElem?_eq_none (Nat.le_of_not_lt ht);have h2:a.tmps[t]? =none:=Array.getElem?_eq_none (by rw [hsz];exact Nat.le_of_not_lt ht);simp only [nth,h1,Rv,h2,Option.getD_none];exact .tuple rfl (fun j c u hc=>by simp at hc)
 |const v=>exact BF _ _
 |global g=>exact .any
 |func f=>exact .fn rfl rfl (fun j c u hc=>by simp at hc) (fun j c u hc=>by simp at hc)
theorem rl {all:Array Oper} {o:Oper} {t:Nat} (h:Operand.tmp t∈o.op.operands.toList):t∈o.looksAt all:=by
 unfold Oper.looksAt;rw [Rn];exact .inl (List.mem_filterMap.2 ⟨_,h,rfl⟩)
theorem yS {all:Array Oper} {o:Oper} {g d:Nat} {want:Bool} (h:o.guard=some (g,want)) (hd:(all[g]?).bind (·.dst)=some d):d∈o.looksAt all:=by
 unfold Oper.looksAt;rw [Rn,h];simp only [hd];exact .inr (by simp)
def BX (all:Array Oper) (o:Oper) (st:St):Bool:=
 match o.guard with
 |none=>true
 |some (g,_)=>match (all[g]?).bind (·.dst) with
  |some d=>match nth st.s d with
   |some (.bq _)=>false
   |_=>true
  |none=>true
theorem vG {E:Env} (hS:SpecsOk E) {all:Array Oper} {o:Oper} {st:St} {next:St->Prop} (hmem:o∈all.toList) (hpl:BX all o st=true) (h:vE E all o st next):
 ∃v st',next st'/\RefL (cW st.s o.dst v) st'.s/\Lg E.P all o st.s v st.σ st'.σ/\Agree (fg all.toList) st.s st'.s:=by
 have hdst: ∀d,o.dst=some d->d∈fg all.toList:=fun d hd=>jn hmem hd;have hag: ∀v,Agree (fg all.toList) st.s (cW st.s o.dst v):=fun v=>eF (.refl _ _) hdst;have run: ∀{s:List V},RefL st.s s->∀{next:St->Prop},qZ E o (eW s) st.σ (fun v σ'=>next ⟨cW s o.dst v,σ'⟩)->∃v σ',next ⟨cW s o.dst v,σ'⟩/\
  ∀(B:Nat->Prop) (F:Fr) (a:Act) (w:World) (μ:Mu),Inv B ⟨w,st.σ,μ,F⟩->(∀b,w.heap.size<=b->B b)->a.tmps.size=st.s.length->
   (∀x∈o.looksAt all,∀c u,st.s[x]? =some c->a.tmps[x]? =some u->Rep ⟨w,st.σ,μ,F⟩ c u)->
   OpRuns E.P o a.eval w fun u w'=> ∃μ',Inv B ⟨w',σ',μ',F⟩/\Rep ⟨w',σ',μ',F⟩ v u/\Evo ⟨w,st.σ,μ,F⟩ ⟨w',σ',μ',F⟩:=by
  intro s hs next h
  obtain ⟨v,σ',hk,hok⟩:=OW hS h;refine ⟨v,σ',hk,fun B F a w μ hI hB hsz hl=>hok B F a.eval w μ hI hB fun x hx=>vF (by rw [hs.1];exact hsz) ?_⟩;rintro t rfl c u hc hu;have ht:t<st.s.length:=by rw [<-hs.1];exact (List.getElem?_eq_some_iff.1 hc).1
  exact hs.2 t _ c (List.getElem?_eq_getElem ht) hc _ u (hl t (rl hx) _ u (List.getElem?_eq_getElem ht) hu)
 unfold vE at h;split at h
 ·rename_i hgd;obtain ⟨v,σ',hk,hok⟩:=run (.refl _) h;exact ⟨v,_,hk, .refl _,fun B F a w μ hI hB hsz hl=>⟨fun _=>hok B F a w μ hI hB hsz hl,fun hw=>by simp [Region.wanted,hgd] at hw⟩,hag _⟩
 ·rename_i g want hgd;split at h
  ·rename_i d hd;have hy: ∀{X:Ctx} {a:Act} {c:V},a.tmps.size=st.s.length->nth st.s d=some c->(∀x∈o.looksAt all,∀c u,st.s[x]? =some c->a.tmps[x]? =some u->Rep X c u)->
    ∃u,Rep X c u/\yielded all a.tmps g=(match u with
     | .bool b=>some b
     |_=>none):=by
    intro X a c hsz hc hl;have hlt:d<st.s.length:=(List.getElem?_eq_some_iff.1 hc).1;have hlt2:d<a.tmps.size:=by rw [hsz];exact hlt
    have h2:a.tmps[d]? =some a.tmps[d]:=Array.getElem?_eq_getElem hlt2;refine ⟨_,hl d (yS hgd hd) c _ hc h2, ?_⟩;unfold yielded;rw [hd];simp only [Sy,h2];split<;>simp_all
   split at h
   ·rename_i b hb;split at h
    ·rename_i e;subst e;obtain ⟨v,σ',hk,hok⟩:=run (.refl _) h;refine ⟨v,_,hk, .refl _,fun B F a w μ hI hB hsz hl=>⟨fun _=>hok B F a w μ hI hB hsz hl,fun hw=> ?_⟩,hag _⟩;obtain ⟨u,hu,hyy⟩:=hy hsz hb hl;rw [hu.kb_inv] at hyy;simp [Region.wanted,hgd,hyy] at hw
    ·rename_i e;refine ⟨_,_,h, .refl _,fun B F a w μ hI hB hsz hl=>⟨fun hw=> ?_,fun _=>⟨rfl,rfl⟩⟩,hag _⟩;obtain ⟨u,hu,hyy⟩:=hy hsz hb hl;rw [hu.kb_inv] at hyy;simp [Region.wanted,hgd,hyy] at hw;exact absurd hw e
   ·rename_i b hb;have hdW:d∈fg all.toList:=by
     simp only [Ra] at hd;obtain ⟨x,hx,hxd⟩:=hd;exact jn (Rr (by simpa using hx)) hxd
    have hag2: ∀c v,Agree (fg all.toList) st.s (cW (st.s.set d c) o.dst v):=fun c v=>
     eF (eF (d:=some d) (.refl _ _) (fun i e=>by cases e;exact hdW)) hdst
    have hset: ∀c,b=c->RefL st.s (st.s.set d (.kb c)):=by
     intro c e;refine ⟨by simp,fun i v v' hv hv'=> ?_⟩;rw [List.getElem?_set] at hv';split at hv'
     ·rename_i e2;subst e2;split at hv'
      ·cases hv';rw [show st.s[d]? =_ from hb] at hv;cases hv;intro X u hu;rw [hu.bool_inv,e];exact .kb
      ·cases hv'
     ·rw [hv] at hv';cases hv';exact .refl _
    by_cases e:b=want
    ·obtain ⟨v,σ',hk,hok⟩:=run (hset _ e) (h.1 e);refine ⟨v,_,hk,(hset _ e).put _ _,fun B F a w μ hI hB hsz hl=>⟨fun _=>hok B F a w μ hI hB hsz hl,fun hw=> ?_⟩,hag2 _ _⟩;obtain ⟨u,hu,hyy⟩:=hy hsz hb hl;rw [hu.bool_inv] at hyy;simp [Region.wanted,hgd,hyy,e] at hw
    ·have e2:b= !want:=by cases b<;>cases want<;>simp_all
     refine ⟨_,_,h.2 e2,(hset _ e2).put _ _,fun B F a w μ hI hB hsz hl=>⟨fun hw=> ?_,fun _=>⟨rfl,rfl⟩⟩,hag2 _ _⟩;obtain ⟨u,hu,hyy⟩:=hy hsz hb hl;rw [hu.bool_inv] at hyy;simp [Region.wanted,hgd,hyy] at hw;exact absurd hw e
   ·rename_i p hb;simp only [BX,hgd,hd,hb] at hpl;cases hpl
   ·rename_i hb;refine ⟨_,_,h, .refl _,fun B F a w μ hI hB hsz hl=>⟨fun hw=> ?_,fun _=>⟨rfl,rfl⟩⟩,hag _⟩;obtain ⟨u,hu,hyy⟩:=hy hsz hb hl;obtain ⟨vs,rfl,_⟩:=hu.tuple_inv;simp [Region.wanted,hgd,hyy] at hw
   ·exact h.elim
  ·exact h.elim
def dH (ms:List Nat) (i:Nat):Nat:=(nth ms i).getD 0
def nn (ms:List Nat):List Edge->Nat
 |[]=>0
 |e::r=>if Region.binds .any e then ((1<<<e.on)|||(dH ms e.on|||nn ms r)) else nn ms r
def cD:List Oper->List Nat->List Nat
 |[],ms=>ms
 |o::r,ms=>cD r (ms++[nn ms o.after.toList])
def BZ (l:List Oper) (on:Nat->Prop):Prop:= ∀i o,l[i]? =some o->on i->∀e∈o.after.toList,Region.binds .any e=true->on e.on
def B1 (on:Nat->Prop) (ms:List Nat):Prop:= ∀(i m:Nat),ms[i]? =some m->on i->∀j,m.testBit j=true->on j
theorem tx {on:Nat->Prop} {ms:List Nat} (hm:B1 on ms): ∀{l:List Edge},(∀e∈l,Region.binds .any e=true->on e.on)->∀j,(nn ms l).testBit j=true->on j
 |[],_,j,h=>by simp [nn] at h
 |e::r,hl,j,h=>by
  have ih:=tx hm (l:=r) (fun e he=>hl e (Rq _ he));simp only [nn] at h;split at h
  ·rename_i hb;have he:=hl e RF hb;simp only [Nat.testBit_or,RT] at h;rcases h with h|h|h
   ·rw [Nat.one_shiftLeft,Nat.testBit_two_pow] at h;have:e.on=j:=by simpa using h
    exact this▸he
   ·unfold dH at h;cases hn:nth ms e.on with
    |none=>rw [hn] at h;simp at h
    |some m=>
     rw [hn] at h;exact hm e.on m hn he j h
   ·exact ih j h
  ·exact ih j h
theorem iC {on:Nat->Prop} {all:List Oper} (hc:BZ all on): ∀{l:List Oper} {ms:List Nat},all.drop ms.length=l->B1 on ms->B1 on (cD l ms)
 |[],_,_,h=>h
 |o::r,ms,hl,h=>by
  simp only [cD];have h0:all[ms.length]? =some o:=by
   have:=congrArg (·[0]?) hl;simpa [List.getElem?_drop] using this
  refine iC hc ?_ ?_
  ·have:=congrArg (List.drop 1) hl;simpa [SK] using this
  ·intro i m hi hon j hj;by_cases e:i<ms.length
   ·rw [List.getElem?_append_left e] at hi;exact h i m hi hon j hj
   ·rw [List.getElem?_append_right (by omega)] at hi;have e2:i=ms.length:=by
     have:=(List.getElem?_eq_some_iff.1 hi).1;simp at this;omega
    subst e2;simp at hi;subst hi;exact tx h (hc _ o h0 hon) j hj
def dI (l:List Oper):List Nat:=l.zipIdx.map fun p=>p.1.dst.getD (1000000+p.2)
def DA (ops:Array Oper) (ds:List Nat) (t i m:Nat) (o:Oper):Bool:=
 (o.looksAt ops).all fun x=>(List.range t).all fun j=> !(nth ds j==some x)||(decide (j<i)&&m.testBit j)
def Qm (i:Nat) (o:Oper):Bool:=o.after.toList.all fun e=>decide (e.on<i)|| !Region.binds .any e
def kp (t n:Nat):Array Bool:=(List.replicate t true++List.replicate (n-t) false).toArray
def Lh (ops : Array Oper) (ms : List Nat) (t : Nat) : Bool :=
  decide (t <= ops.size) && bP (dI (ops.toList.take t)) &&
  ((List.range t).all fun i => match nth ops.toList i with
    | some o => DA ops (dI (ops.toList.take t)) t i (dH ms i) o
    | none => false) &&
  ((List.range ops.size).all fun i => match nth ops.toList i with
    | some o => Qm i o
    | none => true) &&
  ((List.range ops.size).all fun i => decide (i < t) || (List.range t).all fun j => (dH ms i).testBit j) &&
  Region.seqB .any ops (ops.size - t) t (kp t ops.size)
def np (ms:List Nat):Nat->Nat
 |0=>0
 |i+1=>if (List.range i).all fun j=>(dH ms i).testBit j then np ms i else i+1
def N0 (σ:Store) (k:K):K:=fun v σ'=>σ'=σ/\k v σ'
section
variable {P:Program} {E:Env} {t:TypeId} {σ:Store} {k:K} {a x y i v:V} {op:BinOp} {f dst:Nat}
theorem nq {f g:Nat->Prop} (h: ∀i,f i->g i): ∀(L:List Nat),L.foldr (fun (i:Nat) (acc:Prop)=>f i/\acc) True->L.foldr (fun (i:Nat) (acc:Prop)=>g i/\acc) True
 |[],h=>h
 |a::r,hL=>⟨h a hL.1,nq h r hL.2⟩
end
def N (σ:Store) (k:K):K:=fun v σ'=>(∃p,σ'=p++σ)/\k v σ'
section
variable {P:Program} {E:Env} {t:TypeId} {σ:Store} {k:K} {a x y i v:V} {op:BinOp} {f dst:Nat}
theorem Oz : tc P t a σ k -> tc P t a σ (N σ k) := by
  unfold tc
  repeat' split
  all_goals first
    | exact id
    | exact fun h => ⟨⟨[], rfl⟩, h⟩
    | (refine fun h => ⟨h.1, fun x hx => ?_⟩
       have h2 := h.2 x hx
       revert h2
       repeat' split
       all_goals first
         | exact id
         | exact fun h => ⟨⟨[], rfl⟩, h⟩)
theorem DB {wr:Bool} {kd:IntKind} {n:Int}:num wr kd n σ k->num wr kd n σ (N σ k):=by
 unfold num;split
 ·exact fun h=>⟨⟨[],rfl⟩,h⟩
 ·exact fun h=>⟨h.1,⟨[],rfl⟩,h.2⟩
theorem Li {wr:Bool} {kd:IntKind} {n m:Int}:m9 wr op kd n m σ k->m9 wr op kd n m σ (N σ k):=by
 unfold m9;split;all_goals first
  |exact DB
  |exact id
  |exact fun h=>⟨⟨[],rfl⟩,h⟩
  |exact fun h=>⟨h.1,DB h.2⟩
  |exact fun h=>⟨h.1,⟨[],rfl⟩,h.2⟩
theorem Lj {l m:List UInt8}:m_ op l m σ k->m_ op l m σ (N σ k):=by
 unfold m_;split;all_goals first
  |exact id
  |exact fun h=>⟨⟨[],rfl⟩,h⟩
  |exact fun h=>⟨h.1,⟨[],rfl⟩,h.2⟩
theorem DC {c:Option Bool} {b:Bool}:jg op c b σ k->jg op c b σ (N σ k):=by
 unfold jg;split;all_goals first
  |exact id
  |exact fun h=>⟨⟨[],rfl⟩,h⟩
theorem Qn:Gs E op t x y dst σ k->Gs E op t x y dst σ (N σ k):=by
 unfold Gs;repeat' split
 all_goals first
  |exact id
  |exact fun h=>⟨⟨[],rfl⟩,h⟩
  |exact fun h=>⟨h.1,⟨[],rfl⟩,h.2⟩
  |exact Li
  |exact Lj
  |exact DC
theorem Qo {yo:Operand}:Gt E op t yo x y dst σ k->Gt E op t yo x y dst σ (N σ k):=by
 unfold Gt;split
 ·exact DC
 ·exact Qn
theorem QY {op:UnOp}:unV E op x dst σ k->unV E op x dst σ (N σ k):=by
 unfold unV;repeat' split
 all_goals first
  |exact id
  |exact DB
  |exact fun h=>⟨⟨[],rfl⟩,h⟩
theorem OA {s d:TypeId}:td E s d x dst σ k->td E s d x dst σ (N σ k):=by
 unfold td;repeat' split
 all_goals first
  |exact id
  |exact DB
  |exact fun h=>⟨⟨[],rfl⟩,h⟩
theorem yT:fq x σ k->fq x σ (N σ k):=by
 unfold fq;repeat' split
 all_goals first
  |exact id
  |exact fun h=>⟨⟨[],rfl⟩,h⟩
theorem Ll {ps:List (Nat×V)}:m8 P t ps σ k->m8 P t ps σ (N σ k):=by
 unfold m8;repeat' split
 all_goals first
  |exact id
  |exact fun h=>⟨⟨[],rfl⟩,h⟩
theorem vH:eB P t x f σ k->eB P t x f σ (N σ k):=by
 unfold eB;repeat' split
 all_goals first
  |exact id
  |exact fun h=>⟨⟨[],rfl⟩,h⟩
theorem Lm:nb P t x f σ k->nb P t x f σ (N σ k):=by
 unfold nb;repeat' split
 all_goals first
  |exact id
  |exact fun h=>⟨⟨[],rfl⟩,h⟩
theorem vI {n:Nat} {ps:List (Nat×V)}:ez E t n ps σ k->ez E t n ps σ (N σ k):=by
 unfold ez;repeat' split
 all_goals first
  |exact id
  |exact fun h=>⟨⟨[],rfl⟩,h⟩
theorem vJ:de E t x i σ k->de E t x i σ (N σ k):=by
 unfold de;repeat' split
 all_goals first
  |exact id
  |exact fun h=>⟨⟨[],rfl⟩,h⟩
  |exact fun h=>⟨h.1,⟨[],rfl⟩,h.2⟩
  |exact fun h=>⟨h.1,fun x hx=>⟨⟨[],rfl⟩,h.2 x hx⟩⟩
  |exact fun h=>⟨h.1,nq (fun i hi e=>⟨⟨[],rfl⟩,hi e⟩) _ h.2⟩
theorem B2:gS E t x i σ k->gS E t x i σ (N σ k):=by
 unfold gS;repeat' split
 all_goals first
  |exact id
  |exact fun h=>⟨h.1,nq (fun i hi e=>⟨⟨[],rfl⟩,hi e⟩) _ h.2⟩
theorem B3:gT E t x i σ k->gT E t x i σ (N σ k):=by
 unfold gT;repeat' split
 all_goals first
  |exact id
  |exact fun h=>⟨h.1,⟨[],rfl⟩,h.2⟩
theorem B4:gU E t x i σ k->gU E t x i σ (N σ k):=by
 unfold gU;repeat' split
 all_goals first
  |exact id
  |exact fun h=>⟨h.1,⟨[],rfl⟩,h.2⟩
theorem Lo:ne E t x i σ k->ne E t x i σ (N σ k):=by
 unfold ne;repeat' split
 all_goals first
  |exact id
  |exact fun h=>⟨⟨[],rfl⟩,h⟩
  |exact fun h=>⟨h.1,fun x hx=>⟨⟨[],rfl⟩,h.2 x hx⟩⟩
theorem OX {mx:Bool} {y:V}:mmV mx x y σ k->mmV mx x y σ (N σ k):=by
 unfold mmV;repeat' split
 all_goals first
  |exact id
  |exact fun h=>⟨⟨[],rfl⟩,h⟩
theorem Lp:ng x σ k->ng x σ (N σ k):=by
 unfold ng;repeat' split
 all_goals first
  |exact id
  |exact fun h=>⟨⟨[],rfl⟩,h⟩
  |exact fun h=>⟨h.1,⟨[],rfl⟩,h.2⟩
theorem OB {y:V}:th P t x y σ k->th P t x y σ (N σ k):=by
 unfold th;repeat' split
 all_goals first
  |exact id
  |exact fun h=>⟨h.1,⟨[],rfl⟩,h.2⟩
  |exact fun h=>⟨h.1,⟨[_],rfl⟩,h.2⟩
theorem Lq:qY E t x σ k->qY E t x σ (N σ k):=by
 unfold qY;repeat' split
 all_goals first
  |exact id
  |exact fun h=>⟨h.1,⟨[_],rfl⟩,h.2⟩
theorem Qp : Gu E t x σ k -> Gu E t x σ (N σ k) := by
  unfold Gu
  repeat' split
  all_goals first
    | exact id
    | (refine fun h => ⟨h.1, fun y hy => ?_⟩
       have h2 := h.2 y hy
       revert h2
       split
       · exact fun h => ⟨⟨[], rfl⟩, h⟩
       · exact id)
    | exact fun h => ⟨⟨[], rfl⟩, h⟩
theorem Lr {lo hi mx:Option V}:na E t x lo hi mx σ k->na E t x lo hi mx σ (N σ k):=by
 unfold na;repeat' split
 all_goals first
  |exact id
  |exact fun h=>⟨⟨[],rfl⟩,h⟩
  |exact fun h=>⟨h.1,⟨[],rfl⟩,h.2⟩
theorem rV {n:Nat} {ps:List (Nat×V)}:dQ E t n ps dst σ k->dQ E t n ps dst σ (N σ k):=by
 unfold dQ;repeat' split
 all_goals first
  |exact vI
  |exact id
  |exact fun h=>⟨⟨[],rfl⟩,h⟩
  |exact fun h=>⟨⟨[_],rfl⟩,h⟩
theorem Ls:m7 P t dst σ k->m7 P t dst σ (N σ k):=by
 unfold m7;repeat' split
 all_goals first
  |exact id
  |exact fun h=>⟨⟨[_],rfl⟩,h⟩
theorem Lt:m0 P t dst σ k->m0 P t dst σ (N σ k):=by
 unfold m0;repeat' split
 all_goals first
  |exact id
  |exact fun h=>⟨⟨[_],rfl⟩,h⟩
theorem Qq:Gr dst v σ k->Gr dst v σ (N σ k):=by
 unfold Gr;repeat' split
 all_goals first
  |exact id
  |exact fun h=>⟨⟨[_],rfl⟩,h⟩
theorem yU : gu P t a x σ k -> gu P t a x σ (N σ k) := by
  unfold gu
  repeat' split
  all_goals first
    | exact id
    | exact fun h => ⟨⟨[_], rfl⟩, h⟩
    | (refine fun h => ⟨h.1, fun y hy => ?_⟩
       have h2 := h.2 y hy
       revert h2
       repeat' split
       all_goals first
         | exact id
         | exact fun h => ⟨⟨[_], rfl⟩, h⟩)
theorem Qr {o:Nat×Obj} {σ:Store} {k:K} {v:V} {σ':Store} (h:N (o::σ) k v σ'):N σ k v σ':=by
 obtain ⟨⟨p,hp⟩,h⟩:=h;exact ⟨⟨p++[o],by rw [hp];simp⟩,h⟩
theorem yV {k k' : K} (hk : ∀ v s, k v s -> k' v s) : gu P t a x σ k -> gu P t a x σ k' := by
  unfold gu
  repeat' split
  all_goals first
    | exact id
    | exact fun h => hk _ _ h
    | (refine fun h => ⟨h.1, fun y hy => ?_⟩
       have h2 := h.2 y hy
       revert h2
       repeat' split
       all_goals first
         | exact id
         | exact fun h => hk _ _ h)
theorem Lu:mZ P t a x σ k->mZ P t a x σ (N σ k):=by
 unfold mZ;split
 ·split
  ·split
   ·exact fun h=>yV (fun v s h=>Qr h) (yU h)
   ·exact id
  ·exact id
 ·exact yU
theorem vK : fR E t x y dst σ k -> fR E t x y dst σ (N σ k) := by
  unfold fR
  repeat' split
  all_goals first
    | exact id
    | exact fun h => ⟨h.1, ⟨[_], rfl⟩, h.2⟩
    | (refine fun h => ⟨h.1, ?_⟩
       have h2 := h.2
       revert h2
       repeat' split
       all_goals first
         | exact id
         | exact fun h => ⟨⟨[_], rfl⟩, h⟩)
theorem tz {seg : (ty : Ty) -> Option (List ty.den)} : ir E t x seg dst σ k -> ir E t x seg dst σ (N σ k) := by
  unfold ir
  repeat' split
  all_goals first
    | exact id
    | exact fun h => ⟨h.1, ⟨[_], rfl⟩, h.2⟩
    | (refine fun h => ⟨h.1, fun y hy => ?_⟩
       have h2 := h.2 y hy
       revert h2
       repeat' split
       all_goals first
         | exact id
         | exact fun h => ⟨h.1, ⟨[_, _, _], rfl⟩, h.2⟩)
theorem GO:oX E t x y dst σ k->oX E t x y dst σ (N σ k):=tz
theorem GP:oY E t x y dst σ k->oY E t x y dst σ (N σ k):=tz
theorem OC {f:V} {args:List V}:tg E f args dst σ k->tg E f args dst σ (N σ k):=by
 unfold tg;split
 ·split
  ·split
   ·exact fun h=>⟨h.1,⟨_,rfl⟩,h.2⟩
   ·split
    ·split
     ·refine fun h=>⟨h.1, ?_⟩
      have h2:=h.2;revert h2;split
      ·exact fun h=>⟨⟨[],rfl⟩,h⟩
      ·exact id
     ·split
      ·refine fun h=>⟨h.1, ?_⟩
       have h2:=h.2;revert h2;repeat' split
       all_goals first
        |exact id
        |exact fun h=>⟨⟨[],rfl⟩,h⟩
        |exact fun h=>⟨⟨_,rfl⟩,h⟩
      ·exact id
    ·exact id
  ·split
   ·exact fun h=>⟨h.1,⟨[],rfl⟩,h.2⟩
   ·exact id
 ·exact id
theorem GQ {m:V} {ok:Bool}:jM P t m x ok σ k->jM P t m x ok σ (N σ k):=by
 unfold jM;repeat' split
 all_goals first
  |exact id
  |exact fun h=>⟨h.1,⟨[],rfl⟩,h.2⟩
theorem GR {m y:V}:lL P t m x y σ k->lL P t m x y σ (N σ k):=by
 unfold lL;repeat' split
 all_goals first
  |exact id
  |exact fun h=>⟨h.1,⟨[_],rfl⟩,h.2⟩
theorem B5 {r:Option V}:jh E t r dst σ k->jh E t r dst σ (N σ k):=by
 unfold jh;repeat' split
 all_goals first
  |exact id
  |exact fun h=>⟨⟨[_],rfl⟩,h⟩
theorem vL {o:Oper} {ρ:Operand->V}:qZ E o ρ σ k->qZ E o ρ σ (N σ k):=by
 unfold qZ;simp only;cases ho:o.op with
 |move _=>exact fun h=>⟨⟨[],rfl⟩,h⟩
 |assign _=>exact fun h=>⟨⟨[],rfl⟩,h⟩
 |pick _ _ _=>
  simp only;repeat' split
  all_goals first
   |exact id
   |exact fun h=>⟨⟨[],rfl⟩,h⟩
 |alloc _=>
  simp only;split
  ·exact Ls
  ·exact Lt
 |box _ _=>exact Qq
 |store _ _ _=>exact Lu
 |makeSlice _ _ _=>exact vK
 |build _ _=>exact Ll
 |load _ _=>exact Oz
 |nilCheck _=>exact yT
 |binOp _ _ _ _ _=>exact fun h=>Qo h
 |unOp _ _ _=>exact QY
 |convert _ _ _=>exact OA
 |makeFunc _ _ _=>exact fun h=>⟨⟨[],rfl⟩,h⟩
 |slice _ _ _ _ _=>
  exact Lr
 |fieldAddr _ _ _=>exact vH
 |field _ _ _=>exact Lm
 |indexAddr _ _ _=>
  simp only;split
  ·split
   ·exact B3
   ·exact B2
  ·exact vJ
 |index _ _ _=>
  simp only;split
  ·exact B4
  ·exact Lo
 |extract _ _=>
  simp only;repeat' split
  all_goals first
   |exact id
   |exact fun h=>⟨⟨[],rfl⟩,h⟩
 |buildSlice _ _ _=>exact rV
 |lookup _ _ _ _=>exact GQ
 |mapUpdate _ _ _ _=>exact GR
 |makeMap _ _=>exact B5
 |call c=>
  simp only;split
  ·repeat' split
   all_goals first
    |exact id
    |exact Qp
  ·repeat' split
   all_goals first
    |exact id
    |exact GO
    |exact GP
  ·repeat' split
   all_goals first
    |exact id
    |exact OX
  ·repeat' split
   all_goals first
    |exact id
    |exact OX
  ·exact OC
  ·repeat' split
   all_goals first
    |exact id
    |exact Lq
  ·repeat' split
   all_goals first
    |exact id
    |exact Lp
  ·repeat' split
   all_goals first
    |exact id
    |exact OB
  ·exact id
 |_=>exact id
theorem Qs {all:Array Oper} {o:Oper} {st:St} {next:St->Prop}:vE E all o st next->vE E all o st fun st'=>(∃p,st'.σ=p++st.σ)/\next st':=by
 unfold vE;split
 ·exact vL
 ·split
  ·split
   ·split
    ·exact vL
    ·exact fun h=>⟨⟨[],rfl⟩,h⟩
   ·exact fun h=>⟨fun e=>vL (h.1 e),fun e=>⟨⟨[],rfl⟩,h.2 e⟩⟩
   ·exact fun h=>⟨fun e=>vL (h.1 e),fun e=>⟨⟨[],rfl⟩,h.2 e⟩⟩
   ·exact fun h=>⟨⟨[],rfl⟩,h⟩
   ·exact id
  ·exact id
end
mutual
def Lv:Nat->V->List Nat
 |0,_=>[]
 |n+1,v=>match v with
  | .slc id _ _=>[id]
  | .ptr id _=>[id]
  | .own id _=>[id]
  | .eptr id _ _ _=>[id]
  | .rows _ cells=>fU n cells
  | .nslc id=>[id]
  | .nptr id _ _=>[id]
  | .nin id _ _=>[id]
  | .oref id=>[id]
  | .fptr cells=>fU n cells
  | .fn _ a b=>fU n a++fU n b
  | .agg cells=>fU n cells
  | .tuple cells=>fU n cells
  | .iface _ x=>Lv n x
  |_=>[]
def fU:Nat->List V->List Nat
 |0,_=>[]
 |_+1,[]=>[]
 |n+1,v::r=>Lv n v++fU n r
end
def rm (σ:Store):Nat->List Nat->List Nat->List Nat
 |0,_,acc=>acc
 |_+1,[],acc=>acc
 |n+1,k::r,acc=>if acc.contains k then rm σ n r acc else match σ.get k with
  |some (.box cells)=>rm σ n (fU 60 cells++r) (k::acc)
  |some _=>rm σ n r (k::acc)
  |none=>rm σ n r acc
def yW (σ:Store):List Nat->Store
 |[]=>[]
 |k::r=>match σ.get k with
  |some o=>(k,o)::yW σ r
  |none=>yW σ r
theorem rn {σ:Store}: ∀{l:List Nat} {k:Nat} {o:Obj},(yW σ l).get k=some o->σ.get k=some o
 |[],k,o,h=>by simp [yW,Store.get] at h
 |j::r,k,o,h=>by
  unfold yW at h;split at h
  ·rename_i o' ho;rw [a7] at h;split at h
   ·rename_i e;subst e;rw [ho];exact h
   ·exact rn h
  ·exact rn h
def DD (τ:Store):Bool:=τ.all fun p=>match p.2 with
 | .box cells=>lR τ 60 cells
 |_=>true
theorem DE: ∀{τ:Store} {k:Nat} {o:Obj},τ.get k=some o->(k,o)∈τ
 |[],k,o,h=>by simp [Store.get] at h
 |(i,p)::r,k,o,h=>by
  rw [a7] at h;split at h
  ·rename_i e;subst e;cases h;exact RF
  ·exact Rq _ (DE h)
def bc:Store->List Nat
 |[]=>[]
 |(k,_)::r=>k::bc r
theorem fv: ∀{τ:Store} {k:Nat},k∉bc τ->τ.get k=none
 |[],_,_=>rfl
 |(i,o)::r,k,h=>by
  simp only [bc,Rp,not_or] at h;rw [a7,Q8 (fun e=>h.1 e.symm)];exact fv h.2
theorem B6: ∀{τ:Store} {k:Nat} {o:Obj},τ.get k=some o->k∈bc τ:=by
 intro τ k o h;apply Classical.byContradiction;intro hn;rw [fv hn] at h;cases h
abbrev lX:=List Nat×List Nat
def meets (a b:List Nat):Bool:=a.any fun k=>b.contains k
def lY (f g:lX):Bool:=meets f.2 g.1||meets f.2 g.2||meets g.2 f.1
def go (m:Nat) (g:lX):Nat->List lX->Bool
 |_,[]=>true
 |j,f::r=>(!lY f g||m.testBit j)&&go m g (j+1) r
def oy {α:Type}:List α->(List α->Prop)->Prop
 |[],k=>k []
 |x::r,k=>oy r fun r'=>k (x::r')
theorem ro {α:Type}: ∀(l:List α) (k:List α->Prop),oy l k=k l
 |[],_=>rfl
 |_::r,_=>ro r _
def B7 (o:Oper):Option Operand:=
 match o.guard with
 |none=>match o.op with
  | .move x=>some x
  | .assign x=>some x
  |_=>none
 |some _=>none
def B9 (E:Env) (all:Array Oper) (m:Nat) (fs:List lX) (o:Oper) (st:St) (next:lX->Store->St->Prop):Prop:=
 match B7 o with
 |some x=>oy (cW st.s o.dst (eW st.s x)) fun s'=>next ([],[]) [] ⟨s',[]⟩
 |none=>
 oy ((o.looksAt all).map fun x=>(nth st.s x).getD .any) fun vs=>
 oy (yW st.σ (rm st.σ 200 (fU 60 vs) [])) fun τ=>
 if BX all o st=true/\DD τ=true/\(vs.all fun v=>inV τ 60 v)=true then
  vE E all o ⟨st.s,τ⟩ fun st'=>
   oy (st'.σ.take (st'.σ.length-τ.length)) fun pre=>
   oy st'.s fun s'=>
   if ((bc pre).all fun k=>(bc τ).contains k||cu st.σ k)=true/\go m (bc τ,bc pre) 0 fs=true then next (bc τ,bc pre) pre ⟨s',[]⟩ else False
 else False
def jR (E:Env) (all:Array Oper) (ms:List Nat):Nat->List lX->List Oper->St->(St->Prop)->Prop
 |_,_,[],st,k=>k st
 |i,fs,o::r,st,k=>B9 E all (dH ms i) fs o st fun f pre st'=>oy (pre++st.σ) fun σ'=>jR E all ms (i+1) (fs++[f]) r ⟨st'.s,σ'⟩ k
def B_ (E:Env) (ops:Array Oper) (st:St) (k:St->Prop):Prop:=
 let ms:=cD ops.toList []
 let t:=np ms ops.size
 if Lh ops ms t=true/\st.s.length<=1000000 then
  jR E ops ms 0 [] (ops.toList.take t) st fun st'=>yQ E ops (ops.toList.drop t) st' k
 else False
def lZ:List V->List Oper->List V->List V
 |s,o::r,v::vs=>lZ (cW s o.dst v) r vs
 |s,_,_=>s
theorem jo: ∀(l:List Oper) (vs s:List V),(lZ s l vs).length=s.length
 |[],_,s=>by simp [lZ]
 |o::r,[],s=>by simp [lZ]
 |o::r,v::vs,s=>by simp only [lZ];rw [jo r vs,yR]
def Lw (P:Program) (all:Array Oper) (o:Oper) (s:List V) (v:V):Prop:=
 o.guard=none/\∀(X:Ctx) (a:Act),a.tmps.size=s.length->(∀x∈o.looksAt all,∀c u,s[x]? =some c->a.tmps[x]? =some u->Rep X c u)->
  OpRuns P o a.eval X.w fun u w'=>w'=X.w/\Rep X v u
def Lx (P:Program) (all:Array Oper) (o:Oper) (s:List V) (v:V) (τ pre:Store):Prop:=
 DD τ=true/\((Lg P all o s v τ (pre++τ)/\∀x∈o.looksAt all,∀c,s[x]? =some c->inV τ 60 c=true)∨(Lw P all o s v/\τ=[]/\pre=[]))
theorem tA {m:Nat}: ∀{fs:List lX} {j:Nat},go m ([],[]) j fs=true
 |[],_=>rfl
 |f::r,j=>by
  have h:lY f ([],[])=false:=by
   simp [lY,meets]
  simp only [go,h,Rg,Bool.true_or,SG];exact tA
theorem OD {P:Program} {all:Array Oper} {o:Oper} {s:List V} {x:Operand} (h:B7 o=some x):Lw P all o s (eW s x):=by
 unfold B7 at h;split at h
 ·rename_i hg;refine ⟨hg,fun X a hsz hl=> ?_⟩;split at h
  ·rename_i y ho;cases h;refine .val (w':=X.w) (by simp only [execOp,ho];rfl) ⟨rfl,vF hsz fun t e c u hc hu=>hl t (rl ?_) c u hc hu⟩;subst e;rw [ho];simp [Op.operands]
  ·rename_i y ho;cases h;refine .val (w':=X.w) (by simp only [execOp,ho];rfl) ⟨rfl,vF hsz fun t e c u hc hu=>hl t (rl ?_) c u hc hu⟩;subst e;rw [ho];simp [Op.operands]
  ·cases h
 ·cases h
theorem GS {E:Env} (hS:SpecsOk E) {all:Array Oper} {m:Nat} {fs:List lX} {o:Oper} {st:St} {next:lX->Store->St->Prop} (hmem:o∈all.toList) (h:B9 E all m fs o st next):
 ∃(v:V) (τ pre:Store) (st':St),next (bc τ,bc pre) pre ⟨st'.s,[]⟩/\RefL (cW st.s o.dst v) st'.s/\Lx E.P all o st.s v τ pre/\Agree (fg all.toList) st.s st'.s/\(∀k o,τ.get k=some o->st.σ.get k=some o)/\
  (∀k∈bc pre,k∈bc τ∨st.σ.get k=none)/\go m (bc τ,bc pre) 0 fs=true:=by
 unfold B9 at h;simp only [ro] at h;split at h
 ·rename_i x hx;exact ⟨eW st.s x,[],[],⟨cW st.s o.dst (eW st.s x),[]⟩,h, .refl _,⟨rfl, .inr ⟨OD hx,rfl,rfl⟩⟩,eF (.refl _ _) (fun d hd=>jn hmem hd),fun k o' hk=>by simp [Store.get] at hk,fun k hk=>by simp [bc] at hk,tA⟩
 split at h
 ·rename_i hc;obtain ⟨h1,h2,h3⟩:=hc;have hsub: ∀k o',(yW st.σ (rm st.σ 200 (fU 60 ((o.looksAt all).map fun x=>(nth st.s x).getD .any)) [])).get k=some o'->st.σ.get k=some o':=fun k o'=>rn;generalize yW st.σ (rm st.σ 200 (fU 60 ((o.looksAt all).map fun x=>(nth st.s x).getD .any)) [])=τ at h h2 h3 hsub;have h':=Qs h;obtain ⟨v,st',⟨⟨p,hp⟩,hk⟩,hr,hok,hag⟩:=vG hS (st:=⟨st.s,τ⟩) hmem h1 h';simp only at hp;rw [hp] at hk;have e:(p++τ).take ((p++τ).length-τ.length)=p:=by
   rw [Re,Nat.add_sub_cancel];exact List.take_left' rfl
  rw [e] at hk;split at hk
  ·rename_i hq;refine ⟨v,τ,p,st',hk,hr,⟨h2, .inl ⟨by rw [<-hp];exact hok,fun x hx c hcx=> ?_⟩⟩,hag,hsub,fun k hk=> ?_,hq.2⟩
   ·have:=RL.1 h3 ((nth st.s x).getD .any) (RS.2 ⟨x,hx,rfl⟩);simpa [nth,hcx] using this
   ·have:=RL.1 hq.1 k hk;simp only [RT] at this;rcases this with h5|h5
    ·exact .inl (Ry.1 h5)
    ·exact .inr (ea h5)
  ·exact hk.elim
 ·exact h.elim
def jT (σ:Store):List Store->Store
 |[]=>σ
 |p::r=>jT (p++σ) r
structure HeadsOk (P:Program) (all:Array Oper) (ms:List Nat) (base:List V) (l:List Oper) (outs:List V) (fs0:List lX) (σ:Store) (τs pres:List Store):Prop where
 lt:τs.length=l.length
 lp:pres.length=l.length
 ok: ∀i o v τ pre,l[i]? =some o->outs[i]? =some v->τs[i]? =some τ->pres[i]? =some pre->∃s,RefL (lZ base (l.take i) (outs.take i)) s/\Lx P all o s v τ pre
 sub: ∀i τ,τs[i]? =some τ->∀k o,τ.get k=some o->(jT σ (pres.take i)).get k=some o
 new: ∀i τ pre,τs[i]? =some τ->pres[i]? =some pre->∀k∈bc pre,k∈bc τ∨(jT σ (pres.take i)).get k=none
 foot: ∀i τ pre,τs[i]? =some τ->pres[i]? =some pre->go (dH ms (fs0.length+i)) (bc τ,bc pre) 0 (fs0++(List.zip τs pres).map (fun q=>(bc q.1,bc q.2))|>.take (fs0.length+i))=true
theorem oz {E:Env} (hS:SpecsOk E) {all:Array Oper} {ms:List Nat}: ∀{l:List Oper} {fs:List lX} {st:St} {k:St->Prop},(∀o∈l,o∈all.toList)->jR E all ms fs.length fs l st k->
 ∃(outs:List V) (τs pres:List Store) (stF:St),outs.length=l.length/\k stF/\stF.σ=jT st.σ pres/\Agree (fg all.toList) st.s stF.s/\∀base,RefL base st.s->RefL (lZ base l outs) stF.s/\
  HeadsOk E.P all ms base l outs fs st.σ τs pres
 |[],fs,st,k,_,h=>⟨[],[],[],st,rfl,h,rfl, .refl _ _,fun base hb=>⟨hb,rfl,rfl,fun i o v _ _ hi=>by simp at hi,fun i τ hi=>by simp at hi,fun i τ _ hi=>by simp at hi,fun i τ _ hi=>by simp at hi⟩⟩
 |o::r,fs,st,k,hsub,h=>by
  simp only [jR,ro] at h;obtain ⟨v,τ,pre,st',hk,hr,hok,hag,hτ,hnew,hft⟩:=GS hS (hsub o RF) h;have hk2:jR E all ms (fs++[(bc τ,bc pre)]).length (fs++[(bc τ,bc pre)]) r ⟨st'.s,pre++st.σ⟩ k:=by
   rw [Re];exact hk
  obtain ⟨outs,τs,pres,stF,h1,h2,h3,hag',h4⟩:=oz hS (fun x hx=>hsub x (Rq _ hx)) hk2;refine ⟨v::outs,τ::τs,pre::pres,stF,by simp [h1],h2,h3,hag.trans hag',fun base hb=> ?_⟩;obtain ⟨k1,k2⟩:=h4 (cW base o.dst v) ((hb.put _ _).trans hr);refine ⟨k1,by simp [k2.lt],by simp [k2.lp],fun i o' v' τ' pre' hi hv ht hp=> ?_,fun i τ' ht=> ?_,fun i τ' pre' ht hp=> ?_,fun i τ' pre' ht hp=> ?_⟩
  ·match i with
   |0=>
    simp only [List.getElem?_cons_zero,Q9] at hi hv ht hp
    subst hi;subst hv;subst ht;subst hp
    exact ⟨st.s,hb,hok⟩
   |i+1=>exact k2.ok i o' v' τ' pre' (by simpa using hi) (by simpa using hv) (by simpa using ht) (by simpa using hp)
  ·match i with
   |0=>
    simp only [List.getElem?_cons_zero,Q9] at ht
    subst ht
    exact hτ
   |i+1=>exact k2.sub i τ' (by simpa using ht)
  ·match i with
   |0=>
    simp only [List.getElem?_cons_zero,Q9] at ht hp
    subst ht;subst hp
    exact hnew
   |i+1=>exact k2.new i τ' pre' (by simpa using ht) (by simpa using hp)
  ·match i with
   |0=>
    simp only [List.getElem?_cons_zero,Q9] at ht hp
    subst ht;subst hp
    simpa using hft
   |i+1=>
    have:=k2.foot i τ' pre' (by simpa using ht) (by simpa using hp)
    simp only [Re,Rm,RA,List.singleton_append] at this
    rw [show fs.length+1+i=fs.length+(i+1) by omega] at this
    simpa using this
theorem l7: ∀{l:List Oper} {vs s:List V} {x:Nat},(∀o∈l,o.dst≠some x)->(lZ s l vs)[x]? =s[x]?
 |[],vs,s,x,_=>by simp [lZ]
 |o::r,[],s,x,_=>by simp [lZ]
 |o::r,v::vs,s,x,h=>by
  simp only [lZ];rw [l7 (fun o' ho=>h o' (Rq _ ho))];have:=h o RF;cases hd:o.dst with
  |none=>rfl
  |some d=>
   simp only [cW];exact List.getElem?_set_ne (fun e=>this (by rw [hd,e]))
theorem vM: ∀{l:List Oper} {vs s:List V} {j x:Nat} {o:Oper} {v:V},l[j]? =some o->o.dst=some x->vs[j]? =some v->x<s.length->
 (∀i o',l[i]? =some o'->o'.dst=some x->i=j)->(lZ s l vs)[x]? =some v
 |[],vs,s,j,x,o,v,hj,_,_,_,_=>by simp at hj
 |q::r,[],s,j,x,o,v,_,_,hv,_,_=>by simp at hv
 |q::r,u::vs,s,j,x,o,v,hj,hd,hv,hx,hu=>by
  simp only [lZ];match j with
  |0=>
   simp only [List.getElem?_cons_zero,Q9] at hj hv
   subst hj;subst hv
   rw [l7 (fun o' ho e=>by
    obtain ⟨i,hi⟩:=Sh.1 ho;have:=hu (i+1) o' (by simpa using hi) e;omega)]
   simp [hd,cW,hx]
  |j+1=>
   exact vM (l:=r) (j:=j) (by simpa using hj) hd (by simpa using hv) (by rw [yR];exact hx) (fun i o' hi e=>by
    have:=hu (i+1) o' (by simpa using hi) e;omega)
theorem iD: ∀{l:List Nat},bP l=true->∀{i j x:Nat},l[i]? =some x->l[j]? =some x->i=j
 |[],_,i,j,x,h,_=>by simp at h
 |y::r,hn,i,j,x,hi,hj=>by
  simp only [bP,Ri,Rb] at hn;have no: ∀{k:Nat},r[k]? =some y->False:=by
   intro k hk;have:=Ry.2 (Rr hk);rw [this] at hn;cases hn.1
  match i,j with
  |0,0=>rfl
  |0,j+1=>
   simp only [List.getElem?_cons_zero,Q9,List.getElem?_cons_succ] at hi hj
   subst hi;exact (no hj).elim
  |i+1,0=>
   simp only [List.getElem?_cons_zero,Q9,List.getElem?_cons_succ] at hi hj
   subst hj;exact (no hi).elim
  |i+1,j+1=>
   simp only [List.getElem?_cons_succ] at hi hj
   rw [iD hn.2 hi hj]
end Go.Vm
