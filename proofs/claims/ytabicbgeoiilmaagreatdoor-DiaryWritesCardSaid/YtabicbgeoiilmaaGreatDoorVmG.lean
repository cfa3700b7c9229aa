/-
  The engine, part 18: regions whose order is drawn.
-/
import Derived.Test.YtabicbgeoiilmaaGreatDoorVmF
namespace Go.Vm
open Go.RowKit (Below)
def Ref (v v':V):Prop:= ∀(X:Ctx) (u:Value),Rep X v u->Rep X v' u
def RefL (s s':List V):Prop:=s'.length=s.length/\∀(i:Nat) v v',s[i]? =some v->s'[i]? =some v'->Ref v v'
theorem Ref.refl (v:V):Ref v v:=fun _ _ h=>h
theorem RefL.refl (s:List V):RefL s s:=⟨rfl,fun i v v' h h'=>by rw [h] at h';cases h';exact .refl _⟩
theorem RefL.trans {s t u:List V} (h:RefL s t) (k:RefL t u):RefL s u:=by
 refine ⟨k.1.trans h.1,fun i v v' hv hv'=> ?_⟩;have hi:i<t.length:=by rw [h.1];exact (List.getElem?_eq_some_iff.1 hv).1
 exact fun X x hx=>k.2 i _ v' (List.getElem?_eq_getElem hi) hv' X x (h.2 i v _ hv (List.getElem?_eq_getElem hi) X x hx)
theorem putV_len (s:List V) (d:Option Nat) (v:V):(putV s d v).length=s.length:=by cases d<;>simp [putV]
theorem RefL.put {s t:List V} (h:RefL s t) (d:Option Nat) (v:V):RefL (putV s d v) (putV t d v):=by
 cases d with
 |none=>exact h
 |some d=>
  refine ⟨by simpa [putV] using h.1,fun i x x' hx hx'=> ?_⟩;simp only [putV,List.getElem?_set] at hx hx';split at hx
  ·rename_i e;subst e;rw [if_pos rfl] at hx';split at hx
   ·cases hx;split at hx'
    ·cases hx';exact .refl _
    ·cases hx'
   ·cases hx
  ·rename_i e;rw [if_neg e] at hx';exact h.2 i x x' hx hx'
theorem RepL.ref {X:Ctx} {s t:List V} {us:List Value} (h:RefL s t) (hr:RepL X s us):RepL X t us:=
 ⟨by rw [h.1];exact hr.1,fun j c u hc hu=>by
  have hj:j<s.length:=by rw [<-h.1];exact (List.getElem?_eq_some_iff.1 hc).1
  exact h.2 j _ c (List.getElem?_eq_getElem hj) hc X u (hr.2 j _ u (List.getElem?_eq_getElem hj) hu)⟩
def StepOk (P:Program) (all:Array Oper) (o:Oper) (s:List V) (v:V) (σ σ':Store):Prop:=
 ∀(B:Nat->Prop) (F:Fr) (a:Act) (w:World) (μ:Mu),Inv B ⟨w,σ,μ,F⟩->(∀b,w.heap.size<=b->B b)->a.tmps.size=s.length->
  (∀x∈o.looksAt all,∀c u,s[x]? =some c->a.tmps[x]? =some u->Rep ⟨w,σ,μ,F⟩ c u)->
  (Region.wanted o (yielded all a.tmps)=true->OpRuns P o a.eval w fun u w'=> ∃μ',Inv B ⟨w',σ',μ',F⟩/\Rep ⟨w',σ',μ',F⟩ v u/\Evo ⟨w,σ,μ,F⟩ ⟨w',σ',μ',F⟩)/\
  (Region.wanted o (yielded all a.tmps)=false->σ'=σ/\v= .tuple [])
theorem eval_of {X:Ctx} {s:List V} {a:Act} (hsz:a.tmps.size=s.length) {x:Operand} (h: ∀t,x= .tmp t->∀c u,s[t]? =some c->a.tmps[t]? =some u->Rep X c u):Rep X (evalV s x) (a.eval x):=by
 cases x with
 |tmp t=>
  simp only [evalV,Act.eval];by_cases ht:t<s.length
  ·have h1:s[t]? =some s[t]:=List.getElem?_eq_getElem ht;have ht2:t<a.tmps.size:=by rw [hsz];exact ht
   have h2:a.tmps[t]? =some a.tmps[t]:=Array.getElem?_eq_getElem ht2;have:=h t rfl _ _ h1 h2;simpa [nth,h1,Array.getD_eq_getD_getElem?,h2] using this
  ·have h1:s[t]? =none:=List.getElem?_eq_none (Nat.le_of_not_lt ht);have h2:a.tmps[t]? =none:=Array.getElem?_eq_none (by rw [hsz];exact Nat.le_of_not_lt ht);simp only [nth,h1,Array.getD_eq_getD_getElem?,h2,Option.getD_none];exact .tuple rfl (fun j c u hc=>by simp at hc)
 |const v=>exact cv_rep _ _
 |global g=>exact .any
 |func f=>exact .fn rfl rfl (fun j c u hc=>by simp at hc) (fun j c u hc=>by simp at hc)
theorem looks_op {all:Array Oper} {o:Oper} {t:Nat} (h:Operand.tmp t∈o.op.operands.toList):t∈o.looksAt all:=by
 unfold Oper.looksAt;rw [List.mem_append];exact .inl (List.mem_filterMap.2 ⟨_,h,rfl⟩)
theorem looks_guard {all:Array Oper} {o:Oper} {g d:Nat} {want:Bool} (h:o.guard=some (g,want)) (hd:(all[g]?).bind (·.dst)=some d):d∈o.looksAt all:=by
 unfold Oper.looksAt;rw [List.mem_append,h];simp only [hd];exact .inr (by simp)
def plainG (all:Array Oper) (o:Oper) (st:St):Bool:=
 match o.guard with
 |none=>true
 |some (g,_)=>match (all[g]?).bind (·.dst) with
  |some d=>match nth st.s d with
   |some (.bq _)=>false
   |_=>true
  |none=>true
theorem step_of_opGo {E:Env} (hS:SpecsOk E) {all:Array Oper} {o:Oper} {st:St} {next:St->Prop} (hmem:o∈all.toList) (hpl:plainG all o st=true) (h:opGo E all o st next):
 ∃v st',next st'/\RefL (putV st.s o.dst v) st'.s/\StepOk E.P all o st.s v st.σ st'.σ/\Agree (opsW all.toList) st.s st'.s:=by
 have hdst: ∀d,o.dst=some d->d∈opsW all.toList:=fun d hd=>opsW_mem hmem hd;have hag: ∀v,Agree (opsW all.toList) st.s (putV st.s o.dst v):=fun v=>put_agree (.refl _ _) hdst;have run: ∀{s:List V},RefL st.s s->∀{next:St->Prop},vcOp E o (evalV s) st.σ (fun v σ'=>next ⟨putV s o.dst v,σ'⟩)->∃v σ',next ⟨putV s o.dst v,σ'⟩/\
  ∀(B:Nat->Prop) (F:Fr) (a:Act) (w:World) (μ:Mu),Inv B ⟨w,st.σ,μ,F⟩->(∀b,w.heap.size<=b->B b)->a.tmps.size=st.s.length->
   (∀x∈o.looksAt all,∀c u,st.s[x]? =some c->a.tmps[x]? =some u->Rep ⟨w,st.σ,μ,F⟩ c u)->
   OpRuns E.P o a.eval w fun u w'=> ∃μ',Inv B ⟨w',σ',μ',F⟩/\Rep ⟨w',σ',μ',F⟩ v u/\Evo ⟨w,st.σ,μ,F⟩ ⟨w',σ',μ',F⟩:=by
  intro s hs next h
  obtain ⟨v,σ',hk,hok⟩:=op_ok hS h;refine ⟨v,σ',hk,fun B F a w μ hI hB hsz hl=>hok B F a.eval w μ hI hB fun x hx=>eval_of (by rw [hs.1];exact hsz) ?_⟩;rintro t rfl c u hc hu;have ht:t<st.s.length:=by rw [<-hs.1];exact (List.getElem?_eq_some_iff.1 hc).1
  exact hs.2 t _ c (List.getElem?_eq_getElem ht) hc _ u (hl t (looks_op hx) _ u (List.getElem?_eq_getElem ht) hu)
 unfold opGo at h;split at h
 ·rename_i hgd;obtain ⟨v,σ',hk,hok⟩:=run (.refl _) h;exact ⟨v,_,hk, .refl _,fun B F a w μ hI hB hsz hl=>⟨fun _=>hok B F a w μ hI hB hsz hl,fun hw=>by simp [Region.wanted,hgd] at hw⟩,hag _⟩
 ·rename_i g want hgd;split at h
  ·rename_i d hd;have hy: ∀{X:Ctx} {a:Act} {c:V},a.tmps.size=st.s.length->nth st.s d=some c->(∀x∈o.looksAt all,∀c u,st.s[x]? =some c->a.tmps[x]? =some u->Rep X c u)->
    ∃u,Rep X c u/\yielded all a.tmps g=(match u with
     | .bool b=>some b
     |_=>none):=by
    intro X a c hsz hc hl;have hlt:d<st.s.length:=(List.getElem?_eq_some_iff.1 hc).1;have hlt2:d<a.tmps.size:=by rw [hsz];exact hlt
    have h2:a.tmps[d]? =some a.tmps[d]:=Array.getElem?_eq_getElem hlt2;refine ⟨_,hl d (looks_guard hgd hd) c _ hc h2, ?_⟩;unfold yielded;rw [hd];simp only [Option.bind_some,h2];split<;>simp_all
   split at h
   ·rename_i b hb;split at h
    ·rename_i e;subst e;obtain ⟨v,σ',hk,hok⟩:=run (.refl _) h;refine ⟨v,_,hk, .refl _,fun B F a w μ hI hB hsz hl=>⟨fun _=>hok B F a w μ hI hB hsz hl,fun hw=> ?_⟩,hag _⟩;obtain ⟨u,hu,hyy⟩:=hy hsz hb hl;rw [hu.kb_inv] at hyy;simp [Region.wanted,hgd,hyy] at hw
    ·rename_i e;refine ⟨_,_,h, .refl _,fun B F a w μ hI hB hsz hl=>⟨fun hw=> ?_,fun _=>⟨rfl,rfl⟩⟩,hag _⟩;obtain ⟨u,hu,hyy⟩:=hy hsz hb hl;rw [hu.kb_inv] at hyy;simp [Region.wanted,hgd,hyy] at hw;exact absurd hw e
   ·rename_i b hb;have hdW:d∈opsW all.toList:=by
     simp only [Option.bind_eq_some_iff] at hd;obtain ⟨x,hx,hxd⟩:=hd;exact opsW_mem (List.mem_of_getElem? (by simpa using hx)) hxd
    have hag2: ∀c v,Agree (opsW all.toList) st.s (putV (st.s.set d c) o.dst v):=fun c v=>
     put_agree (put_agree (d:=some d) (.refl _ _) (fun i e=>by cases e;exact hdW)) hdst
    have hset: ∀c,b=c->RefL st.s (st.s.set d (.kb c)):=by
     intro c e;refine ⟨by simp,fun i v v' hv hv'=> ?_⟩;rw [List.getElem?_set] at hv';split at hv'
     ·rename_i e2;subst e2;split at hv'
      ·cases hv';rw [show st.s[d]? =_ from hb] at hv;cases hv;intro X u hu;rw [hu.bool_inv,e];exact .kb
      ·cases hv'
     ·rw [hv] at hv';cases hv';exact .refl _
    by_cases e:b=want
    ·obtain ⟨v,σ',hk,hok⟩:=run (hset _ e) (h.1 e);refine ⟨v,_,hk,(hset _ e).put _ _,fun B F a w μ hI hB hsz hl=>⟨fun _=>hok B F a w μ hI hB hsz hl,fun hw=> ?_⟩,hag2 _ _⟩;obtain ⟨u,hu,hyy⟩:=hy hsz hb hl;rw [hu.bool_inv] at hyy;simp [Region.wanted,hgd,hyy,e] at hw
    ·have e2:b= !want:=by cases b<;>cases want<;>simp_all
     refine ⟨_,_,h.2 e2,(hset _ e2).put _ _,fun B F a w μ hI hB hsz hl=>⟨fun hw=> ?_,fun _=>⟨rfl,rfl⟩⟩,hag2 _ _⟩;obtain ⟨u,hu,hyy⟩:=hy hsz hb hl;rw [hu.bool_inv] at hyy;simp [Region.wanted,hgd,hyy] at hw;exact absurd hw e
   ·rename_i p hb;simp only [plainG,hgd,hd,hb] at hpl;cases hpl
   ·rename_i hb;refine ⟨_,_,h, .refl _,fun B F a w μ hI hB hsz hl=>⟨fun hw=> ?_,fun _=>⟨rfl,rfl⟩⟩,hag _⟩;obtain ⟨u,hu,hyy⟩:=hy hsz hb hl;obtain ⟨vs,rfl,_⟩:=hu.tuple_inv;simp [Region.wanted,hgd,hyy] at hw
   ·exact h.elim
  ·exact h.elim
def bitsOf (ms:List Nat) (i:Nat):Nat:=(nth ms i).getD 0
def maskOf (ms:List Nat):List Edge->Nat
 |[]=>0
 |e::r=>if Region.binds .any e then ((1<<<e.on)|||(bitsOf ms e.on|||maskOf ms r)) else maskOf ms r
def masksFrom:List Oper->List Nat->List Nat
 |[],ms=>ms
 |o::r,ms=>masksFrom r (ms++[maskOf ms o.after.toList])
def Closed (l:List Oper) (on:Nat->Prop):Prop:= ∀i o,l[i]? =some o->on i->∀e∈o.after.toList,Region.binds .any e=true->on e.on
def BitsIn (on:Nat->Prop) (ms:List Nat):Prop:= ∀(i m:Nat),ms[i]? =some m->on i->∀j,m.testBit j=true->on j
theorem maskOf_in {on:Nat->Prop} {ms:List Nat} (hm:BitsIn on ms): ∀{l:List Edge},(∀e∈l,Region.binds .any e=true->on e.on)->∀j,(maskOf ms l).testBit j=true->on j
 |[],_,j,h=>by simp [maskOf] at h
 |e::r,hl,j,h=>by
  have ih:=maskOf_in hm (l:=r) (fun e he=>hl e (List.mem_cons_of_mem _ he));simp only [maskOf] at h;split at h
  ·rename_i hb;have he:=hl e List.mem_cons_self hb;simp only [Nat.testBit_or,Bool.or_eq_true] at h;rcases h with h|h|h
   ·rw [Nat.one_shiftLeft,Nat.testBit_two_pow] at h;have:e.on=j:=by simpa using h
    exact this▸he
   ·unfold bitsOf at h;cases hn:nth ms e.on with
    |none=>rw [hn] at h;simp at h
    |some m=>
     rw [hn] at h;exact hm e.on m hn he j h
   ·exact ih j h
  ·exact ih j h
theorem masksFrom_in {on:Nat->Prop} {all:List Oper} (hc:Closed all on): ∀{l:List Oper} {ms:List Nat},all.drop ms.length=l->BitsIn on ms->BitsIn on (masksFrom l ms)
 |[],_,_,h=>h
 |o::r,ms,hl,h=>by
  simp only [masksFrom];have h0:all[ms.length]? =some o:=by
   have:=congrArg (·[0]?) hl;simpa [List.getElem?_drop] using this
  refine masksFrom_in hc ?_ ?_
  ·have:=congrArg (List.drop 1) hl;simpa [List.drop_drop] using this
  ·intro i m hi hon j hj;by_cases e:i<ms.length
   ·rw [List.getElem?_append_left e] at hi;exact h i m hi hon j hj
   ·rw [List.getElem?_append_right (by omega)] at hi;have e2:i=ms.length:=by
     have:=(List.getElem?_eq_some_iff.1 hi).1;simp at this;omega
    subst e2;simp at hi;subst hi;exact maskOf_in h (hc _ o h0 hon) j hj
def dstsOf (l:List Oper):List Nat:=l.zipIdx.map fun p=>p.1.dst.getD (1000000+p.2)
def headB (ops:Array Oper) (ds:List Nat) (t i m:Nat) (o:Oper):Bool:=
 (o.looksAt ops).all fun x=>(List.range t).all fun j=> !(nth ds j==some x)||(decide (j<i)&&m.testBit j)
def lowB (i:Nat) (o:Oper):Bool:=o.after.toList.all fun e=>decide (e.on<i)|| !Region.binds .any e
def litOn (t n:Nat):Array Bool:=(List.replicate t true++List.replicate (n-t) false).toArray
def drawB (ops : Array Oper) (ms : List Nat) (t : Nat) : Bool :=
  decide (t <= ops.size) && nodupB (dstsOf (ops.toList.take t)) &&
  ((List.range t).all fun i => match nth ops.toList i with
    | some o => headB ops (dstsOf (ops.toList.take t)) t i (bitsOf ms i) o
    | none => false) &&
  ((List.range ops.size).all fun i => match nth ops.toList i with
    | some o => lowB i o
    | none => true) &&
  ((List.range ops.size).all fun i => decide (i < t) || (List.range t).all fun j => (bitsOf ms i).testBit j) &&
  Region.seqB .any ops (ops.size - t) t (litOn t ops.size)
def tailAt (ms:List Nat):Nat->Nat
 |0=>0
 |i+1=>if (List.range i).all fun j=>(bitsOf ms i).testBit j then tailAt ms i else i+1
def N0 (σ:Store) (k:K):K:=fun v σ'=>σ'=σ/\k v σ'
section
variable {P:Program} {E:Env} {t:TypeId} {σ:Store} {k:K} {a x y i v:V} {op:BinOp} {f dst:Nat}
theorem foldr_imp {f g:Nat->Prop} (h: ∀i,f i->g i): ∀(L:List Nat),L.foldr (fun (i:Nat) (acc:Prop)=>f i/\acc) True->L.foldr (fun (i:Nat) (acc:Prop)=>g i/\acc) True
 |[],h=>h
 |a::r,hL=>⟨h a hL.1,foldr_imp h r hL.2⟩
end
def N (σ:Store) (k:K):K:=fun v σ'=>(∃p,σ'=p++σ)/\k v σ'
section
variable {P:Program} {E:Env} {t:TypeId} {σ:Store} {k:K} {a x y i v:V} {op:BinOp} {f dst:Nat}
theorem loadV_n : loadV P t a σ k -> loadV P t a σ (N σ k) := by
  unfold loadV
  repeat' split
  all_goals first
    | exact id
    | exact fun h => ⟨⟨[], rfl⟩, h⟩
    | (refine fun h => ⟨h.1, fun x hx => ?_⟩
       have h2 := h.2 x hx
       revert h2
       repeat' split
       all_goals first
         | exact id
         | exact fun h => ⟨⟨[], rfl⟩, h⟩)
theorem num_n {wr:Bool} {kd:IntKind} {n:Int}:num wr kd n σ k->num wr kd n σ (N σ k):=by
 unfold num;split
 ·exact fun h=>⟨⟨[],rfl⟩,h⟩
 ·exact fun h=>⟨h.1,⟨[],rfl⟩,h.2⟩
theorem intBin_n {wr:Bool} {kd:IntKind} {n m:Int}:intBin wr op kd n m σ k->intBin wr op kd n m σ (N σ k):=by
 unfold intBin;split;all_goals first
  |exact num_n
  |exact id
  |exact fun h=>⟨⟨[],rfl⟩,h⟩
  |exact fun h=>⟨h.1,num_n h.2⟩
  |exact fun h=>⟨h.1,⟨[],rfl⟩,h.2⟩
theorem strBin_n {l m:List UInt8}:strBin op l m σ k->strBin op l m σ (N σ k):=by
 unfold strBin;split;all_goals first
  |exact id
  |exact fun h=>⟨⟨[],rfl⟩,h⟩
  |exact fun h=>⟨h.1,⟨[],rfl⟩,h.2⟩
theorem eqBin_n {c:Option Bool} {b:Bool}:eqBin op c b σ k->eqBin op c b σ (N σ k):=by
 unfold eqBin;split;all_goals first
  |exact id
  |exact fun h=>⟨⟨[],rfl⟩,h⟩
theorem binV_n:binV E op t x y dst σ k->binV E op t x y dst σ (N σ k):=by
 unfold binV;repeat' split
 all_goals first
  |exact id
  |exact fun h=>⟨⟨[],rfl⟩,h⟩
  |exact fun h=>⟨h.1,⟨[],rfl⟩,h.2⟩
  |exact intBin_n
  |exact strBin_n
  |exact eqBin_n
theorem binO_n {yo:Operand}:binO E op t yo x y dst σ k->binO E op t yo x y dst σ (N σ k):=by
 unfold binO;split
 ·exact eqBin_n
 ·exact binV_n
theorem unV_n {op:UnOp}:unV E op x dst σ k->unV E op x dst σ (N σ k):=by
 unfold unV;repeat' split
 all_goals first
  |exact id
  |exact num_n
  |exact fun h=>⟨⟨[],rfl⟩,h⟩
theorem convV_n {s d:TypeId}:convV E s d x dst σ k->convV E s d x dst σ (N σ k):=by
 unfold convV;repeat' split
 all_goals first
  |exact id
  |exact num_n
  |exact fun h=>⟨⟨[],rfl⟩,h⟩
theorem nilCheckV_n:nilCheckV x σ k->nilCheckV x σ (N σ k):=by
 unfold nilCheckV;repeat' split
 all_goals first
  |exact id
  |exact fun h=>⟨⟨[],rfl⟩,h⟩
theorem buildV_n {ps:List (Nat×V)}:buildV P t ps σ k->buildV P t ps σ (N σ k):=by
 unfold buildV;repeat' split
 all_goals first
  |exact id
  |exact fun h=>⟨⟨[],rfl⟩,h⟩
theorem fieldAddrV_n:fieldAddrV P t x f σ k->fieldAddrV P t x f σ (N σ k):=by
 unfold fieldAddrV;repeat' split
 all_goals first
  |exact id
  |exact fun h=>⟨⟨[],rfl⟩,h⟩
theorem fieldV_n:fieldV P t x f σ k->fieldV P t x f σ (N σ k):=by
 unfold fieldV;repeat' split
 all_goals first
  |exact id
  |exact fun h=>⟨⟨[],rfl⟩,h⟩
theorem buildRowsV_n {n:Nat} {ps:List (Nat×V)}:buildRowsV E t n ps σ k->buildRowsV E t n ps σ (N σ k):=by
 unfold buildRowsV;repeat' split
 all_goals first
  |exact id
  |exact fun h=>⟨⟨[],rfl⟩,h⟩
theorem indexAddrV_n:indexAddrV E t x i σ k->indexAddrV E t x i σ (N σ k):=by
 unfold indexAddrV;repeat' split
 all_goals first
  |exact id
  |exact fun h=>⟨⟨[],rfl⟩,h⟩
  |exact fun h=>⟨h.1,⟨[],rfl⟩,h.2⟩
  |exact fun h=>⟨h.1,fun x hx=>⟨⟨[],rfl⟩,h.2 x hx⟩⟩
  |exact fun h=>⟨h.1,foldr_imp (fun i hi e=>⟨⟨[],rfl⟩,hi e⟩) _ h.2⟩
theorem indexSym_n:indexSym E t x i σ k->indexSym E t x i σ (N σ k):=by
 unfold indexSym;repeat' split
 all_goals first
  |exact id
  |exact fun h=>⟨h.1,foldr_imp (fun i hi e=>⟨⟨[],rfl⟩,hi e⟩) _ h.2⟩
theorem indexRow_n:indexRow E t x i σ k->indexRow E t x i σ (N σ k):=by
 unfold indexRow;repeat' split
 all_goals first
  |exact id
  |exact fun h=>⟨h.1,⟨[],rfl⟩,h.2⟩
theorem indexSel_n:indexSel E t x i σ k->indexSel E t x i σ (N σ k):=by
 unfold indexSel;repeat' split
 all_goals first
  |exact id
  |exact fun h=>⟨h.1,⟨[],rfl⟩,h.2⟩
theorem indexV_n:indexV E t x i σ k->indexV E t x i σ (N σ k):=by
 unfold indexV;repeat' split
 all_goals first
  |exact id
  |exact fun h=>⟨⟨[],rfl⟩,h⟩
  |exact fun h=>⟨h.1,fun x hx=>⟨⟨[],rfl⟩,h.2 x hx⟩⟩
theorem mmV_n {mx:Bool} {y:V}:mmV mx x y σ k->mmV mx x y σ (N σ k):=by
 unfold mmV;repeat' split
 all_goals first
  |exact id
  |exact fun h=>⟨⟨[],rfl⟩,h⟩
theorem uDataV_n:uDataV x σ k->uDataV x σ (N σ k):=by
 unfold uDataV;repeat' split
 all_goals first
  |exact id
  |exact fun h=>⟨⟨[],rfl⟩,h⟩
  |exact fun h=>⟨h.1,⟨[],rfl⟩,h.2⟩
theorem uStrV_n {y:V}:uStrV P t x y σ k->uStrV P t x y σ (N σ k):=by
 unfold uStrV;repeat' split
 all_goals first
  |exact id
  |exact fun h=>⟨h.1,⟨[],rfl⟩,h.2⟩
  |exact fun h=>⟨h.1,⟨[_],rfl⟩,h.2⟩
theorem clearV_n:clearV E t x σ k->clearV E t x σ (N σ k):=by
 unfold clearV;repeat' split
 all_goals first
  |exact id
  |exact fun h=>⟨h.1,⟨[_],rfl⟩,h.2⟩
theorem lenV_n : lenV E t x σ k -> lenV E t x σ (N σ k) := by
  unfold lenV
  repeat' split
  all_goals first
    | exact id
    | (refine fun h => ⟨h.1, fun y hy => ?_⟩
       have h2 := h.2 y hy
       revert h2
       split
       · exact fun h => ⟨⟨[], rfl⟩, h⟩
       · exact id)
    | exact fun h => ⟨⟨[], rfl⟩, h⟩
theorem sliceV_n {lo hi mx:Option V}:sliceV E t x lo hi mx σ k->sliceV E t x lo hi mx σ (N σ k):=by
 unfold sliceV;repeat' split
 all_goals first
  |exact id
  |exact fun h=>⟨⟨[],rfl⟩,h⟩
  |exact fun h=>⟨h.1,⟨[],rfl⟩,h.2⟩
theorem buildSliceV_n {n:Nat} {ps:List (Nat×V)}:buildSliceV E t n ps dst σ k->buildSliceV E t n ps dst σ (N σ k):=by
 unfold buildSliceV;repeat' split
 all_goals first
  |exact buildRowsV_n
  |exact id
  |exact fun h=>⟨⟨[],rfl⟩,h⟩
  |exact fun h=>⟨⟨[_],rfl⟩,h⟩
theorem allocO_n:allocO P t dst σ k->allocO P t dst σ (N σ k):=by
 unfold allocO;repeat' split
 all_goals first
  |exact id
  |exact fun h=>⟨⟨[_],rfl⟩,h⟩
theorem allocV_n:allocV P t dst σ k->allocV P t dst σ (N σ k):=by
 unfold allocV;repeat' split
 all_goals first
  |exact id
  |exact fun h=>⟨⟨[_],rfl⟩,h⟩
theorem boxV_n:boxV dst v σ k->boxV dst v σ (N σ k):=by
 unfold boxV;repeat' split
 all_goals first
  |exact id
  |exact fun h=>⟨⟨[_],rfl⟩,h⟩
theorem storeV_n : storeV P t a x σ k -> storeV P t a x σ (N σ k) := by
  unfold storeV
  repeat' split
  all_goals first
    | exact id
    | exact fun h => ⟨⟨[_], rfl⟩, h⟩
    | (refine fun h => ⟨h.1, fun y hy => ?_⟩
       have h2 := h.2 y hy
       revert h2
       repeat' split
       all_goals first
         | exact id
         | exact fun h => ⟨⟨[_], rfl⟩, h⟩)
theorem N_cons {o:Nat×Obj} {σ:Store} {k:K} {v:V} {σ':Store} (h:N (o::σ) k v σ'):N σ k v σ':=by
 obtain ⟨⟨p,hp⟩,h⟩:=h;exact ⟨⟨p++[o],by rw [hp];simp⟩,h⟩
theorem storeV_mono {k k' : K} (hk : ∀ v s, k v s -> k' v s) : storeV P t a x σ k -> storeV P t a x σ k' := by
  unfold storeV
  repeat' split
  all_goals first
    | exact id
    | exact fun h => hk _ _ h
    | (refine fun h => ⟨h.1, fun y hy => ?_⟩
       have h2 := h.2 y hy
       revert h2
       repeat' split
       all_goals first
         | exact id
         | exact fun h => hk _ _ h)
theorem storeF_n:storeF P t a x σ k->storeF P t a x σ (N σ k):=by
 unfold storeF;split
 ·split
  ·split
   ·exact fun h=>storeV_mono (fun v s h=>N_cons h) (storeV_n h)
   ·exact id
  ·exact id
 ·exact storeV_n
theorem makeSliceV_n : makeSliceV E t x y dst σ k -> makeSliceV E t x y dst σ (N σ k) := by
  unfold makeSliceV
  repeat' split
  all_goals first
    | exact id
    | exact fun h => ⟨h.1, ⟨[_], rfl⟩, h.2⟩
    | (refine fun h => ⟨h.1, ?_⟩
       have h2 := h.2
       revert h2
       repeat' split
       all_goals first
         | exact id
         | exact fun h => ⟨⟨[_], rfl⟩, h⟩)
theorem appendM_n {seg : (ty : Ty) -> Option (List ty.den)} : appendM E t x seg dst σ k -> appendM E t x seg dst σ (N σ k) := by
  unfold appendM
  repeat' split
  all_goals first
    | exact id
    | exact fun h => ⟨h.1, ⟨[_], rfl⟩, h.2⟩
    | (refine fun h => ⟨h.1, fun y hy => ?_⟩
       have h2 := h.2 y hy
       revert h2
       repeat' split
       all_goals first
         | exact id
         | exact fun h => ⟨h.1, ⟨[_, _, _], rfl⟩, h.2⟩)
theorem appendV_n:appendV E t x y dst σ k->appendV E t x y dst σ (N σ k):=appendM_n
theorem appendS_n:appendS E t x y dst σ k->appendS E t x y dst σ (N σ k):=appendM_n
theorem callV_n {f:V} {args:List V}:callV E f args dst σ k->callV E f args dst σ (N σ k):=by
 unfold callV;split
 ·split
  ·split
   ·exact fun h=>⟨h.1,⟨_,rfl⟩,h.2⟩
   ·split
    ·split
     ·refine fun h=>⟨h.1, ?_⟩
      have h2:=h.2;revert h2;split
      ·exact fun h=>⟨⟨[],rfl⟩,h⟩
      ·exact id
     ·split
      ·refine fun h=>⟨h.1, ?_⟩
       have h2:=h.2;revert h2;repeat' split
       all_goals first
        |exact id
        |exact fun h=>⟨⟨[],rfl⟩,h⟩
        |exact fun h=>⟨⟨_,rfl⟩,h⟩
      ·exact id
    ·exact id
  ·split
   ·exact fun h=>⟨h.1,⟨[],rfl⟩,h.2⟩
   ·exact id
 ·exact id
theorem lookupV_n {m:V} {ok:Bool}:lookupV P t m x ok σ k->lookupV P t m x ok σ (N σ k):=by
 unfold lookupV;repeat' split
 all_goals first
  |exact id
  |exact fun h=>⟨h.1,⟨[],rfl⟩,h.2⟩
theorem mapPutV_n {m y:V}:mapPutV P t m x y σ k->mapPutV P t m x y σ (N σ k):=by
 unfold mapPutV;repeat' split
 all_goals first
  |exact id
  |exact fun h=>⟨h.1,⟨[_],rfl⟩,h.2⟩
theorem makeMapV_n {r:Option V}:makeMapV E t r dst σ k->makeMapV E t r dst σ (N σ k):=by
 unfold makeMapV;repeat' split
 all_goals first
  |exact id
  |exact fun h=>⟨⟨[_],rfl⟩,h⟩
theorem vcOp_n {o:Oper} {ρ:Operand->V}:vcOp E o ρ σ k->vcOp E o ρ σ (N σ k):=by
 unfold vcOp;simp only;cases ho:o.op with
 |move _=>exact fun h=>⟨⟨[],rfl⟩,h⟩
 |assign _=>exact fun h=>⟨⟨[],rfl⟩,h⟩
 |pick _ _ _=>
  simp only;repeat' split
  all_goals first
   |exact id
   |exact fun h=>⟨⟨[],rfl⟩,h⟩
 |alloc _=>
  simp only;split
  ·exact allocO_n
  ·exact allocV_n
 |box _ _=>exact boxV_n
 |store _ _ _=>exact storeF_n
 |makeSlice _ _ _=>exact makeSliceV_n
 |build _ _=>exact buildV_n
 |load _ _=>exact loadV_n
 |nilCheck _=>exact nilCheckV_n
 |binOp _ _ _ _ _=>exact fun h=>binO_n h
 |unOp _ _ _=>exact unV_n
 |convert _ _ _=>exact convV_n
 |makeFunc _ _ _=>exact fun h=>⟨⟨[],rfl⟩,h⟩
 |slice _ _ _ _ _=>
  exact sliceV_n
 |fieldAddr _ _ _=>exact fieldAddrV_n
 |field _ _ _=>exact fieldV_n
 |indexAddr _ _ _=>
  simp only;split
  ·split
   ·exact indexRow_n
   ·exact indexSym_n
  ·exact indexAddrV_n
 |index _ _ _=>
  simp only;split
  ·exact indexSel_n
  ·exact indexV_n
 |extract _ _=>
  simp only;repeat' split
  all_goals first
   |exact id
   |exact fun h=>⟨⟨[],rfl⟩,h⟩
 |buildSlice _ _ _=>exact buildSliceV_n
 |lookup _ _ _ _=>exact lookupV_n
 |mapUpdate _ _ _ _=>exact mapPutV_n
 |makeMap _ _=>exact makeMapV_n
 |call c=>
  simp only;split
  ·repeat' split
   all_goals first
    |exact id
    |exact lenV_n
  ·repeat' split
   all_goals first
    |exact id
    |exact appendV_n
    |exact appendS_n
  ·repeat' split
   all_goals first
    |exact id
    |exact mmV_n
  ·repeat' split
   all_goals first
    |exact id
    |exact mmV_n
  ·exact callV_n
  ·repeat' split
   all_goals first
    |exact id
    |exact clearV_n
  ·repeat' split
   all_goals first
    |exact id
    |exact uDataV_n
  ·repeat' split
   all_goals first
    |exact id
    |exact uStrV_n
  ·exact id
 |_=>exact id
theorem opGo_n {all:Array Oper} {o:Oper} {st:St} {next:St->Prop}:opGo E all o st next->opGo E all o st fun st'=>(∃p,st'.σ=p++st.σ)/\next st':=by
 unfold opGo;split
 ·exact vcOp_n
 ·split
  ·split
   ·split
    ·exact vcOp_n
    ·exact fun h=>⟨⟨[],rfl⟩,h⟩
   ·exact fun h=>⟨fun e=>vcOp_n (h.1 e),fun e=>⟨⟨[],rfl⟩,h.2 e⟩⟩
   ·exact fun h=>⟨fun e=>vcOp_n (h.1 e),fun e=>⟨⟨[],rfl⟩,h.2 e⟩⟩
   ·exact fun h=>⟨⟨[],rfl⟩,h⟩
   ·exact id
  ·exact id
end
mutual
def namesV:Nat->V->List Nat
 |0,_=>[]
 |n+1,v=>match v with
  | .slc id _ _=>[id]
  | .ptr id _=>[id]
  | .own id _=>[id]
  | .eptr id _ _ _=>[id]
  | .rows _ cells=>namesL n cells
  | .nslc id=>[id]
  | .nptr id _ _=>[id]
  | .nin id _ _=>[id]
  | .oref id=>[id]
  | .fptr cells=>namesL n cells
  | .fn _ a b=>namesL n a++namesL n b
  | .agg cells=>namesL n cells
  | .tuple cells=>namesL n cells
  | .iface _ x=>namesV n x
  |_=>[]
def namesL:Nat->List V->List Nat
 |0,_=>[]
 |_+1,[]=>[]
 |n+1,v::r=>namesV n v++namesL n r
end
def needs (σ:Store):Nat->List Nat->List Nat->List Nat
 |0,_,acc=>acc
 |_+1,[],acc=>acc
 |n+1,k::r,acc=>if acc.contains k then needs σ n r acc else match σ.get k with
  |some (.box cells)=>needs σ n (namesL 60 cells++r) (k::acc)
  |some _=>needs σ n r (k::acc)
  |none=>needs σ n r acc
def cutS (σ:Store):List Nat->Store
 |[]=>[]
 |k::r=>match σ.get k with
  |some o=>(k,o)::cutS σ r
  |none=>cutS σ r
theorem cutS_sub {σ:Store}: ∀{l:List Nat} {k:Nat} {o:Obj},(cutS σ l).get k=some o->σ.get k=some o
 |[],k,o,h=>by simp [cutS,Store.get] at h
 |j::r,k,o,h=>by
  unfold cutS at h;split at h
  ·rename_i o' ho;rw [get_cons] at h;split at h
   ·rename_i e;subst e;rw [ho];exact h
   ·exact cutS_sub h
  ·exact cutS_sub h
def closedB (τ:Store):Bool:=τ.all fun p=>match p.2 with
 | .box cells=>inVL τ 60 cells
 |_=>true
theorem get_mem: ∀{τ:Store} {k:Nat} {o:Obj},τ.get k=some o->(k,o)∈τ
 |[],k,o,h=>by simp [Store.get] at h
 |(i,p)::r,k,o,h=>by
  rw [get_cons] at h;split at h
  ·rename_i e;subst e;cases h;exact List.mem_cons_self
  ·exact List.mem_cons_of_mem _ (get_mem h)
def keysS:Store->List Nat
 |[]=>[]
 |(k,_)::r=>k::keysS r
theorem keysS_get: ∀{τ:Store} {k:Nat},k∉keysS τ->τ.get k=none
 |[],_,_=>rfl
 |(i,o)::r,k,h=>by
  simp only [keysS,List.mem_cons,not_or] at h;rw [get_cons,if_neg (fun e=>h.1 e.symm)];exact keysS_get h.2
theorem keysS_some: ∀{τ:Store} {k:Nat} {o:Obj},τ.get k=some o->k∈keysS τ:=by
 intro τ k o h;apply Classical.byContradiction;intro hn;rw [keysS_get hn] at h;cases h
abbrev Foot:=List Nat×List Nat
def meets (a b:List Nat):Bool:=a.any fun k=>b.contains k
def clash (f g:Foot):Bool:=meets f.2 g.1||meets f.2 g.2||meets g.2 f.1
def footsOk (m:Nat) (g:Foot):Nat->List Foot->Bool
 |_,[]=>true
 |j,f::r=>(!clash f g||m.testBit j)&&footsOk m g (j+1) r
def force {α:Type}:List α->(List α->Prop)->Prop
 |[],k=>k []
 |x::r,k=>force r fun r'=>k (x::r')
theorem force_eq {α:Type}: ∀(l:List α) (k:List α->Prop),force l k=k l
 |[],_=>rfl
 |_::r,_=>force_eq r _
def moveOf (o:Oper):Option Operand:=
 match o.guard with
 |none=>match o.op with
  | .move x=>some x
  | .assign x=>some x
  |_=>none
 |some _=>none
def headGo (E:Env) (all:Array Oper) (m:Nat) (fs:List Foot) (o:Oper) (st:St) (next:Foot->Store->St->Prop):Prop:=
 match moveOf o with
 |some x=>force (putV st.s o.dst (evalV st.s x)) fun s'=>next ([],[]) [] ⟨s',[]⟩
 |none=>
 force ((o.looksAt all).map fun x=>(nth st.s x).getD .any) fun vs=>
 force (cutS st.σ (needs st.σ 200 (namesL 60 vs) [])) fun τ=>
 if plainG all o st=true/\closedB τ=true/\(vs.all fun v=>inV τ 60 v)=true then
  opGo E all o ⟨st.s,τ⟩ fun st'=>
   force (st'.σ.take (st'.σ.length-τ.length)) fun pre=>
   force st'.s fun s'=>
   if ((keysS pre).all fun k=>(keysS τ).contains k||isFresh st.σ k)=true/\footsOk m (keysS τ,keysS pre) 0 fs=true then next (keysS τ,keysS pre) pre ⟨s',[]⟩ else False
 else False
def vcHeads (E:Env) (all:Array Oper) (ms:List Nat):Nat->List Foot->List Oper->St->(St->Prop)->Prop
 |_,_,[],st,k=>k st
 |i,fs,o::r,st,k=>headGo E all (bitsOf ms i) fs o st fun f pre st'=>force (pre++st.σ) fun σ'=>vcHeads E all ms (i+1) (fs++[f]) r ⟨st'.s,σ'⟩ k
def vcDraw (E:Env) (ops:Array Oper) (st:St) (k:St->Prop):Prop:=
 let ms:=masksFrom ops.toList []
 let t:=tailAt ms ops.size
 if drawB ops ms t=true/\st.s.length<=1000000 then
  vcHeads E ops ms 0 [] (ops.toList.take t) st fun st'=>vcOps E ops (ops.toList.drop t) st' k
 else False
def puts:List V->List Oper->List V->List V
 |s,o::r,v::vs=>puts (putV s o.dst v) r vs
 |s,_,_=>s
theorem puts_len: ∀(l:List Oper) (vs s:List V),(puts s l vs).length=s.length
 |[],_,s=>by simp [puts]
 |o::r,[],s=>by simp [puts]
 |o::r,v::vs,s=>by simp only [puts];rw [puts_len r vs,putV_len]
def MoveOk (P:Program) (all:Array Oper) (o:Oper) (s:List V) (v:V):Prop:=
 o.guard=none/\∀(X:Ctx) (a:Act),a.tmps.size=s.length->(∀x∈o.looksAt all,∀c u,s[x]? =some c->a.tmps[x]? =some u->Rep X c u)->
  OpRuns P o a.eval X.w fun u w'=>w'=X.w/\Rep X v u
def HeadOk (P:Program) (all:Array Oper) (o:Oper) (s:List V) (v:V) (τ pre:Store):Prop:=
 closedB τ=true/\((StepOk P all o s v τ (pre++τ)/\∀x∈o.looksAt all,∀c,s[x]? =some c->inV τ 60 c=true)∨(MoveOk P all o s v/\τ=[]/\pre=[]))
theorem foots_nil {m:Nat}: ∀{fs:List Foot} {j:Nat},footsOk m ([],[]) j fs=true
 |[],_=>rfl
 |f::r,j=>by
  have h:clash f ([],[])=false:=by
   simp [clash,meets]
  simp only [footsOk,h,Bool.not_false,Bool.true_or,Bool.true_and];exact foots_nil
theorem move_ok {P:Program} {all:Array Oper} {o:Oper} {s:List V} {x:Operand} (h:moveOf o=some x):MoveOk P all o s (evalV s x):=by
 unfold moveOf at h;split at h
 ·rename_i hg;refine ⟨hg,fun X a hsz hl=> ?_⟩;split at h
  ·rename_i y ho;cases h;refine .val (w':=X.w) (by simp only [execOp,ho];rfl) ⟨rfl,eval_of hsz fun t e c u hc hu=>hl t (looks_op ?_) c u hc hu⟩;subst e;rw [ho];simp [Op.operands]
  ·rename_i y ho;cases h;refine .val (w':=X.w) (by simp only [execOp,ho];rfl) ⟨rfl,eval_of hsz fun t e c u hc hu=>hl t (looks_op ?_) c u hc hu⟩;subst e;rw [ho];simp [Op.operands]
  ·cases h
 ·cases h
theorem headGo_ok {E:Env} (hS:SpecsOk E) {all:Array Oper} {m:Nat} {fs:List Foot} {o:Oper} {st:St} {next:Foot->Store->St->Prop} (hmem:o∈all.toList) (h:headGo E all m fs o st next):
 ∃(v:V) (τ pre:Store) (st':St),next (keysS τ,keysS pre) pre ⟨st'.s,[]⟩/\RefL (putV st.s o.dst v) st'.s/\HeadOk E.P all o st.s v τ pre/\Agree (opsW all.toList) st.s st'.s/\(∀k o,τ.get k=some o->st.σ.get k=some o)/\
  (∀k∈keysS pre,k∈keysS τ∨st.σ.get k=none)/\footsOk m (keysS τ,keysS pre) 0 fs=true:=by
 unfold headGo at h;simp only [force_eq] at h;split at h
 ·rename_i x hx;exact ⟨evalV st.s x,[],[],⟨putV st.s o.dst (evalV st.s x),[]⟩,h, .refl _,⟨rfl, .inr ⟨move_ok hx,rfl,rfl⟩⟩,put_agree (.refl _ _) (fun d hd=>opsW_mem hmem hd),fun k o' hk=>by simp [Store.get] at hk,fun k hk=>by simp [keysS] at hk,foots_nil⟩
 split at h
 ·rename_i hc;obtain ⟨h1,h2,h3⟩:=hc;have hsub: ∀k o',(cutS st.σ (needs st.σ 200 (namesL 60 ((o.looksAt all).map fun x=>(nth st.s x).getD .any)) [])).get k=some o'->st.σ.get k=some o':=fun k o'=>cutS_sub;generalize cutS st.σ (needs st.σ 200 (namesL 60 ((o.looksAt all).map fun x=>(nth st.s x).getD .any)) [])=τ at h h2 h3 hsub;have h':=opGo_n h;obtain ⟨v,st',⟨⟨p,hp⟩,hk⟩,hr,hok,hag⟩:=step_of_opGo hS (st:=⟨st.s,τ⟩) hmem h1 h';simp only at hp;rw [hp] at hk;have e:(p++τ).take ((p++τ).length-τ.length)=p:=by
   rw [List.length_append,Nat.add_sub_cancel];exact List.take_left' rfl
  rw [e] at hk;split at hk
  ·rename_i hq;refine ⟨v,τ,p,st',hk,hr,⟨h2, .inl ⟨by rw [<-hp];exact hok,fun x hx c hcx=> ?_⟩⟩,hag,hsub,fun k hk=> ?_,hq.2⟩
   ·have:=List.all_eq_true.1 h3 ((nth st.s x).getD .any) (List.mem_map.2 ⟨x,hx,rfl⟩);simpa [nth,hcx] using this
   ·have:=List.all_eq_true.1 hq.1 k hk;simp only [Bool.or_eq_true] at this;rcases this with h5|h5
    ·exact .inl (List.contains_iff_mem.1 h5)
    ·exact .inr (isFresh_none h5)
  ·exact hk.elim
 ·exact h.elim
def seqS (σ:Store):List Store->Store
 |[]=>σ
 |p::r=>seqS (p++σ) r
structure HeadsOk (P:Program) (all:Array Oper) (ms:List Nat) (base:List V) (l:List Oper) (outs:List V) (fs0:List Foot) (σ:Store) (τs pres:List Store):Prop where
 lt:τs.length=l.length
 lp:pres.length=l.length
 ok: ∀i o v τ pre,l[i]? =some o->outs[i]? =some v->τs[i]? =some τ->pres[i]? =some pre->∃s,RefL (puts base (l.take i) (outs.take i)) s/\HeadOk P all o s v τ pre
 sub: ∀i τ,τs[i]? =some τ->∀k o,τ.get k=some o->(seqS σ (pres.take i)).get k=some o
 new: ∀i τ pre,τs[i]? =some τ->pres[i]? =some pre->∀k∈keysS pre,k∈keysS τ∨(seqS σ (pres.take i)).get k=none
 foot: ∀i τ pre,τs[i]? =some τ->pres[i]? =some pre->footsOk (bitsOf ms (fs0.length+i)) (keysS τ,keysS pre) 0 (fs0++(List.zip τs pres).map (fun q=>(keysS q.1,keysS q.2))|>.take (fs0.length+i))=true
theorem heads_trace {E:Env} (hS:SpecsOk E) {all:Array Oper} {ms:List Nat}: ∀{l:List Oper} {fs:List Foot} {st:St} {k:St->Prop},(∀o∈l,o∈all.toList)->vcHeads E all ms fs.length fs l st k->
 ∃(outs:List V) (τs pres:List Store) (stF:St),outs.length=l.length/\k stF/\stF.σ=seqS st.σ pres/\Agree (opsW all.toList) st.s stF.s/\∀base,RefL base st.s->RefL (puts base l outs) stF.s/\
  HeadsOk E.P all ms base l outs fs st.σ τs pres
 |[],fs,st,k,_,h=>⟨[],[],[],st,rfl,h,rfl, .refl _ _,fun base hb=>⟨hb,rfl,rfl,fun i o v _ _ hi=>by simp at hi,fun i τ hi=>by simp at hi,fun i τ _ hi=>by simp at hi,fun i τ _ hi=>by simp at hi⟩⟩
 |o::r,fs,st,k,hsub,h=>by
  simp only [vcHeads,force_eq] at h;obtain ⟨v,τ,pre,st',hk,hr,hok,hag,hτ,hnew,hft⟩:=headGo_ok hS (hsub o List.mem_cons_self) h;have hk2:vcHeads E all ms (fs++[(keysS τ,keysS pre)]).length (fs++[(keysS τ,keysS pre)]) r ⟨st'.s,pre++st.σ⟩ k:=by
   rw [List.length_append];exact hk
  obtain ⟨outs,τs,pres,stF,h1,h2,h3,hag',h4⟩:=heads_trace hS (fun x hx=>hsub x (List.mem_cons_of_mem _ hx)) hk2;refine ⟨v::outs,τ::τs,pre::pres,stF,by simp [h1],h2,h3,hag.trans hag',fun base hb=> ?_⟩;obtain ⟨k1,k2⟩:=h4 (putV base o.dst v) ((hb.put _ _).trans hr);refine ⟨k1,by simp [k2.lt],by simp [k2.lp],fun i o' v' τ' pre' hi hv ht hp=> ?_,fun i τ' ht=> ?_,fun i τ' pre' ht hp=> ?_,fun i τ' pre' ht hp=> ?_⟩
  ·match i with
   |0=>
    simp only [List.getElem?_cons_zero,Option.some.injEq] at hi hv ht hp
    subst hi;subst hv;subst ht;subst hp
    exact ⟨st.s,hb,hok⟩
   |i+1=>exact k2.ok i o' v' τ' pre' (by simpa using hi) (by simpa using hv) (by simpa using ht) (by simpa using hp)
  ·match i with
   |0=>
    simp only [List.getElem?_cons_zero,Option.some.injEq] at ht
    subst ht
    exact hτ
   |i+1=>exact k2.sub i τ' (by simpa using ht)
  ·match i with
   |0=>
    simp only [List.getElem?_cons_zero,Option.some.injEq] at ht hp
    subst ht;subst hp
    exact hnew
   |i+1=>exact k2.new i τ' pre' (by simpa using ht) (by simpa using hp)
  ·match i with
   |0=>
    simp only [List.getElem?_cons_zero,Option.some.injEq] at ht hp
    subst ht;subst hp
    simpa using hft
   |i+1=>
    have:=k2.foot i τ' pre' (by simpa using ht) (by simpa using hp)
    simp only [List.length_append,List.length_singleton,List.append_assoc,List.singleton_append] at this
    rw [show fs.length+1+i=fs.length+(i+1) by omega] at this
    simpa using this
theorem puts_off: ∀{l:List Oper} {vs s:List V} {x:Nat},(∀o∈l,o.dst≠some x)->(puts s l vs)[x]? =s[x]?
 |[],vs,s,x,_=>by simp [puts]
 |o::r,[],s,x,_=>by simp [puts]
 |o::r,v::vs,s,x,h=>by
  simp only [puts];rw [puts_off (fun o' ho=>h o' (List.mem_cons_of_mem _ ho))];have:=h o List.mem_cons_self;cases hd:o.dst with
  |none=>rfl
  |some d=>
   simp only [putV];exact List.getElem?_set_ne (fun e=>this (by rw [hd,e]))
theorem puts_at: ∀{l:List Oper} {vs s:List V} {j x:Nat} {o:Oper} {v:V},l[j]? =some o->o.dst=some x->vs[j]? =some v->x<s.length->
 (∀i o',l[i]? =some o'->o'.dst=some x->i=j)->(puts s l vs)[x]? =some v
 |[],vs,s,j,x,o,v,hj,_,_,_,_=>by simp at hj
 |q::r,[],s,j,x,o,v,_,_,hv,_,_=>by simp at hv
 |q::r,u::vs,s,j,x,o,v,hj,hd,hv,hx,hu=>by
  simp only [puts];match j with
  |0=>
   simp only [List.getElem?_cons_zero,Option.some.injEq] at hj hv
   subst hj;subst hv
   rw [puts_off (fun o' ho e=>by
    obtain ⟨i,hi⟩:=List.mem_iff_getElem?.1 ho;have:=hu (i+1) o' (by simpa using hi) e;omega)]
   simp [hd,putV,hx]
  |j+1=>
   exact puts_at (l:=r) (j:=j) (by simpa using hj) hd (by simpa using hv) (by rw [putV_len];exact hx) (fun i o' hi e=>by
    have:=hu (i+1) o' (by simpa using hi) e;omega)
theorem nodupB_inj: ∀{l:List Nat},nodupB l=true->∀{i j x:Nat},l[i]? =some x->l[j]? =some x->i=j
 |[],_,i,j,x,h,_=>by simp at h
 |y::r,hn,i,j,x,hi,hj=>by
  simp only [nodupB,Bool.and_eq_true,Bool.not_eq_true'] at hn;have no: ∀{k:Nat},r[k]? =some y->False:=by
   intro k hk;have:=List.contains_iff_mem.2 (List.mem_of_getElem? hk);rw [this] at hn;cases hn.1
  match i,j with
  |0,0=>rfl
  |0,j+1=>
   simp only [List.getElem?_cons_zero,Option.some.injEq,List.getElem?_cons_succ] at hi hj
   subst hi;exact (no hj).elim
  |i+1,0=>
   simp only [List.getElem?_cons_zero,Option.some.injEq,List.getElem?_cons_succ] at hi hj
   subst hj;exact (no hi).elim
  |i+1,j+1=>
   simp only [List.getElem?_cons_succ] at hi hj
   rw [nodupB_inj hn.2 hi hj]
end Go.Vm
