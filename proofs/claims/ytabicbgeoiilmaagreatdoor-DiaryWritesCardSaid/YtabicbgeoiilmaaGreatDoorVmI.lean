/-
  The engine, part 20: functions.
  The engine, part 21: small helps for specifications.
  The engine, part 22: slices.Sort and slices.Compact at []int, as calls that turn an array of the store.
  Plain laws of lists: rising lists, what Sort and Compact leave.
  The engine, part 24: from what a function hands back to what a law says: arguments that are read as data.
-/
import Derived.Test.YtabicbgeoiilmaaGreatDoorVmH
import Derived.KernelRfl
import Derived.Sort.Grow
import Derived.Lib.SlicesCompact
import Derived.Below
import Derived.ChangeSame
import Derived.WideKeyArgs
import Derived.OpenShut
namespace Go.Vm
open Go.RowKit (Below)
def rslots:List ResultVar->Option (List Nat)
 |[]=>some []
 | .tmp t::r=>(rslots r).map (t:: ·)
 | .cell _ _::_=>none
def vals (s:List V):List Nat->Option (List V)
 |[]=>some []
 |i::r=>match nth s i,vals s r with
  |some v,some vs=>some (v::vs)
  |_,_=>none
def outV:(p:Pat)->p.den->V
 | .slc _ t,l=> .olist t l
 |p,x=>concP p x
def outL:(ps:List Pat)->Xs ps->List V
 |[],_=>[]
 |p::r,x=>outV p x.1::outL r x.2
def pack:List V->V
 |[v]=>v
 |vs=> .tuple vs
def retV (ps:List Pat) (x:Xs ps):V:=pack (outL ps x)
def noTmp:List Pat->Bool
 |[]=>true
 | .list .tmp _::_=>false
 | .own _ _::_=>false
 | .opq _ _::_=>false
 | .fop _::_=>false
 | .clo _ _::_=>false
 | .bp _::_=>false
 |_::r=>noTmp r
def atEnd (ts:List Nat) (ps:List Pat) (r:Xs ps) (st:St):Prop:=
 match vals st.s ts with
 |some vs=>match absL st.σ ps vs with
  |some x=>if nodupB (keysOf (entL ps vs x))&&nodupB (srcsOf (entL ps vs x))&&offB (srcsOf (entL ps vs x)) (frzAll ps vs)&&noTmp ps&&decide (ps.length<50) then x=r else False
  |none=>False
 |none=>False
def exitK (ts:List Nat) (ps:List Pat) (r:Xs ps):Leaf->St->Prop
 | .normal,st=>atEnd ts ps r st
 | .ret,st=>atEnd ts ps r st
 | .exit _,_=>False
 | .goto _,_=>False
def packU:List Value->Value
 |[v]=>v
 |vs=> .tuple vs.toArray
theorem results_list {P:Program} {tmps:Array Value} {w:World} (f:ResultVar->Sem Value) (hf: ∀t,f (.tmp t)=pure (tmps.getD t undef)) (ts:List Tmp):
 ((ts.map ResultVar.tmp).mapM f).run P w= .ok (ts.map fun t=>tmps.getD t undef) w:=by
 induction ts with
 |nil=>simp
 |cons t r ih=>
  rw [List.map_cons,List.mapM_cons];simp only [Sem.run_bind,Sem.run_pure,Result.andThen_ok,ih,List.map_cons,hf]
theorem rslots_spec: ∀{l:List ResultVar} {ts:List Nat},rslots l=some ts->l=ts.map ResultVar.tmp
 |[],ts,h=>by simp only [rslots,Option.some.injEq] at h;subst h;rfl
 | .tmp t::r,ts,h=>by
  simp only [rslots,Option.map_eq_some_iff] at h;obtain ⟨ts',h1,rfl⟩:=h;simp [rslots_spec h1]
 | .cell _ _::_,ts,h=>by simp [rslots] at h
theorem results_run {P:Program} {fn:Func} {ts:List Nat} (h:rslots fn.results.toList=some ts) (tmps:Array Value) (w:World):
 (results fn tmps).run P w= .ok (packU (ts.map fun t=>tmps.getD t undef)) w:=by
 have h1:=rslots_spec h;have h2:fn.results=(ts.map ResultVar.tmp).toArray:=by rw [<-h1]
 unfold results;rw [h2];rw [List.mapM_toArray];simp only [Sem.run_bind];rw [map_eq_pure_bind];simp only [Sem.run_bind];rw [results_list (P:=P) (tmps:=tmps) (w:=w) _ (fun t=>rfl) ts];simp only [Result.andThen_ok,Sem.run_pure];congr 1;match ts with
 |[]=>simp [packU]
 |[t]=>simp [packU]
 |t::t2::r=>simp [packU]
theorem vals_rep {X:Ctx} {s:List V} {tmps:Array Value} (h:RepL X s tmps.toList): ∀{ts:List Nat} {vs:List V},vals s ts=some vs->RepL X vs (ts.map fun t=>tmps.getD t undef):=by
 intro ts;induction ts with
 |nil=>intro vs hv;simp only [vals,Option.some.injEq] at hv;subst hv;exact .nil
 |cons t r ih=>
  intro vs hv;simp only [vals] at hv;split at hv
  ·rename_i v vs' h1 h2;cases hv;obtain ⟨u,hu,hr⟩:=h.get h1;simp only [Array.getElem?_toList] at hu;refine .cons ?_ (ih h2);simp [Array.getD_eq_getD_getElem?,hu,hr]
  ·cases hv
theorem own_pat {σ:Store} {n:Nat} {p:Pat} {x:p.den} (h: ∀e∈objP p x,σ.get e.1=some e.2) (hk:noTmp [p]=true):own σ (n+1) (concP p x)=some (outV p x):=by
 cases p with
 |slc id t=>
  have:=h (id, .arr 0 t x) (by simp [objP]);simp only at this;simp [concP,own,this,outV]
 |list kd t=>
  cases kd with
  |tmp=>simp [noTmp] at hk
  |full=>simp [concP,own,outV]
  |part=>simp [concP,own,outV]
 |opq id k=>simp [noTmp] at hk
 |fop k=>simp [noTmp] at hk
 |clo g cs=>simp [noTmp] at hk
 |bp i=>simp [noTmp] at hk
 |own id T=>simp [noTmp] at hk
 |_=>rfl
theorem ids_pat {σ:Store} {n:Nat} {p:Pat} {x:p.den} (hk:noTmp [p]=true):ids σ (n+1) (concP p x)=(objP p x).map (·.1):=by
 cases p with
 |clo g cs=>simp [noTmp] at hk
 |bp i=>simp [noTmp] at hk
 |_=>rfl
theorem noTmp_cons {p:Pat} {r:List Pat} (h:noTmp (p::r)=true):noTmp [p]=true/\noTmp r=true:=by
 cases p with
 |list kd t=>cases kd<;>simp_all [noTmp]
 |_=>simp_all [noTmp]
theorem noTmp_own: ∀{ps:List Pat},noTmp ps=true->∀{k id:Nat} {T:TypeId},¬ps[k]? =some (.own id T)
 |[],_,k,id,T,h=>by simp at h
 |p::r,h,0,id,T,hp=>by
  simp only [List.getElem?_cons_zero,Option.some.injEq] at hp;subst hp;simp [noTmp] at h
 |p::r,h,k+1,id,T,hp=>noTmp_own (noTmp_cons h).2 (k:=k) (by simpa using hp)
theorem noTmp_clo: ∀{ps:List Pat},noTmp ps=true->∀{k:Nat} {g:FuncId} {caps:List Nat},¬ps[k]? =some (.clo g caps)
 |[],_,k,g,caps,h=>by simp at h
 |p::r,h,0,g,caps,hp=>by
  simp only [List.getElem?_cons_zero,Option.some.injEq] at hp;subst hp;simp [noTmp] at h
 |p::r,h,k+1,g,caps,hp=>noTmp_clo (noTmp_cons h).2 (k:=k) (by simpa using hp)
theorem noTmp_bp: ∀{ps:List Pat},noTmp ps=true->∀{k id:Nat},¬ps[k]? =some (.bp id)
 |[],_,k,id,h=>by simp at h
 |p::r,h,0,id,hp=>by
  simp only [List.getElem?_cons_zero,Option.some.injEq] at hp;subst hp;simp [noTmp] at h
 |p::r,h,k+1,id,hp=>noTmp_bp (noTmp_cons h).2 (k:=k) (by simpa using hp)
theorem own_patL {σ:Store}: ∀{ps:List Pat} {n:Nat} {x:Xs ps},ps.length<n->(∀e∈objL ps x,σ.get e.1=some e.2)->noTmp ps=true->ownL σ (n+1) (concL ps x)=some (outL ps x)
 |[],n,x,_,_,_=>by simp [concL,ownL,outL]
 |p::r,0,x,h,_,_=>by simp at h
 |p::r,n+1,x,h,ho,hk=>by
  obtain ⟨k1,k2⟩:=noTmp_cons hk;simp only [concL,ownL,outL];rw [own_pat (fun e he=>ho e (by simp [objL,he])) k1,own_patL (by simpa using h) (fun e he=>ho e (by simp [objL,he])) k2]
theorem ids_patL {σ:Store}: ∀{ps:List Pat} {n:Nat} {x:Xs ps},noTmp ps=true->ps.length<n->idsL σ (n+1) (concL ps x)=(objL ps x).map (·.1)
 |[],n,x,_,_=>by simp [concL,idsL,objL]
 |p::r,0,x,_,h=>by simp at h
 |p::r,n+1,x,hk,h=>by
  obtain ⟨k1,k2⟩:=noTmp_cons hk;simp only [concL,idsL,objL,List.map_append];rw [ids_pat k1,ids_patL k2 (by simpa using h)]
theorem keys_bare (L:Ent):(bare L).map (·.1)=keysOf L:=by
 induction L with
 |nil=>rfl
 |cons e r ih=>obtain ⟨i,s,o⟩:=e;simp [bare,keysOf,ih]
theorem nodupB_nodup: ∀{l:List Nat},nodupB l=true->l.Nodup
 |[],_=> .nil
 |x::r,h=>by
  simp only [nodupB,Bool.and_eq_true,Bool.not_eq_true'] at h;refine List.nodup_cons.2 ⟨fun hm=> ?_,nodupB_nodup h.2⟩;have:=List.contains_iff_mem.2 hm;rw [this] at h;cases h.1
theorem concL_rep {X:Ctx}: ∀{cs:List V} {us:List Value},RepL X cs us->Rep X (pack cs) (packU us):=by
 intro cs us h;match cs,us,h with
 |[],[],_=>exact .tuple rfl (fun j c u hc=>by simp at hc)
 |[c],[u],h=>exact h.2 0 c u rfl rfl
 |c::c2::r,u::u2::s,h=>exact .tuple (by simpa using h.1) (fun j c u hc hu=>h.2 j c u hc (by simpa using hu))
 |[],_::_,h=>have:=h.1;simp at this
 |_::_,[],h=>have:=h.1;simp at this
 |[c],u::u2::s,h=>have:=h.1;simp at this
 |c::c2::r,[u],h=>have:=h.1;simp at this
theorem own_pack {σ:Store} {ps:List Pat} {x:Xs ps} (hl:ps.length<50) (h: ∀e∈objL ps x,σ.get e.1=some e.2) (hk:noTmp ps=true):
 own σ 60 (pack (concL ps x))=some (pack (outL ps x))/\ids σ 60 (pack (concL ps x))=(objL ps x).map (·.1):=by
 match ps,x,hl,h,hk with
 |[],x,_,_,_=>exact ⟨rfl,rfl⟩
 |[p],x,_,h,hk=>
  refine ⟨own_pat (fun e he=>h e (by simp [objL,he])) hk, ?_⟩
  simp only [concL,pack,objL,List.append_nil]
  exact ids_pat hk
 |p::q::r,x,hl,h,hk=>
  have e1:=own_patL (n:=58) (x:=x) (by omega) h hk
  have e2:=ids_patL (σ:=σ) (n:=58) (x:=x) hk (by omega)
  constructor
  ·show own σ (59+1) (.tuple (concL (p::q::r) x))=some (.tuple (outL (p::q::r) x));simp only [own,e1,Option.map_some]
  ·show ids σ (59+1) (.tuple (concL (p::q::r) x))=_;simp only [ids,e2]
def Start.bare (F:Fr) (w:World):Start:=⟨⟨w,[],fun _=>none,F⟩,fun b=>w.heap.size<=b,fun _ h=>h⟩
theorem Since.below {F:Fr} {w0 w:World} {σ:Store} {μ:Mu} (h:Since (Start.bare F w0).X ⟨w,σ,μ,F⟩):Below w0.heap.size w0 w:=
 ⟨h.os,h.tape,h.output,h.size,fun b hb=>(h.still b ⟨hb,fun id o hg=>by simp [Start.bare,Store.get] at hg⟩).2⟩
theorem atEnd_ok {w0:World} {F:Fr} (hF:F.pin=[]) {fn:Func} {ts:List Nat} (hts:rslots fn.results.toList=some ts) {P:Program} {ps:List Pat} {r:Xs ps} {st:St} {a:Act} {w:World} {μ:Mu}
 (h:atEnd ts ps r st) (hg:Good (Start.bare F w0) F st a w μ):
 a.defers=[]/\∃v,(results fn a.tmps).run P w= .ok v w/\Below w0.heap.size w0 w/\Handed w0.heap.size F w (retV ps r) v:=by
 refine ⟨hg.defers,_,results_run hts _ _,hg.below.below, ?_⟩;unfold atEnd at h;split at h
 ·rename_i vs hvs;split at h
  ·rename_i x hx;split at h
   ·rename_i hok;subst h;simp only [Bool.and_eq_true,decide_eq_true_eq] at hok;obtain ⟨⟨⟨⟨n1,n2⟩,n3⟩,n4⟩,n5⟩:=hok;have hr:=vals_rep hg.slots hvs;generalize hL:entL ps vs x=L at n1 n2 n3;have hb:bare L=objL ps x:=by rw [<-hL];exact entL_bare hx
    have hfrom:FromOk ⟨w,st.σ,μ,F⟩ L:=by
     intro i s o hm;rw [<-hL] at hm;obtain ⟨kk,p,v,y,k1,k2,k3,k4⟩:=entL_mem hx hm;cases p with
     |slc id t=>
      simp only [absP] at k3;split at k3
      ·cases k3;simp only [entP,List.mem_singleton,Prod.mk.injEq] at k4;obtain ⟨rfl,rfl,rfl⟩:=k4;exact ⟨0,t,rfl⟩
      ·rename_i src ep;split at k3
       ·rename_i ep' t' l hg;split at k3
        ·split at k3
         ·rename_i e;subst e;cases k3;simp only [entP,List.mem_singleton,Prod.mk.injEq] at k4;obtain ⟨rfl,rfl,rfl⟩:=k4;exact ⟨_,hg, .inl ⟨_,_,_,_,rfl,rfl⟩⟩
         ·cases k3
        ·cases k3
       ·cases k3
      ·cases k3
     |opq id k=>
      simp only [absP] at k3;split at k3
      ·rename_i src;split at k3
       ·rename_i k' d hg;split at k3
        ·rename_i e1;subst e1;cases k3;simp only [entP,List.mem_singleton,Prod.mk.injEq] at k4;obtain ⟨rfl,rfl,rfl⟩:=k4;exact ⟨_,hg, .inr (.inr (.inr ⟨_,_,rfl,rfl⟩))⟩
        ·cases k3
       ·cases k3
      ·cases k3
     |_=>simp [entP] at k4
    have hout:RepL (Ctx.to ⟨w,st.σ,μ,F⟩ L) (concL ps x) (ts.map fun t=>a.tmps.getD t undef):=by
     refine ⟨?_,fun j c u hc hu=> ?_⟩
     ·rw [concL_len,<-absL_len hx];exact hr.1
     ·have hj:j<ps.length:=by
       have:=(List.getElem?_eq_some_iff.1 hc).1;rwa [concL_len] at this
      obtain ⟨p,hp⟩: ∃p,ps[j]? =some p:=⟨_,List.getElem?_eq_getElem hj⟩
      obtain ⟨v,hv⟩: ∃v,vs[j]? =some v:=⟨_,List.getElem?_eq_getElem (by rw [absL_len hx];exact hj)⟩
      obtain ⟨y,k1,k2,k3,k4⟩:=absL_get hx hp hv;rw [k2] at hc;cases hc;exact pat_rep hg.inv hfrom k1 (hr.2 j v u hv hu) (fun e he=>mem_get n1 (by rw [<-hL];exact k3 e he)) (fun i hi=>offB_spec n3 i (k4 i hi)) (fun id T e _=>by
       subst e;exact absurd hp (noTmp_own n4)) (fun g caps e _=>by
       subst e;exact absurd hp (noTmp_clo n4)) (fun id e _=>by
       subst e;exact absurd hp (noTmp_bp n4))
    have hget: ∀e∈objL ps x,(bare L).get e.1=some e.2:=by
     intro e he;rw [<-hb] at he;have: ∀(L:Ent),nodupB (keysOf L)=true->e∈bare L->(bare L).get e.1=some e.2:=by
      intro L hn he;have: ∀(M:Ent),e∈bare M->∃s,(e.1,s,e.2)∈M:=by
       intro M;induction M with
       |nil=>intro h;simp [bare] at h
       |cons m r ih=>
        obtain ⟨i,s,o⟩:=m;intro h;simp only [bare,List.mem_cons] at h;rcases h with rfl|h
        ·exact ⟨s,by simp⟩
        ·obtain ⟨s',h'⟩:=ih h;exact ⟨s',by simp [h']⟩
      obtain ⟨s,hs⟩:=this L he;exact (mem_get hn hs).1
     exact this L n1 he
    obtain ⟨o1,o2⟩:=own_pack n5 hget n4;refine ⟨bare L,muOf L μ,pack (concL ps x),to_inv hg.inv hfrom n2 (fun e he=>by simp [hF] at he) (fun i src cells cells' hm=> ?_),concL_rep hout,o1, ?_⟩
    ·rw [<-hL] at hm;obtain ⟨kk,p,v,y,k1,k2,k3,k4⟩:=entL_mem hx hm;cases p with
     |slc id t=>
      simp only [entP] at k4;split at k4<;>simp at k4
     |opq id k=>
      simp only [entP] at k4;split at k4<;>simp at k4
     |_=>simp [entP] at k4
    ·rw [o2,<-hb,keys_bare];exact nodupB_nodup n1
   ·exact h.elim
  ·exact h.elim
 ·exact h.elim
theorem Pure.of_vc {E:Env} (hS:SpecsOk E) (hm:E.P.follows .mixedOrders=true) {f:FuncId} {fn:Func} {c:Code} {ts:List Nat} {args:List V} {ps:List Pat} {r:Xs ps} (hf:E.P.funcs[f]? =some fn) (hb:fn.body=some c)
 (hts:rslots fn.results.toList=some ts) (h:vc E c ⟨args++List.replicate (fn.ntmps-args.length) (.tuple []),[]⟩ (exitK ts ps r)):Pure E.P f args (retV ps r):=by
 intro F w vs hF hr;refine calls_of_wp hf hb (vc_sound (w0:=Start.bare F w) (F:=F) (fun e he=>by simp [hF.pin] at he) hS hm _ _ _ _ (fun e st a w' μ hK _ hg=> ?_) h _ w (fun _=>none) ⟨?_, ?_, .refl _,rfl⟩)
 ·cases e with
  |normal=>
   obtain ⟨h1,v,h2,h3,h4⟩:=atEnd_ok (P:=E.P) hF.pin hts hK hg;exact ⟨h1,v,h2,v,rfl,h3,h4⟩
  |ret=>
   obtain ⟨h1,v,h2,h3,h4⟩:=atEnd_ok (P:=E.P) hF.pin hts hK hg;exact ⟨h1,v,h2,v,rfl,h3,h4⟩
  |exit id=>exact hK.elim
  |goto l=>exact hK.elim
 ·exact ⟨fun id o h=>by simp [Store.get] at h,fun i j o o' p q h=>by simp [Store.get] at h,fun id o p h=>by simp [Store.get] at h,hF.out,fun b hb=>hF.out b hb,⟨fun e he=>by simp [hF.pin] at he,fun e he=>⟨hF.gnd e he,fun h=>by have:=hF.lt he;simp only [Start.bare] at h;omega⟩⟩⟩
 ·have hl:vs.length=args.length:=hr.1;have:=hr.append (ds:=List.replicate (fn.ntmps-args.length) (.tuple [])) (us:=List.replicate (fn.ntmps-args.length) undef) ⟨by simp,fun j c u hc hu=>by
   have e1:=(List.getElem?_eq_some_iff.1 hc).2;have e2:=(List.getElem?_eq_some_iff.1 hu).2;simp only [List.getElem_replicate] at e1 e2;subst e1;subst e2;exact .tuple rfl (fun j c u hc=>by simp at hc)⟩
  simpa [hl] using this
theorem Pure.of_g {E:Env} (hS:SpecsOk E) (hm:E.P.follows .mixedOrders=true) {f:FuncId} {fn:Func} {c:Code} {ts:List Nat} {args:List V} {ps:List Pat} {r:Xs ps} (hf:E.P.funcs[f]? =some fn) (hb:fn.body=some c)
 (hts:rslots fn.results.toList=some ts) {g:Prop} (hg:g=vc E c ⟨args++List.replicate (fn.ntmps-args.length) (.tuple []),[]⟩ (exitK ts ps r)) (h:g):Pure E.P f args (retV ps r):=
 Pure.of_vc hS hm hf hb hts (Eq.mp hg h)
def endZ (ts:List Nat) (r:V) (st:St):Prop:=
 match vals st.s ts with
 |some vs=>own st.σ 60 (pack vs)=some r
 |none=>False
def exitZ (ts:List Nat) (r:V):Leaf->St->Prop
 | .normal,st=>endZ ts r st
 | .ret,st=>endZ ts r st
 | .exit _,_=>False
 | .goto _,_=>False
theorem PureZ.of_g {E:Env} (hS:SpecsOk E) (hm:E.P.follows .mixedOrders=true) {f:FuncId} {fn:Func} {c:Code} {ts:List Nat} {args:List V} {r:V} (hf:E.P.funcs[f]? =some fn) (hb:fn.body=some c)
 (hts:rslots fn.results.toList=some ts) {g:Prop} (hg:g=vc E c ⟨args++List.replicate (fn.ntmps-args.length) (.tuple []),[]⟩ (exitZ ts r)) (h:g):PureZ E.P f args r:=by
 subst hg;intro F w vs hF hr;have hend: ∀(st:St) (a:Act) (w':World) (μ':Mu),endZ ts r st->Good (Start.bare F w) F st a w' μ'->
  a.defers=[]/\∃v,(results fn a.tmps).run E.P w'= .ok v w'/\Below w.heap.size w w'/\HandedZ w.heap.size F w' r v:=by
  intro st a w' μ' he hg;unfold endZ at he;split at he
  ·rename_i vs hvs;exact ⟨hg.defers,_,results_run hts _ _,hg.below.below,st.σ,μ',_,hg.inv,concL_rep (vals_rep hg.slots hvs),he⟩
  ·exact he.elim
 refine calls_of_wp hf hb (vc_sound (w0:=Start.bare F w) (F:=F) (fun e he=>by simp [hF.pin] at he) hS hm _ _ _ _ (fun e st a w' μ hK _ hg=> ?_) h _ w (fun _=>none) ⟨?_, ?_, .refl _,rfl⟩)
 ·cases e with
  |normal=>
   obtain ⟨h1,v,h2,h3,h4⟩:=hend st a w' μ hK hg;exact ⟨h1,v,h2,v,rfl,h3,h4⟩
  |ret=>
   obtain ⟨h1,v,h2,h3,h4⟩:=hend st a w' μ hK hg;exact ⟨h1,v,h2,v,rfl,h3,h4⟩
  |exit id=>exact hK.elim
  |goto l=>exact hK.elim
 ·exact ⟨fun id o h=>by simp [Store.get] at h,fun i j o o' b h=>by simp [Store.get] at h,fun id o b h=>by simp [Store.get] at h,hF.out,fun b hb=>hF.out b hb,⟨fun e he=>by simp [hF.pin] at he,fun e he=>⟨hF.gnd e he,fun h=>by have:=hF.lt he;simp only [Start.bare] at h;omega⟩⟩⟩
 ·have hl:vs.length=args.length:=hr.1;have:=hr.append (ds:=List.replicate (fn.ntmps-args.length) (.tuple [])) (us:=List.replicate (fn.ntmps-args.length) undef) ⟨by simp,fun j c u hc hu=>by
   have e1:=(List.getElem?_eq_some_iff.1 hc).2;have e2:=(List.getElem?_eq_some_iff.1 hu).2;simp only [List.getElem_replicate] at e1 e2;subst e1;subst e2;exact .tuple rfl (fun j c u hc=>by simp at hc)⟩
  simpa [hl] using this
end Go.Vm
namespace Go.Vm
def asL (t:Ty):V->Option (List t.den)
 | .list _ t' l=>if h:t'=t then some (h▸l) else none
 | .nils=>some []
 |_=>none
def Weak (v v':V):Prop:= ∀X u,Rep X v u->Rep X v' u
theorem Weak.refl (v:V):Weak v v:=fun _ _ h=>h
theorem asL_weak {t:Ty} {v:V} {l:List t.den} (h:asL t v=some l):Weak v (.list .tmp t l):=by
 intro X u hr;unfold asL at h;split at h
 ·split at h
  ·rename_i e;subst e;cases h;obtain ⟨A,cap,rfl,hc,_⟩:=hr.list_inv;exact .list (hc.keep (fun b hb=>⟨hb,rfl⟩) (fun b hb=>⟨⟨hb.1,fun e=>absurd rfl e⟩,rfl⟩)) (fun e=>by cases e)
  ·cases h
 ·cases h;cases hr;exact .list ⟨rfl,Nat.le_refl _,fun h=>absurd h (Nat.lt_irrefl _)⟩ (fun _=>rfl)
 ·cases h
def asP (t:Ty):V->Option (List t.den)
 | .list kd t' l=>if kd= .tmp then none else if h:t'=t then some (h▸l) else none
 | .nils=>some []
 |_=>none
theorem asP_weak {t:Ty} {v:V} {l:List t.den} (h:asP t v=some l):Weak v (.list .part t l):=by
 intro X u hr;unfold asP at h;split at h
 ·split at h
  ·cases h
  rename_i hk;split at h
  ·rename_i e;subst e;cases h;obtain ⟨A,cap,rfl,hc,_⟩:=hr.list_inv;exact .list (hc.keep (fun b hb=>⟨hb,rfl⟩) (fun b hb=>⟨⟨hb.1,fun _=>hb.2 hk⟩,rfl⟩)) (fun e=>by cases e)
  ·cases h
 ·cases h;cases hr;exact .list ⟨rfl,Nat.le_refl _,fun h=>absurd h (Nat.lt_irrefl _)⟩ (fun _=>rfl)
 ·cases h
theorem boolOf_weak {v:V} {b:Bool} (h:boolOf v=some b):Weak v (.bool b):=by
 intro X u hr;unfold boolOf at h;split at h
 ·cases h;cases hr;exact .bool
 ·cases h;exact hr
 ·cases h
inductive WeakL:List V->List V->Prop where
 |nil:WeakL [] []
 |cons {v v':V} {r r':List V}:Weak v v'->WeakL r r'->WeakL (v::r) (v'::r')
theorem WeakL.rep {X:Ctx} {cs bs:List V} (h:WeakL cs bs): ∀{us:List Value},RepL X cs us->RepL X bs us:=by
 induction h with
 |nil=>exact fun h=>h
 |cons h1 _ ih=>
  intro us hr;obtain ⟨u,us',rfl,k1,k2⟩:=hr.cons_inv;exact .cons (h1 X u k1) (ih k2)
theorem Pure.weak {P:Program} {f:FuncId} {args args':List V} {r:V} (h:Pure P f args' r) (hw:WeakL args args'):Pure P f args r:=
 fun F w vs hF hr=>h F w vs hF (hw.rep hr)
structure FSpec (P:Program) where
 f:FuncId
 run:List V->Option (Prop×V)
 ok: ∀args pre r,run args=some (pre,r)->pre->Pure P f args r
structure UFSpec (P:Program) where
 f:FuncId
 run:List V->Store->Option (Prop×V×Store)
 ok: ∀args σ pre r new,run args σ=some (pre,r,new)->pre->Upd P f args σ r (new++σ)
def specsOf {P:Program}:List (FSpec P)->FuncId->List V->Option (Prop×V)
 |[],_,_=>none
 |s::r,f,args=>if s.f=f then s.run args else specsOf r f args
def updsOf {P:Program}:List (UFSpec P)->FuncId->List V->Store->Option (Prop×V×Store)
 |[],_,_,_=>none
 |s::r,f,args,σ=>if s.f=f then s.run args σ else updsOf r f args σ
theorem specsOf_ok {P:Program}: ∀{ss:List (FSpec P)} {f:FuncId} {args:List V} {pre:Prop} {r:V},specsOf ss f args=some (pre,r)->pre->Pure P f args r
 |[],_,_,_,_,h,_=>by simp [specsOf] at h
 |s::ss,f,args,pre,r,h,hp=>by
  unfold specsOf at h;split at h
  ·rename_i e;subst e;exact s.ok args pre r h hp
  ·exact specsOf_ok h hp
theorem updsOf_ok {P:Program}: ∀{ss:List (UFSpec P)} {f:FuncId} {args:List V} {σ:Store} {pre:Prop} {r:V} {new:Store},updsOf ss f args σ=some (pre,r,new)->pre->Upd P f args σ r (new++σ)
 |[],_,_,_,_,_,_,h,_=>by simp [updsOf] at h
 |s::ss,f,args,σ,pre,r,σ',h,hp=>by
  unfold updsOf at h;split at h
  ·rename_i e;subst e;exact s.ok args σ pre r σ' h hp
  ·exact updsOf_ok h hp
structure ESpec (P:Program) where
 f:FuncId
 run:List V->Option (Prop×V)
 ok: ∀args pre r,run args=some (pre,r)->pre->Ext P f args r
def extsOf {P:Program}:List (ESpec P)->FuncId->List V->Option (Prop×V)
 |[],_,_=>none
 |s::r,f,args=>if s.f=f then s.run args else extsOf r f args
theorem extsOf_ok {P:Program}: ∀{ss:List (ESpec P)} {f:FuncId} {args:List V} {pre:Prop} {r:V},extsOf ss f args=some (pre,r)->pre->Ext P f args r
 |[],_,_,_,_,h,_=>by simp [extsOf] at h
 |s::ss,f,args,pre,r,h,hp=>by
  unfold extsOf at h;split at h
  ·rename_i e;subst e;exact s.ok args pre r h hp
  ·exact extsOf_ok h hp
theorem PureZ.weak {P:Program} {f:FuncId} {args args':List V} {r:V} (h:PureZ P f args' r) (hw:WeakL args args'):PureZ P f args r:=
 fun F w vs hF hr=>h F w vs hF (hw.rep hr)
structure ZSpec (P:Program) where
 f:FuncId
 run:List V->Option (Prop×V)
 ok: ∀args pre r,run args=some (pre,r)->pre->PureZ P f args r
def zsOf {P:Program}:List (ZSpec P)->FuncId->List V->Option (Prop×V)
 |[],_,_=>none
 |s::r,f,args=>if s.f=f then s.run args else zsOf r f args
theorem zsOf_ok {P:Program}: ∀{ss:List (ZSpec P)} {f:FuncId} {args:List V} {pre:Prop} {r:V},zsOf ss f args=some (pre,r)->pre->PureZ P f args r
 |[],_,_,_,_,h,_=>by simp [zsOf] at h
 |s::ss,f,args,pre,r,h,hp=>by
  unfold zsOf at h;split at h
  ·rename_i e;subst e;exact s.ok args pre r h hp
  ·exact zsOf_ok h hp
theorem specs_okz {P:Program} {E:Env} (e:E.P=P) (ss:List (FSpec P)) (us:List (UFSpec P)) (es:List (ESpec P)) (zs:List (ZSpec P)) (h1:E.specs=specsOf ss) (h2:E.upd=updsOf us) (h3:E.ext=extsOf es) (h4:E.zspecs=zsOf zs) (hp:P=P0:=by rfl):SpecsOk E:=by
 subst e;exact ⟨fun f args pre r h hp=>specsOf_ok (by rw [<-h1];exact h) hp,fun f args σ pre r σ' h hp=>updsOf_ok (by rw [<-h2];exact h) hp,fun f args pre r h hp=>extsOf_ok (by rw [<-h3];exact h) hp,fun f args pre r h hp=>zsOf_ok (by rw [<-h4];exact h) hp,hp⟩
theorem specs_okx {P:Program} {E:Env} (e:E.P=P) (ss:List (FSpec P)) (us:List (UFSpec P)) (es:List (ESpec P)) (h1:E.specs=specsOf ss) (h2:E.upd=updsOf us) (h3:E.ext=extsOf es) (h4:E.zspecs=fun _ _=>none:=by rfl) (hp:P=P0:=by rfl):SpecsOk E:=
 specs_okz e ss us es [] h1 h2 h3 (by rw [h4];rfl) hp
theorem specs_ok {P:Program} {E:Env} (e:E.P=P) (ss:List (FSpec P)) (us:List (UFSpec P)) (h1:E.specs=specsOf ss) (h2:E.upd=updsOf us) (h3:E.ext=fun _ _=>none:=by rfl) (h4:E.zspecs=fun _ _=>none:=by rfl) (hp:P=P0:=by rfl):SpecsOk E:=
 specs_okx e ss us [] h1 h2 (by rw [h3];rfl) h4 hp
def St.int (st:St) (i:Nat):Int:=match nth st.s i with
 |some (.int _ n)=>n
 |_=>0
def codeOf (f:Func):Code:=f.body.getD .skip
def start0 (f:Func) (args:List V):St:=⟨args++List.replicate (f.ntmps-args.length) (.tuple []),[]⟩
def tsOf (f:Func):List Nat:=(rslots f.results.toList).getD []
end Go.Vm
namespace Go.Vm
open Go.Sort Go.RowKit
def sortF (l:List Int):List Int:=l.mergeSort fun x y=>decide (x<=y)
structure SortsInts (P:Program) (f:FuncId):Prop where
 some: ∀(blk off cap:Nat) (zs:List Int) (w:World),Holds (Value.int .i64) w blk off zs.toArray->blk<w.heap.size->zs.length<4611686018427387904->
  Calls P f #[.slice (some ⟨blk,off,none⟩) zs.length cap] w fun e w'=>e= .returned (.tuple #[])/\∃n os,w'=grow (putRow (Value.int .i64) (Sort.ahead w n) blk off (sortF zs).toArray) os
 none: ∀(p:Option Addr) (cap:Nat) (w:World),Calls P f #[.slice p 0 cap] w fun e w'=>e= .returned (.tuple #[])/\w'=w
structure CompactsInts (P:Program) (f:FuncId):Prop where
 some: ∀(blk off cap:Nat) (zs:List Int) (w:World),Holds (Value.int .i64) w blk off zs.toArray->zs.length<=9223372036854775807->zs.length<=cap->
  Calls P f #[.slice (some ⟨blk,off,none⟩) zs.length cap] w fun e w'=>e= .returned (.slice (some ⟨blk,off,none⟩) (Lib.compact zs).length cap)/\
   ∃q,w'=putRow (Value.int .i64) (Sort.ahead w q) blk off (Lib.compact zs++List.replicate (zs.length-(Lib.compact zs).length) 0).toArray
 none: ∀(a:Option Addr) (cap:Nat) (w:World),Calls P f #[.slice a 0 cap] w fun e w'=>e= .returned (.slice a 0 cap)/\w'=w
theorem compact_len (zs:List Int):(Lib.compact zs).length<=zs.length:=by
 unfold Lib.compact Lib.compactUpTo;rw [List.length_map];have:=List.length_filter_le (Lib.keeps zs.toArray) (List.range zs.length);simpa using this
theorem arr_holds {w:World} {b base:Nat} {cs:Array Value} {ty:TypeId} {l:List Int} {G:Nat->Prop} (hb:w.heap[b]? =some (.cells cs ty (0,0)))
 (hr: ∀(i:Nat) (x:Int),l[i]? =some x->∃row,RepC w G (.int .i64) x row/\∀(j:Nat) (u:Value),row[j]? =some u->cs[base+i*Ty.cells (.int .i64)+j]? =some u):Holds (Value.int .i64) w b base l.toArray:=by
 intro j hj;have hj2:j<l.length:=by simpa using hj
 obtain ⟨row,h1,h2⟩:=hr j l[j] (List.getElem?_eq_getElem hj2);simp only [RepC] at h1;subst h1;have h3:=h2 0 _ rfl;simp only [Ty.cells,Nat.mul_one,Nat.add_zero] at h3;obtain ⟨h4,h5⟩:=Array.getElem?_eq_some_iff.1 h3;constructor
 ·unfold World.cell?;simp only [hb];simp [h4,h5,hj2]
 ·unfold World.frozen?;simp only [hb];simp [h4]
theorem putCells_get {cs:Array Value} {off:Nat} {d:List Int} {k:Nat} (hk:off+d.length<=cs.size) {x:Int} (hx:d[k]? =some x):(putCells (Value.int .i64) off d.toArray cs)[off+k]? =some (.int .i64 x):=by
 obtain ⟨h1,h2⟩:=List.getElem?_eq_some_iff.1 hx;have h3:off+k<cs.size:=by omega
 unfold putCells;rw [Array.getElem?_mapIdx,Array.getElem?_eq_getElem h3];simp [h1,h2]
theorem put_row {B:Nat->Prop} {F:Fr} {w:World} {σ:Store} {μ:Mu} (hI:Inv B ⟨w,σ,μ,F⟩) (hB: ∀b,w.heap.size<=b->B b) {id ep:Nat} {l zs:List Int} (hg:σ.get id=some (.arr ep (.int .i64) l))
 {b base C:Nat} {cs:Array Value} {ty:TypeId} (hm:μ id=some (b,base,C)) (hb:w.heap[b]? =some (.cells cs ty (0,0))) (hcs:base+C*Ty.cells (.int .i64)=cs.size) (hlC:l.length<=C) (hC:Room (.int .i64) ty base C) (hl:zs.length=l.length)
 (n:Nat) (os:Array Go.Obj):
 Evo ⟨w,σ,μ,F⟩ ⟨grow (putRow (Value.int .i64) (Sort.ahead w n) b base zs.toArray) os,(id, .arr ep (.int .i64) zs)::σ,fun i=>if i=id then μ id else μ i,F⟩/\
  Inv B ⟨grow (putRow (Value.int .i64) (Sort.ahead w n) b base zs.toArray) os,(id, .arr ep (.int .i64) zs)::σ,fun i=>if i=id then μ id else μ i,F⟩:=by
 have hlt:b<w.heap.size:=(Array.getElem?_eq_some_iff.1 hb).1;have hsz:(putRow (Value.int .i64) (Sort.ahead w n) b base zs.toArray).heap.size=w.heap.size:=by simp [putRow,mapBlock,Sort.ahead]
 have hold: ∀k,k<w.heap.size->k≠b->(grow (putRow (Value.int .i64) (Sort.ahead w n) b base zs.toArray) os).heap[k]? =w.heap[k]? :=by
  intro k hk hne;rw [heap_grow_old _ _ (by rw [hsz];exact hk)];show (w.heap.modify b _)[k]? =_;rw [Array.getElem?_modify,if_neg (fun e=>hne e.symm)]
 have hnew:(grow (putRow (Value.int .i64) (Sort.ahead w n) b base zs.toArray) os).heap[b]? =some (.cells (putCells (Value.int .i64) base zs.toArray cs) ty (0,0)):=by
  rw [heap_grow_old _ _ (by rw [hsz];exact hlt)];show (w.heap.modify b _)[b]? =_;rw [Array.getElem?_modify,if_pos rfl,hb];rfl
 refine put_evo (X:=⟨w,σ,μ,F⟩) hI hB (id:=id) (o':= .arr ep (.int .i64) zs) (p':=μ id) rfl rfl rfl (by simp [hsz]) (fun k hk hne=>hold k hk (fun e=>hne _ _ hg hm e.symm)) (fun q hq=> .inr ⟨_,_,hg,hm,by
  rw [hm] at hq;cases hq;rfl⟩) (fun c hc=>by
  have hc:σ.get id=some (.box c):=hc;rw [hg] at hc;cases hc) (fun ep0 t l0 hc=> ?_) (fun hE=> ?_)
 ·have hc:σ.get id=some (.arr ep0 t l0):=hc;rw [hg] at hc;cases hc;exact ⟨ep,zs,rfl,Nat.le_refl _,fun _=>⟨rfl,hl⟩⟩
 ·refine .inr ⟨b,base,C,putCells (Value.int .i64) base zs.toArray cs,ty,by simp [hm],hnew,by simp [putCells,hcs],(show zs.length<=C by omega),hC,fun i x hx=>⟨[.int .i64 x],rfl,fun j u hu=> ?_⟩⟩;match j with
  |0=>
   simp only [List.getElem?_cons_zero,Option.some.injEq] at hu
   subst hu
   simp only [Ty.cells,Nat.mul_one,Nat.add_zero]
   refine putCells_get ?_ hx
   simp only [Ty.cells,Nat.mul_one] at hcs
   omega
  |j+1=>simp at hu
theorem sort_upd {P:Program} {f:FuncId} (h:SortsInts P f) {σ:Store} {id ep:Nat} {l:List Int} (hg:σ.get id=some (.arr ep (.int .i64) l)) (hl:l.length<=1000000000):
 Upd P f [.slc id ep none] σ (.tuple []) ([(id, .arr ep (.int .i64) (sortF l))]++σ):=by
 intro B F w μ vs hI hB hr;obtain ⟨u,us,rfl,h1,h2⟩:=hr.cons_inv;rw [h2.nil_inv];obtain ⟨A,len,cap,ep',t',l',rfl,hg',hle,hcur⟩:=h1.slc_inv;have hg':σ.get id=some (.arr ep' t' l'):=hg';rw [hg] at hg';cases hg';have hh:Hdr (μ id) (.int .i64) l.length none A len cap:=hcur rfl;rcases Nat.eq_zero_or_pos l.length with h0|h0
 ·have hl0:l=[]:=List.eq_nil_of_length_eq_zero h0;have hlen:len=0:=by
   cases hm:μ id with
   |none=>rw [hm] at hh;exact hh.1
   |some q=>obtain ⟨b,base,C⟩:=q;rw [hm] at hh;rw [hh.1];exact h0
  subst hlen;refine (h.none A cap w).mono fun e w' ⟨he,hw⟩=>⟨_,he,fun i=>if i=id then μ id else μ i, ?_⟩
  subst hw;have hs:sortF l=l:=by rw [hl0];simp [sortF]
  rw [hs];have key:Evo ⟨w',σ,μ,F⟩ ⟨w',(id, .arr ep (.int .i64) l)::σ,fun i=>if i=id then μ id else μ i,F⟩/\Inv B ⟨w',(id, .arr ep (.int .i64) l)::σ,fun i=>if i=id then μ id else μ i,F⟩:=by
   refine put_evo (X:=⟨w',σ,μ,F⟩) hI hB (id:=id) (o':= .arr ep (.int .i64) l) (p':=μ id) rfl rfl rfl (Nat.le_refl _) (fun _ _ _=>rfl) (fun q hq=> .inr ⟨_,_,hg,hq,rfl⟩) (fun c hc=>by
    have hc:σ.get id=some (.box c):=hc;rw [hg] at hc;cases hc) (fun ep0 t l0 hc=> ?_) (fun hE=> ?_)
   ·have hc:σ.get id=some (.arr ep0 t l0):=hc;rw [hg] at hc;cases hc;exact ⟨ep,l,rfl,Nat.le_refl _,fun _=>⟨rfl,rfl⟩⟩
   ·rcases hI.objs id _ hg with k|⟨b,base,C,cs,ty,k1,k2,k3,k4,k5,k6⟩
    ·exact .inl (by simpa using k)
    ·refine .inr ⟨b,base,C,cs,ty,by simpa using k1,k2,k3,k4,k5,fun i x hx=> ?_⟩;obtain ⟨row,r1,r2⟩:=k6 i x hx;exact ⟨row,r1.keep hE.good,r2⟩
  exact ⟨key.2, .tuple rfl (fun j c u hc=>by simp at hc),key.1⟩
 ·rcases hI.objs id _ hg with ⟨_,k⟩|⟨b,base,C,cs,ty,k1,k2,k3,k4,k5,k6⟩
  ·have k:l.length=0:=k;omega
  ·have k1:μ id=some (b,base,C):=k1;rw [k1] at hh;obtain ⟨rfl,rfl,_,a,rfl,ha⟩:=hh;have hH:=arr_holds (w:=w) (G:=Ctx.G ⟨w,σ,μ,F⟩) (l:=l) k2 k6;have ha2:=ha (by omega);subst ha2;refine (h.some b base cap l w hH (Array.getElem?_eq_some_iff.1 k2).1 (by omega)).mono fun e w' ⟨he,n,os,hw⟩=>⟨_,he,fun i=>if i=id then μ id else μ i, ?_⟩
   subst hw;obtain ⟨e1,e2⟩:=put_row hI hB hg k1 k2 k3 k4 k5 (zs:=sortF l) (by simp [sortF]) n os;exact ⟨e2, .tuple (vs:= #[]) rfl (fun j c u hc=>by simp at hc),e1⟩
def compactRest (l:List Int):List Int:=Lib.compact l++List.replicate (l.length-(Lib.compact l).length) 0
theorem compact_upd {P:Program} {f:FuncId} (h:CompactsInts P f) {σ:Store} {id ep:Nat} {l:List Int} (hg:σ.get id=some (.arr ep (.int .i64) l)) (hl:l.length<=1000000000):
 Upd P f [.slc id ep none] σ (.slc id ep (some (0,(Lib.compact l).length))) ([(id, .arr ep (.int .i64) (compactRest l))]++σ):=by
 intro B F w μ vs hI hB hr;obtain ⟨u,us,rfl,h1,h2⟩:=hr.cons_inv;rw [h2.nil_inv];obtain ⟨A,len,cap,ep',t',l',rfl,hg',hle,hcur⟩:=h1.slc_inv;have hg':σ.get id=some (.arr ep' t' l'):=hg';rw [hg] at hg';cases hg';have hh:Hdr (μ id) (.int .i64) l.length none A len cap:=hcur rfl;have hcl:=compact_len l;have hrl:(compactRest l).length=l.length:=by rw [compactRest,List.length_append,List.length_replicate];omega
 rcases Nat.eq_zero_or_pos l.length with h0|h0
 ·have hl0:l=[]:=List.eq_nil_of_length_eq_zero h0;have hlen:len=0:=by
   cases hm:μ id with
   |none=>rw [hm] at hh;exact hh.1
   |some q=>obtain ⟨b,base,C⟩:=q;rw [hm] at hh;rw [hh.1];exact h0
  subst hlen;refine (h.none A cap w).mono fun e w' ⟨he,hw⟩=>⟨_,he,fun i=>if i=id then μ id else μ i, ?_⟩
  subst hw;have hs:compactRest l=l:=by rw [hl0];simp [compactRest,Lib.compact,Lib.compactUpTo]
  have hc0:(Lib.compact l).length=0:=by omega
  rw [hs,hc0];have key:Evo ⟨w',σ,μ,F⟩ ⟨w',(id, .arr ep (.int .i64) l)::σ,fun i=>if i=id then μ id else μ i,F⟩/\Inv B ⟨w',(id, .arr ep (.int .i64) l)::σ,fun i=>if i=id then μ id else μ i,F⟩:=by
   refine put_evo (X:=⟨w',σ,μ,F⟩) hI hB (id:=id) (o':= .arr ep (.int .i64) l) (p':=μ id) rfl rfl rfl (Nat.le_refl _) (fun _ _ _=>rfl) (fun q hq=> .inr ⟨_,_,hg,hq,rfl⟩) (fun c hc=>by
    have hc:σ.get id=some (.box c):=hc;rw [hg] at hc;cases hc) (fun ep0 t l0 hc=> ?_) (fun hE=> ?_)
   ·have hc:σ.get id=some (.arr ep0 t l0):=hc;rw [hg] at hc;cases hc;exact ⟨ep,l,rfl,Nat.le_refl _,fun _=>⟨rfl,rfl⟩⟩
   ·rcases hI.objs id _ hg with k|⟨b,base,C,cs,ty,k1,k2,k3,k4,k5,k6⟩
    ·exact .inl (by simpa using k)
    ·refine .inr ⟨b,base,C,cs,ty,by simpa using k1,k2,k3,k4,k5,fun i x hx=> ?_⟩;obtain ⟨row,r1,r2⟩:=k6 i x hx;exact ⟨row,r1.keep hE.good,r2⟩
  refine ⟨key.2, .slc (ep':=ep) (t:= .int .i64) (l:=l) (by simp [get_cons]) (Nat.le_refl _) (fun _=> ?_),key.1⟩;simp only [if_true];cases hm:μ id with
  |none=>rw [hm] at hh;exact ⟨rfl,rfl,rfl,hh.2.1,h0⟩
  |some q=>
   obtain ⟨b,base,C⟩:=q;rw [hm] at hh;obtain ⟨_,rfl,hC,a,rfl,ha⟩:=hh;exact ⟨rfl,by simp,hC,rfl,a,rfl,fun h3=>by rw [ha (by omega)];simp⟩
 ·rcases hI.objs id _ hg with ⟨_,k⟩|⟨b,base,C,cs,ty,k1,k2,k3,k4,k5,k6⟩
  ·have k:l.length=0:=k;omega
  ·have k1:μ id=some (b,base,C):=k1;rw [k1] at hh;obtain ⟨rfl,rfl,hC,a,rfl,ha⟩:=hh;have hH:=arr_holds (w:=w) (G:=Ctx.G ⟨w,σ,μ,F⟩) (l:=l) k2 k6;have ha2:=ha (by omega);subst ha2;refine (h.some b base cap l w hH (by omega) hC).mono fun e w' ⟨he,n,hw⟩=>⟨_,he,fun i=>if i=id then μ id else μ i, ?_⟩
   have hw:w'=grow (putRow (Value.int .i64) (Sort.ahead w n) b base (compactRest l).toArray) #[]:=by rw [grow_empty];exact hw
   subst hw;obtain ⟨e1,e2⟩:=put_row hI hB hg k1 k2 k3 k4 k5 (zs:=compactRest l) hrl n #[];refine ⟨e2, .slc (ep':=ep) (t:= .int .i64) (l:=compactRest l) (by simp [get_cons]) (Nat.le_refl _) (fun _=> ?_),e1⟩;simp only [if_true,k1];exact ⟨rfl,(show 0+(Lib.compact l).length<=(compactRest l).length by omega),(show (compactRest l).length<=cap by omega),rfl,_,rfl,fun _=>by simp⟩
def sortRun:List V->Store->Option (Prop×V×Store)
 |[.slc id ep none],σ=>match σ.get id with
  |some (.arr ep' (.int .i64) l)=>if ep=ep' then some (List.length l<=1000000000, .tuple [],[(id, .arr ep' (.int .i64) (sortF l))]) else none
  |_=>none
 |_,_=>none
def compactRun:List V->Store->Option (Prop×V×Store)
 |[.slc id ep none],σ=>match σ.get id with
  |some (.arr ep' (.int .i64) l)=>if ep=ep' then some (List.length l<=1000000000, .slc id ep' (some (0,(Lib.compact (α:=Int) l).length)),[(id, .arr ep' (.int .i64) (compactRest l))]) else none
  |_=>none
 |_,_=>none
def sortSpec {P:Program} (f:FuncId) (h:SortsInts P f):UFSpec P where
 f:=f
 run:=sortRun
 ok:=fun args σ pre r new hr hp=>by
  unfold sortRun at hr;split at hr
  ·split at hr
   ·rename_i hg;split at hr
    ·rename_i e;subst e;cases hr;exact sort_upd h hg hp
    ·cases hr
   ·cases hr
  ·cases hr
def compactSpec {P:Program} (f:FuncId) (h:CompactsInts P f):UFSpec P where
 f:=f
 run:=compactRun
 ok:=fun args σ pre r new hr hp=>by
  unfold compactRun at hr;split at hr
  ·split at hr
   ·rename_i hg;split at hr
    ·rename_i e;subst e;cases hr;exact compact_upd h hg hp
    ·cases hr
   ·cases hr
  ·cases hr
end Go.Vm
namespace Go.Vm
def withF:List Int->Int->List Int
 |[],n=>[n]
 |x::r,n=>if x<n then x::withF r n else if x=n then x::r else n::x::r
abbrev Rises (l:List Int):Prop:=l.Pairwise (· < ·)
theorem mem_withF: ∀{l:List Int} {n x:Int},x∈withF l n↔x∈l∨x=n
 |[],n,x=>by simp [withF]
 |y::r,n,x=>by
  unfold withF;split
  ·simp only [List.mem_cons,mem_withF,or_assoc]
  ·split
   ·rename_i e;subst e;simp only [List.mem_cons];constructor
    ·exact .inl
    ·rintro (h|h)
     ·exact h
     ·exact .inl h
   ·simp only [List.mem_cons];constructor
    ·rintro (h|h|h)
     ·exact .inr h
     ·exact .inl (.inl h)
     ·exact .inl (.inr h)
    ·rintro ((h|h)|h)
     ·exact .inr (.inl h)
     ·exact .inr (.inr h)
     ·exact .inl h
theorem rises_withF: ∀{l:List Int} {n:Int},Rises l->Rises (withF l n)
 |[],n,_=>by simp [withF,Rises]
 |y::r,n,h=>by
  obtain ⟨h1,h2⟩:=List.pairwise_cons.1 h;unfold withF;split
  ·rename_i hlt;refine List.pairwise_cons.2 ⟨fun x hx=> ?_,rises_withF h2⟩;rcases mem_withF.1 hx with h3|h3
   ·exact h1 x h3
   ·omega
  ·split
   ·exact h
   ·refine List.pairwise_cons.2 ⟨fun x hx=> ?_,h⟩;rcases List.mem_cons.1 hx with h3|h3
    ·omega
    ·have:=h1 x h3;omega
theorem len_withF: ∀{l:List Int} {n:Int},(withF l n).length<=l.length+1
 |[],n=>by simp [withF]
 |y::r,n=>by
  unfold withF;have:=len_withF (l:=r) (n:=n);split
  ·simp only [List.length_cons];omega
  ·split<;>simp
theorem rises_ext: ∀{a b:List Int},Rises a->Rises b->(∀x,x∈a↔x∈b)->a=b
 |[],[],_,_,_=>rfl
 |[],y::b,_,_,h=>by have:=(h y).2 (by simp);simp at this
 |x::a,[],_,_,h=>by have:=(h x).1 (by simp);simp at this
 |x::a,y::b,ha,hb,h=>by
  obtain ⟨a1,a2⟩:=List.pairwise_cons.1 ha;obtain ⟨b1,b2⟩:=List.pairwise_cons.1 hb;have e:x=y:=by
   have h1:=(h x).1 (by simp);have h2:=(h y).2 (by simp);rcases List.mem_cons.1 h1 with h3|h3
   ·exact h3
   ·rcases List.mem_cons.1 h2 with h4|h4
    ·exact h4.symm
    ·have:=b1 x h3;have:=a1 y h4;omega
  subst e;congr 1;refine rises_ext a2 b2 (fun z=> ?_);have hz:=h z;simp only [List.mem_cons] at hz;constructor
  ·intro hm;rcases hz.1 (.inr hm) with h3|h3
   ·have:=a1 z hm;omega
   ·exact h3
  ·intro hm;rcases hz.2 (.inr hm) with h3|h3
   ·have:=b1 z hm;omega
   ·exact h3
theorem rises_fold: ∀{m l:List Int},Rises l->Rises (m.foldl withF l)
 |[],_,h=>h
 |x::r,l,h=>rises_fold (m:=r) (rises_withF h)
theorem mem_fold: ∀{m l:List Int} {x:Int},x∈m.foldl withF l↔x∈l∨x∈m
 |[],l,x=>by simp
 |y::r,l,x=>by
  rw [List.foldl_cons,mem_fold,mem_withF,List.mem_cons,or_assoc]
theorem len_fold: ∀{m l:List Int},(m.foldl withF l).length<=l.length+m.length
 |[],l=>by simp
 |y::r,l=>by
  have h1:=len_fold (m:=r) (l:=withF l y);have h2:=len_withF (l:=l) (n:=y);simp only [List.foldl_cons,List.length_cons];omega
theorem compact_upto {zs:List Int} (hs: ∀i,i+1<zs.length->zs.toArray[i]! <=zs.toArray[i+1]!): ∀m,m<=zs.length->Rises (Lib.compactUpTo zs.toArray m)/\(∀x∈Lib.compactUpTo zs.toArray m,0<m/\x<=zs.toArray[m-1]!)/\
 ∀x,x∈Lib.compactUpTo zs.toArray m↔∃j,j<m/\zs.toArray[j]! =x
 |0,_=>by simp [Lib.compactUpTo,Rises]
 |m+1,hm=>by
  obtain ⟨h1,h2,h3⟩:=compact_upto hs m (by omega);rw [Lib.compactUpTo_succ];have hle: ∀x∈Lib.compactUpTo zs.toArray m,x<=zs.toArray[m]! :=by
   intro x hx;obtain ⟨h4,h5⟩:=h2 x hx;have:=hs (m-1) (by omega);rw [show m-1+1=m by omega] at this;omega
  by_cases hk:Lib.keeps zs.toArray m=true
  ·rw [if_pos hk];have hlt: ∀x∈Lib.compactUpTo zs.toArray m,x<zs.toArray[m]! :=by
    intro x hx;obtain ⟨h4,h5⟩:=h2 x hx;have h6:=hs (m-1) (by omega);rw [show m-1+1=m by omega] at h6;simp only [Lib.keeps,decide_eq_true_eq] at hk;have:zs.toArray[m]! ≠zs.toArray[m-1]! :=by
     rcases hk with hk|hk
     ·omega
     ·exact hk
    omega
   refine ⟨List.pairwise_append.2 ⟨h1,by simp,fun x hx y hy=> ?_⟩,fun x hx=>⟨by omega, ?_⟩,fun x=> ?_⟩
   ·simp only [List.mem_singleton] at hy;subst hy;exact hlt x hx
   ·rcases List.mem_append.1 hx with hx|hx
    ·exact hle x hx
    ·simp only [List.mem_singleton] at hx;subst hx;simp
   ·rw [List.mem_append,h3,List.mem_singleton];constructor
    ·rintro (⟨j,hj,e⟩|rfl)
     ·exact ⟨j,by omega,e⟩
     ·exact ⟨m,by omega,rfl⟩
    ·rintro ⟨j,hj,e⟩;by_cases hjm:j=m
     ·subst hjm;exact .inr e.symm
     ·exact .inl ⟨j,by omega,e⟩
  ·rw [if_neg hk,List.append_nil];have hm0:0<m/\zs.toArray[m]! =zs.toArray[m-1]! :=by
    simp only [Lib.keeps,decide_eq_true_eq,not_or,ne_eq,Classical.not_not] at hk;exact ⟨by omega,hk.2⟩
   refine ⟨h1,fun x hx=>⟨by omega,hle x hx⟩,fun x=> ?_⟩;rw [h3];constructor
   ·rintro ⟨j,hj,e⟩;exact ⟨j,by omega,e⟩
   ·rintro ⟨j,hj,e⟩;by_cases hjm:j=m
    ·subst hjm;exact ⟨j-1,by omega,by rw [<-hm0.2];exact e⟩
    ·exact ⟨j,by omega,e⟩
theorem compact_sort (l:List Int):Lib.compact (sortF l)=l.foldl withF []:=by
 have hs:(sortF l).Pairwise (fun x y=>decide (x<=y)=true):=List.pairwise_mergeSort (fun a b c h1 h2=>by simp at*;omega) (fun a b=>by simp;omega) l;have hs2: ∀i,i+1<(sortF l).length->(sortF l).toArray[i]! <=(sortF l).toArray[i+1]! :=by
  intro i hi;have:=List.pairwise_iff_getElem.1 hs i (i+1) (by omega) hi (by omega);simp only [decide_eq_true_eq] at this;have h1:i<(sortF l).length:=by omega
  simp [h1,hi,this]
 obtain ⟨h1,_,h3⟩:=compact_upto hs2 (sortF l).length (Nat.le_refl _);refine rises_ext h1 (rises_fold List.Pairwise.nil) (fun x=> ?_);rw [mem_fold];show x∈Lib.compactUpTo (sortF l).toArray (sortF l).length↔_;rw [h3];have hp: ∀x,x∈sortF l↔x∈l:=fun x=>(List.mergeSort_perm l _).mem_iff;constructor
 ·rintro ⟨j,hj,e⟩;right;rw [<-hp,<-e];simp [hj]
 ·rintro (h|h)
  ·simp at h
  ·rw [<-hp] at h;obtain ⟨j,hj,e⟩:=List.mem_iff_getElem.1 h;exact ⟨j,hj,by simp [hj,e]⟩
end Go.Vm
namespace Go.Vm
open Go.RowKit (Below)
open Go.ChangeShapes Go.WideShapes Go.WideElems
def fieldsOk (P:Program) (ok:TypeId->Ty->Bool):List Field->Nat->Ty->Bool
 |[f],off,ty=>f.offset==off&&(ok f.type ty&&P.cellsOf f.type==ty.cells)
 |f::r,off, .pair a b=>f.offset==off&&(ok f.type a&&(P.cellsOf f.type==a.cells&&fieldsOk P ok r (off+a.cells) b))
 |_,_,_=>false
def arrOk (P:Program) (ok:TypeId->Ty->Bool) (e:TypeId):Nat->Ty->Bool
 |1,ty=>ok e ty&&P.cellsOf e==ty.cells
 |n+2, .pair a b=>ok e a&&(P.cellsOf e==a.cells&&arrOk P ok e (n+1) b)
 |_,_=>false
def tyOk (P:Program):Nat->TypeId->Ty->Bool
 |0,_,_=>false
 |n+1,t,ty=>match P.underlying t with
  |some .bool=>(match ty with
   | .bool=>true
   |_=>false)
  |some .string=>(match ty with
   | .str=>true
   |_=>false)
  |some (.int k)=>(match ty with
   | .int k'=>k==k'
   |_=>false)
  |some (.slice e)=>(match ty with
   | .slice ty'=>tyOk P n e ty'&&P.cellsOf e==ty'.cells
   |_=>false)
  |some (.struct fs)=>fieldsOk P (tyOk P n) fs.toList 0 ty&&P.cellsOf t==ty.cells
  |some (.array m e)=>arrOk P (tyOk P n) e m ty&&P.cellsOf t==ty.cells
  |_=>false
def okD:(t:Ty)->t.den->Prop
 | .bool,_=>True
 | .str,l=>List.length l<=maxLen
 | .int k,n=>InK k n
 | .slice t,l=>List.length l<=maxLen/\∀(i:Nat) (x:t.den),nth (α:=t.den) l i=some x->okD t x
 | .pair a b,x=>okD a x.1/\okD b x.2
theorem inK_of_wf {k:IntKind} {n:Int} (h:(Lit.int k n).wf=true):InK k n:=by
 cases k<;>simp [Lit.wf,IntKind.min,IntKind.max,IntKind.signed,IntKind.bits] at h<;>simp only [InK]<;>omega
section
variable {H:Type} {enc:TypeId×Value->H} {P:Program} {w:World} {base:Nat} {spare:Nat->Bool} {held:Bool}
abbrev Lies (w:World) (b:Nat):Prop:=b<w.heap.size
theorem fields_rep {ok:TypeId->Ty->Bool} {rd:TypeId->List Value->Option (DataW H×List MemPlace)} (hok: ∀t ty cs x,ok t ty=true->rd t cs=some x->∃d,RepC w (Lies w) ty d cs/\okD ty d) {cs:List Value}:
 ∀(fs:List Field) (off:Nat) (ty:Ty),fieldsOk P ok fs off ty=true->(∀f∈fs,∃x,rd f.type ((cs.drop f.offset).take (P.cellsOf f.type))=some x)->(cs.drop off).length=ty.cells->∃d,RepC w (Lies w) ty d (cs.drop off)/\okD ty d
 |[],off,ty,h,_,_=>by simp [fieldsOk] at h
 |[f],off,ty,h,hr,hl=>by
  simp only [fieldsOk,Bool.and_eq_true,beq_iff_eq] at h;obtain ⟨rfl,h2,h3⟩:=h;obtain ⟨x,hx⟩:=hr f (by simp);obtain ⟨d,hd⟩:=hok _ _ _ _ h2 hx;rw [List.take_of_length_le (by omega)] at hd;exact ⟨d,hd⟩
 |f::g::r,off, .pair a b,h,hr,hl=>by
  simp only [fieldsOk,Bool.and_eq_true,beq_iff_eq] at h;obtain ⟨rfl,h2,h3,h4⟩:=h;obtain ⟨x,hx⟩:=hr f (by simp);obtain ⟨d1,hd1,ho1⟩:=hok _ _ _ _ h2 hx;simp only [Ty.cells,List.length_drop] at hl;obtain ⟨d2,hd2,ho2⟩:=fields_rep hok (g::r) (f.offset+a.cells) b h4 (fun q hq=>hr q (List.mem_cons_of_mem _ hq)) (by simp only [List.length_drop];omega);refine ⟨(d1,d2),⟨_,_, ?_,hd1,hd2⟩,ho1,ho2⟩;rw [h3,<-List.drop_drop,List.take_append_drop]
 |f::g::r,off, .bool,h,_,_=>by simp [fieldsOk] at h
 |f::g::r,off, .str,h,_,_=>by simp [fieldsOk] at h
 |f::g::r,off, .int _,h,_,_=>by simp [fieldsOk] at h
 |f::g::r,off, .slice _,h,_,_=>by simp [fieldsOk] at h
theorem arr_rep {ok:TypeId->Ty->Bool} {e:TypeId} {rd:TypeId->List Value->Option (DataW H×List MemPlace)} (hok: ∀t ty cs x,ok t ty=true->rd t cs=some x->∃d,RepC w (Lies w) ty d cs/\okD ty d) {cs:List Value}:
 ∀(n i:Nat) (ty:Ty),arrOk P ok e n ty=true->(∀j,i<=j->j<i+n->∃x,rd e ((cs.drop (j*P.cellsOf e)).take (P.cellsOf e))=some x)->(cs.drop (i*P.cellsOf e)).length=ty.cells->∃d,RepC w (Lies w) ty d (cs.drop (i*P.cellsOf e))/\okD ty d
 |0,i,ty,h,_,_=>by simp [arrOk] at h
 |1,i,ty,h,hr,hl=>by
  simp only [arrOk,Bool.and_eq_true,beq_iff_eq] at h;obtain ⟨h2,h3⟩:=h;obtain ⟨x,hx⟩:=hr i (Nat.le_refl _) (by omega);obtain ⟨d,hd⟩:=hok _ _ _ _ h2 hx;rw [List.take_of_length_le (by omega)] at hd;exact ⟨d,hd⟩
 |n+2,i, .pair a b,h,hr,hl=>by
  simp only [arrOk,Bool.and_eq_true,beq_iff_eq] at h;obtain ⟨h2,h3,h4⟩:=h;obtain ⟨x,hx⟩:=hr i (Nat.le_refl _) (by omega);obtain ⟨d1,hd1,ho1⟩:=hok _ _ _ _ h2 hx;simp only [Ty.cells,List.length_drop] at hl;have ei:(i+1)*P.cellsOf e=i*P.cellsOf e+a.cells:=by rw [Nat.succ_mul,h3]
  obtain ⟨d2,hd2,ho2⟩:=arr_rep hok (n+1) (i+1) b h4 (fun j h5 h6=>hr j (by omega) (by omega)) (by simp only [List.length_drop];omega);refine ⟨(d1,d2),⟨_,_, ?_,hd1,hd2⟩,ho1,ho2⟩;rw [ei,h3,<-List.drop_drop,List.take_append_drop]
 |n+2,i, .bool,h,_,_=>by simp [arrOk] at h
 |n+2,i, .str,h,_,_=>by simp [arrOk] at h
 |n+2,i, .int _,h,_,_=>by simp [arrOk] at h
 |n+2,i, .slice _,h,_,_=>by simp [arrOk] at h
theorem choose_list {α:Type} {Q:Nat->α->Prop}: ∀(n:Nat),(∀i,i<n->∃x,Q i x)->∃l:List α,l.length=n/\∀i x,l[i]? =some x->Q i x
 |0,_=>⟨[],rfl,fun i x h=>by simp at h⟩
 |n+1,h=>by
  obtain ⟨l,h1,h2⟩:=choose_list n (fun i hi=>h i (by omega));obtain ⟨x,hx⟩:=h n (by omega);refine ⟨l++[x],by simp [h1],fun i y hy=> ?_⟩;by_cases hi:i<n
  ·rw [List.getElem?_append_left (by omega)] at hy;exact h2 i y hy
  ·rw [List.getElem?_append_right (by omega)] at hy;have:i=n:=by
    have:=(List.getElem?_eq_some_iff.1 hy).1;simp at this;omega
   subst this;rw [h1,Nat.sub_self] at hy;simp at hy;subst hy;exact hx
theorem trod_rep: ∀(n:Nat) (t:TypeId) (ty:Ty) (fuel:Nat) (cs:List Value) (x:DataW H×List MemPlace),tyOk P n t ty=true->DataW.trod enc P w base spare held fuel t cs=some x->∃d,RepC w (Lies w) ty d cs/\okD ty d
 |0,_,_,_,_,_,h,_=>by simp [tyOk] at h
 |n+1,t,ty,fuel,cs,x,h,hx=>by
  unfold tyOk at h;split at h
  ·rename_i hu;split at h
   ·obtain ⟨b,rfl,_⟩:=DataW.trod_bool hu hx;exact ⟨b,rfl,trivial⟩
   ·cases h
  ·rename_i hu;split at h
   ·obtain ⟨s,rfl,_,hs⟩:=DataW.trod_string hu hx;exact ⟨s.data.toList,⟨s,rfl,rfl⟩,by simpa [okD] using hs⟩
   ·cases h
  ·rename_i k hu;split at h
   ·rename_i k';obtain ⟨m,rfl,_,hw⟩:=DataW.trod_int hu hx;have:k=k':=by simpa using h
    subst this;exact ⟨m,rfl,inK_of_wf hw⟩
   ·cases h
  ·rename_i e hu;split at h
   ·rename_i ty';simp only [Bool.and_eq_true,beq_iff_eq] at h;obtain ⟨h1,h2⟩:=h;rcases DataW.trod_slice hu hx with ⟨rfl,_⟩|⟨a,len,cap,elems,rest,m,rfl,rfl,_,hb,hl,hm,hlen,hel,_,_⟩
    ·exact ⟨([]:List ty'.den),⟨none,0,rfl,Nat.le_refl _,fun h0=>absurd h0 (Nat.lt_irrefl _)⟩,Nat.zero_le _,fun i x hx=>by simp [nth] at hx⟩
    ·have each: ∀i,i<len->∃d:ty'.den,(∃row,RepC w (Lies w) ty' d row/\w.cells? base (a.add (i*P.cellsOf e)) (P.cellsOf e)=some row)/\okD ty' d:=by
      intro i hi;have h3:=hel i hi;rw [List.getElem?_eq_getElem (by omega),Option.bind_eq_some_iff] at h3;obtain ⟨row,h4,h5⟩:=h3;obtain ⟨d,hd,ho⟩:=trod_rep n e ty' m row _ h1 h5;exact ⟨d,⟨row,hd,h4⟩,ho⟩
     obtain ⟨l,hll,hlq⟩:=choose_list len each;refine ⟨l,⟨some a,cap,by rw [hll],by omega,fun h0=> ?_⟩,by omega,fun i x hx=>(hlq i x hx).2⟩;obtain ⟨b,off,spot⟩:=a;have hfirst:=hlq 0 l[0] (List.getElem?_eq_getElem h0);obtain ⟨⟨row,hr1,hr2⟩,_⟩:=hfirst;obtain ⟨_,hcl,hat⟩:=World.cells?_some hr2;have hpos:=ty'.cells_pos;have hc0:=hat 0 (by omega);rw [List.getElem?_eq_getElem (by omega)] at hc0;have hspot:spot=none:=by
      have:=World.cell?_spot hc0;simpa [Addr.add] using this
     subst hspot;have hblt:b<w.heap.size:=by
      have:=World.block_lt_of_cell? _ _ hc0;simpa [Addr.add] using this
     refine ⟨b,off,rfl,hblt,fun i x hxi=> ?_⟩;obtain ⟨⟨row',hq1,hq2⟩,_⟩:=hlq i x hxi;refine ⟨row',hq1,fun j u hu=> ?_⟩;obtain ⟨_,hcl',hat'⟩:=World.cells?_some hq2;have hj:j<P.cellsOf e:=by
      have:=(List.getElem?_eq_some_iff.1 hu).1;omega
     have:=hat' j hj;rw [hu] at this;rw [<-this,add_plain,add_plain,h2]
   ·cases h
  ·rename_i fs hu;simp only [Bool.and_eq_true,beq_iff_eq] at h;obtain ⟨ys,m,rfl,_,hlen,hyl,hf⟩:=DataW.trod_struct hu hx;obtain ⟨d,hd,ho⟩:=fields_rep (rd:=DataW.trod enc P w base spare held m) (P:=P) (fun t ty cs x=>trod_rep n t ty m cs x) (cs:=cs) fs.toList 0 ty h.1 (fun f hfm=>by
    obtain ⟨i,hi,e⟩:=List.mem_iff_getElem.1 hfm;have h3:=hf i f (by rw [<-e];simp at hi;simp [hi]);simp at hi;exact ⟨ys[i]'(by omega),by rw [h3,List.getElem?_eq_getElem]⟩) (by rw [List.drop_zero,hlen,h.2])
   rw [List.drop_zero] at hd;exact ⟨d,hd,ho⟩
  ·rename_i m' e hu;simp only [Bool.and_eq_true,beq_iff_eq] at h;obtain ⟨ys,m,rfl,_,hlen,hyl,hf⟩:=DataW.trod_array hu hx;obtain ⟨d,hd,ho⟩:=arr_rep (rd:=DataW.trod enc P w base spare held m) (P:=P) (fun t ty cs x=>trod_rep n t ty m cs x) (cs:=cs) (e:=e) m' 0 ty h.1 (fun j _ hj=>by
    have h3:=hf j (by omega);exact ⟨ys[j]'(by omega),by rw [h3,List.getElem?_eq_getElem]⟩) (by rw [Nat.zero_mul,List.drop_zero,hlen,h.2])
   rw [Nat.zero_mul,List.drop_zero] at hd;exact ⟨d,hd,ho⟩
  ·cases h
end
def argV (g:Bool) (t:Ty) (x:t.den):V:=if g then .agg (enc t x) else (enc t x).headD .any
def ArgsT:List (TypeId×Ty)->Type
 |[]=>Unit
 |p::r=>p.2.den×ArgsT r
def aggB (P:Program) (t:TypeId):Bool:=match P.underlying t with
 |some (.struct _)|some (.array _ _)=>true
 |_=>false
def argsV (P:Program):(l:List (TypeId×Ty))->ArgsT l->List V
 |[],_=>[]
 |p::r,x=>argV (aggB P p.1) p.2 x.1::argsV P r x.2
def argsOk:(l:List (TypeId×Ty))->ArgsT l->Prop
 |[],_=>True
 |p::r,x=>okD p.2 x.1/\argsOk r x.2
def noF (g:{l:List (Nat×_root_.Go.Obj)//Tabs l}):Fr:=⟨fun _=>False,fun _=>False,[],g⟩
section
variable {g0:{l:List (Nat×_root_.Go.Obj)//Tabs l}} {H:Type} {enc:TypeId×Value->H} {P:Program} {w:World} {base:Nat} {spare:Nat->Bool} {held:Bool}
theorem arg_rep {b0:Nat} {t:TypeId} {ty:Ty} {v:Value} {d:DataW H} {p:List MemPlace} (h:tyOk P 60 t ty=true) (hv:Value.okWide P w .any b0 t v) (hd:DataW.Trod enc P w base spare held t v d p):
 ∃x:ty.den,Rep ⟨w,[],fun _=>none,noF g0⟩ (argV (aggB P t) ty x) v/\okD ty x:=by
 obtain ⟨fuel,hf⟩:=hd;obtain ⟨x,hx,ho⟩:=trod_rep 60 t ty fuel _ _ h hf;have hG: ∀b,Lies w b->Ctx.G ⟨w,[],fun _=>none,noF g0⟩ b:=fun b hb=>⟨⟨⟨hb,fun _ _ hg=>by simp [Store.get] at hg⟩,fun hh=>hh⟩,fun hh=>hh⟩
 have hr:=enc_rep (X:=⟨w,[],fun _=>none,noF g0⟩) (hx.keep (w':=w) (fun b hb=>⟨hG b hb,rfl⟩));refine ⟨x, ?_,ho⟩;unfold argV aggB;have one:(∀cs,v≠ .agg cs)->Rep ⟨w,[],fun _=>none,noF g0⟩ ((Go.Vm.enc ty x).headD .any) v:=by
  intro hne;have hc:v.cells.toList=[v]:=by
   cases v<;>first|rfl|exact absurd rfl (hne _)
  rw [hc] at hr;have hl:=hr.1;match henc:Go.Vm.enc ty x,hl with
  |[c],_=>rw [henc] at hr;exact hr.2 0 c v rfl rfl
 have agg: ∀cs,v= .agg cs->Rep ⟨w,[],fun _=>none,noF g0⟩ (.agg (Go.Vm.enc ty x)) v:=by
  rintro cs rfl;exact hr.agg
 unfold tyOk at h;split at h
 ·rename_i hu;rw [hu];obtain ⟨b,rfl⟩:=okWide_bool hu hv;exact one (fun cs e=>by cases e)
 ·rename_i hu;rw [hu];obtain ⟨b,rfl⟩:=okWide_string hu hv;exact one (fun cs e=>by cases e)
 ·rename_i k hu;rw [hu];obtain ⟨b,rfl⟩:=okWide_int hu hv;exact one (fun cs e=>by cases e)
 ·rename_i e hu;rw [hu];obtain ⟨a,len,cap,rfl⟩:=okWide_slice hu hv;exact one (fun cs e=>by cases e)
 ·rename_i fs hu;rw [hu];simp only [Value.okWide,hu] at hv;obtain ⟨cs,rfl,_⟩:=hv;exact agg cs rfl
 ·rename_i m e hu;rw [hu];simp only [Value.okWide,hu] at hv;obtain ⟨cs,rfl,_⟩:=hv;exact agg cs rfl
 ·cases h
theorem args_rep {b0:Nat}: ∀{l:List (TypeId×Ty)} {vs:List Value} {ds:List (DataW H)} {ps:List MemPlace},(l.all fun p=>tyOk P 60 p.1 p.2)=true->
 (∀(j:Nat) t v,(l.map (·.1))[j]? =some t->vs[j]? =some v->Value.okWide P w .any b0 t v)->DataW.TrodAll enc P w base spare held (l.map (·.1)) vs ds ps->
 ds.length=l.length/\∃x:ArgsT l,RepL ⟨w,[],fun _=>none,noF g0⟩ (argsV P l x) vs/\argsOk l x
 |[],vs,ds,ps,_,_,h=>by
  obtain ⟨rfl,rfl,_⟩:=trodAll_nil h;exact ⟨rfl,(), .nil,trivial⟩
 |p::r,vs,ds,ps,ht,hv,h=>by
  obtain ⟨v,vs',d,ds',a,b,rfl,rfl,rfl,h1,h2⟩:=trodAll_cons h;simp only [List.all_cons,Bool.and_eq_true] at ht;obtain ⟨x,hx,ho⟩:=arg_rep ht.1 (hv 0 p.1 v rfl rfl) h1;obtain ⟨hl,y,hy,hoy⟩:=args_rep ht.2 (fun j t u h3 h4=>hv (j+1) t u (by simpa using h3) (by simpa using h4)) h2;exact ⟨by simp [hl],(x,y), .cons hx hy,ho,hoy⟩
theorem args_stay (hl:laidOutB P=true) {W W':World} {sp:Nat->Bool}: ∀{ts:List TypeId} {vs:List Value} {ds:List (DataW H)} {ps:List MemPlace},(ts.all fun t=>P.readableRec t&&decide (t<P.types.size))=true->
 DataW.TrodAll enc P W 0 (fun _=>true) true ts vs ds ps->(∀p∈ps,W.sameAt W' p)->(∀p∈ps,sp p.block=true)->DataW.TrodAll enc P W' 0 sp true ts vs ds ps
 |[],vs,ds,ps,_,h,_,_=>by
  obtain ⟨rfl,rfl,rfl⟩:=trodAll_nil h;exact rfl
 |t::ts,vs,ds,ps,ht,h,h1,h2=>by
  obtain ⟨v,vs',d,ds',a,b,rfl,rfl,rfl,k1,k2⟩:=trodAll_cons h;simp only [List.all_cons,Bool.and_eq_true,decide_eq_true_eq] at ht;exact ⟨a,b,Trod_stays hl ht.1.1 ht.1.2 k1 (fun p hp=>h1 p (List.mem_append_left _ hp)) (fun p hp=>h2 p (List.mem_append_left _ hp)),
   args_stay hl ht.2 k2 (fun p hp=>h1 p (List.mem_append_right _ hp)) (fun p hp=>h2 p (List.mem_append_right _ hp)),rfl⟩
theorem post_below {f:Func} {s:ChangeSpec} {apart fresh handsOn again:Bool} {W W':World} {args:Array Value} {v:Value} {ds gs:List (DataW H)} {before pa pv:List MemPlace}
 (hW:DataW.Whole enc P f.params.toList s.vars apart W args.toList ds gs before)
 (hres: ∀(b:Nat) (sp:Nat->Bool) (hd:Bool),DataW.TrodAll enc P W' b sp hd f.resultTypes.toList (v.resultList f.resultTypes.size) (s.fn H (ds++gs)).results [])
 (hargs: ∀sp:Nat->Bool,(∀p∈before,sp p.block=true)->DataW.TrodAll enc P W' 0 sp true f.params.toList args.toList (s.fn H (ds++gs)).args pa)
 (hvars: ∀sp:Nat->Bool,(∀p∈before,sp p.block=true)->DataW.TrodVars enc P W' sp s.vars (s.fn H (ds++gs)).vars pv)
 (hps:before=pa++pv) (hb:Below W.heap.size W W')
 (hok: ∀(j:Nat) (t:TypeId) (r:Value),f.resultTypes[j]? =some t->(v.resultList f.resultTypes.size)[j]? =some r->Value.okWide P W' .any 0 t r):
 s.post enc P f apart fresh handsOn again W args v W':=by
 have hlt: ∀p∈before,p.block<W.heap.size:=fun p hp=>hW.lt p hp;have hold: ∀p∈before,(fun b=>decide (b<W.heap.size)) p.block=true:=fun p hp=>by simpa using hlt p hp
 refine ⟨ds,gs,before,[],pa,pv,hW,hres _ _ _,hargs _ hold,hvars _ hold,World.keptBut_mono (fun p hp=>⟨hp, ?_⟩) (hb.frame (· ∈before)),fun _=> ?_⟩
 ·rw [hps,List.mem_append] at hp;exact Or.inr hp
 ·obtain ⟨_,_,_,_,_,hz,hn⟩:=hW;refine ⟨hok,_,_,([]++pa)++pv,⟨[]++pa,pv,trodAll_append (hargs _ (fun _ _=>rfl)) (hres _ _ _),hvars _ (fun _ _=>rfl),rfl, ?_, ?_⟩, ?_⟩
  ·intro b off hp;have hin:MemPlace.cell b off∈before:=by rw [hps];simpa using hp
   rw [hb.frozen (hlt _ hin)];exact hz b off hin
  ·intro ha;have:=hn ha;rw [hps] at this;simpa using this
  ·intro p hp _;rw [hps];simpa using hp
theorem own_bool {σ:Store} {n:Nat} {v:V} {b:Bool} (h:own σ (n+1) v=some (.bool b)):v= .bool b:=by
 unfold own at h;repeat' (split at h)
 all_goals first
  |(cases h;done)
  |(cases h;rfl)
  |(simp only [Option.map_eq_some_iff] at h;obtain ⟨_,_,h9⟩:=h;cases h9;done)
theorem law_contract (hl:laidOutB P=true) {l:List (TypeId×Ty)} {f:FuncId} {fn:Func} {s:ChangeSpec} {apart:Bool} {rt:TypeId} (hps:fn.params.toList=l.map (·.1))
 (hty:(l.all fun p=>tyOk P 60 p.1 p.2)=true) (hrd:((l.map (·.1)).all fun t=>P.readableRec t&&decide (t<P.types.size))=true)
 (hres:fn.resultTypes= #[rt]) (hrt:P.underlying rt=some .bool) (hv:s.vars=[]) (hs: ∀ds:List (DataW H),ds.length=l.length->s.fn H ds={results:=[.lit (.bool true)],args:=ds})
 (hp: ∀x:ArgsT l,argsOk l x->Pure P f (argsV P l x) (.bool true)) (W:World) (hT: ∃g,Tabs g/\∀e∈g,W.heap[e.1]? =some e.2) (base:Nat) (args:Array Value) (ds gs:List (DataW H)) (before:List MemPlace)
 (hval: ∀(j:Nat) t v,fn.params[j]? =some t->args[j]? =some v->Value.okWide P W .any base t v) (hW:DataW.Whole enc P fn.params.toList s.vars apart W args.toList ds gs before):
 Calls P f args W fun e W'=> ∃v,e= .returned v/\s.post enc P fn apart true false false W args v W':=by
 have hW':=hW;obtain ⟨p,q,hA,hV,rfl,_,_⟩:=hW;have hpj: ∀(j:Nat),fn.params[j]? =(l.map (·.1))[j]? :=fun j=>by rw [<-hps];simp
 rw [hps] at hA;rw [hv] at hV;obtain ⟨rfl,rfl⟩:=trodVars_none hV;obtain ⟨g,hg,hgW⟩:=hT;obtain ⟨hlen,x,hx,ho⟩:=args_rep (g0:=⟨g,hg⟩) hty (fun j t v h1 h2=>hval j t v (by rw [hpj];exact h1) (by simpa using h2)) hA;refine (hp x ho (noF ⟨g,hg⟩) W args.toList ⟨fun b _ hh=>by rcases hh with hh|hh<;>exact hh,rfl,hgW⟩ hx).mono fun e W' ⟨u,he,hb,hh⟩=>⟨u,he, ?_⟩
 obtain ⟨σ',μ',v',_,hr,hown,_⟩:=hh;have hu:u= .bool true:=by
  have:=own_bool (n:=59) hown;subst this;cases hr;rfl
 subst hu;have hsame: ∀p'∈p,W.sameAt W' p':=fun p' hp'=>hb.same (hW'.lt p' (by simpa using hp'));have hfn:=hs ds hlen;refine post_below hW' (pa:=p) (pv:=[]) (fun b sp hd=> ?_) (fun sp hsp=> ?_) (fun sp _=> ?_) rfl hb (fun j t r h1 h2=> ?_)
 ·rw [List.append_nil,hfn,hres];exact trodAll_mk1 ⟨1,by simp [DataW.trod,Value.cells,hrt]⟩
 ·rw [List.append_nil,hfn,hps];exact args_stay hl hrd hA hsame (fun p' hp'=>hsp p' (by simpa using hp'))
 ·rw [List.append_nil,hfn,hv];rfl
 ·rw [hres] at h1 h2;have h2':([Value.bool true]:List Value)[j]? =some r:=h2;match j with
  |0=>
   simp at h1 h2'
   subst h1;subst h2'
   simp [Value.okWide,hrt,Cell.okWide,Cell.ok]
  |j+1=>simp at h1
end
end Go.Vm
