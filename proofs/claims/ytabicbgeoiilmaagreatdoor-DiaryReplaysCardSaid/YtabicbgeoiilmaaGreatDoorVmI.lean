import Derived.Test.YtabicbgeoiilmaaGreatDoorVmH
import Derived.KernelRfl
import Derived.Sort.Grow
import Derived.Lib.SlicesCompact
import Derived.Below
import Derived.ChangeSame
import Derived.WideKeyArgs
import Derived.OpenShut
namespace Go.Vm
open Go.RowKit (Below)
def dZ:List ResultVar->Option (List Nat)
 |[]=>some []
 | .tmp t::r=>(dZ r).map (t:: ·)
 | .cell _ _::_=>none
def GV (s:List V):List Nat->Option (List V)
 |[]=>some []
 |i::r=>match nth s i,GV s r with
  |some v,some vs=>some (v::vs)
  |_,_=>none
def Ly:(p:Pat)->p.den->V
 | .slc _ t,l=> .olist t l
 |p,x=>lS p x
def Ce:(ps:List Pat)->Xs ps->List V
 |[],_=>[]
 |p::r,x=>Ly p x.1::Ce r x.2
def vP:List V->V
 |[v]=>v
 |vs=> .tuple vs
def Bj (ps:List Pat) (x:Xs ps):V:=vP (Ce ps x)
def cK:List Pat->Bool
 |[]=>true
 | .list .tmp _::_=>false
 | .own _ _::_=>false
 | .opq _ _::_=>false
 | .fop _::_=>false
 | .clo _ _::_=>false
 | .bp _::_=>false
 |_::r=>cK r
def DH (ts:List Nat) (ps:List Pat) (r:Xs ps) (st:St):Prop:=
 match GV st.s ts with
 |some vs=>match oK st.σ ps vs with
  |some x=>if bP (dv (jl ps vs x))&&bP (cC (jl ps vs x))&&Ld (cC (jl ps vs x)) (nj ps vs)&&cK ps&&decide (ps.length<50) then x=r else False
  |none=>False
 |none=>False
def Lz (ts:List Nat) (ps:List Pat) (r:Xs ps):Leaf->St->Prop
 | .normal,st=>DH ts ps r st
 | .ret,st=>DH ts ps r st
 | .exit _,_=>False
 | .goto _,_=>False
def ma:List Value->Value
 |[v]=>v
 |vs=> .tuple vs.toArray
theorem vQ {P:Program} {tmps:Array Value} {w:World} (f:ResultVar->Sem Value) (hf: ∀t,f (.tmp t)=pure (tmps.getD t undef)) (ts:List Tmp):
 ((ts.map ResultVar.tmp).mapM f).run P w= .ok (ts.map fun t=>tmps.getD t undef) w:=by
 induction ts with
 |nil=>simp
 |cons t r ih=>
  rw [RU,List.mapM_cons];simp only [Sem.run_bind,Sem.run_pure,Result.andThen_ok,ih,RU,hf]
theorem oA: ∀{l:List ResultVar} {ts:List Nat},dZ l=some ts->l=ts.map ResultVar.tmp
 |[],ts,h=>by simp only [dZ,Q9] at h;subst h;rfl
 | .tmp t::r,ts,h=>by
  simp only [dZ,Rc] at h;obtain ⟨ts',h1,rfl⟩:=h;simp [oA h1]
 | .cell _ _::_,ts,h=>by simp [dZ] at h
theorem oB {P:Program} {fn:Func} {ts:List Nat} (h:dZ fn.results.toList=some ts) (tmps:Array Value) (w:World):
 (results fn tmps).run P w= .ok (ma (ts.map fun t=>tmps.getD t undef)) w:=by
 have h1:=oA h;have h2:fn.results=(ts.map ResultVar.tmp).toArray:=by rw [<-h1]
 unfold results;rw [h2];rw [List.mapM_toArray];simp only [Sem.run_bind];rw [map_eq_pure_bind];simp only [Sem.run_bind];rw [vQ (P:=P) (tmps:=tmps) (w:=w) _ (fun t=>rfl) ts];simp only [Result.andThen_ok,Sem.run_pure];congr 1;match ts with
 |[]=>simp [ma]
 |[t]=>simp [ma]
 |t::t2::r=>simp [ma]
theorem y_ {X:Ctx} {s:List V} {tmps:Array Value} (h:RepL X s tmps.toList): ∀{ts:List Nat} {vs:List V},GV s ts=some vs->RepL X vs (ts.map fun t=>tmps.getD t undef):=by
 intro ts;induction ts with
 |nil=>intro vs hv;simp only [GV,Q9] at hv;subst hv;exact .nil
 |cons t r ih=>
  intro vs hv;simp only [GV] at hv;split at hv
  ·rename_i v vs' h1 h2;cases hv;obtain ⟨u,hu,hr⟩:=h.get h1;simp only [Array.getElem?_toList] at hu;refine .cons ?_ (ih h2);simp [Rv,hu,hr]
  ·cases hv
theorem DI {σ:Store} {n:Nat} {p:Pat} {x:p.den} (h: ∀e∈BS p x,σ.get e.1=some e.2) (hk:cK [p]=true):own σ (n+1) (lS p x)=some (Ly p x):=by
 cases p with
 |slc id t=>
  have:=h (id, .arr 0 t x) (by simp [BS]);simp only at this;simp [lS,own,this,Ly]
 |list kd t=>
  cases kd with
  |tmp=>simp [cK] at hk
  |full=>simp [lS,own,Ly]
  |part=>simp [lS,own,Ly]
 |opq id k=>simp [cK] at hk
 |fop k=>simp [cK] at hk
 |clo g cs=>simp [cK] at hk
 |bp i=>simp [cK] at hk
 |own id T=>simp [cK] at hk
 |_=>rfl
theorem DJ {σ:Store} {n:Nat} {p:Pat} {x:p.den} (hk:cK [p]=true):ids σ (n+1) (lS p x)=(BS p x).map (·.1):=by
 cases p with
 |clo g cs=>simp [cK] at hk
 |bp i=>simp [cK] at hk
 |_=>rfl
theorem fW {p:Pat} {r:List Pat} (h:cK (p::r)=true):cK [p]=true/\cK r=true:=by
 cases p with
 |list kd t=>cases kd<;>simp_all [cK]
 |_=>simp_all [cK]
theorem tE: ∀{ps:List Pat},cK ps=true->∀{k id:Nat} {T:TypeId},¬ps[k]? =some (.own id T)
 |[],_,k,id,T,h=>by simp at h
 |p::r,h,0,id,T,hp=>by
  simp only [List.getElem?_cons_zero,Q9] at hp;subst hp;simp [cK] at h
 |p::r,h,k+1,id,T,hp=>tE (fW h).2 (k:=k) (by simpa using hp)
theorem tF: ∀{ps:List Pat},cK ps=true->∀{k:Nat} {g:FuncId} {caps:List Nat},¬ps[k]? =some (.clo g caps)
 |[],_,k,g,caps,h=>by simp at h
 |p::r,h,0,g,caps,hp=>by
  simp only [List.getElem?_cons_zero,Q9] at hp;subst hp;simp [cK] at h
 |p::r,h,k+1,g,caps,hp=>tF (fW h).2 (k:=k) (by simpa using hp)
theorem za: ∀{ps:List Pat},cK ps=true->∀{k id:Nat},¬ps[k]? =some (.bp id)
 |[],_,k,id,h=>by simp at h
 |p::r,h,0,id,hp=>by
  simp only [List.getElem?_cons_zero,Q9] at hp;subst hp;simp [cK] at h
 |p::r,h,k+1,id,hp=>za (fW h).2 (k:=k) (by simpa using hp)
theorem zb {σ:Store}: ∀{ps:List Pat} {n:Nat} {x:Xs ps},ps.length<n->(∀e∈iH ps x,σ.get e.1=some e.2)->cK ps=true->aR σ (n+1) (ca ps x)=some (Ce ps x)
 |[],n,x,_,_,_=>by simp [ca,aR,Ce]
 |p::r,0,x,h,_,_=>by simp at h
 |p::r,n+1,x,h,ho,hk=>by
  obtain ⟨k1,k2⟩:=fW hk;simp only [ca,aR,Ce];rw [DI (fun e he=>ho e (by simp [iH,he])) k1,zb (by simpa using h) (fun e he=>ho e (by simp [iH,he])) k2]
theorem zd {σ:Store}: ∀{ps:List Pat} {n:Nat} {x:Xs ps},cK ps=true->ps.length<n->dk σ (n+1) (ca ps x)=(iH ps x).map (·.1)
 |[],n,x,_,_=>by simp [ca,dk,iH]
 |p::r,0,x,_,h=>by simp at h
 |p::r,n+1,x,hk,h=>by
  obtain ⟨k1,k2⟩:=fW hk;simp only [ca,dk,iH,RW];rw [DJ k1,zd k2 (by simpa using h)]
theorem GW (L:Ent):(bare L).map (·.1)=dv L:=by
 induction L with
 |nil=>rfl
 |cons e r ih=>obtain ⟨i,s,o⟩:=e;simp [bare,dv,ih]
theorem iE: ∀{l:List Nat},bP l=true->l.Nodup
 |[],_=> .nil
 |x::r,h=>by
  simp only [bP,Ri,Rb] at h;refine Su.2 ⟨fun hm=> ?_,iE h.2⟩;have:=Ry.2 hm;rw [this] at h;cases h.1
theorem nv {X:Ctx}: ∀{cs:List V} {us:List Value},RepL X cs us->Rep X (vP cs) (ma us):=by
 intro cs us h;match cs,us,h with
 |[],[],_=>exact .tuple rfl (fun j c u hc=>by simp at hc)
 |[c],[u],h=>exact h.2 0 c u rfl rfl
 |c::c2::r,u::u2::s,h=>exact .tuple (by simpa using h.1) (fun j c u hc hu=>h.2 j c u hc (by simpa using hu))
 |[],_::_,h=>have:=h.1;simp at this
 |_::_,[],h=>have:=h.1;simp at this
 |[c],u::u2::s,h=>have:=h.1;simp at this
 |c::c2::r,[u],h=>have:=h.1;simp at this
theorem LA {σ:Store} {ps:List Pat} {x:Xs ps} (hl:ps.length<50) (h: ∀e∈iH ps x,σ.get e.1=some e.2) (hk:cK ps=true):
 own σ 60 (vP (ca ps x))=some (vP (Ce ps x))/\ids σ 60 (vP (ca ps x))=(iH ps x).map (·.1):=by
 match ps,x,hl,h,hk with
 |[],x,_,_,_=>exact ⟨rfl,rfl⟩
 |[p],x,_,h,hk=>
  refine ⟨DI (fun e he=>h e (by simp [iH,he])) hk, ?_⟩
  simp only [ca,vP,iH,RH]
  exact DJ hk
 |p::q::r,x,hl,h,hk=>
  have e1:=zb (n:=58) (x:=x) (by omega) h hk
  have e2:=zd (σ:=σ) (n:=58) (x:=x) hk (by omega)
  constructor
  ·show own σ (59+1) (.tuple (ca (p::q::r) x))=some (.tuple (Ce (p::q::r) x));simp only [own,e1,R8]
  ·show ids σ (59+1) (.tuple (ca (p::q::r) x))=_;simp only [ids,e2]
def Start.bare (F:Fr) (w:World):Start:=⟨⟨w,[],fun _=>none,F⟩,fun b=>w.heap.size<=b,fun _ h=>h⟩
theorem Since.below {F:Fr} {w0 w:World} {σ:Store} {μ:Mu} (h:Since (Start.bare F w0).X ⟨w,σ,μ,F⟩):Below w0.heap.size w0 w:=
 ⟨h.os,h.tape,h.output,h.size,fun b hb=>(h.still b ⟨hb,fun id o hg=>by simp [Start.bare,Store.get] at hg⟩).2⟩
theorem ze {w0:World} {F:Fr} (hF:F.pin=[]) {fn:Func} {ts:List Nat} (hts:dZ fn.results.toList=some ts) {P:Program} {ps:List Pat} {r:Xs ps} {st:St} {a:Act} {w:World} {μ:Mu}
 (h:DH ts ps r st) (hg:Good (Start.bare F w0) F st a w μ):
 a.defers=[]/\∃v,(results fn a.tmps).run P w= .ok v w/\Below w0.heap.size w0 w/\rf w0.heap.size F w (Bj ps r) v:=by
 refine ⟨hg.defers,_,oB hts _ _,hg.below.below, ?_⟩;unfold DH at h;split at h
 ·rename_i vs hvs;split at h
  ·rename_i x hx;split at h
   ·rename_i hok;subst h;simp only [Ri,Q7] at hok;obtain ⟨⟨⟨⟨n1,n2⟩,n3⟩,n4⟩,n5⟩:=hok;have hr:=y_ hg.slots hvs;generalize hL:jl ps vs x=L at n1 n2 n3;have hb:bare L=iH ps x:=by rw [<-hL];exact tt hx
    have hfrom:eT ⟨w,st.σ,μ,F⟩ L:=by
     intro i s o hm;rw [<-hL] at hm;obtain ⟨kk,p,v,y,k1,k2,k3,k4⟩:=lT hx hm;cases p with
     |slc id t=>
      simp only [gZ] at k3;split at k3
      ·cases k3;simp only [fe,Ru,Prod.mk.injEq] at k4;obtain ⟨rfl,rfl,rfl⟩:=k4;exact ⟨0,t,rfl⟩
      ·rename_i src ep;split at k3
       ·rename_i ep' t' l hg;split at k3
        ·split at k3
         ·rename_i e;subst e;cases k3;simp only [fe,Ru,Prod.mk.injEq] at k4;obtain ⟨rfl,rfl,rfl⟩:=k4;exact ⟨_,hg, .inl ⟨_,_,_,_,rfl,rfl⟩⟩
         ·cases k3
        ·cases k3
       ·cases k3
      ·cases k3
     |opq id k=>
      simp only [gZ] at k3;split at k3
      ·rename_i src;split at k3
       ·rename_i k' d hg;split at k3
        ·rename_i e1;subst e1;cases k3;simp only [fe,Ru,Prod.mk.injEq] at k4;obtain ⟨rfl,rfl,rfl⟩:=k4;exact ⟨_,hg, .inr (.inr (.inr ⟨_,_,rfl,rfl⟩))⟩
        ·cases k3
       ·cases k3
      ·cases k3
     |_=>simp [fe] at k4
    have hout:RepL (Ctx.to ⟨w,st.σ,μ,F⟩ L) (ca ps x) (ts.map fun t=>a.tmps.getD t undef):=by
     refine ⟨?_,fun j c u hc hu=> ?_⟩
     ·rw [g7,<-yM hx];exact hr.1
     ·have hj:j<ps.length:=by
       have:=(List.getElem?_eq_some_iff.1 hc).1;rwa [g7] at this
      obtain ⟨p,hp⟩: ∃p,ps[j]? =some p:=⟨_,List.getElem?_eq_getElem hj⟩
      obtain ⟨v,hv⟩: ∃v,vs[j]? =some v:=⟨_,List.getElem?_eq_getElem (by rw [yM hx];exact hj)⟩
      obtain ⟨y,k1,k2,k3,k4⟩:=yN hx hp hv;rw [k2] at hc;cases hc;exact Dy hg.inv hfrom k1 (hr.2 j v u hv hu) (fun e he=>cx n1 (by rw [<-hL];exact k3 e he)) (fun i hi=>nl n3 i (k4 i hi)) (fun id T e _=>by
       subst e;exact absurd hp (tE n4)) (fun g caps e _=>by
       subst e;exact absurd hp (tF n4)) (fun id e _=>by
       subst e;exact absurd hp (za n4))
    have hget: ∀e∈iH ps x,(bare L).get e.1=some e.2:=by
     intro e he;rw [<-hb] at he;have: ∀(L:Ent),bP (dv L)=true->e∈bare L->(bare L).get e.1=some e.2:=by
      intro L hn he;have: ∀(M:Ent),e∈bare M->∃s,(e.1,s,e.2)∈M:=by
       intro M;induction M with
       |nil=>intro h;simp [bare] at h
       |cons m r ih=>
        obtain ⟨i,s,o⟩:=m;intro h;simp only [bare,Rp] at h;rcases h with rfl|h
        ·exact ⟨s,by simp⟩
        ·obtain ⟨s',h'⟩:=ih h;exact ⟨s',by simp [h']⟩
      obtain ⟨s,hs⟩:=this L he;exact (cx hn hs).1
     exact this L n1 he
    obtain ⟨o1,o2⟩:=LA n5 hget n4;refine ⟨bare L,gw L μ,vP (ca ps x),BT hg.inv hfrom n2 (fun e he=>by simp [hF] at he) (fun i src cells cells' hm=> ?_),nv hout,o1, ?_⟩
    ·rw [<-hL] at hm;obtain ⟨kk,p,v,y,k1,k2,k3,k4⟩:=lT hx hm;cases p with
     |slc id t=>
      simp only [fe] at k4;split at k4<;>simp at k4
     |opq id k=>
      simp only [fe] at k4;split at k4<;>simp at k4
     |_=>simp [fe] at k4
    ·rw [o2,<-hb,GW];exact iE n1
   ·exact h.elim
  ·exact h.elim
 ·exact h.elim
theorem Pure.of_vc {E:Env} (hS:SpecsOk E) (hm:E.P.follows .mixedOrders=true) {f:FuncId} {fn:Func} {c:Code} {ts:List Nat} {args:List V} {ps:List Pat} {r:Xs ps} (hf:E.P.funcs[f]? =some fn) (hb:fn.body=some c)
 (hts:dZ fn.results.toList=some ts) (h:vc E c ⟨args++List.replicate (fn.ntmps-args.length) (.tuple []),[]⟩ (Lz ts ps r)):Pure E.P f args (Bj ps r):=by
 intro F w vs hF hr;refine calls_of_wp hf hb (l_ (w0:=Start.bare F w) (F:=F) (fun e he=>by simp [hF.pin] at he) hS hm _ _ _ _ (fun e st a w' μ hK _ hg=> ?_) h _ w (fun _=>none) ⟨?_, ?_, .refl _,rfl⟩)
 ·cases e with
  |normal=>
   obtain ⟨h1,v,h2,h3,h4⟩:=ze (P:=E.P) hF.pin hts hK hg;exact ⟨h1,v,h2,v,rfl,h3,h4⟩
  |ret=>
   obtain ⟨h1,v,h2,h3,h4⟩:=ze (P:=E.P) hF.pin hts hK hg;exact ⟨h1,v,h2,v,rfl,h3,h4⟩
  |exit id=>exact hK.elim
  |goto l=>exact hK.elim
 ·exact ⟨fun id o h=>by simp [Store.get] at h,fun i j o o' p q h=>by simp [Store.get] at h,fun id o p h=>by simp [Store.get] at h,hF.out,fun b hb=>hF.out b hb,⟨fun e he=>by simp [hF.pin] at he,fun e he=>⟨hF.gnd e he,fun h=>by have:=hF.lt he;simp only [Start.bare] at h;omega⟩⟩⟩
 ·have hl:vs.length=args.length:=hr.1;have:=hr.append (ds:=List.replicate (fn.ntmps-args.length) (.tuple [])) (us:=List.replicate (fn.ntmps-args.length) undef) ⟨by simp,fun j c u hc hu=>by
   have e1:=(List.getElem?_eq_some_iff.1 hc).2;have e2:=(List.getElem?_eq_some_iff.1 hu).2;simp only [Sq] at e1 e2;subst e1;subst e2;exact .tuple rfl (fun j c u hc=>by simp at hc)⟩
  simpa [hl] using this
theorem Pure.of_g {E:Env} (hS:SpecsOk E) (hm:E.P.follows .mixedOrders=true) {f:FuncId} {fn:Func} {c:Code} {ts:List Nat} {args:List V} {ps:List Pat} {r:Xs ps} (hf:E.P.funcs[f]? =some fn) (hb:fn.body=some c)
 (hts:dZ fn.results.toList=some ts) {g:Prop} (hg:g=vc E c ⟨args++List.replicate (fn.ntmps-args.length) (.tuple []),[]⟩ (Lz ts ps r)) (h:g):Pure E.P f args (Bj ps r):=
 Pure.of_vc hS hm hf hb hts (Eq.mp hg h)
def OG (ts:List Nat) (r:V) (st:St):Prop:=
 match GV st.s ts with
 |some vs=>own st.σ 60 (vP vs)=some r
 |none=>False
def OY (ts:List Nat) (r:V):Leaf->St->Prop
 | .normal,st=>OG ts r st
 | .ret,st=>OG ts r st
 | .exit _,_=>False
 | .goto _,_=>False
theorem PureZ.of_g {E:Env} (hS:SpecsOk E) (hm:E.P.follows .mixedOrders=true) {f:FuncId} {fn:Func} {c:Code} {ts:List Nat} {args:List V} {r:V} (hf:E.P.funcs[f]? =some fn) (hb:fn.body=some c)
 (hts:dZ fn.results.toList=some ts) {g:Prop} (hg:g=vc E c ⟨args++List.replicate (fn.ntmps-args.length) (.tuple []),[]⟩ (OY ts r)) (h:g):PureZ E.P f args r:=by
 subst hg;intro F w vs hF hr;have hend: ∀(st:St) (a:Act) (w':World) (μ':Mu),OG ts r st->Good (Start.bare F w) F st a w' μ'->
  a.defers=[]/\∃v,(results fn a.tmps).run E.P w'= .ok v w'/\Below w.heap.size w w'/\Dx w.heap.size F w' r v:=by
  intro st a w' μ' he hg;unfold OG at he;split at he
  ·rename_i vs hvs;exact ⟨hg.defers,_,oB hts _ _,hg.below.below,st.σ,μ',_,hg.inv,nv (y_ hg.slots hvs),he⟩
  ·exact he.elim
 refine calls_of_wp hf hb (l_ (w0:=Start.bare F w) (F:=F) (fun e he=>by simp [hF.pin] at he) hS hm _ _ _ _ (fun e st a w' μ hK _ hg=> ?_) h _ w (fun _=>none) ⟨?_, ?_, .refl _,rfl⟩)
 ·cases e with
  |normal=>
   obtain ⟨h1,v,h2,h3,h4⟩:=hend st a w' μ hK hg;exact ⟨h1,v,h2,v,rfl,h3,h4⟩
  |ret=>
   obtain ⟨h1,v,h2,h3,h4⟩:=hend st a w' μ hK hg;exact ⟨h1,v,h2,v,rfl,h3,h4⟩
  |exit id=>exact hK.elim
  |goto l=>exact hK.elim
 ·exact ⟨fun id o h=>by simp [Store.get] at h,fun i j o o' b h=>by simp [Store.get] at h,fun id o b h=>by simp [Store.get] at h,hF.out,fun b hb=>hF.out b hb,⟨fun e he=>by simp [hF.pin] at he,fun e he=>⟨hF.gnd e he,fun h=>by have:=hF.lt he;simp only [Start.bare] at h;omega⟩⟩⟩
 ·have hl:vs.length=args.length:=hr.1;have:=hr.append (ds:=List.replicate (fn.ntmps-args.length) (.tuple [])) (us:=List.replicate (fn.ntmps-args.length) undef) ⟨by simp,fun j c u hc hu=>by
   have e1:=(List.getElem?_eq_some_iff.1 hc).2;have e2:=(List.getElem?_eq_some_iff.1 hu).2;simp only [Sq] at e1 e2;subst e1;subst e2;exact .tuple rfl (fun j c u hc=>by simp at hc)⟩
  simpa [hl] using this
end Go.Vm
namespace Go.Vm
def asL (t:Ty):V->Option (List t.den)
 | .list _ t' l=>if h:t'=t then some (h▸l) else none
 | .nils=>some []
 |_=>none
def Weak (v v':V):Prop:= ∀X u,Rep X v u->Rep X v' u
theorem Weak.refl (v:V):Weak v v:=fun _ _ h=>h
theorem aT {t:Ty} {v:V} {l:List t.den} (h:asL t v=some l):Weak v (.list .tmp t l):=by
 intro X u hr;unfold asL at h;split at h
 ·split at h
  ·rename_i e;subst e;cases h;obtain ⟨A,cap,rfl,hc,_⟩:=hr.list_inv;exact .list (hc.keep (fun b hb=>⟨hb,rfl⟩) (fun b hb=>⟨⟨hb.1,fun e=>absurd rfl e⟩,rfl⟩)) (fun e=>by cases e)
  ·cases h
 ·cases h;cases hr;exact .list ⟨rfl,Rf _,fun h=>absurd h (RY _)⟩ (fun _=>rfl)
 ·cases h
def asP (t:Ty):V->Option (List t.den)
 | .list kd t' l=>if kd= .tmp then none else if h:t'=t then some (h▸l) else none
 | .nils=>some []
 |_=>none
theorem pV {t:Ty} {v:V} {l:List t.den} (h:asP t v=some l):Weak v (.list .part t l):=by
 intro X u hr;unfold asP at h;split at h
 ·split at h
  ·cases h
  rename_i hk;split at h
  ·rename_i e;subst e;cases h;obtain ⟨A,cap,rfl,hc,_⟩:=hr.list_inv;exact .list (hc.keep (fun b hb=>⟨hb,rfl⟩) (fun b hb=>⟨⟨hb.1,fun _=>hb.2 hk⟩,rfl⟩)) (fun e=>by cases e)
  ·cases h
 ·cases h;cases hr;exact .list ⟨rfl,Rf _,fun h=>absurd h (RY _)⟩ (fun _=>rfl)
 ·cases h
theorem a_ {v:V} {b:Bool} (h:bC v=some b):Weak v (.bool b):=by
 intro X u hr;unfold bC at h;split at h
 ·cases h;cases hr;exact .bool
 ·cases h;exact hr
 ·cases h
inductive WeakL:List V->List V->Prop where
 |nil:WeakL [] []
 |cons {v v':V} {r r':List V}:Weak v v'->WeakL r r'->WeakL (v::r) (v'::r')
theorem WeakL.rep {X:Ctx} {cs bs:List V} (h:WeakL cs bs): ∀{us:List Value},RepL X cs us->RepL X bs us:=by
 induction h with
 |nil=>exact fun h=>h
 |cons h1 _ ih=>
  intro us hr;obtain ⟨u,us',rfl,k1,k2⟩:=hr.cons_inv;exact .cons (h1 X u k1) (ih k2)
theorem Pure.weak {P:Program} {f:FuncId} {args args':List V} {r:V} (h:Pure P f args' r) (hw:WeakL args args'):Pure P f args r:=
 fun F w vs hF hr=>h F w vs hF (hw.rep hr)
structure FSpec (P:Program) where
 f:FuncId
 run:List V->Option (Prop×V)
 ok: ∀args pre r,run args=some (pre,r)->pre->Pure P f args r
structure UFSpec (P:Program) where
 f:FuncId
 run:List V->Store->Option (Prop×V×Store)
 ok: ∀args σ pre r new,run args σ=some (pre,r,new)->pre->Upd P f args σ r (new++σ)
def ai {P:Program}:List (FSpec P)->FuncId->List V->Option (Prop×V)
 |[],_,_=>none
 |s::r,f,args=>if s.f=f then s.run args else ai r f args
def bJ {P:Program}:List (UFSpec P)->FuncId->List V->Store->Option (Prop×V×Store)
 |[],_,_,_=>none
 |s::r,f,args,σ=>if s.f=f then s.run args σ else bJ r f args σ
theorem rv {P:Program}: ∀{ss:List (FSpec P)} {f:FuncId} {args:List V} {pre:Prop} {r:V},ai ss f args=some (pre,r)->pre->Pure P f args r
 |[],_,_,_,_,h,_=>by simp [ai] at h
 |s::ss,f,args,pre,r,h,hp=>by
  unfold ai at h;split at h
  ·rename_i e;subst e;exact s.ok args pre r h hp
  ·exact rv h hp
theorem tG {P:Program}: ∀{ss:List (UFSpec P)} {f:FuncId} {args:List V} {σ:Store} {pre:Prop} {r:V} {new:Store},bJ ss f args σ=some (pre,r,new)->pre->Upd P f args σ r (new++σ)
 |[],_,_,_,_,_,_,h,_=>by simp [bJ] at h
 |s::ss,f,args,σ,pre,r,σ',h,hp=>by
  unfold bJ at h;split at h
  ·rename_i e;subst e;exact s.ok args σ pre r σ' h hp
  ·exact tG h hp
structure ESpec (P:Program) where
 f:FuncId
 run:List V->Option (Prop×V)
 ok: ∀args pre r,run args=some (pre,r)->pre->Ext P f args r
def ja {P:Program}:List (ESpec P)->FuncId->List V->Option (Prop×V)
 |[],_,_=>none
 |s::r,f,args=>if s.f=f then s.run args else ja r f args
theorem tH {P:Program}: ∀{ss:List (ESpec P)} {f:FuncId} {args:List V} {pre:Prop} {r:V},ja ss f args=some (pre,r)->pre->Ext P f args r
 |[],_,_,_,_,h,_=>by simp [ja] at h
 |s::ss,f,args,pre,r,h,hp=>by
  unfold ja at h;split at h
  ·rename_i e;subst e;exact s.ok args pre r h hp
  ·exact tH h hp
theorem PureZ.weak {P:Program} {f:FuncId} {args args':List V} {r:V} (h:PureZ P f args' r) (hw:WeakL args args'):PureZ P f args r:=
 fun F w vs hF hr=>h F w vs hF (hw.rep hr)
structure ZSpec (P:Program) where
 f:FuncId
 run:List V->Option (Prop×V)
 ok: ∀args pre r,run args=some (pre,r)->pre->PureZ P f args r
def rJ {P:Program}:List (ZSpec P)->FuncId->List V->Option (Prop×V)
 |[],_,_=>none
 |s::r,f,args=>if s.f=f then s.run args else rJ r f args
theorem DK {P:Program}: ∀{ss:List (ZSpec P)} {f:FuncId} {args:List V} {pre:Prop} {r:V},rJ ss f args=some (pre,r)->pre->PureZ P f args r
 |[],_,_,_,_,h,_=>by simp [rJ] at h
 |s::ss,f,args,pre,r,h,hp=>by
  unfold rJ at h;split at h
  ·rename_i e;subst e;exact s.ok args pre r h hp
  ·exact DK h hp
theorem fm {P:Program} {E:Env} (e:E.P=P) (ss:List (FSpec P)) (us:List (UFSpec P)) (es:List (ESpec P)) (zs:List (ZSpec P)) (h1:E.specs=ai ss) (h2:E.upd=bJ us) (h3:E.ext=ja es) (h4:E.zspecs=rJ zs) (hp:P=P0:=by rfl):SpecsOk E:=by
 subst e;exact ⟨fun f args pre r h hp=>rv (by rw [<-h1];exact h) hp,fun f args σ pre r σ' h hp=>tG (by rw [<-h2];exact h) hp,fun f args pre r h hp=>tH (by rw [<-h3];exact h) hp,fun f args pre r h hp=>DK (by rw [<-h4];exact h) hp,hp⟩
theorem mV {P:Program} {E:Env} (e:E.P=P) (ss:List (FSpec P)) (us:List (UFSpec P)) (es:List (ESpec P)) (h1:E.specs=ai ss) (h2:E.upd=bJ us) (h3:E.ext=ja es) (h4:E.zspecs=fun _ _=>none:=by rfl) (hp:P=P0:=by rfl):SpecsOk E:=
 fm e ss us es [] h1 h2 h3 (by rw [h4];rfl) hp
theorem ab {P:Program} {E:Env} (e:E.P=P) (ss:List (FSpec P)) (us:List (UFSpec P)) (h1:E.specs=ai ss) (h2:E.upd=bJ us) (h3:E.ext=fun _ _=>none:=by rfl) (h4:E.zspecs=fun _ _=>none:=by rfl) (hp:P=P0:=by rfl):SpecsOk E:=
 mV e ss us [] h1 h2 (by rw [h3];rfl) h4 hp
def St.int (st:St) (i:Nat):Int:=match nth st.s i with
 |some (.int _ n)=>n
 |_=>0
def ey (f:Func):Code:=f.body.getD .skip
def mW (f:Func) (args:List V):St:=⟨args++List.replicate (f.ntmps-args.length) (.tuple []),[]⟩
def KC (f:Func):List Nat:=(dZ f.results.toList).getD []
end Go.Vm
namespace Go.Vm
open Go.Sort Go.RowKit
def eh (l:List Int):List Int:=l.mergeSort fun x y=>decide (x<=y)
structure SortsInts (P:Program) (f:FuncId):Prop where
 some: ∀(blk off cap:Nat) (zs:List Int) (w:World),Holds (Value.int .i64) w blk off zs.toArray->blk<w.heap.size->zs.length<4611686018427387904->
  Calls P f #[.slice (some ⟨blk,off,none⟩) zs.length cap] w fun e w'=>e= .returned (.tuple #[])/\∃n os,w'=grow (putRow (Value.int .i64) (Sort.ahead w n) blk off (eh zs).toArray) os
 none: ∀(p:Option Addr) (cap:Nat) (w:World),Calls P f #[.slice p 0 cap] w fun e w'=>e= .returned (.tuple #[])/\w'=w
structure CompactsInts (P:Program) (f:FuncId):Prop where
 some: ∀(blk off cap:Nat) (zs:List Int) (w:World),Holds (Value.int .i64) w blk off zs.toArray->zs.length<=9223372036854775807->zs.length<=cap->
  Calls P f #[.slice (some ⟨blk,off,none⟩) zs.length cap] w fun e w'=>e= .returned (.slice (some ⟨blk,off,none⟩) (Lib.compact zs).length cap)/\
   ∃q,w'=putRow (Value.int .i64) (Sort.ahead w q) blk off (Lib.compact zs++List.replicate (zs.length-(Lib.compact zs).length) 0).toArray
 none: ∀(a:Option Addr) (cap:Nat) (w:World),Calls P f #[.slice a 0 cap] w fun e w'=>e= .returned (.slice a 0 cap)/\w'=w
theorem zf (zs:List Int):(Lib.compact zs).length<=zs.length:=by
 unfold Lib.compact Lib.compactUpTo;rw [RI];have:=List.length_filter_le (Lib.keeps zs.toArray) (List.range zs.length);simpa using this
theorem tI {w:World} {b base:Nat} {cs:Array Value} {ty:TypeId} {l:List Int} {G:Nat->Prop} (hb:w.heap[b]? =some (.cells cs ty (0,0)))
 (hr: ∀(i:Nat) (x:Int),l[i]? =some x->∃row,RepC w G (.int .i64) x row/\∀(j:Nat) (u:Value),row[j]? =some u->cs[base+i*Ty.cells (.int .i64)+j]? =some u):Holds (Value.int .i64) w b base l.toArray:=by
 intro j hj;have hj2:j<l.length:=by simpa using hj
 obtain ⟨row,h1,h2⟩:=hr j l[j] (List.getElem?_eq_getElem hj2);simp only [RepC] at h1;subst h1;have h3:=h2 0 _ rfl;simp only [Ty.cells,Nat.mul_one,RR] at h3;obtain ⟨h4,h5⟩:=Array.getElem?_eq_some_iff.1 h3;constructor
 ·unfold World.cell?;simp only [hb];simp [h4,h5,hj2]
 ·unfold World.frozen?;simp only [hb];simp [h4]
theorem vR {cs:Array Value} {off:Nat} {d:List Int} {k:Nat} (hk:off+d.length<=cs.size) {x:Int} (hx:d[k]? =some x):(putCells (Value.int .i64) off d.toArray cs)[off+k]? =some (.int .i64 x):=by
 obtain ⟨h1,h2⟩:=List.getElem?_eq_some_iff.1 hx;have h3:off+k<cs.size:=by omega
 unfold putCells;rw [Array.getElem?_mapIdx,Array.getElem?_eq_getElem h3];simp [h1,h2]
theorem DL {B:Nat->Prop} {F:Fr} {w:World} {σ:Store} {μ:Mu} (hI:Inv B ⟨w,σ,μ,F⟩) (hB: ∀b,w.heap.size<=b->B b) {id ep:Nat} {l zs:List Int} (hg:σ.get id=some (.arr ep (.int .i64) l))
 {b base C:Nat} {cs:Array Value} {ty:TypeId} (hm:μ id=some (b,base,C)) (hb:w.heap[b]? =some (.cells cs ty (0,0))) (hcs:base+C*Ty.cells (.int .i64)=cs.size) (hlC:l.length<=C) (hC:Bv (.int .i64) ty base C) (hl:zs.length=l.length)
 (n:Nat) (os:Array Go.Obj):
 Evo ⟨w,σ,μ,F⟩ ⟨grow (putRow (Value.int .i64) (Sort.ahead w n) b base zs.toArray) os,(id, .arr ep (.int .i64) zs)::σ,fun i=>if i=id then μ id else μ i,F⟩/\
  Inv B ⟨grow (putRow (Value.int .i64) (Sort.ahead w n) b base zs.toArray) os,(id, .arr ep (.int .i64) zs)::σ,fun i=>if i=id then μ id else μ i,F⟩:=by
 have hlt:b<w.heap.size:=(Array.getElem?_eq_some_iff.1 hb).1;have hsz:(putRow (Value.int .i64) (Sort.ahead w n) b base zs.toArray).heap.size=w.heap.size:=by simp [putRow,mapBlock,Sort.ahead]
 have hold: ∀k,k<w.heap.size->k≠b->(grow (putRow (Value.int .i64) (Sort.ahead w n) b base zs.toArray) os).heap[k]? =w.heap[k]? :=by
  intro k hk hne;rw [heap_grow_old _ _ (by rw [hsz];exact hk)];show (w.heap.modify b _)[k]? =_;rw [Array.getElem?_modify,Q8 (fun e=>hne e.symm)]
 have hnew:(grow (putRow (Value.int .i64) (Sort.ahead w n) b base zs.toArray) os).heap[b]? =some (.cells (putCells (Value.int .i64) base zs.toArray cs) ty (0,0)):=by
  rw [heap_grow_old _ _ (by rw [hsz];exact hlt)];show (w.heap.modify b _)[b]? =_;rw [Array.getElem?_modify,Q_ rfl,hb];rfl
 refine dE (X:=⟨w,σ,μ,F⟩) hI hB (id:=id) (o':= .arr ep (.int .i64) zs) (p':=μ id) rfl rfl rfl (by simp [hsz]) (fun k hk hne=>hold k hk (fun e=>hne _ _ hg hm e.symm)) (fun q hq=> .inr ⟨_,_,hg,hm,by
  rw [hm] at hq;cases hq;rfl⟩) (fun c hc=>by
  have hc:σ.get id=some (.box c):=hc;rw [hg] at hc;cases hc) (fun ep0 t l0 hc=> ?_) (fun hE=> ?_)
 ·have hc:σ.get id=some (.arr ep0 t l0):=hc;rw [hg] at hc;cases hc;exact ⟨ep,zs,rfl,Rf _,fun _=>⟨rfl,hl⟩⟩
 ·refine .inr ⟨b,base,C,putCells (Value.int .i64) base zs.toArray cs,ty,by simp [hm],hnew,by simp [putCells,hcs],(show zs.length<=C by omega),hC,fun i x hx=>⟨[.int .i64 x],rfl,fun j u hu=> ?_⟩⟩;match j with
  |0=>
   simp only [List.getElem?_cons_zero,Q9] at hu
   subst hu
   simp only [Ty.cells,Nat.mul_one,RR]
   refine vR ?_ hx
   simp only [Ty.cells,Nat.mul_one] at hcs
   omega
  |j+1=>simp at hu
theorem LB {P:Program} {f:FuncId} (h:SortsInts P f) {σ:Store} {id ep:Nat} {l:List Int} (hg:σ.get id=some (.arr ep (.int .i64) l)) (hl:l.length<=1000000000):
 Upd P f [.slc id ep none] σ (.tuple []) ([(id, .arr ep (.int .i64) (eh l))]++σ):=by
 intro B F w μ vs hI hB hr;obtain ⟨u,us,rfl,h1,h2⟩:=hr.cons_inv;rw [h2.nil_inv];obtain ⟨A,len,cap,ep',t',l',rfl,hg',hle,hcur⟩:=h1.slc_inv;have hg':σ.get id=some (.arr ep' t' l'):=hg';rw [hg] at hg';cases hg';have hh:Hdr (μ id) (.int .i64) l.length none A len cap:=hcur rfl;rcases Sk l.length with h0|h0
 ·have hl0:l=[]:=Rk h0;have hlen:len=0:=by
   cases hm:μ id with
   |none=>rw [hm] at hh;exact hh.1
   |some q=>obtain ⟨b,base,C⟩:=q;rw [hm] at hh;rw [hh.1];exact h0
  subst hlen;refine (h.none A cap w).mono fun e w' ⟨he,hw⟩=>⟨_,he,fun i=>if i=id then μ id else μ i, ?_⟩
  subst hw;have hs:eh l=l:=by rw [hl0];simp [eh]
  rw [hs];have key:Evo ⟨w',σ,μ,F⟩ ⟨w',(id, .arr ep (.int .i64) l)::σ,fun i=>if i=id then μ id else μ i,F⟩/\Inv B ⟨w',(id, .arr ep (.int .i64) l)::σ,fun i=>if i=id then μ id else μ i,F⟩:=by
   refine dE (X:=⟨w',σ,μ,F⟩) hI hB (id:=id) (o':= .arr ep (.int .i64) l) (p':=μ id) rfl rfl rfl (Rf _) (fun _ _ _=>rfl) (fun q hq=> .inr ⟨_,_,hg,hq,rfl⟩) (fun c hc=>by
    have hc:σ.get id=some (.box c):=hc;rw [hg] at hc;cases hc) (fun ep0 t l0 hc=> ?_) (fun hE=> ?_)
   ·have hc:σ.get id=some (.arr ep0 t l0):=hc;rw [hg] at hc;cases hc;exact ⟨ep,l,rfl,Rf _,fun _=>⟨rfl,rfl⟩⟩
   ·rcases hI.objs id _ hg with k|⟨b,base,C,cs,ty,k1,k2,k3,k4,k5,k6⟩
    ·exact .inl (by simpa using k)
    ·refine .inr ⟨b,base,C,cs,ty,by simpa using k1,k2,k3,k4,k5,fun i x hx=> ?_⟩;obtain ⟨row,r1,r2⟩:=k6 i x hx;exact ⟨row,r1.keep hE.good,r2⟩
  exact ⟨key.2, .tuple rfl (fun j c u hc=>by simp at hc),key.1⟩
 ·rcases hI.objs id _ hg with ⟨_,k⟩|⟨b,base,C,cs,ty,k1,k2,k3,k4,k5,k6⟩
  ·have k:l.length=0:=k;omega
  ·have k1:μ id=some (b,base,C):=k1;rw [k1] at hh;obtain ⟨rfl,rfl,_,a,rfl,ha⟩:=hh;have hH:=tI (w:=w) (G:=Ctx.G ⟨w,σ,μ,F⟩) (l:=l) k2 k6;have ha2:=ha (by omega);subst ha2;refine (h.some b base cap l w hH (Array.getElem?_eq_some_iff.1 k2).1 (by omega)).mono fun e w' ⟨he,n,os,hw⟩=>⟨_,he,fun i=>if i=id then μ id else μ i, ?_⟩
   subst hw;obtain ⟨e1,e2⟩:=DL hI hB hg k1 k2 k3 k4 k5 (zs:=eh l) (by simp [eh]) n os;exact ⟨e2, .tuple (vs:= #[]) rfl (fun j c u hc=>by simp at hc),e1⟩
def bQ (l:List Int):List Int:=Lib.compact l++List.replicate (l.length-(Lib.compact l).length) 0
theorem zg {P:Program} {f:FuncId} (h:CompactsInts P f) {σ:Store} {id ep:Nat} {l:List Int} (hg:σ.get id=some (.arr ep (.int .i64) l)) (hl:l.length<=1000000000):
 Upd P f [.slc id ep none] σ (.slc id ep (some (0,(Lib.compact l).length))) ([(id, .arr ep (.int .i64) (bQ l))]++σ):=by
 intro B F w μ vs hI hB hr;obtain ⟨u,us,rfl,h1,h2⟩:=hr.cons_inv;rw [h2.nil_inv];obtain ⟨A,len,cap,ep',t',l',rfl,hg',hle,hcur⟩:=h1.slc_inv;have hg':σ.get id=some (.arr ep' t' l'):=hg';rw [hg] at hg';cases hg';have hh:Hdr (μ id) (.int .i64) l.length none A len cap:=hcur rfl;have hcl:=zf l;have hrl:(bQ l).length=l.length:=by rw [bQ,Re,List.length_replicate];omega
 rcases Sk l.length with h0|h0
 ·have hl0:l=[]:=Rk h0;have hlen:len=0:=by
   cases hm:μ id with
   |none=>rw [hm] at hh;exact hh.1
   |some q=>obtain ⟨b,base,C⟩:=q;rw [hm] at hh;rw [hh.1];exact h0
  subst hlen;refine (h.none A cap w).mono fun e w' ⟨he,hw⟩=>⟨_,he,fun i=>if i=id then μ id else μ i, ?_⟩
  subst hw;have hs:bQ l=l:=by rw [hl0];simp [bQ,Lib.compact,Lib.compactUpTo]
  have hc0:(Lib.compact l).length=0:=by omega
  rw [hs,hc0];have key:Evo ⟨w',σ,μ,F⟩ ⟨w',(id, .arr ep (.int .i64) l)::σ,fun i=>if i=id then μ id else μ i,F⟩/\Inv B ⟨w',(id, .arr ep (.int .i64) l)::σ,fun i=>if i=id then μ id else μ i,F⟩:=by
   refine dE (X:=⟨w',σ,μ,F⟩) hI hB (id:=id) (o':= .arr ep (.int .i64) l) (p':=μ id) rfl rfl rfl (Rf _) (fun _ _ _=>rfl) (fun q hq=> .inr ⟨_,_,hg,hq,rfl⟩) (fun c hc=>by
    have hc:σ.get id=some (.box c):=hc;rw [hg] at hc;cases hc) (fun ep0 t l0 hc=> ?_) (fun hE=> ?_)
   ·have hc:σ.get id=some (.arr ep0 t l0):=hc;rw [hg] at hc;cases hc;exact ⟨ep,l,rfl,Rf _,fun _=>⟨rfl,rfl⟩⟩
   ·rcases hI.objs id _ hg with k|⟨b,base,C,cs,ty,k1,k2,k3,k4,k5,k6⟩
    ·exact .inl (by simpa using k)
    ·refine .inr ⟨b,base,C,cs,ty,by simpa using k1,k2,k3,k4,k5,fun i x hx=> ?_⟩;obtain ⟨row,r1,r2⟩:=k6 i x hx;exact ⟨row,r1.keep hE.good,r2⟩
  refine ⟨key.2, .slc (ep':=ep) (t:= .int .i64) (l:=l) (by simp [a7]) (Rf _) (fun _=> ?_),key.1⟩;simp only [if_true];cases hm:μ id with
  |none=>rw [hm] at hh;exact ⟨rfl,rfl,rfl,hh.2.1,h0⟩
  |some q=>
   obtain ⟨b,base,C⟩:=q;rw [hm] at hh;obtain ⟨_,rfl,hC,a,rfl,ha⟩:=hh;exact ⟨rfl,by simp,hC,rfl,a,rfl,fun h3=>by rw [ha (by omega)];simp⟩
 ·rcases hI.objs id _ hg with ⟨_,k⟩|⟨b,base,C,cs,ty,k1,k2,k3,k4,k5,k6⟩
  ·have k:l.length=0:=k;omega
  ·have k1:μ id=some (b,base,C):=k1;rw [k1] at hh;obtain ⟨rfl,rfl,hC,a,rfl,ha⟩:=hh;have hH:=tI (w:=w) (G:=Ctx.G ⟨w,σ,μ,F⟩) (l:=l) k2 k6;have ha2:=ha (by omega);subst ha2;refine (h.some b base cap l w hH (by omega) hC).mono fun e w' ⟨he,n,hw⟩=>⟨_,he,fun i=>if i=id then μ id else μ i, ?_⟩
   have hw:w'=grow (putRow (Value.int .i64) (Sort.ahead w n) b base (bQ l).toArray) #[]:=by rw [grow_empty];exact hw
   subst hw;obtain ⟨e1,e2⟩:=DL hI hB hg k1 k2 k3 k4 k5 (zs:=bQ l) hrl n #[];refine ⟨e2, .slc (ep':=ep) (t:= .int .i64) (l:=bQ l) (by simp [a7]) (Rf _) (fun _=> ?_),e1⟩;simp only [if_true,k1];exact ⟨rfl,(show 0+(Lib.compact l).length<=(bQ l).length by omega),(show (bQ l).length<=cap by omega),rfl,_,rfl,fun _=>by simp⟩
def DM:List V->Store->Option (Prop×V×Store)
 |[.slc id ep none],σ=>match σ.get id with
  |some (.arr ep' (.int .i64) l)=>if ep=ep' then some (List.length l<=1000000000, .tuple [],[(id, .arr ep' (.int .i64) (eh l))]) else none
  |_=>none
 |_,_=>none
def ry:List V->Store->Option (Prop×V×Store)
 |[.slc id ep none],σ=>match σ.get id with
  |some (.arr ep' (.int .i64) l)=>if ep=ep' then some (List.length l<=1000000000, .slc id ep' (some (0,(Lib.compact (α:=Int) l).length)),[(id, .arr ep' (.int .i64) (bQ l))]) else none
  |_=>none
 |_,_=>none
def Jt {P:Program} (f:FuncId) (h:SortsInts P f):UFSpec P where
 f:=f
 run:=DM
 ok:=fun args σ pre r new hr hp=>by
  unfold DM at hr;split at hr
  ·split at hr
   ·rename_i hg;split at hr
    ·rename_i e;subst e;cases hr;exact LB h hg hp
    ·cases hr
   ·cases hr
  ·cases hr
def xt {P:Program} (f:FuncId) (h:CompactsInts P f):UFSpec P where
 f:=f
 run:=ry
 ok:=fun args σ pre r new hr hp=>by
  unfold ry at hr;split at hr
  ·split at hr
   ·rename_i hg;split at hr
    ·rename_i e;subst e;cases hr;exact zg h hg hp
    ·cases hr
   ·cases hr
  ·cases hr
end Go.Vm
namespace Go.Vm
def cd:List Int->Int->List Int
 |[],n=>[n]
 |x::r,n=>if x<n then x::cd r n else if x=n then x::r else n::x::r
abbrev mb (l:List Int):Prop:=l.Pairwise (· < ·)
theorem nw: ∀{l:List Int} {n x:Int},x∈cd l n↔x∈l∨x=n
 |[],n,x=>by simp [cd]
 |y::r,n,x=>by
  unfold cd;split
  ·simp only [Rp,nw,or_assoc]
  ·split
   ·rename_i e;subst e;simp only [Rp];constructor
    ·exact .inl
    ·rintro (h|h)
     ·exact h
     ·exact .inl h
   ·simp only [Rp];constructor
    ·rintro (h|h|h)
     ·exact .inr h
     ·exact .inl (.inl h)
     ·exact .inl (.inr h)
    ·rintro ((h|h)|h)
     ·exact .inr (.inl h)
     ·exact .inr (.inr h)
     ·exact .inl h
theorem oC: ∀{l:List Int} {n:Int},mb l->mb (cd l n)
 |[],n,_=>by simp [cd,mb]
 |y::r,n,h=>by
  obtain ⟨h1,h2⟩:=SF.1 h;unfold cd;split
  ·rename_i hlt;refine SF.2 ⟨fun x hx=> ?_,oC h2⟩;rcases nw.1 hx with h3|h3
   ·exact h1 x h3
   ·omega
  ·split
   ·exact h
   ·refine SF.2 ⟨fun x hx=> ?_,h⟩;rcases Rp.1 hx with h3|h3
    ·omega
    ·have:=h1 x h3;omega
theorem tJ: ∀{l:List Int} {n:Int},(cd l n).length<=l.length+1
 |[],n=>by simp [cd]
 |y::r,n=>by
  unfold cd;have:=tJ (l:=r) (n:=n);split
  ·simp only [Rj];omega
  ·split<;>simp
theorem tK: ∀{a b:List Int},mb a->mb b->(∀x,x∈a↔x∈b)->a=b
 |[],[],_,_,_=>rfl
 |[],y::b,_,_,h=>by have:=(h y).2 (by simp);simp at this
 |x::a,[],_,_,h=>by have:=(h x).1 (by simp);simp at this
 |x::a,y::b,ha,hb,h=>by
  obtain ⟨a1,a2⟩:=SF.1 ha;obtain ⟨b1,b2⟩:=SF.1 hb;have e:x=y:=by
   have h1:=(h x).1 (by simp);have h2:=(h y).2 (by simp);rcases Rp.1 h1 with h3|h3
   ·exact h3
   ·rcases Rp.1 h2 with h4|h4
    ·exact h4.symm
    ·have:=b1 x h3;have:=a1 y h4;omega
  subst e;congr 1;refine tK a2 b2 (fun z=> ?_);have hz:=h z;simp only [Rp] at hz;constructor
  ·intro hm;rcases hz.1 (.inr hm) with h3|h3
   ·have:=a1 z hm;omega
   ·exact h3
  ·intro hm;rcases hz.2 (.inr hm) with h3|h3
   ·have:=b1 z hm;omega
   ·exact h3
theorem rz: ∀{m l:List Int},mb l->mb (m.foldl cd l)
 |[],_,h=>h
 |x::r,l,h=>rz (m:=r) (oC h)
theorem zh: ∀{m l:List Int} {x:Int},x∈m.foldl cd l↔x∈l∨x∈m
 |[],l,x=>by simp
 |y::r,l,x=>by
  rw [Sf,zh,nw,Rp,or_assoc]
theorem xv: ∀{m l:List Int},(m.foldl cd l).length<=l.length+m.length
 |[],l=>by simp
 |y::r,l=>by
  have h1:=xv (m:=r) (l:=cd l y);have h2:=tJ (l:=l) (n:=y);simp only [Sf,Rj];omega
theorem mc {zs:List Int} (hs: ∀i,i+1<zs.length->zs.toArray[i]! <=zs.toArray[i+1]!): ∀m,m<=zs.length->mb (Lib.compactUpTo zs.toArray m)/\(∀x∈Lib.compactUpTo zs.toArray m,0<m/\x<=zs.toArray[m-1]!)/\
 ∀x,x∈Lib.compactUpTo zs.toArray m↔∃j,j<m/\zs.toArray[j]! =x
 |0,_=>by simp [Lib.compactUpTo,mb]
 |m+1,hm=>by
  obtain ⟨h1,h2,h3⟩:=mc hs m (by omega);rw [Lib.compactUpTo_succ];have hle: ∀x∈Lib.compactUpTo zs.toArray m,x<=zs.toArray[m]! :=by
   intro x hx;obtain ⟨h4,h5⟩:=h2 x hx;have:=hs (m-1) (by omega);rw [show m-1+1=m by omega] at this;omega
  by_cases hk:Lib.keeps zs.toArray m=true
  ·rw [Q_ hk];have hlt: ∀x∈Lib.compactUpTo zs.toArray m,x<zs.toArray[m]! :=by
    intro x hx;obtain ⟨h4,h5⟩:=h2 x hx;have h6:=hs (m-1) (by omega);rw [show m-1+1=m by omega] at h6;simp only [Lib.keeps,Q7] at hk;have:zs.toArray[m]! ≠zs.toArray[m-1]! :=by
     rcases hk with hk|hk
     ·omega
     ·exact hk
    omega
   refine ⟨List.pairwise_append.2 ⟨h1,by simp,fun x hx y hy=> ?_⟩,fun x hx=>⟨by omega, ?_⟩,fun x=> ?_⟩
   ·simp only [Ru] at hy;subst hy;exact hlt x hx
   ·rcases Rn.1 hx with hx|hx
    ·exact hle x hx
    ·simp only [Ru] at hx;subst hx;simp
   ·rw [Rn,h3,Ru];constructor
    ·rintro (⟨j,hj,e⟩|rfl)
     ·exact ⟨j,by omega,e⟩
     ·exact ⟨m,by omega,rfl⟩
    ·rintro ⟨j,hj,e⟩;by_cases hjm:j=m
     ·subst hjm;exact .inr e.symm
     ·exact .inl ⟨j,by omega,e⟩
  ·rw [Q8 hk,RH];have hm0:0<m/\zs.toArray[m]! =zs.toArray[m-1]! :=by
    simp only [Lib.keeps,Q7,not_or,ne_eq,Classical.not_not] at hk;exact ⟨by omega,hk.2⟩
   refine ⟨h1,fun x hx=>⟨by omega,hle x hx⟩,fun x=> ?_⟩;rw [h3];constructor
   ·rintro ⟨j,hj,e⟩;exact ⟨j,by omega,e⟩
   ·rintro ⟨j,hj,e⟩;by_cases hjm:j=m
    ·subst hjm;exact ⟨j-1,by omega,by rw [<-hm0.2];exact e⟩
    ·exact ⟨j,by omega,e⟩
theorem uD (l:List Int):Lib.compact (eh l)=l.foldl cd []:=by
 have hs:(eh l).Pairwise (fun x y=>decide (x<=y)=true):=List.pairwise_mergeSort (fun a b c h1 h2=>by simp at*;omega) (fun a b=>by simp;omega) l;have hs2: ∀i,i+1<(eh l).length->(eh l).toArray[i]! <=(eh l).toArray[i+1]! :=by
  intro i hi;have:=List.pairwise_iff_getElem.1 hs i (i+1) (by omega) hi (by omega);simp only [Q7] at this;have h1:i<(eh l).length:=by omega
  simp [h1,hi,this]
 obtain ⟨h1,_,h3⟩:=mc hs2 (eh l).length (Rf _);refine tK h1 (rz List.Pairwise.nil) (fun x=> ?_);rw [zh];show x∈Lib.compactUpTo (eh l).toArray (eh l).length↔_;rw [h3];have hp: ∀x,x∈eh l↔x∈l:=fun x=>(List.mergeSort_perm l _).mem_iff;constructor
 ·rintro ⟨j,hj,e⟩;right;rw [<-hp,<-e];simp [hj]
 ·rintro (h|h)
  ·simp at h
  ·rw [<-hp] at h;obtain ⟨j,hj,e⟩:=List.mem_iff_getElem.1 h;exact ⟨j,hj,by simp [hj,e]⟩
end Go.Vm
namespace Go.Vm
open Go.RowKit (Below)
open Go.ChangeShapes Go.WideShapes Go.WideElems
def dD (P:Program) (ok:TypeId->Ty->Bool):List Field->Nat->Ty->Bool
 |[f],off,ty=>f.offset==off&&(ok f.type ty&&P.cellsOf f.type==ty.cells)
 |f::r,off, .pair a b=>f.offset==off&&(ok f.type a&&(P.cellsOf f.type==a.cells&&dD P ok r (off+a.cells) b))
 |_,_,_=>false
def kq (P:Program) (ok:TypeId->Ty->Bool) (e:TypeId):Nat->Ty->Bool
 |1,ty=>ok e ty&&P.cellsOf e==ty.cells
 |n+2, .pair a b=>ok e a&&(P.cellsOf e==a.cells&&kq P ok e (n+1) b)
 |_,_=>false
def rX (P:Program):Nat->TypeId->Ty->Bool
 |0,_,_=>false
 |n+1,t,ty=>match P.underlying t with
  |some .bool=>(match ty with
   | .bool=>true
   |_=>false)
  |some .string=>(match ty with
   | .str=>true
   |_=>false)
  |some (.int k)=>(match ty with
   | .int k'=>k==k'
   |_=>false)
  |some (.slice e)=>(match ty with
   | .slice ty'=>rX P n e ty'&&P.cellsOf e==ty'.cells
   |_=>false)
  |some (.struct fs)=>dD P (rX P n) fs.toList 0 ty&&P.cellsOf t==ty.cells
  |some (.array m e)=>kq P (rX P n) e m ty&&P.cellsOf t==ty.cells
  |_=>false
def okD:(t:Ty)->t.den->Prop
 | .bool,_=>True
 | .str,l=>List.length l<=maxLen
 | .int k,n=>InK k n
 | .slice t,l=>List.length l<=maxLen/\∀(i:Nat) (x:t.den),nth (α:=t.den) l i=some x->okD t x
 | .pair a b,x=>okD a x.1/\okD b x.2
theorem GX {k:IntKind} {n:Int} (h:(Lit.int k n).wf=true):InK k n:=by
 cases k<;>simp [Lit.wf,IntKind.min,IntKind.max,IntKind.signed,IntKind.bits] at h<;>simp only [InK]<;>omega
section
variable {H:Type} {enc:TypeId×Value->H} {P:Program} {w:World} {base:Nat} {spare:Nat->Bool} {held:Bool}
abbrev Cf (w:World) (b:Nat):Prop:=b<w.heap.size
theorem rA {ok:TypeId->Ty->Bool} {rd:TypeId->List Value->Option (DataW H×List MemPlace)} (hok: ∀t ty cs x,ok t ty=true->rd t cs=some x->∃d,RepC w (Cf w) ty d cs/\okD ty d) {cs:List Value}:
 ∀(fs:List Field) (off:Nat) (ty:Ty),dD P ok fs off ty=true->(∀f∈fs,∃x,rd f.type ((cs.drop f.offset).take (P.cellsOf f.type))=some x)->(cs.drop off).length=ty.cells->∃d,RepC w (Cf w) ty d (cs.drop off)/\okD ty d
 |[],off,ty,h,_,_=>by simp [dD] at h
 |[f],off,ty,h,hr,hl=>by
  simp only [dD,Ri,beq_iff_eq] at h;obtain ⟨rfl,h2,h3⟩:=h;obtain ⟨x,hx⟩:=hr f (by simp);obtain ⟨d,hd⟩:=hok _ _ _ _ h2 hx;rw [Rh (by omega)] at hd;exact ⟨d,hd⟩
 |f::g::r,off, .pair a b,h,hr,hl=>by
  simp only [dD,Ri,beq_iff_eq] at h;obtain ⟨rfl,h2,h3,h4⟩:=h;obtain ⟨x,hx⟩:=hr f (by simp);obtain ⟨d1,hd1,ho1⟩:=hok _ _ _ _ h2 hx;simp only [Ty.cells,RE] at hl;obtain ⟨d2,hd2,ho2⟩:=rA hok (g::r) (f.offset+a.cells) b h4 (fun q hq=>hr q (Rq _ hq)) (by simp only [RE];omega);refine ⟨(d1,d2),⟨_,_, ?_,hd1,hd2⟩,ho1,ho2⟩;rw [h3,<-SK,Si]
 |f::g::r,off, .bool,h,_,_=>by simp [dD] at h
 |f::g::r,off, .str,h,_,_=>by simp [dD] at h
 |f::g::r,off, .int _,h,_,_=>by simp [dD] at h
 |f::g::r,off, .slice _,h,_,_=>by simp [dD] at h
theorem DN {ok:TypeId->Ty->Bool} {e:TypeId} {rd:TypeId->List Value->Option (DataW H×List MemPlace)} (hok: ∀t ty cs x,ok t ty=true->rd t cs=some x->∃d,RepC w (Cf w) ty d cs/\okD ty d) {cs:List Value}:
 ∀(n i:Nat) (ty:Ty),kq P ok e n ty=true->(∀j,i<=j->j<i+n->∃x,rd e ((cs.drop (j*P.cellsOf e)).take (P.cellsOf e))=some x)->(cs.drop (i*P.cellsOf e)).length=ty.cells->∃d,RepC w (Cf w) ty d (cs.drop (i*P.cellsOf e))/\okD ty d
 |0,i,ty,h,_,_=>by simp [kq] at h
 |1,i,ty,h,hr,hl=>by
  simp only [kq,Ri,beq_iff_eq] at h;obtain ⟨h2,h3⟩:=h;obtain ⟨x,hx⟩:=hr i (Rf _) (by omega);obtain ⟨d,hd⟩:=hok _ _ _ _ h2 hx;rw [Rh (by omega)] at hd;exact ⟨d,hd⟩
 |n+2,i, .pair a b,h,hr,hl=>by
  simp only [kq,Ri,beq_iff_eq] at h;obtain ⟨h2,h3,h4⟩:=h;obtain ⟨x,hx⟩:=hr i (Rf _) (by omega);obtain ⟨d1,hd1,ho1⟩:=hok _ _ _ _ h2 hx;simp only [Ty.cells,RE] at hl;have ei:(i+1)*P.cellsOf e=i*P.cellsOf e+a.cells:=by rw [Nat.succ_mul,h3]
  obtain ⟨d2,hd2,ho2⟩:=DN hok (n+1) (i+1) b h4 (fun j h5 h6=>hr j (by omega) (by omega)) (by simp only [RE];omega);refine ⟨(d1,d2),⟨_,_, ?_,hd1,hd2⟩,ho1,ho2⟩;rw [ei,h3,<-SK,Si]
 |n+2,i, .bool,h,_,_=>by simp [kq] at h
 |n+2,i, .str,h,_,_=>by simp [kq] at h
 |n+2,i, .int _,h,_,_=>by simp [kq] at h
 |n+2,i, .slice _,h,_,_=>by simp [kq] at h
theorem oD {α:Type} {Q:Nat->α->Prop}: ∀(n:Nat),(∀i,i<n->∃x,Q i x)->∃l:List α,l.length=n/\∀i x,l[i]? =some x->Q i x
 |0,_=>⟨[],rfl,fun i x h=>by simp at h⟩
 |n+1,h=>by
  obtain ⟨l,h1,h2⟩:=oD n (fun i hi=>h i (by omega));obtain ⟨x,hx⟩:=h n (by omega);refine ⟨l++[x],by simp [h1],fun i y hy=> ?_⟩;by_cases hi:i<n
  ·rw [List.getElem?_append_left (by omega)] at hy;exact h2 i y hy
  ·rw [List.getElem?_append_right (by omega)] at hy;have:i=n:=by
    have:=(List.getElem?_eq_some_iff.1 hy).1;simp at this;omega
   subst this;rw [h1,Nat.sub_self] at hy;simp at hy;subst hy;exact hx
theorem me: ∀(n:Nat) (t:TypeId) (ty:Ty) (fuel:Nat) (cs:List Value) (x:DataW H×List MemPlace),rX P n t ty=true->DataW.trod enc P w base spare held fuel t cs=some x->∃d,RepC w (Cf w) ty d cs/\okD ty d
 |0,_,_,_,_,_,h,_=>by simp [rX] at h
 |n+1,t,ty,fuel,cs,x,h,hx=>by
  unfold rX at h;split at h
  ·rename_i hu;split at h
   ·obtain ⟨b,rfl,_⟩:=DataW.trod_bool hu hx;exact ⟨b,rfl,trivial⟩
   ·cases h
  ·rename_i hu;split at h
   ·obtain ⟨s,rfl,_,hs⟩:=DataW.trod_string hu hx;exact ⟨s.data.toList,⟨s,rfl,rfl⟩,by simpa [okD] using hs⟩
   ·cases h
  ·rename_i k hu;split at h
   ·rename_i k';obtain ⟨m,rfl,_,hw⟩:=DataW.trod_int hu hx;have:k=k':=by simpa using h
    subst this;exact ⟨m,rfl,GX hw⟩
   ·cases h
  ·rename_i e hu;split at h
   ·rename_i ty';simp only [Ri,beq_iff_eq] at h;obtain ⟨h1,h2⟩:=h;rcases DataW.trod_slice hu hx with ⟨rfl,_⟩|⟨a,len,cap,elems,rest,m,rfl,rfl,_,hb,hl,hm,hlen,hel,_,_⟩
    ·exact ⟨([]:List ty'.den),⟨none,0,rfl,Rf _,fun h0=>absurd h0 (RY _)⟩,RV _,fun i x hx=>by simp [nth] at hx⟩
    ·have each: ∀i,i<len->∃d:ty'.den,(∃row,RepC w (Cf w) ty' d row/\w.cells? base (a.add (i*P.cellsOf e)) (P.cellsOf e)=some row)/\okD ty' d:=by
      intro i hi;have h3:=hel i hi;rw [List.getElem?_eq_getElem (by omega),Ra] at h3;obtain ⟨row,h4,h5⟩:=h3;obtain ⟨d,hd,ho⟩:=me n e ty' m row _ h1 h5;exact ⟨d,⟨row,hd,h4⟩,ho⟩
     obtain ⟨l,hll,hlq⟩:=oD len each;refine ⟨l,⟨some a,cap,by rw [hll],by omega,fun h0=> ?_⟩,by omega,fun i x hx=>(hlq i x hx).2⟩;obtain ⟨b,off,spot⟩:=a;have hfirst:=hlq 0 l[0] (List.getElem?_eq_getElem h0);obtain ⟨⟨row,hr1,hr2⟩,_⟩:=hfirst;obtain ⟨_,hcl,hat⟩:=World.cells?_some hr2;have hpos:=ty'.cells_pos;have hc0:=hat 0 (by omega);rw [List.getElem?_eq_getElem (by omega)] at hc0;have hspot:spot=none:=by
      have:=World.cell?_spot hc0;simpa [Addr.add] using this
     subst hspot;have hblt:b<w.heap.size:=by
      have:=World.block_lt_of_cell? _ _ hc0;simpa [Addr.add] using this
     refine ⟨b,off,rfl,hblt,fun i x hxi=> ?_⟩;obtain ⟨⟨row',hq1,hq2⟩,_⟩:=hlq i x hxi;refine ⟨row',hq1,fun j u hu=> ?_⟩;obtain ⟨_,hcl',hat'⟩:=World.cells?_some hq2;have hj:j<P.cellsOf e:=by
      have:=(List.getElem?_eq_some_iff.1 hu).1;omega
     have:=hat' j hj;rw [hu] at this;rw [<-this,add_plain,add_plain,h2]
   ·cases h
  ·rename_i fs hu;simp only [Ri,beq_iff_eq] at h;obtain ⟨ys,m,rfl,_,hlen,hyl,hf⟩:=DataW.trod_struct hu hx;obtain ⟨d,hd,ho⟩:=rA (rd:=DataW.trod enc P w base spare held m) (P:=P) (fun t ty cs x=>me n t ty m cs x) (cs:=cs) fs.toList 0 ty h.1 (fun f hfm=>by
    obtain ⟨i,hi,e⟩:=List.mem_iff_getElem.1 hfm;have h3:=hf i f (by rw [<-e];simp at hi;simp [hi]);simp at hi;exact ⟨ys[i]'(by omega),by rw [h3,List.getElem?_eq_getElem]⟩) (by rw [Sz,hlen,h.2])
   rw [Sz] at hd;exact ⟨d,hd,ho⟩
  ·rename_i m' e hu;simp only [Ri,beq_iff_eq] at h;obtain ⟨ys,m,rfl,_,hlen,hyl,hf⟩:=DataW.trod_array hu hx;obtain ⟨d,hd,ho⟩:=DN (rd:=DataW.trod enc P w base spare held m) (P:=P) (fun t ty cs x=>me n t ty m cs x) (cs:=cs) (e:=e) m' 0 ty h.1 (fun j _ hj=>by
    have h3:=hf j (by omega);exact ⟨ys[j]'(by omega),by rw [h3,List.getElem?_eq_getElem]⟩) (by rw [SN,Sz,hlen,h.2])
   rw [SN,Sz] at hd;exact ⟨d,hd,ho⟩
  ·cases h
end
def Qu (g:Bool) (t:Ty) (x:t.den):V:=if g then .agg (enc t x) else (enc t x).headD .any
def zi:List (TypeId×Ty)->Type
 |[]=>Unit
 |p::r=>p.2.den×zi r
def Qv (P:Program) (t:TypeId):Bool:=match P.underlying t with
 |some (.struct _)|some (.array _ _)=>true
 |_=>false
def LC (P:Program):(l:List (TypeId×Ty))->zi l->List V
 |[],_=>[]
 |p::r,x=>Qu (Qv P p.1) p.2 x.1::LC P r x.2
def Cg:(l:List (TypeId×Ty))->zi l->Prop
 |[],_=>True
 |p::r,x=>okD p.2 x.1/\Cg r x.2
def noF (g:{l:List (Nat×_root_.Go.Obj)//wQ l}):Fr:=⟨fun _=>False,fun _=>False,[],g⟩
section
variable {g0:{l:List (Nat×_root_.Go.Obj)//wQ l}} {H:Type} {enc:TypeId×Value->H} {P:Program} {w:World} {base:Nat} {spare:Nat->Bool} {held:Bool}
theorem OH {b0:Nat} {t:TypeId} {ty:Ty} {v:Value} {d:DataW H} {p:List MemPlace} (h:rX P 60 t ty=true) (hv:Value.okWide P w .any b0 t v) (hd:DataW.Trod enc P w base spare held t v d p):
 ∃x:ty.den,Rep ⟨w,[],fun _=>none,noF g0⟩ (Qu (Qv P t) ty x) v/\okD ty x:=by
 obtain ⟨fuel,hf⟩:=hd;obtain ⟨x,hx,ho⟩:=me 60 t ty fuel _ _ h hf;have hG: ∀b,Cf w b->Ctx.G ⟨w,[],fun _=>none,noF g0⟩ b:=fun b hb=>⟨⟨⟨hb,fun _ _ hg=>by simp [Store.get] at hg⟩,fun hh=>hh⟩,fun hh=>hh⟩
 have hr:=ik (X:=⟨w,[],fun _=>none,noF g0⟩) (hx.keep (w':=w) (fun b hb=>⟨hG b hb,rfl⟩));refine ⟨x, ?_,ho⟩;unfold Qu Qv;have one:(∀cs,v≠ .agg cs)->Rep ⟨w,[],fun _=>none,noF g0⟩ ((Go.Vm.enc ty x).headD .any) v:=by
  intro hne;have hc:v.cells.toList=[v]:=by
   cases v<;>first|rfl|exact absurd rfl (hne _)
  rw [hc] at hr;have hl:=hr.1;match henc:Go.Vm.enc ty x,hl with
  |[c],_=>rw [henc] at hr;exact hr.2 0 c v rfl rfl
 have agg: ∀cs,v= .agg cs->Rep ⟨w,[],fun _=>none,noF g0⟩ (.agg (Go.Vm.enc ty x)) v:=by
  rintro cs rfl;exact hr.agg
 unfold rX at h;split at h
 ·rename_i hu;rw [hu];obtain ⟨b,rfl⟩:=okWide_bool hu hv;exact one (fun cs e=>by cases e)
 ·rename_i hu;rw [hu];obtain ⟨b,rfl⟩:=okWide_string hu hv;exact one (fun cs e=>by cases e)
 ·rename_i k hu;rw [hu];obtain ⟨b,rfl⟩:=okWide_int hu hv;exact one (fun cs e=>by cases e)
 ·rename_i e hu;rw [hu];obtain ⟨a,len,cap,rfl⟩:=okWide_slice hu hv;exact one (fun cs e=>by cases e)
 ·rename_i fs hu;rw [hu];simp only [Value.okWide,hu] at hv;obtain ⟨cs,rfl,_⟩:=hv;exact agg cs rfl
 ·rename_i m e hu;rw [hu];simp only [Value.okWide,hu] at hv;obtain ⟨cs,rfl,_⟩:=hv;exact agg cs rfl
 ·cases h
theorem zj {b0:Nat}: ∀{l:List (TypeId×Ty)} {vs:List Value} {ds:List (DataW H)} {ps:List MemPlace},(l.all fun p=>rX P 60 p.1 p.2)=true->
 (∀(j:Nat) t v,(l.map (·.1))[j]? =some t->vs[j]? =some v->Value.okWide P w .any b0 t v)->DataW.TrodAll enc P w base spare held (l.map (·.1)) vs ds ps->
 ds.length=l.length/\∃x:zi l,RepL ⟨w,[],fun _=>none,noF g0⟩ (LC P l x) vs/\Cg l x
 |[],vs,ds,ps,_,_,h=>by
  obtain ⟨rfl,rfl,_⟩:=trodAll_nil h;exact ⟨rfl,(), .nil,trivial⟩
 |p::r,vs,ds,ps,ht,hv,h=>by
  obtain ⟨v,vs',d,ds',a,b,rfl,rfl,rfl,h1,h2⟩:=trodAll_cons h;simp only [List.all_cons,Ri] at ht;obtain ⟨x,hx,ho⟩:=OH ht.1 (hv 0 p.1 v rfl rfl) h1;obtain ⟨hl,y,hy,hoy⟩:=zj ht.2 (fun j t u h3 h4=>hv (j+1) t u (by simpa using h3) (by simpa using h4)) h2;exact ⟨by simp [hl],(x,y), .cons hx hy,ho,hoy⟩
theorem tL (hl:laidOutB P=true) {W W':World} {sp:Nat->Bool}: ∀{ts:List TypeId} {vs:List Value} {ds:List (DataW H)} {ps:List MemPlace},(ts.all fun t=>P.readableRec t&&decide (t<P.types.size))=true->
 DataW.TrodAll enc P W 0 (fun _=>true) true ts vs ds ps->(∀p∈ps,W.sameAt W' p)->(∀p∈ps,sp p.block=true)->DataW.TrodAll enc P W' 0 sp true ts vs ds ps
 |[],vs,ds,ps,_,h,_,_=>by
  obtain ⟨rfl,rfl,rfl⟩:=trodAll_nil h;exact rfl
 |t::ts,vs,ds,ps,ht,h,h1,h2=>by
  obtain ⟨v,vs',d,ds',a,b,rfl,rfl,rfl,k1,k2⟩:=trodAll_cons h;simp only [List.all_cons,Ri,Q7] at ht;exact ⟨a,b,Trod_stays hl ht.1.1 ht.1.2 k1 (fun p hp=>h1 p (R7 _ hp)) (fun p hp=>h2 p (R7 _ hp)),
   tL hl ht.2 k2 (fun p hp=>h1 p (List.mem_append_right _ hp)) (fun p hp=>h2 p (List.mem_append_right _ hp)),rfl⟩
theorem Ch {f:Func} {s:ChangeSpec} {apart fresh handsOn again:Bool} {W W':World} {args:Array Value} {v:Value} {ds gs:List (DataW H)} {before pa pv:List MemPlace}
 (hW:DataW.Whole enc P f.params.toList s.vars apart W args.toList ds gs before)
 (hres: ∀(b:Nat) (sp:Nat->Bool) (hd:Bool),DataW.TrodAll enc P W' b sp hd f.resultTypes.toList (v.resultList f.resultTypes.size) (s.fn H (ds++gs)).results [])
 (hargs: ∀sp:Nat->Bool,(∀p∈before,sp p.block=true)->DataW.TrodAll enc P W' 0 sp true f.params.toList args.toList (s.fn H (ds++gs)).args pa)
 (hvars: ∀sp:Nat->Bool,(∀p∈before,sp p.block=true)->DataW.TrodVars enc P W' sp s.vars (s.fn H (ds++gs)).vars pv)
 (hps:before=pa++pv) (hb:Below W.heap.size W W')
 (hok: ∀(j:Nat) (t:TypeId) (r:Value),f.resultTypes[j]? =some t->(v.resultList f.resultTypes.size)[j]? =some r->Value.okWide P W' .any 0 t r):
 s.post enc P f apart fresh handsOn again W args v W':=by
 have hlt: ∀p∈before,p.block<W.heap.size:=fun p hp=>hW.lt p hp;have hold: ∀p∈before,(fun b=>decide (b<W.heap.size)) p.block=true:=fun p hp=>by simpa using hlt p hp
 refine ⟨ds,gs,before,[],pa,pv,hW,hres _ _ _,hargs _ hold,hvars _ hold,World.keptBut_mono (fun p hp=>⟨hp, ?_⟩) (hb.frame (· ∈before)),fun _=> ?_⟩
 ·rw [hps,Rn] at hp;exact Or.inr hp
 ·obtain ⟨_,_,_,_,_,hz,hn⟩:=hW;refine ⟨hok,_,_,([]++pa)++pv,⟨[]++pa,pv,trodAll_append (hargs _ (fun _ _=>rfl)) (hres _ _ _),hvars _ (fun _ _=>rfl),rfl, ?_, ?_⟩, ?_⟩
  ·intro b off hp;have hin:MemPlace.cell b off∈before:=by rw [hps];simpa using hp
   rw [hb.frozen (hlt _ hin)];exact hz b off hin
  ·intro ha;have:=hn ha;rw [hps] at this;simpa using this
  ·intro p hp _;rw [hps];simpa using hp
theorem LD {σ:Store} {n:Nat} {v:V} {b:Bool} (h:own σ (n+1) v=some (.bool b)):v= .bool b:=by
 unfold own at h;repeat' (split at h)
 all_goals first
  |(cases h;done)
  |(cases h;rfl)
  |(simp only [Rc] at h;obtain ⟨_,_,h9⟩:=h;cases h9;done)
theorem ut (hl:laidOutB P=true) {l:List (TypeId×Ty)} {f:FuncId} {fn:Func} {s:ChangeSpec} {apart:Bool} {rt:TypeId} (hps:fn.params.toList=l.map (·.1))
 (hty:(l.all fun p=>rX P 60 p.1 p.2)=true) (hrd:((l.map (·.1)).all fun t=>P.readableRec t&&decide (t<P.types.size))=true)
 (hres:fn.resultTypes= #[rt]) (hrt:P.underlying rt=some .bool) (hv:s.vars=[]) (hs: ∀ds:List (DataW H),ds.length=l.length->s.fn H ds={results:=[.lit (.bool true)],args:=ds})
 (hp: ∀x:zi l,Cg l x->Pure P f (LC P l x) (.bool true)) (W:World) (hT: ∃g,wQ g/\∀e∈g,W.heap[e.1]? =some e.2) (base:Nat) (args:Array Value) (ds gs:List (DataW H)) (before:List MemPlace)
 (hval: ∀(j:Nat) t v,fn.params[j]? =some t->args[j]? =some v->Value.okWide P W .any base t v) (hW:DataW.Whole enc P fn.params.toList s.vars apart W args.toList ds gs before):
 Calls P f args W fun e W'=> ∃v,e= .returned v/\s.post enc P fn apart true false false W args v W':=by
 have hW':=hW;obtain ⟨p,q,hA,hV,rfl,_,_⟩:=hW;have hpj: ∀(j:Nat),fn.params[j]? =(l.map (·.1))[j]? :=fun j=>by rw [<-hps];simp
 rw [hps] at hA;rw [hv] at hV;obtain ⟨rfl,rfl⟩:=trodVars_none hV;obtain ⟨g,hg,hgW⟩:=hT;obtain ⟨hlen,x,hx,ho⟩:=zj (g0:=⟨g,hg⟩) hty (fun j t v h1 h2=>hval j t v (by rw [hpj];exact h1) (by simpa using h2)) hA;refine (hp x ho (noF ⟨g,hg⟩) W args.toList ⟨fun b _ hh=>by rcases hh with hh|hh<;>exact hh,rfl,hgW⟩ hx).mono fun e W' ⟨u,he,hb,hh⟩=>⟨u,he, ?_⟩
 obtain ⟨σ',μ',v',_,hr,hown,_⟩:=hh;have hu:u= .bool true:=by
  have:=LD (n:=59) hown;subst this;cases hr;rfl
 subst hu;have hsame: ∀p'∈p,W.sameAt W' p':=fun p' hp'=>hb.same (hW'.lt p' (by simpa using hp'));have hfn:=hs ds hlen;refine Ch hW' (pa:=p) (pv:=[]) (fun b sp hd=> ?_) (fun sp hsp=> ?_) (fun sp _=> ?_) rfl hb (fun j t r h1 h2=> ?_)
 ·rw [RH,hfn,hres];exact trodAll_mk1 ⟨1,by simp [DataW.trod,Value.cells,hrt]⟩
 ·rw [RH,hfn,hps];exact tL hl hrd hA hsame (fun p' hp'=>hsp p' (by simpa using hp'))
 ·rw [RH,hfn,hv];rfl
 ·rw [hres] at h1 h2;have h2':([Value.bool true]:List Value)[j]? =some r:=h2;match j with
  |0=>
   simp at h1 h2'
   subst h1;subst h2'
   simp [Value.okWide,hrt,Cell.okWide,Cell.ok]
  |j+1=>simp at h1
end
end Go.Vm
