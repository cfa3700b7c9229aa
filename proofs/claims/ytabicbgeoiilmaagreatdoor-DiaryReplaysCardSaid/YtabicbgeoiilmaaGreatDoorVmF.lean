import Derived.Test.YtabicbgeoiilmaaGreatDoorVmE
import Derived.Tactics
import Derived.Deep.LoopGhost
import Derived.StillTail
namespace Go.Vm
open Go.RowKit (Below)
def Ox {α:Type} (l:List α):Option (Nat×Nat)->List α
 |none=>l
 |some (off,m)=>(l.drop off).take m
def ot:List V->List Nat->Bool
 |[],[]=>true
 | .ptr id 0::r,c::cs=>Nat.beq id c&&ot r cs
 |_,_=>false
theorem yL: ∀{cs:List V} {caps:List Nat},ot cs caps=true->cs=caps.map fun c=> .ptr c 0
 |[],[],_=>rfl
 |[],_::_,h=>by simp [ot] at h
 |v::r,[],h=>by cases v<;>simp [ot] at h
 |v::r,c::cs,h=>by
  cases v with
  |ptr id off=>
   cases off with
   |zero=>
    simp only [ot,Ri] at h;rw [RU,<-yL h.2,Sb h.1]
   |succ off=>simp [ot] at h
  |_=>simp [ot] at h
def gZ (σ:Store):(p:Pat)->V->Option p.den
 | .any,_=>some ()
 | .bool,v=>bC v
 | .str,v=>match v with
  | .str l=>some l
  |_=>none
 | .int k,v=>match v with
  | .int k' n=>if k'=k then some n else none
  |_=>none
 | .list kd t,v=>match v with
  | .list kd' t' l=>if kd'=kd∨(kd= .part/\kd'= .full) then (if h:t'=t then some (h▸l:List t.den) else none) else none
  | .nils=>some ([]:List t.den)
  | .slc id ep rng=>if kd= .part then match σ.get id with
   |some (.arr ep' t' l)=>if ep=ep' then (if h:t'=t then some (Ox (h▸l:List t.den) rng) else none) else none
   |_=>none
   else none
  |_=>none
 | .own id T,v=>match v with
  | .own id' T'=>if id'=id/\T'=T then some () else none
  |_=>none
 | .opq _ k,v=>match v with
  | .oref id=>match σ.get id with
   |some (.opq k' d)=>if h:k'=k then some (h▸d:k.den) else none
   |_=>none
  |_=>none
 | .fop k,v=>match v with
  | .fopq k' d=>if h:k'=k then some (h▸d:k.den) else none
  |_=>none
 | .bp id,v=>match v with
  | .ptr id' 0=>if Nat.beq id' id then some () else none
  |_=>none
 | .nf,v=>match v with
  | .nilf=>some ()
  |_=>none
 | .clo g caps,v=>match v with
  | .fn (.func g') [] cs=>if Nat.beq g' g&&ot cs caps then some () else none
  |_=>none
 | .slc _ t,v=>match v with
  | .nils=>some ([]:List t.den)
  | .slc id ep none=>match σ.get id with
   |some (.arr ep' t' l)=>if ep=ep' then (if h:t'=t then some (h▸l:List t.den) else none) else none
   |_=>none
  |_=>none
def lS:(p:Pat)->p.den->V
 | .any,_=> .any
 | .bool,b=> .bool b
 | .str,l=> .str l
 | .int k,n=> .int k n
 | .list kd t,l=> .list kd t l
 | .slc id _,_=> .slc id 0 none
 | .own id T,_=> .own id T
 | .opq id _,_=> .oref id
 | .fop k,d=> .fopq k d
 | .clo g caps,_=> .fn (.func g) [] (caps.map fun c=> .ptr c 0)
 | .bp id,_=> .ptr id 0
 | .nf,_=> .nilf
abbrev Ent:=List (Nat×Option Nat×Obj)
def fe:(p:Pat)->V->p.den->Ent
 | .slc id t,v,l=>match v with
  | .slc src _ _=>[(id,some src, .arr 0 t l)]
  |_=>[(id,none, .arr 0 t l)]
 | .opq id k,v,d=>match v with
  | .oref src=>[(id,some src, .opq k d)]
  |_=>[(id,none, .opq k d)]
 |_,_,_=>[]
def BS:(p:Pat)->p.den->Store
 | .slc id t,l=>[(id, .arr 0 t l)]
 | .opq id k,d=>[(id, .opq k d)]
 |_,_=>[]
def Oy:Pat->V->List Nat
 | .list _ _,v=>match v with
  | .slc src _ _=>[src]
  |_=>[]
 |_,_=>[]
def oK (σ:Store):(ps:List Pat)->List V->Option (Xs ps)
 |[],[]=>some ()
 |p::r,v::vs=>match gZ σ p v,oK σ r vs with
  |some x,some xs=>some (x,xs)
  |_,_=>none
 |_,_=>none
def ca:(ps:List Pat)->Xs ps->List V
 |[],_=>[]
 |p::r,x=>lS p x.1::ca r x.2
def iH:(ps:List Pat)->Xs ps->Store
 |[],_=>[]
 |p::r,x=>BS p x.1++iH r x.2
def jl:(ps:List Pat)->List V->Xs ps->Ent
 |p::r,v::vs,x=>fe p v x.1++jl r vs x.2
 |_,_,_=>[]
def nj:List Pat->List V->List Nat
 |p::r,v::vs=>Oy p v++nj r vs
 |_,_=>[]
def bare:Ent->Store
 |[]=>[]
 |(i,_,o)::r=>(i,o)::bare r
theorem ou (a b:Ent):bare (a++b)=bare a++bare b:=by
 induction a with
 |nil=>rfl
 |cons x r ih=>obtain ⟨i,s,o⟩:=x;simp [bare,ih]
theorem GN (p:Pat) (v:V) (x:p.den):bare (fe p v x)=BS p x:=by
 cases p with
 |slc id t=>
  simp only [fe,BS];split<;>rfl
 |opq id k=>
  simp only [fe,BS];split<;>rfl
 |_=>rfl
theorem jN {σ:Store} {p:Pat} {r:List Pat} {vs:List V} {x:Xs (p::r)} (h:oK σ (p::r) vs=some x):
 ∃v us,vs=v::us/\gZ σ p v=some x.1/\oK σ r us=some x.2:=by
 cases vs with
 |nil=>simp [oK] at h
 |cons v us=>
  simp only [oK] at h;split at h
  ·rename_i y ys hy hys;cases h;exact ⟨v,us,rfl,hy,hys⟩
  ·cases h
theorem yM {σ:Store}: ∀{ps:List Pat} {vs:List V} {x:Xs ps},oK σ ps vs=some x->vs.length=ps.length:=by
 intro ps;induction ps with
 |nil=>intro vs x h;cases vs<;>simp [oK] at h⊢
 |cons p r ih=>
  intro vs x h;obtain ⟨v,us,rfl,_,h2⟩:=jN h;simp [ih h2]
theorem g7: ∀(ps:List Pat) (x:Xs ps),(ca ps x).length=ps.length
 |[],_=>rfl
 |p::r,x=>by simp only [ca,Rj,g7 r x.2]
theorem tt {σ:Store}: ∀{ps:List Pat} {vs:List V} {x:Xs ps},oK σ ps vs=some x->bare (jl ps vs x)=iH ps x:=by
 intro ps;induction ps with
 |nil=>intro vs x h;cases vs<;>simp [jl,iH,bare]
 |cons p r ih=>
  intro vs x h;obtain ⟨v,us,rfl,_,h2⟩:=jN h;simp only [jl,iH,ou,GN,ih h2]
theorem yN {σ:Store}: ∀{ps:List Pat} {vs:List V} {x:Xs ps},oK σ ps vs=some x->∀{k:Nat} {p:Pat} {v:V},ps[k]? =some p->vs[k]? =some v->
 ∃y,gZ σ p v=some y/\(ca ps x)[k]? =some (lS p y)/\(∀e∈fe p v y,e∈jl ps vs x)/\(∀i∈Oy p v,i∈nj ps vs):=by
 intro ps;induction ps with
 |nil=>intro vs x h k p v hp;simp at hp
 |cons q r ih=>
  intro vs x h k p v hp hv;obtain ⟨u,us,rfl,h1,h2⟩:=jN h;match k with
  |0=>
   simp only [List.getElem?_cons_zero,Q9] at hp hv
   subst hp;subst hv
   exact ⟨x.1,h1,rfl,fun e he=>by simp [jl,he],fun i hi=>by simp [nj,hi]⟩
  |k+1=>
   obtain ⟨z,k1,k2,k3,k4⟩:=ih h2 (k:=k) (p:=p) (v:=v) (by simpa using hp) (by simpa using hv)
   refine ⟨z,k1,by simpa [ca] using k2,fun e he=> ?_,fun i hi=> ?_⟩
   ·have:=k3 e he;simp [jl,this]
   ·have:=k4 i hi;simp [nj,this]
theorem lT {σ:Store}: ∀{ps:List Pat} {vs:List V} {x:Xs ps},oK σ ps vs=some x->∀{e:Nat×Option Nat×Obj},e∈jl ps vs x->
 ∃(k:Nat) (p:Pat) (v:V) (y:p.den),ps[k]? =some p/\vs[k]? =some v/\gZ σ p v=some y/\e∈fe p v y:=by
 intro ps;induction ps with
 |nil=>intro vs x h e he;cases vs<;>simp [jl] at he
 |cons q r ih=>
  intro vs x h e he;obtain ⟨u,us,rfl,h1,h2⟩:=jN h;simp only [jl,Rn] at he;rcases he with he|he
  ·exact ⟨0,q,u,x.1,rfl,rfl,h1,he⟩
  ·obtain ⟨k,p,v,z,k1,k2,k3,k4⟩:=ih h2 he;exact ⟨k+1,p,v,z,by simpa using k1,by simpa using k2,k3,k4⟩
mutual
def bw (ks:List Nat):Nat->V->Bool
 |0,_=>false
 |n+1,v=>match v with
  | .slc id _ _=>ks.contains id
  | .ptr id _=>ks.contains id
  | .own id _=>ks.contains id
  | .eptr id _ _ _=>ks.contains id
  | .rows _ cells=>cw ks n cells
  | .nslc id=>ks.contains id
  | .nptr id _ _=>ks.contains id
  | .nin id _ _=>ks.contains id
  | .oref id=>ks.contains id
  | .fptr cells=>cw ks n cells
  | .agg cells=>cw ks n cells
  | .tuple cells=>cw ks n cells
  | .fn _ a b=>cw ks n a&&cw ks n b
  | .iface _ x=>bw ks n x
  |_=>true
def cw (ks:List Nat):Nat->List V->Bool
 |0,_=>false
 |_+1,[]=>true
 |n+1,v::r=>bw ks n v&&cw ks n r
end
theorem cH {ks:List Nat}: ∀{n:Nat} {cs:List V},cw ks n cs=true->∀{j:Nat} {c:V},cs[j]? =some c->∃m,bw ks m c=true
 |0,cs,h,j,c,hj=>by simp [cw] at h
 |n+1,[],h,j,c,hj=>by simp at hj
 |n+1,v::r,h,j,c,hj=>by
  simp only [cw,Ri] at h;match j with
  |0=>simp at hj;subst hj;exact ⟨n,h.1⟩
  |j+1=>exact cH h.2 (j:=j) (by simpa using hj)
structure Anew (ks:List Nat) (X X':Ctx):Prop where
 w:X'.w=X.w
 F:X'.F=X.F
 T: ∀b,X.T b->X'.T b
 box: ∀id∈ks,∀cells,X.σ.get id=some (.box cells)->(∃cells',X'.σ.get id=some (.box cells'))/\X'.μ id=X.μ id
 arr: ∀id∈ks,∀ep t l,X.σ.get id=some (.arr ep t l)->X'.σ.get id=some (.arr ep t l)/\X'.μ id=X.μ id
 nest: ∀id∈ks,∀iv t f h l,X.σ.get id=some (.nest iv t f h l)->X'.σ.get id=some (.nest iv t f h l)/\X'.μ id=X.μ id
 opq: ∀id∈ks,∀k d,X.σ.get id=some (.opq k d)->X'.σ.get id=some (.opq k d)/\X'.μ id=X.μ id
theorem Anew.good {ks:List Nat} {X X':Ctx} (h:Anew ks X X') (b:Nat) (hb:X.G b):X'.G b/\X'.w.heap[b]? =X.w.heap[b]? :=
 ⟨⟨h.T b hb.1,by rw [h.F];exact hb.2⟩,by rw [h.w]⟩
theorem Anew.head {ks:List Nat} {X X':Ctx} (h:Anew ks X X') (kd:LK) (b:Nat) (hb:X.H kd b):X'.H kd b/\X'.w.heap[b]? =X.w.heap[b]? :=
 ⟨⟨h.T b hb.1,fun hk=>by rw [h.F];exact hb.2 hk⟩,by rw [h.w]⟩
theorem Rep.anew {ks:List Nat} {X X':Ctx} (hA:Anew ks X X') {c:V} {v:Value} (h:Rep X c v): ∀{n:Nat},bw ks n c=true->Rep X' c v:=by
 induction h with
 |any=>intro n _;exact .any
 |kb=>intro n _;exact .kb
 |bool=>intro n _;exact .bool
 |bq h=>intro n _;exact .bq h
 |int=>intro n _;exact .int
 |str h=>intro n _;exact .str h
 |nilp=>intro n _;exact .nilp
 |nils=>intro n _;exact .nils
 |nilm=>intro n _;exact .nilm
 |nilf=>intro n _;exact .nilf
 |nili=>intro n _;exact .nili
 |errN=>intro n _;exact .errN
 |errS=>intro n _;exact .errS
 |list h hf=>intro n _;exact .list (h.keep hA.good (hA.head _)) hf
 |slc hg he hh=>
  intro n hn;cases n with
  |zero=>simp [bw] at hn
  |succ n=>
   simp only [bw,Ry] at hn;obtain ⟨h1,h2⟩:=hA.arr _ hn _ _ _ hg;exact .slc h1 he (fun e=>by rw [h2];exact hh e)
 |fptr f hG hc _ ih=>
  intro n hn;cases n with
  |zero=>simp [bw] at hn
  |succ n=>
   simp only [bw] at hn;refine .fptr f (fun h0=>hA.T _ (hG h0)) (fun j c hj=>by rw [hA.w];exact hc j c hj) (fun j c hj=> ?_);obtain ⟨m,hm⟩:=cH hn hj;exact ih j c hj hm
 |ptr hg hm=>
  intro n hn;cases n with
  |zero=>simp [bw] at hn
  |succ n=>
   simp only [bw,Ry] at hn;obtain ⟨⟨cells',h1⟩,h2⟩:=hA.box _ hn _ hg;exact .ptr h1 (h2.trans hm)
 |own hg hm hu=>
  intro n hn;cases n with
  |zero=>simp [bw] at hn
  |succ n=>
   simp only [bw,Ry] at hn;obtain ⟨⟨cells',h1⟩,h2⟩:=hA.box _ hn _ hg;exact .own h1 (h2.trans hm) hu
 |eptr hg he hh=>
  intro n hn;cases n with
  |zero=>simp [bw] at hn
  |succ n=>
   simp only [bw,Ry] at hn;obtain ⟨h1,h2⟩:=hA.arr _ hn _ _ _ hg;exact .eptr h1 he (fun e=>by rw [h2];exact hh e)
 |rows f h1 h2 h3 _ ih=>
  intro n hn;cases n with
  |zero=>simp [bw] at hn
  |succ n=>
   simp only [bw] at hn;refine .rows f h1 h2 (fun h0=> ?_) (fun j c hj=> ?_)
   ·obtain ⟨b,o,e,hb,hc⟩:=h3 h0;exact ⟨b,o,e,(hA.good b hb).1,fun j c hj=>by rw [hA.w];exact hc j c hj⟩
   ·obtain ⟨m,hm⟩:=cH hn hj;exact ih j c hj hm
 |nslc hg hh=>
  intro n hn;cases n with
  |zero=>simp [bw] at hn
  |succ n=>
   simp only [bw,Ry] at hn;obtain ⟨h1,h2⟩:=hA.nest _ hn _ _ _ _ _ hg;exact .nslc h1 (by rw [h2];exact hh)
 |nptr hg hm=>
  intro n hn;cases n with
  |zero=>simp [bw] at hn
  |succ n=>
   simp only [bw,Ry] at hn;obtain ⟨h1,h2⟩:=hA.nest _ hn _ _ _ _ _ hg;exact .nptr h1 (h2.trans hm)
 |nin hg hle hc=>
  intro n hn;cases n with
  |zero=>simp [bw] at hn
  |succ n=>
   simp only [bw,Ry] at hn;obtain ⟨h1,h2⟩:=hA.nest _ hn _ _ _ _ _ hg;exact .nin h1 hle (fun e=>by
    obtain ⟨q1,q2,p,q3,q4⟩:=hc e;exact ⟨q1,q2,p,h2.trans q3,by rw [hA.w];exact q4⟩)
 |oref hg=>
  intro n hn;cases n with
  |zero=>simp [bw] at hn
  |succ n=>
   simp only [bw,Ry] at hn;obtain ⟨h1,h2⟩:=hA.opq _ hn _ _ hg;rw [<-h2];exact .oref h1
 |fopq S h1 h2=>intro n _;exact .fopq S h1 fun b e=>⟨(h2 b e).1,by rw [hA.w];exact (h2 b e).2.1,fun c hc=>hA.T _ ((h2 b e).2.2 c hc)⟩
 |fn h1 h2 _ _ ih1 ih2=>
  intro n hn;cases n with
  |zero=>simp [bw] at hn
  |succ n=>
   simp only [bw,Ri] at hn;refine .fn h1 h2 (fun j c u hj hu=> ?_) (fun j c u hj hu=> ?_)
   ·obtain ⟨m,hm⟩:=cH hn.1 hj;exact ih1 j c u hj hu hm
   ·obtain ⟨m,hm⟩:=cH hn.2 hj;exact ih2 j c u hj hu hm
 |agg h1 _ ih=>
  intro n hn;cases n with
  |zero=>simp [bw] at hn
  |succ n=>
   simp only [bw] at hn;refine .agg h1 (fun j c u hj hu=> ?_);obtain ⟨m,hm⟩:=cH hn hj;exact ih j c u hj hu hm
 |tuple h1 _ ih=>
  intro n hn;cases n with
  |zero=>simp [bw] at hn
  |succ n=>
   simp only [bw] at hn;refine .tuple h1 (fun j c u hj hu=> ?_);obtain ⟨m,hm⟩:=cH hn hj;exact ih j c u hj hu hm
 |iface _ ih=>
  intro n hn;cases n with
  |zero=>simp [bw] at hn
  |succ n=>
   simp only [bw] at hn;exact .iface (ih hn)
theorem RepL.anew {ks:List Nat} {X X':Ctx} (hA:Anew ks X X') {cs:List V} {vs:List Value} (h:RepL X cs vs) {n:Nat} (hn:cw ks n cs=true):RepL X' cs vs:=
 ⟨h.1,fun j c u hc hu=>by
  obtain ⟨m,hm⟩:=cH hn hc;exact (h.2 j c u hc hu).anew hA hm⟩
end Go.Vm
namespace Go.Vm
open Go.RowKit (Below)
def Ent.find:Ent->Nat->Option Nat
 |[],_=>none
 |(i,s,_)::r,id=>if i=id then s else Ent.find r id
def gw (L:Ent) (μ:Mu):Mu:=fun id=>(Ent.find L id).bind μ
def bP:List Nat->Bool
 |[]=>true
 |x::r=> !r.contains x&&bP r
def dv:Ent->List Nat
 |[]=>[]
 |(i,_,_)::r=>i::dv r
def cC:Ent->List Nat
 |[]=>[]
 |(_,some s,_)::r=>s::cC r
 |(_,none,_)::r=>cC r
theorem lU: ∀{L:Ent} {id:Nat} {o:Obj},(bare L).get id=some o->(id,Ent.find L id,o)∈L
 |[],id,o,h=>by simp [bare,Store.get] at h
 |(i,s,o')::r,id,o,h=>by
  simp only [bare,Store.get] at h;simp only [Ent.find];split at h
  ·rename_i e;subst e;cases h;simp
  ·rename_i e;rw [Q8 e];exact Rq _ (lU h)
theorem vz: ∀{L:Ent} {e:Nat×Option Nat×Obj},e∈L->e.1∈dv L
 |(i,s,o)::r,e,h=>by
  simp only [Rp] at h;rcases h with rfl|h
  ·simp [dv]
  ·simp [dv,vz h]
theorem oZ: ∀{L:Ent} {i s:Nat} {o:Obj},(i,some s,o)∈L->s∈cC L
 |(j,none,o')::r,i,s,o,h=>by
  simp only [Rp,Prod.mk.injEq,reduceCtorEq,false_and,and_false,false_or] at h;simp [cC,oZ h]
 |(j,some s',o')::r,i,s,o,h=>by
  simp only [Rp] at h;rcases h with h|h
  ·cases h;simp [cC]
  ·simp [cC,oZ h]
theorem cx: ∀{L:Ent},bP (dv L)=true->∀{i:Nat} {s:Option Nat} {o:Obj},(i,s,o)∈L->(bare L).get i=some o/\Ent.find L i=s
 |(j,s',o')::r,hn,i,s,o,h=>by
  simp only [dv,bP,Ri,Rb] at hn;obtain ⟨h1,h2⟩:=hn;simp only [Rp] at h;rcases h with h|h
  ·cases h;simp [bare,Store.get,Ent.find]
  ·have hk:=vz h;have hne:j≠i:=by
    rintro rfl;have:=Ry.2 hk;rw [this] at h1;cases h1
   obtain ⟨k1,k2⟩:=cx h2 h;simp [bare,Store.get,Ent.find,hne,k1,k2]
theorem vA: ∀{L:Ent},bP (cC L)=true->∀{i j s:Nat} {o o':Obj},(i,some s,o)∈L->(j,some s,o')∈L->i=j
 |(k,none,o2)::r,hn,i,j,s,o,o',hi,hj=>by
  simp only [Rp,Prod.mk.injEq,reduceCtorEq,false_and,and_false,false_or] at hi hj;exact vA (by simpa [cC] using hn) hi hj
 |(k,some s2,o2)::r,hn,i,j,s,o,o',hi,hj=>by
  simp only [cC,bP,Ri,Rb] at hn;obtain ⟨h1,h2⟩:=hn;have no: ∀{i:Nat} {o:Obj},(i,some s2,o)∈r->False:=by
   intro i o h;have:=Ry.2 (oZ h);rw [this] at h1;cases h1
  simp only [Rp] at hi hj;rcases hi with hi|hi<;>rcases hj with hj|hj
  ·cases hi;cases hj;rfl
  ·cases hi;exact (no hj).elim
  ·cases hj;exact (no hi).elim
  ·exact vA h2 hi hj
def eT (X:Ctx) (L:Ent):Prop:= ∀i s o,(i,s,o)∈L->
 match s with
 |none=> ∃ep t,o= .arr ep t []
 |some src=> ∃o',X.σ.get src=some o'/\((∃ep ep' t l,o= .arr ep t l/\o'= .arr ep' t l)∨(∃cells cells',o= .box cells/\o'= .box cells')∨(∃iv iv' t f h l,o= .nest iv t f h l/\o'= .nest iv' t f h l)∨∃k d,o= .opq k d/\o'= .opq k d)
abbrev Ctx.to (X:Ctx) (L:Ent):Ctx:=⟨X.w,bare L,gw L X.μ,X.F⟩
section
variable {X:Ctx} {L:Ent} {B:Nat->Prop}
theorem rg (hF:eT X L) {id:Nat} {o:Obj} {b:Nat} (hg:(X.to L).σ.get id=some o) (hk:Blk (X.to L) id o b):
 ∃src o',(id,some src,o)∈L/\X.σ.get src=some o'/\Blk X src o' b:=by
 have h1:=lU hg;obtain ⟨p,hm,hk⟩:=hk;simp only [gw] at hm;cases hs:Ent.find L id with
 |none=>rw [hs] at hm;simp at hm
 |some src=>
  rw [hs] at hm h1;obtain ⟨o',h2,h3⟩:=hF _ _ _ h1;refine ⟨src,o',h1,h2,p,hm, ?_⟩;rcases hk with hk|hk
  ·exact .inl hk
  ·refine .inr ?_;rcases h3 with ⟨ep,ep',t,l,rfl,rfl⟩|⟨cells,cells',rfl,rfl⟩|⟨iv,iv',t,f,h,l,rfl,rfl⟩|⟨k,d,rfl,rfl⟩
   ·exact hk
   ·exact hk
   ·exact hk
   ·exact hk
theorem La (hF:eT X L) {b:Nat} (hb:X.T0 b):(X.to L).T0 b:=by
 refine ⟨hb.1,fun id o hg hm=> ?_⟩;obtain ⟨src,o',_,h2,h3⟩:=rg hF hg hm;exact hb.2 src o' h2 h3
theorem nk (hF:eT X L) {b:Nat} (hb:X.T b):(X.to L).T b:=⟨La hF hb.1,hb.2⟩
def Pn.in (σ:Store) (i:Nat):Pn->Prop
 | .box _=> ∃cells,σ.get i=some (.box cells)
 | .opq k _=> ∃d,σ.get i=some (.opq k d)
theorem Pn.to {σ σ':Store} {μ μ':Mu} {i:Nat} {q:Pn} (h:Pn.in σ' i q) (hm:μ' i=μ i) (k:Pn.at σ μ i q):Pn.at σ' μ' i q:=by
 cases q with
 |box p=>exact ⟨h,hm.trans k.2⟩
 |opq kd b=>exact ⟨h,by rw [hm];exact k.2⟩
theorem BT (hI:Inv B X) (hF:eT X L) (hs:bP (cC L)=true) (hpin: ∀e∈X.F.pin,Pn.in (bare L) e.1 e.2/\Ent.find L e.1=some e.1)
 (hbox: ∀i src cells cells',(i,some src,Obj.box cells)∈L->X.σ.get src=some (.box cells')->∀vs,RepL X cells' vs->RepL (X.to L) cells vs):Inv B (X.to L):=by
 refine ⟨fun id o hg=> ?_,fun i j o o' b hi hj hp hq=> ?_,fun id o b hg hm=> ?_,hI.out,hI.vis,⟨fun e he=> ?_,hI.marks.gnd⟩⟩
 ·have h1:=lU hg;cases hs:Ent.find L id with
  |none=>
   rw [hs] at h1;obtain ⟨ep,t,rfl⟩:=hF _ _ _ h1;exact .inl ⟨by simp [gw,hs],rfl⟩
  |some src=>
   rw [hs] at h1;have hmu:(X.to L).μ id=X.μ src:=by simp [gw,hs]
   obtain ⟨o',h2,h3⟩:=hF _ _ _ h1;have h4:=hI.objs src o' h2;rcases h3 with ⟨ep,ep',t,l,rfl,rfl⟩|⟨cells,cells',rfl,rfl⟩|⟨iv,iv',t,f,h,l,rfl,rfl⟩|⟨k,d,rfl,rfl⟩
   rotate_left 3
   ·exact ObjOk.move (X:=X) (id:=src) (o:= .opq k d) hmu (fun _ _=>rfl) (fun b hb=>⟨⟨nk hF hb.1,hb.2⟩,rfl⟩) (fun _ _ e=>by cases e) h4
   ·exact ObjOk.move (X:=X) (id:=src) (o:= .arr ep t l) hmu (fun _ _=>rfl) (fun b hb=>⟨⟨nk hF hb.1,hb.2⟩,rfl⟩) (fun _ _ e=>by cases e) h4
   ·obtain ⟨b,cs,ty,k1,k2,k3⟩:=h4;exact ⟨b,cs,ty,hmu.trans k1,k2,hbox _ _ _ _ h1 h2 _ k3⟩
   ·exact ObjOk.move (X:=X) (id:=src) (o:= .nest iv t f h l) hmu (fun _ _=>rfl) (fun b hb=>⟨⟨nk hF hb.1,hb.2⟩,rfl⟩) (fun _ _ e=>by cases e) h4
 ·obtain ⟨s1,o1,a1,a2,a3⟩:=rg hF hi hp;obtain ⟨s2,o2,b1,b2,b3⟩:=rg hF hj hq;have:=hI.injB _ _ _ _ _ a2 b2 a3 b3;subst this;exact vA hs a1 b1
 ·obtain ⟨s1,o1,a1,a2,a3⟩:=rg hF hg hm;exact hI.baseB _ _ _ a2 a3
 ·obtain ⟨h1,h2⟩:=hpin e he;exact Pn.to h1 (by show gw L X.μ e.1=X.μ e.1;simp only [gw,h2];rfl) (hI.marks.pin e he)
theorem Ql (hI:Inv B X) (hF:eT X L) {id:Nat} {o:Obj} {b:Nat} (hg:X.σ.get id=some o) (hk:Blk X id o b) (hid:id∉cC L):(X.to L).G b:=by
 refine ⟨⟨⟨hI.ltB hg hk,fun id2 o2 hg2 hm2=> ?_⟩,hI.hid _ (hI.baseB _ _ _ hg hk)⟩,hI.own _ (hI.baseB _ _ _ hg hk)⟩;obtain ⟨s1,o1,a1,a2,a3⟩:=rg hF hg2 hm2;have:=hI.injB _ _ _ _ _ a2 hg a3 hk;subst this;exact hid (oZ a1)
theorem Lc (hI:Inv B X) (hF:eT X L) {id ep ep':Nat} {rng:Option (Nat×Nat)} {t:Ty} {l:List t.den} {A:Option Addr} {len cap:Nat}
 (hg:X.σ.get id=some (.arr ep' t l)) (hep:ep=ep') (hr:Rep X (.slc id ep rng) (.slice A len cap)) (hid:id∉cC L):Rep (X.to L) (.list .part t (Ox l rng)) (.slice A len cap):=by
 obtain ⟨A2,len2,cap2,ep2,t2,l2,e,hg',hle,hcur⟩:=hr.slc_inv;cases e;rw [hg] at hg';cases hg';have hh:=hcur hep;refine .list ?_ (fun e=>by cases e);cases hm:X.μ id with
 |none=>
  rw [hm] at hh;cases rng with
  |none=>
   simp only [Hdr] at hh;obtain ⟨rfl,rfl,h0⟩:=hh;exact ⟨h0.symm,Rf _,fun h=>absurd h (RY _)⟩
  |some q=>
   obtain ⟨off,m⟩:=q;simp only [Hdr] at hh;obtain ⟨rfl,rfl,rfl,rfl,h0⟩:=hh;exact ⟨by simp [Ox],Rf _,fun h=>absurd h (RY _)⟩
 |some q=>
  obtain ⟨b,base,C⟩:=q;rw [hm] at hh;obtain ⟨cs,ty,k2,k3,k4,k5,k6⟩:=eQ hI hg hm;have hlt:=hI.lt hg hm;have hT:(X.to L).T b:=(Ql hI hF hg (.top hm) hid).1;have hnF: ¬X.F b:=hI.own _ (hI.base _ _ _ hg hm);have rows: ∀{off m:Nat},off+m<=l.length->m<=cap->(∃a,A=some a/\(0<m->a=⟨b,base+off*t.cells,none⟩))->
   RepS X.w (Ctx.H (X.to L) .part) (Ctx.G (X.to L)) t ((l.drop off).take m) A m cap:=by
   intro off m hle hcap hA;obtain ⟨a,rfl,ha⟩:=hA;refine ⟨by simp;omega,hcap,fun h0=>⟨b,base+off*t.cells,by rw [ha h0],⟨hT,fun _=>hnF⟩,fun i x hx=> ?_⟩⟩;obtain ⟨row,r1,r2⟩:=(k6.drop off m) i x hx;refine ⟨row,r1.keep (fun b hb=>⟨⟨nk hF hb.1,hb.2⟩,rfl⟩),fun j v hv=> ?_⟩;have:=r2 j v hv;unfold World.cell?;simp only [k2];simp only at this;rw [<-this];simp only [Option.isSome_none,Rx,if_false];congr 1;omega
  cases rng with
  |none=>
   simp only [Hdr] at hh;obtain ⟨rfl,rfl,hC,a,rfl,ha⟩:=hh;have:=rows (off:=0) (m:=l.length) (by omega) hC ⟨a,rfl,fun h0=>by rw [ha (by omega)];simp⟩;simpa [Ox] using this
  |some q=>
   obtain ⟨off,m⟩:=q;simp only [Hdr] at hh;obtain ⟨rfl,h2,hC,rfl,a,rfl,ha⟩:=hh;exact rows h2 (by omega) ⟨a,rfl,fun h0=>ha (by omega)⟩
theorem Dy (hI:Inv B X) (hF:eT X L) {p:Pat} {v:V} {y:p.den} {u:Value} (h:gZ X.σ p v=some y) (hr:Rep X v u)
 (he: ∀e∈fe p v y,(bare L).get e.1=some e.2.2/\Ent.find L e.1=e.2.1) (hz: ∀i∈Oy p v,i∉cC L)
 (ho: ∀id T,p= .own id T->Rep X (.own id T) u->Rep (X.to L) (.own id T) u)
 (hcl: ∀g caps,p= .clo g caps->Rep X (.fn (.func g) [] (caps.map fun c=> .ptr c 0)) u->Rep (X.to L) (.fn (.func g) [] (caps.map fun c=> .ptr c 0)) u)
 (hbp: ∀id,p= .bp id->Rep X (.ptr id 0) u->Rep (X.to L) (.ptr id 0) u):Rep (X.to L) (lS p y) u:=by
 cases p with
 |nf=>
  simp only [gZ] at h;split at h
  ·cases hr;exact .nilf
  ·cases h
 |bp id=>
  simp only [gZ] at h;split at h
  ·rename_i id';split at h
   ·rename_i e;have e1:=Sb e;subst e1;exact hbp _ rfl hr
   ·cases h
  ·cases h
 |clo g caps=>
  simp only [gZ] at h;split at h
  ·rename_i g' cs;split at h
   ·rename_i e;simp only [Ri] at e;have e1:=Sb e.1;subst e1;rw [yL e.2] at hr;exact hcl _ _ rfl hr
   ·cases h
  ·cases h
 |any=>exact .any
 |own id T=>
  simp only [gZ] at h;split at h
  ·split at h
   ·rename_i e;obtain ⟨rfl,rfl⟩:=e;exact ho _ _ rfl hr
   ·cases h
  ·cases h
 |bool=>
  simp only [gZ] at h;unfold bC at h;split at h
  ·cases h;cases hr;exact .bool
  ·cases h;cases hr;exact .bool
  ·cases h
 |str=>
  simp only [gZ] at h;split at h
  ·cases h;cases hr with
   |str h=>exact .str h
  ·cases h
 |int k=>
  simp only [gZ] at h;split at h
  ·split at h
   ·rename_i e;subst e;cases h;cases hr;exact .int
   ·cases h
  ·cases h
 |list kd t=>
  simp only [gZ] at h;split at h
  ·rename_i kd' t' l;split at h
   ·rename_i hk;split at h
    ·rename_i e;subst e;cases h;obtain ⟨A,cap,rfl,hc,hfull⟩:=hr.list_inv;have hc':RepS X.w ((X.to L).H kd) (X.to L).G t' l A l.length cap:=
      hc.keep (fun b hb=>⟨⟨nk hF hb.1,hb.2⟩,rfl⟩) (fun b hb=>⟨⟨nk hF hb.1,fun hne=>hb.2 (by
       rcases hk with rfl|⟨_,rfl⟩
       ·exact hne
       ·intro e;cases e)⟩,rfl⟩)
     refine .list hc' (fun e=> ?_);subst e;rcases hk with rfl|⟨e,_⟩
     ·exact hfull rfl
     ·cases e
    ·cases h
   ·cases h
  ·cases h;cases hr;exact .list ⟨rfl,Rf _,fun h=>absurd h (RY _)⟩ (fun _=>rfl)
  ·rename_i id ep rng;split at h
   ·rename_i hkd;subst hkd;split at h
    ·rename_i ep' t' l hg;split at h
     ·rename_i hep;split at h
      ·rename_i e;subst e;cases h;obtain ⟨A,len,cap,ep2,t2,l2,rfl,_⟩:=hr.slc_inv;exact Lc hI hF hg hep hr (hz id (by simp [Oy]))
      ·cases h
     ·cases h
    ·cases h
   ·cases h
  ·cases h
 |opq id k=>
  simp only [gZ] at h;split at h
  ·rename_i src;split at h
   ·rename_i k' d hg;split at h
    ·rename_i e;subst e;cases h;obtain ⟨h1,h2⟩:=he (id,some src, .opq k' d) (by simp [fe]);simp only at h1 h2;cases hr with
     |oref hg'=>
      rw [hg] at hg';cases hg';have:=Rep.oref (X:=X.to L) h1;rw [show (X.to L).μ id=X.μ src by simp only [gw];rw [h2];rfl] at this;exact this
    ·cases h
   ·cases h
  ·cases h
 |fop k=>
  simp only [gZ] at h;split at h
  ·rename_i k' d;split at h
   ·rename_i e;subst e;cases h;cases hr with
    |fopq S h1 h2=>exact .fopq S h1 fun b e=>⟨(h2 b e).1,(h2 b e).2.1,fun c hc=>nk hF ((h2 b e).2.2 c hc)⟩
   ·cases h
  ·cases h
 |slc id t=>
  simp only [gZ] at h;split at h
  ·cases h;cases hr;obtain ⟨h1,h2⟩:=he (id,none, .arr 0 t ([]:List t.den)) (by simp [fe]);simp only at h1 h2;exact .slc h1 (Rf _) (fun _=>by simp only [gw];rw [h2];exact ⟨rfl,rfl,rfl⟩)
  ·rename_i src ep;split at h
   ·rename_i ep' t' l hg;split at h
    ·rename_i hep;split at h
     ·rename_i e;subst e;cases h;obtain ⟨A,len,cap,ep2,t2,l2,rfl,hg',hle,hcur⟩:=hr.slc_inv;rw [hg] at hg';cases hg';obtain ⟨h1,h2⟩:=he (id,some src, .arr 0 t' l) (by simp [fe]);simp only at h1 h2;exact .slc h1 (Rf _) (fun _=>by simp only [gw];rw [h2];exact hcur hep)
     ·cases h
    ·cases h
   ·cases h
  ·cases h
end
end Go.Vm
namespace Go.Vm
open Go.RowKit (Below)
def jm (s:List V):List (Nat×Pat)->Option (List V)
 |[]=>some []
 |(i,_)::r=>match nth s i,jm s r with
  |some v,some vs=>some (v::vs)
  |_,_=>none
def iz (σ:Store):List (Nat×List Pat)->Option (List V)
 |[]=>some []
 |(id,ps)::r=>match σ.get id,iz σ r with
  |some (.box cells),some vs=>if cells.length=ps.length then some (cells++vs) else none
  |_,_=>none
def cO (s:List V):List (Nat×Pat)->List V->List V
 |(i,_)::r,c::cs=>cO (s.set i c) r cs
 |_,_=>s
def eK:List (Nat×List Pat)->List V->Ent
 |[],_=>[]
 |(id,ps)::r,cs=>(id,some id, .box (cs.take ps.length))::eK r (cs.drop ps.length)
def cn (σ:Store):List Nat->Ent
 |[]=>[]
 |id::r=>match σ.get id with
  |some o=>(id,some id,o)::cn σ r
  |none=>cn σ r
def br (m:Nat->Bool):Nat->List V->List V
 |_,[]=>[]
 |i,v::r=>(if m i then .any else v)::br m (i+1) r
abbrev Ann.pats (a:Ann):List Pat:=a.slots.map (·.2)++a.boxes.flatMap (·.2)
def Ann.m (a:Ann) (wr:List Nat) (i:Nat):Bool:=(wr.contains i||a.drop.contains i)||a.slots.any fun x=>x.1==i
def Ann.ws (a:Ann):List Nat:=a.slots.map (·.1)++a.drop
def head (a:Ann) (wr:List Nat) (st:St) (x:Xs a.pats):St:=
 ⟨cO (br (a.m wr) 0 st.s) a.slots (ca a.pats x),
  iH a.pats x++(bare (eK a.boxes ((ca a.pats x).drop a.slots.length))++bare (cn st.σ a.keep))⟩
def BU (σ σ':Store):List Nat->Prop
 |[]=>True
 |id::r=>σ'.get id=σ.get id/\BU σ σ' r
def lV (ks:List Nat) (σ:Store):List Nat->Bool
 |[]=>true
 |id::r=>(match σ.get id with
  |some (.box cells)=>cw ks 60 cells
  |_=>true)&&lV ks σ r
def rU (a:Ann) (σ:Store) (vs:List V) (x:Xs a.pats):Ent:=
 jl a.pats vs x++(eK a.boxes ((ca a.pats x).drop a.slots.length)++cn σ a.keep)
def Ann.ks (a:Ann):List Nat:=a.keep++a.boxes.map (·.1)
def Ld (ss:List Nat):List Nat->Bool
 |[]=>true
 |i::r=> !ss.contains i&&Ld ss r
def cI (ks:List Nat):List Pat->Bool
 |[]=>true
 | .own id _::r=>ks.contains id&&cI ks r
 | .clo _ caps::r=>caps.all (fun c=>ks.contains c)&&cI ks r
 | .bp id::r=>ks.contains id&&cI ks r
 |_::r=>cI ks r
theorem tu {ks:List Nat}: ∀{ps:List Pat},cI ks ps=true->∀{k id:Nat} {T:TypeId},ps[k]? =some (.own id T)->id∈ks
 |[],_,k,id,T,h=>by simp at h
 |p::r,h,0,id,T,hp=>by
  simp only [List.getElem?_cons_zero,Q9] at hp;subst hp;simp only [cI,Ri,Ry] at h;exact h.1
 |p::r,h,k+1,id,T,hp=>by
  have hr:cI ks r=true:=by
   cases p with
   |own i t=>simp only [cI,Ri] at h;exact h.2
   |clo g cs=>simp only [cI,Ri] at h;exact h.2
   |bp i=>simp only [cI,Ri] at h;exact h.2
   |_=>simpa [cI] using h
  exact tu hr (by simpa using hp)
theorem tv {ks:List Nat}: ∀{ps:List Pat},cI ks ps=true->∀{k:Nat} {g:FuncId} {caps:List Nat},ps[k]? =some (.clo g caps)->∀c∈caps,c∈ks
 |[],_,k,g,caps,h=>by simp at h
 |p::r,h,0,g,caps,hp=>by
  simp only [List.getElem?_cons_zero,Q9] at hp;subst hp;simp only [cI,Ri,RL,Ry] at h;exact h.1
 |p::r,h,k+1,g,caps,hp=>by
  have hr:cI ks r=true:=by
   cases p with
   |own i t=>simp only [cI,Ri] at h;exact h.2
   |clo g cs=>simp only [cI,Ri] at h;exact h.2
   |bp i=>simp only [cI,Ri] at h;exact h.2
   |_=>simpa [cI] using h
  exact tv hr (by simpa using hp)
theorem yO {ks:List Nat}: ∀{ps:List Pat},cI ks ps=true->∀{k id:Nat},ps[k]? =some (.bp id)->id∈ks
 |[],_,k,id,h=>by simp at h
 |p::r,h,0,id,hp=>by
  simp only [List.getElem?_cons_zero,Q9] at hp;subst hp;simp only [cI,Ri,Ry] at h;exact h.1
 |p::r,h,k+1,id,hp=>by
  have hr:cI ks r=true:=by
   cases p with
   |own i t=>simp only [cI,Ri] at h;exact h.2
   |clo g cs=>simp only [cI,Ri] at h;exact h.2
   |bp i=>simp only [cI,Ri] at h;exact h.2
   |_=>simpa [cI] using h
  exact yO hr (by simpa using hp)
theorem tw {ks:List Nat}: ∀{caps:List Nat} {n:Nat},(∀c∈caps,c∈ks)->caps.length+2<=n->cw ks n (caps.map fun c=> .ptr c 0)=true
 |[],n+1,_,_=>rfl
 |c::caps,n+2,h,hn=>by
  simp only [RU,cw,bw,Ri,Ry];exact ⟨h c RF,tw (fun x hx=>h x (Rq _ hx)) (by simp only [Rj] at hn;omega)⟩
def vB:Option Obj->Bool
 |some (.arr 0 _ _)=>true
 |_=>false
def rh:Option Obj->Bool
 |some (.opq _ _)=>true
 |_=>false
def jO (σ:Store):Ent->List Nat
 |[]=>[]
 |(i,s,o)::r=>if s==some i&&(vB (some o)&&vB (σ.get i)||rh (some o)&&rh (σ.get i)) then i::jO σ r else jO σ r
theorem ov {o:Option Obj} (h:vB o=true): ∃t l,o=some (.arr 0 t l):=by
 unfold vB at h;split at h
 ·exact ⟨_,_,rfl⟩
 ·cases h
theorem ri {o:Option Obj} (h:rh o=true): ∃k d,o=some (.opq k d):=by
 unfold rh at h;split at h
 ·exact ⟨_,_,rfl⟩
 ·cases h
theorem cJ {σ:Store}: ∀{L:Ent} {i:Nat},i∈jO σ L->(∃t l t' l',(i,some i, .arr 0 t l)∈L/\σ.get i=some (.arr 0 t' l'))∨∃k d k' d',(i,some i, .opq k d)∈L/\σ.get i=some (.opq k' d')
 |[],i,h=>by simp [jO] at h
 |(j,s,o)::r,i,h=>by
  unfold jO at h;split at h
  ·rename_i c;simp only [Ri,RT,beq_iff_eq] at c;rcases Rp.1 h with rfl|h
   ·rcases c.2 with c2|c2
    ·obtain ⟨t,l,e⟩:=ov c2.1;obtain ⟨t',l',e'⟩:=ov c2.2;refine .inl ⟨t,l,t',l', ?_,e'⟩;rw [c.1,Option.some.inj e];exact RF
    ·obtain ⟨t,l,e⟩:=ri c2.1;obtain ⟨t',l',e'⟩:=ri c2.2;refine .inr ⟨t,l,t',l', ?_,e'⟩;rw [c.1,Option.some.inj e];exact RF
   ·rcases cJ h with ⟨t,l,t',l',h1,h2⟩|⟨t,l,t',l',h1,h2⟩
    ·exact .inl ⟨t,l,t',l',Rq _ h1,h2⟩
    ·exact .inr ⟨t,l,t',l',Rq _ h1,h2⟩
  ·rcases cJ h with ⟨t,l,t',l',h1,h2⟩|⟨t,l,t',l',h1,h2⟩
   ·exact .inl ⟨t,l,t',l',Rq _ h1,h2⟩
   ·exact .inr ⟨t,l,t',l',Rq _ h1,h2⟩
def Ann.ks' (a:Ann) (st:St) (vs:List V) (x:Xs a.pats):List Nat:=a.ks++jO st.σ (jl a.pats vs x)
def Le (a:Ann) (wr:List Nat) (st:St) (vs:List V) (x:Xs a.pats):Bool:=
 bP (dv (rU a st.σ vs x))&&bP (cC (rU a st.σ vs x))&&Ld (cC (rU a st.σ vs x)) (nj a.pats vs)&&
  cw (a.ks' st vs x) 1000 (br (a.m wr) 0 st.s)&&lV (a.ks' st vs x) st.σ a.keep&&cI a.ks a.pats
def vC (pins:List Nat) (a:Ann) (wr:List Nat) (st st':St) (k:Xs a.pats->Prop):Prop:=
 match jm st'.s a.slots,iz st'.σ a.boxes with
 |some vs,some us=>match oK st'.σ a.pats (vs++us) with
  |some x=>if Le a wr st' (vs++us) x&&pins.all (fun i=>(a.ks' st' (vs++us) x).contains i) then
   BU st.σ st'.σ a.keep/\k x
   else False
  |none=>False
 |_,_=>False
theorem vD {s:List V}: ∀{ps:List (Nat×Pat)} {vs:List V},jm s ps=some vs->vs.length=ps.length/\∀{k i:Nat} {p:Pat},ps[k]? =some (i,p)->∃v,vs[k]? =some v/\s[i]? =some v:=by
 intro ps;induction ps with
 |nil=>
  intro vs h;simp only [jm,Q9] at h;subst h;exact ⟨rfl,fun h=>by simp at h⟩
 |cons q r ih=>
  obtain ⟨j,q⟩:=q;intro vs h;simp only [jm] at h;split at h
  ·rename_i v vs' hv hvs;cases h;obtain ⟨h1,h2⟩:=ih hvs;refine ⟨by simp [h1],fun {k i p} hk=> ?_⟩;match k with
   |0=>
    simp only [List.getElem?_cons_zero,Q9,Prod.mk.injEq] at hk
    obtain ⟨rfl,rfl⟩:=hk
    exact ⟨v,rfl,hv⟩
   |k+1=>
    obtain ⟨v',k1,k2⟩:=h2 (k:=k) (by simpa using hk)
    exact ⟨v',by simpa using k1,k2⟩
  ·cases h
theorem BV {X:Ctx} {us:List Value}: ∀{ps:List (Nat×Pat)} {s cs:List V},RepL X s us->
 (∀{k i:Nat} {p:Pat} {c:V},ps[k]? =some (i,p)->cs[k]? =some c->∀u,us[i]? =some u->Rep X c u)->RepL X (cO s ps cs) us:=by
 intro ps;induction ps with
 |nil=>intro s cs h _;simpa [cO] using h
 |cons q r ih=>
  obtain ⟨j,q⟩:=q;intro s cs h hk;cases cs with
  |nil=>simpa [cO] using h
  |cons c cs=>
   simp only [cO];refine ih ⟨by simpa using h.1,fun i c' u hc hu=> ?_⟩ (fun {k i p c'} h1 h2=>hk (k:=k+1) (by simpa using h1) (by simpa using h2));rw [List.getElem?_set] at hc;split at hc
   ·rename_i e;subst e;split at hc
    ·cases hc;exact hk (k:=0) (i:=j) (p:=q) rfl rfl u hu
    ·cases hc
   ·exact h.2 i c' u hc hu
theorem eb (m:Nat->Bool): ∀(s:List V) (n j:Nat),(br m n s)[j]? =(s[j]?).map fun v=>if m (n+j) then .any else v
 |[],n,j=>by simp [br]
 |v::r,n,0=>by simp [br]
 |v::r,n,j+1=>by simp [br,eb m r (n+1) j,RK,Nat.add_comm 1 j]
theorem Lf {X:Ctx} {m:Nat->Bool} {s:List V} {us:List Value} (h:RepL X s us):RepL X (br m 0 s) us:=by
 refine ⟨?_,fun j c u hc hu=> ?_⟩
 ·have:(br m 0 s).length=s.length:=by
   have: ∀(s:List V) (n:Nat),(br m n s).length=s.length:=by
    intro s;induction s with
    |nil=>intro n;rfl
    |cons v r ih=>intro n;simp [br,ih]
   exact this s 0
  rw [this];exact h.1
 ·rw [eb] at hc;simp only [Rc] at hc;obtain ⟨v,hv,rfl⟩:=hc;split
  ·exact .any
  ·exact h.2 j v u hv hu
theorem nl {ss:List Nat}: ∀{l:List Nat},Ld ss l=true->∀i∈l,i∉ss
 |[],_,i,h=>by simp at h
 |j::r,hb,i,h=>by
  simp only [Ld,Ri,Rb] at hb;simp only [Rp] at h;rcases h with rfl|h
  ·intro hm;have:=Ry.2 hm;rw [this] at hb;cases hb.1
  ·exact nl hb.2 i h
theorem yP {σ:Store}: ∀{bs:List (Nat×List Pat)} {vs:List V},iz σ bs=some vs->vs.length=(bs.flatMap (·.2)).length/\
 ∀{cs:List V} {e:Nat×Option Nat×Obj},e∈eK bs cs->∃id ps cells off,e=(id,some id, .box ((cs.drop off).take ps.length))/\σ.get id=some (.box cells)/\cells.length=ps.length/\
  (vs.drop off).take ps.length=cells/\((bs.flatMap (·.2)).drop off).take ps.length=ps:=by
 intro bs;induction bs with
 |nil=>
  intro vs h;simp only [iz,Q9] at h;subst h;exact ⟨rfl,fun h=>by simp [eK] at h⟩
 |cons b r ih=>
  obtain ⟨id,ps⟩:=b;intro vs h;simp only [iz] at h;split at h
  ·rename_i cells vs' hg hvs;split at h
   ·rename_i hl;cases h;obtain ⟨h1,h2⟩:=ih hvs;refine ⟨by simp only [Re,List.flatMap_cons,h1,hl],fun {cs e} he=> ?_⟩;simp only [eK,Rp] at he;rcases he with rfl|he
    ·refine ⟨id,ps,cells,0,by simp,hg,hl, ?_,by simp⟩;rw [<-hl];simp
    ·obtain ⟨id',ps',cells',off,rfl,k2,k3,k4,k5⟩:=h2 he;refine ⟨id',ps',cells',ps.length+off, ?_,k2,k3, ?_, ?_⟩
     ·rw [SK]
     ·rw [<-k4,<-hl,List.drop_append];simp only [Nat.le_add_right,List.drop_eq_nil_of_le,RM,So]
     ·simp only [List.flatMap_cons];rw [List.drop_append];simp only [Nat.le_add_right,List.drop_eq_nil_of_le,RM,So];exact k5
   ·cases h
  ·cases h
theorem dS {σ:Store}: ∀{bs:List (Nat×List Pat)} {vs:List V},iz σ bs=some vs->∀{id:Nat},id∈bs.map (·.1)->(∃cells,σ.get id=some (.box cells))/\∀cs,∃o,(id,some id,o)∈eK bs cs/\∃cells,o= .box cells:=by
 intro bs;induction bs with
 |nil=>intro vs h id hi;simp at hi
 |cons b r ih=>
  obtain ⟨j,ps⟩:=b;intro vs h id hi;simp only [iz] at h;split at h
  ·rename_i cells vs' hg hvs;simp only [RU,Rp] at hi;rcases hi with rfl|hi
   ·exact ⟨⟨_,hg⟩,fun cs=>⟨_,RF,_,rfl⟩⟩
   ·obtain ⟨h1,h2⟩:=ih hvs hi;refine ⟨h1,fun cs=> ?_⟩;obtain ⟨o,k1,k2⟩:=h2 (cs.drop ps.length);exact ⟨o,by simp [eK,k1],k2⟩
  ·cases h
theorem ff {σ:Store}: ∀{ks:List Nat} {e:Nat×Option Nat×Obj},e∈cn σ ks->∃id o,e=(id,some id,o)/\id∈ks/\σ.get id=some o
 |[],e,h=>by simp [cn] at h
 |id::r,e,h=>by
  simp only [cn] at h;split at h
  ·rename_i o hg;simp only [Rp] at h;rcases h with rfl|h
   ·exact ⟨id,o,rfl,by simp,hg⟩
   ·obtain ⟨i,o',h1,h2,h3⟩:=ff h;exact ⟨i,o',h1,by simp [h2],h3⟩
  ·obtain ⟨i,o',h1,h2,h3⟩:=ff h;exact ⟨i,o',h1,by simp [h2],h3⟩
theorem cP {σ:Store}: ∀{ks:List Nat} {id:Nat} {o:Obj},id∈ks->σ.get id=some o->(id,some id,o)∈cn σ ks
 |[],id,o,h,_=>by simp at h
 |i::r,id,o,h,hg=>by
  simp only [Rp] at h;simp only [cn];rcases h with rfl|h
  ·rw [hg];simp
  ·have:=cP h hg;split<;>simp [this]
theorem lW {ks:List Nat} {σ:Store}: ∀{l:List Nat},lV ks σ l=true->∀{id:Nat} {cells:List V},id∈l->σ.get id=some (.box cells)->cw ks 60 cells=true
 |[],_,id,cells,h,_=>by simp at h
 |i::r,hk,id,cells,h,hg=>by
  simp only [lV,Ri] at hk;simp only [Rp] at h;rcases h with rfl|h
  ·have:=hk.1;rw [hg] at this;exact this
  ·exact lW hk.2 h hg
theorem ow {σ σ':Store}: ∀{l:List Nat},BU σ σ' l->cn σ' l=cn σ l
 |[],_=>rfl
 |i::r,h=>by
  obtain ⟨h1,h2⟩:=h;simp only [cn,h1,ow h2]
def Agree (wr:List Nat) (s s':List V):Prop:=s'.length=s.length/\∀i,i∉wr->s'[i]? =s[i]?
theorem Agree.refl (wr:List Nat) (s:List V):Agree wr s s:=⟨rfl,fun _ _=>rfl⟩
theorem Agree.trans {wr:List Nat} {s t u:List V} (h:Agree wr s t) (k:Agree wr t u):Agree wr s u:=⟨k.1.trans h.1,fun i hi=>(k.2 i hi).trans (h.2 i hi)⟩
theorem Agree.sub {wr wr':List Nat} {s t:List V} (h:Agree wr s t) (hs: ∀i∈wr,i∈wr'):Agree wr' s t:=⟨h.1,fun i hi=>h.2 i fun hm=>hi (hs i hm)⟩
theorem iA (m:Nat->Bool): ∀(s:List V) (n:Nat),(br m n s).length=s.length
 |[],_=>rfl
 |v::r,n=>by simp [br,iA m r (n+1)]
theorem nm {m:Nat->Bool} {s t:List V} (hl:t.length=s.length) (h: ∀i,m i=false->t[i]? =s[i]?):br m 0 t=br m 0 s:=by
 apply Sv;intro j;rw [eb,eb,RQ];cases hm:m j with
 |true=>
  simp only [if_true];by_cases hlt:j<s.length
  ·rw [List.getElem?_eq_getElem hlt,List.getElem?_eq_getElem (hl▸hlt)];rfl
  ·rw [List.getElem?_eq_none (by omega),List.getElem?_eq_none (by omega)]
 |false=>rw [h j hm]
theorem Ann.m_off {a:Ann} {wr:List Nat} {i:Nat} (h:a.m wr i=false):i∉wr/\i∉a.ws:=by
 simp only [Ann.m,Bool.or_eq_false_iff,Sw,beq_iff_eq] at h;refine ⟨by simpa using h.1.1,fun hm=> ?_⟩;simp only [Ann.ws,Rn] at hm;rcases hm with hm|hm
 ·obtain ⟨x,hx,e⟩:=RS.1 hm;exact h.2 x hx e
 ·exact absurd hm (by simpa using h.1.2)
theorem rj: ∀{ps:List (Nat×Pat)} {s cs:List V} {i:Nat},i∉ps.map (·.1)->(cO s ps cs)[i]? =s[i]?
 |[],s,cs,i,_=>by simp [cO]
 |(j,p)::r,s,[],i,_=>by simp [cO]
 |(j,p)::r,s,c::cs,i,h=>by
  simp only [RU,Rp,not_or] at h;simp only [cO];rw [rj h.2,List.getElem?_set_ne (fun e=>h.1 e.symm)]
theorem rk: ∀{ps:List (Nat×Pat)} {s cs:List V},(cO s ps cs).length=s.length
 |[],s,cs=>by simp [cO]
 |(j,p)::r,s,[]=>by simp [cO]
 |(j,p)::r,s,c::cs=>by simp only [cO];rw [rk];simp
theorem kQ {a:Ann} {wr wr':List Nat} (hs: ∀i∈wr,i∈wr') (hs': ∀i∈a.ws,i∈wr') (st:St) (x:Xs a.pats):Agree wr' st.s (head a wr st x).s:=by
 refine ⟨by simp only [head];rw [rk,iA],fun i hi=> ?_⟩;have h1:i∉wr:=fun h=>hi (hs i h);have h2:i∉a.slots.map (·.1):=fun h=>hi (hs' i (by simp only [Ann.ws,Rn];exact .inl h));have h3:i∉a.drop:=fun h=>hi (hs' i (by simp only [Ann.ws,Rn];exact .inr h));simp only [head];rw [rj h2,eb,RQ];have:a.m wr i=false:=by
  simp only [Ann.m,Bool.or_eq_false_iff,Sw,beq_iff_eq];refine ⟨⟨by simpa using h1,by simpa using h3⟩,fun x hx e=>h2 ?_⟩;exact RS.2 ⟨x,hx,e⟩
 simp [this]
theorem jP {B:Nat->Prop} {a:Ann} {wr:List Nat} {st st':St} {k:Xs a.pats->Prop} {w:World} {μ:Mu} {F:Fr} {us:List Value} {pins:List Nat} (hpins: ∀e∈F.pin,e.1∈pins) (h:vC pins a wr st st' k)
 (hmask:br (a.m wr) 0 st'.s=br (a.m wr) 0 st.s) (hI:Inv B ⟨w,st'.σ,μ,F⟩) (hr:RepL ⟨w,st'.σ,μ,F⟩ st'.s us):
 ∃x μ',k x/\Inv B ⟨w,(head a wr st x).σ,μ',F⟩/\RepL ⟨w,(head a wr st x).σ,μ',F⟩ (head a wr st x).s us/\∀b,Ctx.T0 ⟨w,st'.σ,μ,F⟩ b->Ctx.T0 ⟨w,(head a wr st x).σ,μ',F⟩ b:=by
 unfold vC at h;split at h
 ·rename_i vs bs hvs hbs;split at h
  ·rename_i x hx;split at h
   ·rename_i hok;obtain ⟨hkept,hk⟩:=h;unfold Le at hok;simp only [Ri] at hok;obtain ⟨⟨⟨⟨⟨⟨n1,n2⟩,n3⟩,n4⟩,n5⟩,n7⟩,n6⟩:=hok;obtain ⟨sl,sget⟩:=vD hvs;obtain ⟨bl,bget⟩:=yP hbs;have hσ:(head a wr st x).σ=bare (rU a st'.σ (vs++bs) x):=by
     simp only [head,rU,ou,tt hx,ow hkept]
    have hrs:(head a wr st x).s=cO (br (a.m wr) 0 st'.s) a.slots (ca a.pats x):=by
     simp only [head,hmask]
    suffices hgoal: ∃μ',Inv B ⟨w,bare (rU a st'.σ (vs++bs) x),μ',F⟩/\RepL ⟨w,bare (rU a st'.σ (vs++bs) x),μ',F⟩ (cO (br (a.m wr) 0 st'.s) a.slots (ca a.pats x)) us/\∀b,Ctx.T0 ⟨w,st'.σ,μ,F⟩ b->Ctx.T0 ⟨w,bare (rU a st'.σ (vs++bs) x),μ',F⟩ b by
     obtain ⟨μ',g1,g2,g3⟩:=hgoal;exact ⟨x,μ',hk,by rw [hσ];exact g1,by rw [hσ,hrs];exact g2,by rw [hσ];exact g3⟩
    generalize hL:rU a st'.σ (vs++bs) x=L at n1 n2 n3;have hml: ∀{e},e∈L↔e∈jl a.pats (vs++bs) x∨e∈eK a.boxes ((ca a.pats x).drop a.slots.length)∨e∈cn st'.σ a.keep:=by
     intro e;rw [<-hL];simp [rU]
    have hF:eT ⟨w,st'.σ,μ,F⟩ L:=by
     intro i s o hm;rcases hml.1 hm with hm|hm|hm
     ·obtain ⟨kk,p,v,y,k1,k2,k3,k4⟩:=lT hx hm;cases p with
      |slc id t=>
       simp only [gZ] at k3;split at k3
       ·cases k3;simp only [fe,Ru,Prod.mk.injEq] at k4;obtain ⟨rfl,rfl,rfl⟩:=k4;exact ⟨0,t,rfl⟩
       ·rename_i src ep;split at k3
        ·rename_i ep' t' l hg;split at k3
         ·split at k3
          ·rename_i e;subst e;cases k3;simp only [fe,Ru,Prod.mk.injEq] at k4;obtain ⟨rfl,rfl,rfl⟩:=k4;exact ⟨_,hg, .inl ⟨_,_,_,_,rfl,rfl⟩⟩
          ·cases k3
         ·cases k3
        ·cases k3
       ·cases k3
      |opq id k=>
       simp only [gZ] at k3;split at k3
       ·rename_i src;split at k3
        ·rename_i k' d hg;split at k3
         ·rename_i e1;subst e1;cases k3;simp only [fe,Ru,Prod.mk.injEq] at k4;obtain ⟨rfl,rfl,rfl⟩:=k4;exact ⟨_,hg, .inr (.inr (.inr ⟨_,_,rfl,rfl⟩))⟩
         ·cases k3
        ·cases k3
       ·cases k3
      |_=>simp [fe] at k4
     ·obtain ⟨id,ps,cells,off,e,k2,k3,k4,k5⟩:=bget hm;cases e;exact ⟨_,k2, .inr (.inl ⟨_,_,rfl,rfl⟩)⟩
     ·obtain ⟨id,o',e,k2,k3⟩:=ff hm;cases e;refine ⟨_,k3, ?_⟩;cases o with
      |box cells=>exact .inr (.inl ⟨_,_,rfl,rfl⟩)
      |arr ep t l=>exact .inl ⟨_,_,_,_,rfl,rfl⟩
      |nest iv t f h l=>exact .inr (.inr (.inl ⟨_,_,_,_,_,_,rfl,rfl⟩))
      |opq k d=>exact .inr (.inr (.inr ⟨_,_,rfl,rfl⟩))
    have hA:Anew (a.ks' st' (vs++bs) x) ⟨w,st'.σ,μ,F⟩ (Ctx.to ⟨w,st'.σ,μ,F⟩ L):=by
     refine ⟨rfl,rfl,fun b hb=>nk hF hb,fun id hi cells hg=> ?_,fun id hi ep t l hg=> ?_,fun id hi iv t f h l hg=> ?_,fun id hi k d hg=> ?_⟩
     ·simp only [Ann.ks',Ann.ks,Rn] at hi;rcases hi with (hi|hi)|hi;rotate_left 2
      ·rcases cJ hi with ⟨t1,l1,t2,l2,q1,q2⟩|⟨t1,l1,t2,l2,q1,q2⟩<;>
       ·rw [show st'.σ.get id=_ from hg] at q2;cases q2
      ·obtain ⟨k1,k2⟩:=cx n1 (hml.2 (.inr (.inr (cP hi hg))));exact ⟨⟨_,k1⟩,by simp [gw,k2]⟩
      ·obtain ⟨_,hb⟩:=dS hbs hi;obtain ⟨o,k1,cells',rfl⟩:=hb ((ca a.pats x).drop a.slots.length);obtain ⟨k1,k2⟩:=cx n1 (hml.2 (.inr (.inl k1)));exact ⟨⟨_,k1⟩,by simp [gw,k2]⟩
     ·simp only [Ann.ks',Ann.ks,Rn] at hi;rcases hi with (hi|hi)|hi
      ·obtain ⟨k1,k2⟩:=cx n1 (hml.2 (.inr (.inr (cP hi hg))));exact ⟨k1,by simp [gw,k2]⟩
      ·obtain ⟨⟨cells,hb⟩,_⟩:=dS hbs hi;rw [show st'.σ.get id=_ from hg] at hb;cases hb
      ·rcases cJ hi with ⟨t1,l1,t2,l2,q1,q2⟩|⟨t1,l1,t2,l2,q1,q2⟩
       rotate_left 1
       ·rw [show st'.σ.get id=_ from hg] at q2;cases q2
       rw [show st'.σ.get id=_ from hg] at q2;cases q2;have q1:=hml.2 (.inl q1);obtain ⟨o',q3,q4⟩:=hF _ _ _ q1;rw [show st'.σ.get id=_ from hg] at q3;cases q3;obtain ⟨k1,k2⟩:=cx n1 q1;rcases q4 with ⟨e1,e2,t3,l3,q5,q6⟩|⟨_,_,q5,_⟩|⟨_,_,_,_,_,_,q5,_⟩|⟨_,_,q5,_⟩
       ·cases q5;cases q6;exact ⟨k1,by simp [gw,k2]⟩
       ·cases q5
       ·cases q5
       ·cases q5
     ·simp only [Ann.ks',Ann.ks,Rn] at hi;rcases hi with (hi|hi)|hi
      ·obtain ⟨k1,k2⟩:=cx n1 (hml.2 (.inr (.inr (cP hi hg))));exact ⟨k1,by simp [gw,k2]⟩
      ·obtain ⟨⟨cells,hb⟩,_⟩:=dS hbs hi;rw [show st'.σ.get id=_ from hg] at hb;cases hb
      ·rcases cJ hi with ⟨t1,l1,t2,l2,q1,q2⟩|⟨t1,l1,t2,l2,q1,q2⟩<;>
       ·rw [show st'.σ.get id=_ from hg] at q2;cases q2
     ·simp only [Ann.ks',Ann.ks,Rn] at hi;rcases hi with (hi|hi)|hi
      ·obtain ⟨k1,k2⟩:=cx n1 (hml.2 (.inr (.inr (cP hi hg))));exact ⟨k1,by simp [gw,k2]⟩
      ·obtain ⟨⟨cells,hb⟩,_⟩:=dS hbs hi;rw [show st'.σ.get id=_ from hg] at hb;cases hb
      ·rcases cJ hi with ⟨t1,l1,t2,l2,q1,q2⟩|⟨t1,l1,t2,l2,q1,q2⟩
       ·rw [show st'.σ.get id=_ from hg] at q2;cases q2
       rw [show st'.σ.get id=_ from hg] at q2;cases q2;have q1:=hml.2 (.inl q1);obtain ⟨o',q3,q4⟩:=hF _ _ _ q1;rw [show st'.σ.get id=_ from hg] at q3;cases q3;obtain ⟨k1,k2⟩:=cx n1 q1;rcases q4 with ⟨_,_,_,_,q5,_⟩|⟨_,_,q5,_⟩|⟨_,_,_,_,_,_,q5,_⟩|⟨_,_,q5,q6⟩
       ·cases q5
       ·cases q5
       ·cases q5
       ·cases q5;cases q6;exact ⟨k1,by simp [gw,k2]⟩
    have hpat: ∀{kk:Nat} {p:Pat} {v:V} {c:V} {u:Value},a.pats[kk]? =some p->(vs++bs)[kk]? =some v->(ca a.pats x)[kk]? =some c->Rep ⟨w,st'.σ,μ,F⟩ v u->Rep (Ctx.to ⟨w,st'.σ,μ,F⟩ L) c u:=by
     intro kk p v c u hp hv hc hru;obtain ⟨y,k1,k2,k3,k4⟩:=yN hx hp hv;rw [k2] at hc;cases hc;refine Dy hI hF k1 hru (fun e he=>cx n1 (hml.2 (.inl (k3 e he)))) (fun i hi=>nl n3 i (k4 i hi)) (fun id T e hro=> ?_) (fun g caps e hro=> ?_) (fun id e hro=> ?_)
     ·subst e;have hi:=tu n7 hp;cases hro with
      |own hg hm hu=>
       obtain ⟨⟨c',h1⟩,h2⟩:=hA.box id (R7 _ hi) _ hg;exact .own h1 (h2.trans hm) hu
     ·subst e;have hi:=tv n7 hp;refine Rep.anew hA hro (n:=caps.length+3) ?_;simp only [bw,Ri];exact ⟨rfl,tw (fun c hc=>R7 _ (hi c hc)) (by omega)⟩
     ·subst e;have hi:=yO n7 hp;refine Rep.anew hA hro (n:=1) ?_;simp only [bw,Ry];exact R7 _ hi
    refine ⟨gw L μ,BT hI hF n2 (fun e he=> ?_) (fun i src cells cells' hm hg ws hw=> ?_),BV (RepL.anew hA (Lf hr) n4) (fun {kk i p c} hp hc u hu=> ?_),fun b hb=>La hF hb⟩
    ·have hi:e.1∈a.ks' st' (vs++bs) x:=Ry.1 (RL.1 n6 _ (hpins e he));have hp:=hI.marks.pin e he;generalize e.1=i at hp hi;generalize e.2=q at hp;simp only [Ann.ks',Ann.ks,Rn] at hi;cases q with
     |box p=>
      obtain ⟨⟨cells,hg⟩,hm⟩:=hp;rcases hi with (hi|hi)|hi
      ·obtain ⟨k1,k2⟩:=cx n1 (hml.2 (.inr (.inr (cP hi hg))));exact ⟨⟨_,k1⟩,k2⟩
      ·obtain ⟨_,hb⟩:=dS hbs hi;obtain ⟨o,k1,cells',rfl⟩:=hb ((ca a.pats x).drop a.slots.length);obtain ⟨k1,k2⟩:=cx n1 (hml.2 (.inr (.inl k1)));exact ⟨⟨_,k1⟩,k2⟩
      ·rcases cJ hi with ⟨t1,l1,t2,l2,q1,q2⟩|⟨t1,l1,t2,l2,q1,q2⟩<;>
       ·rw [show st'.σ.get i=_ from hg] at q2;cases q2
     |opq kd b=>
      obtain ⟨⟨d,hg⟩,hm⟩:=hp;rcases hi with (hi|hi)|hi
      ·obtain ⟨k1,k2⟩:=cx n1 (hml.2 (.inr (.inr (cP hi hg))));exact ⟨⟨_,k1⟩,k2⟩
      ·obtain ⟨⟨cells,hb⟩,_⟩:=dS hbs hi;rw [show st'.σ.get i=_ from hg] at hb;cases hb
      ·rcases cJ hi with ⟨t1,l1,t2,l2,q1,q2⟩|⟨t1,l1,t2,l2,q1,q2⟩
       ·rw [show st'.σ.get i=_ from hg] at q2;cases q2
       rw [show st'.σ.get i=_ from hg] at q2;cases q2;have q1:=hml.2 (.inl q1);obtain ⟨o',q3,q4⟩:=hF _ _ _ q1;rw [show st'.σ.get i=_ from hg] at q3;cases q3;obtain ⟨k1,k2⟩:=cx n1 q1;rcases q4 with ⟨_,_,_,_,q5,_⟩|⟨_,_,q5,_⟩|⟨_,_,_,_,_,_,q5,_⟩|⟨_,_,q5,q6⟩
       ·cases q5
       ·cases q5
       ·cases q5
       ·cases q5;cases q6;exact ⟨⟨_,k1⟩,k2⟩
    ·rcases hml.1 hm with hm|hm|hm
     ·obtain ⟨kk,p,v,y,k1,k2,k3,k4⟩:=lT hx hm;cases p with
      |slc id t=>
       simp only [fe] at k4;split at k4<;>simp at k4
      |opq id k=>
       simp only [fe] at k4;split at k4<;>simp at k4
      |_=>simp [fe] at k4
     ·obtain ⟨id,ps,cells2,off,e,k2,k3,k4,k5⟩:=bget hm;cases e;simp only at hg;rw [hg] at k2;cases k2;have hlen:=g7 a.pats x;have hbx:a.pats.length=a.slots.length+(a.boxes.flatMap (·.2)).length:=by simp [Ann.pats]
      have hoff:off+ps.length<=(a.boxes.flatMap (·.2)).length∨ps.length=0:=by
       have:=congrArg List.length k5;simp only [Rz,RE] at this;omega
      refine ⟨?_,fun j c u hc hu=> ?_⟩
      ·rw [hw.1,k3];simp only [Rz,RE];omega
      ·have hj:j<ps.length:=by
        have:=(List.getElem?_eq_some_iff.1 hc).1;simp only [Rz] at this;omega
       rw [List.getElem?_take,Q_ hj,List.getElem?_drop,List.getElem?_drop] at hc;obtain ⟨v,hv⟩: ∃v,cells'[j]? =some v:=⟨_,List.getElem?_eq_getElem (by omega)⟩
       have hv2:=hv;rw [<-k4,List.getElem?_take,Q_ hj,List.getElem?_drop] at hv2;obtain ⟨pj,hp⟩: ∃pj,ps[j]? =some pj:=⟨_,List.getElem?_eq_getElem hj⟩
       have hp2:(a.boxes.flatMap (·.2))[off+j]? =some pj:=by
        have:=congrArg (·[j]?) k5;simp only [List.getElem?_take,Q_ hj,List.getElem?_drop] at this;rw [this];exact hp
       refine hpat (kk:=a.slots.length+(off+j)) (p:=pj) (v:=v) (c:=c) ?_ ?_ hc (hw.2 j v u hv hu)
       ·rw [List.getElem?_append_right (by simp)];simp only [RI,So];exact hp2
       ·rw [List.getElem?_append_right (by omega),sl,So];exact hv2
     ·obtain ⟨id,o',e,k2,k3⟩:=ff hm;cases e;simp only at hg;rw [hg] at k3;cases k3;exact RepL.anew hA hw (lW n5 k2 hg)
    ·obtain ⟨v,k1,k2⟩:=sget hp;have hkk:kk<a.slots.length:=(List.getElem?_eq_some_iff.1 hp).1;refine hpat (kk:=kk) (p:=p) (v:=v) ?_ ?_ hc (hr.2 i v u k2 hu)
     ·rw [List.getElem?_append_left (by simpa using hkk)];simp [hp]
     ·rw [List.getElem?_append_left (by omega)];exact k1
   ·exact h.elim
  ·exact h.elim
 ·exact h.elim
end Go.Vm
namespace Go.Vm
open Go.RowKit (Below)
def eW (s:List V):Operand->V
 | .tmp t=>(nth s t).getD (.tuple [])
 | .const v=>cv v
 | .global _=> .any
 | .func f=> .fn (.func f) [] []
def cW (s:List V) (d:Option Nat) (v:V):List V:=match d with
 |some d=>s.set d v
 |none=>s
def vE (E:Env) (all:Array Oper) (o:Oper) (st:St) (next:St->Prop):Prop:=
 match o.guard with
 |none=>qZ E o (eW st.s) st.σ fun v σ'=>next ⟨cW st.s o.dst v,σ'⟩
 |some (g,want)=>match (all[g]?).bind (·.dst) with
  |some d=>match nth st.s d with
   |some (.kb b)=>if b=want then qZ E o (eW st.s) st.σ fun v σ'=>next ⟨cW st.s o.dst v,σ'⟩
    else next ⟨cW st.s o.dst (.tuple []),st.σ⟩
   |some (.bool b)=>(b=want->qZ E o (eW (st.s.set d (.kb want))) st.σ fun v σ'=>next ⟨cW (st.s.set d (.kb want)) o.dst v,σ'⟩)/\
    (b= !want->next ⟨cW (st.s.set d (.kb !want)) o.dst (.tuple []),st.σ⟩)
   |some (.bq p)=>(p want->qZ E o (eW (st.s.set d (.kb want))) st.σ fun v σ'=>next ⟨cW (st.s.set d (.kb want)) o.dst v,σ'⟩)/\
    (p (!want)->next ⟨cW (st.s.set d (.kb !want)) o.dst (.tuple []),st.σ⟩)
   |some (.tuple [])=>next ⟨cW st.s o.dst (.tuple []),st.σ⟩
   |_=>False
  |none=>False
def yQ (E:Env) (all:Array Oper):List Oper->St->(St->Prop)->Prop
 |[],st,k=>k st
 |o::rest,st,k=>vE E all o st fun st'=>yQ E all rest st' k
def fg:List Oper->List Nat
 |[]=>[]
 |o::r=>match o.dst with
  |some d=>d::fg r
  |none=>fg r
structure Since (X X':Ctx):Prop where
 os:X'.w.os=X.w.os
 tape:X'.w.tape=X.w.tape
 output:X'.w.output=X.w.output
 size:X.w.heap.size<=X'.w.heap.size
 outer:X'.F=X.F
 still: ∀b,X.T0 b->X'.T0 b/\X'.w.heap[b]? =X.w.heap[b]?
theorem Since.refl (X:Ctx):Since X X:=⟨rfl,rfl,rfl,Rf _,rfl,fun _ h=>⟨h,rfl⟩⟩
theorem Since.trans {X Y Z:Ctx} (h:Since X Y) (k:Since Y Z):Since X Z:=
 ⟨k.os.trans h.os,k.tape.trans h.tape,k.output.trans h.output,Ro h.size k.size,k.outer.trans h.outer,fun b hb=>by
  obtain ⟨h1,h2⟩:=h.still b hb;obtain ⟨k1,k2⟩:=k.still b h1;exact ⟨k1,k2.trans h2⟩⟩
theorem Since.evo {X Y Z:Ctx} (h:Since X Y) (k:Evo Y Z):Since X Z:=h.trans ⟨k.os,k.tape,k.output,k.size,k.outer,k.still⟩
theorem Since.anew {X:Ctx} {w:World} {σ σ':Store} {μ μ':Mu} {F:Fr} (h:Since X ⟨w,σ,μ,F⟩) (k: ∀b,Ctx.T0 ⟨w,σ,μ,F⟩ b->Ctx.T0 ⟨w,σ',μ',F⟩ b):Since X ⟨w,σ',μ',F⟩:=
 h.trans ⟨rfl,rfl,rfl,Rf _,rfl,fun b hb=>⟨k b hb,rfl⟩⟩
structure Start where
 X:Ctx
 B:Nat->Prop
 top: ∀b,X.w.heap.size<=b->B b
structure Good (w0:Start) (F:Fr) (st:St) (a:Act) (w:World) (μ:Mu):Prop where
 inv:Inv w0.B ⟨w,st.σ,μ,F⟩
 slots:RepL ⟨w,st.σ,μ,F⟩ st.s a.tmps.toList
 below:Since w0.X ⟨w,st.σ,μ,F⟩
 defers:a.defers=[]
section
variable {w0:Start} {F:Fr} {st:St} {a:Act} {w:World} {μ:Mu}
theorem Good.eval (h:Good w0 F st a w μ) (x:Operand):Rep ⟨w,st.σ,μ,F⟩ (eW st.s x) (a.eval x):=by
 cases x with
 |tmp t=>
  simp only [eW,Act.eval];cases hs:nth st.s t with
  |none=>
   have h1:st.s.length<=t:=by simpa using hs
   have h2:=h.slots.1;simp only [Array.length_toList] at h2;have:a.tmps.getD t undef=undef:=by simp [Rv,show a.tmps.size<=t by omega]
   rw [this];exact .tuple rfl (fun j c u hc=>by simp at hc)
  |some v=>
   obtain ⟨u,hu,hr⟩:=h.slots.get hs;simp only [Array.getElem?_toList] at hu;have:a.tmps.getD t undef=u:=by simp [Rv,hu]
   rw [this];exact hr
 |const v=>exact BF _ _
 |global g=>exact .any
 |func f=>exact .fn rfl rfl (fun j c u hc=>by simp at hc) (fun j c u hc=>by simp at hc)
theorem Dz {X:Ctx} {s:List V} {a:Act} {d:Option Nat} {v:V} {u:Value} (h:RepL X s a.tmps.toList) (hv:Rep X v u):RepL X (cW s d v) (a.put d u).tmps.toList:=by
 cases d with
 |none=>exact h
 |some d=>
  refine ⟨by simpa [cW,Act.put] using h.1,fun j c x hc hx=> ?_⟩;simp only [cW,Act.put,List.getElem?_set,Array.toList_setIfInBounds] at hc hx;split at hc
  ·rename_i e;subst e;split at hc
   ·cases hc;rw [Q_ rfl] at hx;split at hx
    ·cases hx;exact hv
    ·cases hx
   ·cases hc
  ·rename_i e;rw [Q8 e] at hx;exact h.2 j c x hc hx
theorem Good.put (h:Good w0 F st a w μ) {d:Option Nat} {v:V} {u:Value} (hv:Rep ⟨w,st.σ,μ,F⟩ v u):Good w0 F ⟨cW st.s d v,st.σ⟩ (a.put d u) w μ:=
 ⟨h.inv,Dz h.slots hv,h.below,by cases d<;>exact h.defers⟩
theorem Good.learn (h:Good w0 F st a w μ) {d:Nat} {c:Bool} (hu:a.tmps[d]? =some (.bool c)):Good w0 F ⟨st.s.set d (.kb c),st.σ⟩ a w μ:=by
 refine ⟨h.inv,⟨by simpa using h.slots.1,fun j v u hv hu2=> ?_⟩,h.below,h.defers⟩;rw [List.getElem?_set] at hv;simp only [Array.getElem?_toList] at hu2;split at hv
 ·rename_i e';subst e';split at hv
  ·cases hv;rw [hu] at hu2;cases hu2;exact .kb
  ·cases hv
 ·exact h.slots.2 j v u hv (by simpa using hu2)
theorem Good.know (h:Good w0 F st a w μ) {d:Nat} {b:Bool} (hd:nth st.s d=some (.bool b)) {c:Bool} (e:b=c):Good w0 F ⟨st.s.set d (.kb c),st.σ⟩ a w μ:=by
 refine ⟨h.inv,⟨by simpa using h.slots.1,fun j v u hv hu=> ?_⟩,h.below,h.defers⟩;rw [List.getElem?_set] at hv;split at hv
 ·rename_i e';subst e';split at hv
  ·cases hv;have:=h.slots.2 _ _ _ hd hu;rw [this.bool_inv,e];exact .kb
  ·cases hv
 ·exact h.slots.2 j v u hv hu
theorem Good.step (h:Good w0 F st a w μ) {σ':Store} {w':World} {μ':Mu} {d:Option Nat} {v:V} {u:Value}
 (hI:Inv w0.B ⟨w',σ',μ',F⟩) (hv:Rep ⟨w',σ',μ',F⟩ v u) (hE:Evo ⟨w,st.σ,μ,F⟩ ⟨w',σ',μ',F⟩):Good w0 F ⟨cW st.s d v,σ'⟩ (a.put d u) w' μ':=by
 refine ⟨hI,Dz (h.slots.evo hE) hv,h.below.evo hE,by cases d<;>exact h.defers⟩
theorem eF {wr:List Nat} {s0 s:List V} (h:Agree wr s0 s) {d:Option Nat} (hd: ∀i,d=some i->i∈wr) {v:V}:Agree wr s0 (cW s d v):=by
 cases d with
 |none=>exact h
 |some d=>
  refine ⟨by simpa [cW] using h.1,fun i hi=> ?_⟩;simp only [cW];rw [List.getElem?_set_ne (fun e=>by subst e;exact hi (hd _ rfl))];exact h.2 i hi
theorem kR {P:Program} {o:Oper} {a:Act} {w:World} {K:Act->World->Prop} {Q:Exit->Act->World->Prop} {Post:Value->World->Prop} (h:OpRuns P o a.eval w Post)
 (hK: ∀u w',Post u w'->K (a.put o.dst u) w'):o.wp P a w K Q:=by
 unfold Oper.wp;unfold OpRuns at h;cases hr:(execOp a.eval o).run P w with
 |ok x w'=>
  rw [hr] at h;cases x with
  |value u=>exact hK u w' h
  |skip=>exact hK undef w' h
  |enter f args=>
   rw [Oper.upon_enter];refine Calls.mono (R:=fun e w''=> ∃u,e= .returned u/\Post u w'') h ?_;intro e w'' he;obtain ⟨u,e1,h1⟩:=he;subst e1;exact hK u w'' h1
  |defer _=>exact h.elim
  |row _ _=>exact h.elim
  |_=>exact h.elim
 |halt x w'=>rw [hr] at h;exact h.elim
theorem jQ {E:Env} {all:Array Oper} {Q:Exit->Act->World->Prop} {o:Oper} {rest:List Oper} {next:St->Prop} (hS:SpecsOk E)
 (hw:Region.wanted o (yielded all a.tmps)=true) (h:Good w0 F st a w μ)
 (hk:qZ E o (eW st.s) st.σ fun v σ'=>next ⟨cW st.s o.dst v,σ'⟩) {wr:List Nat} {s0:List V} (hag:Agree wr s0 st.s) (hdst: ∀d,o.dst=some d->d∈wr)
 (ih: ∀st a w μ,next st->Agree wr s0 st.s->Good w0 F st a w μ->wpList E.P all Q rest a w):wpList E.P all Q (o::rest) a w:=by
 obtain ⟨v,σ',hv,hok⟩:=OW hS hk;have hrun:=hok _ F a.eval w μ h.inv (fun b hb=>w0.top b (Ro h.below.size hb)) (fun x _=>h.eval x);unfold wpList;rw [Q_ hw];refine .inl (kR hrun ?_);rintro u w' ⟨μ',h1,h2,h3⟩;exact ih _ _ _ _ hv (eF hag hdst) (h.step h1 h2 h3)
theorem iB (h:Good w0 F st a w μ) {all:Array Oper} {g d:Nat} (hd:(all[g]?).bind (·.dst)=some d) {v:V} (hv:nth st.s d=some v):
 ∃u,a.tmps[d]? =some u/\Rep ⟨w,st.σ,μ,F⟩ v u/\yielded all a.tmps g=(match u with
  | .bool b=>some b
  |_=>none):=by
 obtain ⟨u,hu,hr⟩:=h.slots.get hv;simp only [Array.getElem?_toList] at hu;refine ⟨u,hu,hr, ?_⟩;unfold yielded;rw [hd];simp only [Sy,hu];cases u<;>rfl
theorem jn {l:List Oper} {o:Oper} {d:Nat} (h:o∈l) (hd:o.dst=some d):d∈fg l:=by
 induction l with
 |nil=>simp at h
 |cons x r ih=>
  have h1:o=x∨o∈r:=by simpa using h
  have h2:fg (x::r)=match x.dst with
   |some d=>d::fg r
   |none=>fg r:=rfl
  rw [h2];cases h1 with
  |inl e=>
   rw [<-e,hd];exact RF
  |inr hr=>
   have:=ih hr;cases x.dst with
   |none=>exact this
   |some d'=>exact Rq _ this
theorem BW {E:Env} (hS:SpecsOk E) {all:Array Oper} {Q:Exit->Act->World->Prop} {s0:List V} {o:Oper} {rest:List Oper} {next:St->Prop}
 (hmem:o∈all.toList) (ih: ∀st a w μ,next st->Agree (fg all.toList) s0 st.s->Good w0 F st a w μ->wpList E.P all Q rest a w)
 (h:vE E all o st next) (hag:Agree (fg all.toList) s0 st.s) (hg:Good w0 F st a w μ):wpList E.P all Q (o::rest) a w:=by
 have hdst: ∀d,o.dst=some d->d∈fg all.toList:=fun d hd=>jn hmem hd;unfold vE at h;split at h
 ·rename_i hgd;exact jQ hS (by simp [Region.wanted,hgd]) hg h hag hdst ih
 ·rename_i g want hgd;split at h
  ·rename_i d hd;have hdW:d∈fg all.toList:=by
    simp only [Ra] at hd;obtain ⟨x,hx,hxd⟩:=hd;exact jn (Rr (by simpa using hx)) hxd
   have hset: ∀v,Agree (fg all.toList) s0 (st.s.set d v):=fun v=>eF (d:=some d) hag (fun i e=>by cases e;exact hdW);have skip: ∀{st:St},Agree (fg all.toList) s0 st.s->Good w0 F st a w μ->yielded all a.tmps g≠some want->next ⟨cW st.s o.dst (.tuple []),st.σ⟩->wpList E.P all Q (o::rest) a w:=by
    intro st hag hg hy hv;unfold wpList;rw [Q8 (by simpa [Region.wanted,hgd] using hy)];exact ih _ _ _ _ hv (eF hag hdst) (hg.put (.tuple rfl (fun j c u hc=>by simp at hc)))
   split at h
   ·rename_i b hb;obtain ⟨u,hu,hr,hy⟩:=iB hg hd hb;rw [hr.kb_inv] at hy;simp only at hy;split at h
    ·rename_i e;subst e;exact jQ hS (by simp [Region.wanted,hgd,hy]) hg h hag hdst ih
    ·rename_i e;exact skip hag hg (by rw [hy];simpa using e) h
   ·rename_i b hb;obtain ⟨u,hu,hr,hy⟩:=iB hg hd hb;rw [hr.bool_inv] at hy;simp only at hy;by_cases e:b=want
    ·have hg2:=hg.know hb e;exact jQ hS (by simp [Region.wanted,hgd,hy,e]) hg2 (h.1 e) (hset _) hdst ih
    ·have e2:b= !want:=by cases b<;>cases want<;>simp_all
     have hg2:=hg.know hb e2;exact skip (hset _) hg2 (by rw [hy];simpa using e) (h.2 e2)
   ·rename_i p hb;obtain ⟨u,hu,hr,hy⟩:=iB hg hd hb;cases hr with
    | @bq _ b hp=>
     simp only at hy;have hg2:=hg.learn hu;by_cases e:b=want
     ·subst e;exact jQ hS (by simp [Region.wanted,hgd,hy]) hg2 (h.1 hp) (hset _) hdst ih
     ·have e2:b= !want:=by cases b<;>cases want<;>simp_all
      subst e2;exact skip (hset _) hg2 (by rw [hy];simp) (h.2 hp)
   ·rename_i hb;obtain ⟨u,hu,hr,hy⟩:=iB hg hd hb;obtain ⟨vs,rfl,_⟩:=hr.tuple_inv;exact skip hag hg (by rw [hy];simp) h
   ·exact h.elim
  ·exact h.elim
theorem ox {E:Env} (hS:SpecsOk E) {all:Array Oper} {k:St->Prop} {Q:Exit->Act->World->Prop} {s0:List V}
 (hQ: ∀st a w μ,k st->Agree (fg all.toList) s0 st.s->Good w0 F st a w μ->Q .normal a w): ∀(l:List Oper) st a w μ,(∀o∈l,o∈all.toList)->yQ E all l st k->Agree (fg all.toList) s0 st.s->Good w0 F st a w μ->wpList E.P all Q l a w:=by
 intro l;induction l with
 |nil=>intro st a w μ _ h hag hg;exact hQ _ _ _ _ h hag hg
 |cons o rest ih=>
  intro st a w μ hsub h hag hg;exact BW hS (hsub o RF) (fun st a w μ=>ih st a w μ (fun x hx=>hsub x (Rq _ hx))) h hag hg
end
end Go.Vm
