import Derived.Test.YtabicbgeoiilmaaGreatDoorVmA
namespace Go.Vm
theorem RepL.nil {X:Ctx}:RepL X [] []:=⟨rfl,fun _ _ _ h=>by simp at h⟩
theorem RepL.single {X:Ctx} {c:V} {v:Value} (h:Rep X c v):RepL X [c] [v]:=
 ⟨rfl,fun j c' u hc hu=>by
  cases j with
  |zero=>simp at hc hu;subst hc;subst hu;exact h
  |succ j=>simp at hc⟩
theorem RepL.append {X:Ctx} {cs ds:List V} {vs us:List Value} (h:RepL X cs vs) (k:RepL X ds us):RepL X (cs++ds) (vs++us):=by
 refine ⟨by simp [h.1,k.1],fun j c u hc hu=> ?_⟩;rcases Nat.lt_or_ge j cs.length with hl|hl
 ·rw [List.getElem?_append_left hl] at hc;rw [List.getElem?_append_left (by rw [h.1];exact hl)] at hu;exact h.2 j c u hc hu
 ·rw [List.getElem?_append_right hl] at hc;rw [List.getElem?_append_right (by rw [h.1];exact hl),h.1] at hu;exact k.2 _ c u hc hu
theorem RepL.drop {X:Ctx} {cs:List V} {vs:List Value} (h:RepL X cs vs) (n:Nat):RepL X (cs.drop n) (vs.drop n):=
 ⟨by simp [h.1],fun j c u hc hu=>h.2 (n+j) c u (by simpa using hc) (by simpa using hu)⟩
theorem RepL.take {X:Ctx} {cs:List V} {vs:List Value} (h:RepL X cs vs) (n:Nat):RepL X (cs.take n) (vs.take n):=
 ⟨by simp [h.1],fun j c u hc hu=>by
  rw [List.getElem?_take] at hc hu;split at hc
  ·rename_i hj;simp only [hj,if_true] at hu;exact h.2 j c u hc hu
  ·cases hc⟩
theorem RepL.cons_inv {X:Ctx} {c:V} {cs:List V} {vs:List Value} (h:RepL X (c::cs) vs): ∃v us,vs=v::us/\Rep X c v/\RepL X cs us:=by
 cases vs with
 |nil=>simp [RepL] at h
 |cons v us=>
  refine ⟨v,us,rfl,h.2 0 c v (by simp) (by simp),by simpa using h.1,fun j c u hc hu=>h.2 (j+1) c u (by simpa using hc) (by simpa using hu)⟩
theorem RepL.cons {X:Ctx} {c:V} {v:Value} {cs:List V} {vs:List Value} (h:Rep X c v) (k:RepL X cs vs):RepL X (c::cs) (v::vs):=
 (RepL.single h).append k
theorem RepL.nil_inv {X:Ctx} {vs:List Value} (h:RepL X [] vs):vs=[]:=Rk h.1
theorem ik {X:Ctx}: ∀{t:Ty} {x:t.den} {cs:List Value},RepC X.w X.G t x cs->RepL X (enc t x) cs
 | .bool,x,_,h=>by simp only [RepC] at h;subst h;exact .single .bool
 | .int k,x,_,h=>by simp only [RepC] at h;subst h;exact .single .int
 | .str,x,_,h=>by obtain ⟨s,rfl,hs⟩:=h;exact .single (.str hs)
 | .slice t,x,_,h=>by
  have h0:=h;obtain ⟨A,cap,rfl,_⟩:=h;have h1:=RepC.toS (l:=x) h0;exact .single (.list (l:=x) (h1.keep (fun b hb=>⟨hb,rfl⟩) (fun b hb=>⟨⟨hb.1,fun _=>hb.2⟩,rfl⟩)) (fun e=>by cases e))
 | .pair a b,x,_,h=>by
  obtain ⟨c1,c2,rfl,h1,h2⟩:=h;exact (ik h1).append (ik h2)
theorem yp {X:Ctx} {cs:List V} {x:Bool} {r:List V} {vs:List Value} (h:u9 cs=some (x,r)) (hr:RepL X cs vs):
 ∃v1 v2,vs=v1++v2/\RepC X.w X.G .bool x v1/\RepL X r v2:=by
 unfold u9 at h;split at h<;>simp at h;all_goals
  obtain ⟨rfl,rfl⟩:=h
  obtain ⟨v,us,rfl,h1,h2⟩:=hr.cons_inv
  cases h1
  exact ⟨[_],us,rfl,rfl,h2⟩
theorem BD {X:Ctx} {cs:List V} {x:List UInt8} {r:List V} {vs:List Value} (h:Bw cs=some (x,r)) (hr:RepL X cs vs):
 ∃v1 v2,vs=v1++v2/\RepC X.w X.G .str x v1/\RepL X r v2:=by
 unfold Bw at h;split at h<;>simp at h;obtain ⟨rfl,rfl⟩:=h;obtain ⟨v,us,rfl,h1,h2⟩:=hr.cons_inv;cases h1 with
 |str hs=>exact ⟨[_],us,rfl,⟨_,rfl,hs⟩,h2⟩
theorem BE {X:Ctx} {k:IntKind} {cs:List V} {x:Int} {r:List V} {vs:List Value} (h:Bz k cs=some (x,r)) (hr:RepL X cs vs):
 ∃v1 v2,vs=v1++v2/\RepC X.w X.G (.int k) x v1/\RepL X r v2:=by
 unfold Bz at h;split at h<;>simp at h;obtain ⟨rfl,rfl,rfl⟩:=h;obtain ⟨v,us,rfl,h1,h2⟩:=hr.cons_inv;cases h1;exact ⟨[_],us,rfl,rfl,h2⟩
theorem vf {X:Ctx} {t:Ty} {cs:List V} {x:List t.den} {r:List V} {vs:List Value} (h:qW t cs=some (x,r)) (hr:RepL X cs vs):
 ∃v1 v2,vs=v1++v2/\RepC X.w X.G (.slice t) x v1/\RepL X r v2:=by
 unfold qW at h;split at h
 ·simp at h;obtain ⟨rfl,rfl⟩:=h;obtain ⟨v,us,rfl,h1,h2⟩:=hr.cons_inv;cases h1;refine ⟨[_],us,rfl,⟨none,0,rfl,Rf _,fun h0=> ?_⟩,h2⟩;simp at h0
 ·rename_i kd t' l r';split at h
  ·cases h
  ·rename_i hkd;split at h
   ·rename_i hk;subst hk;simp only [Q9,Prod.mk.injEq] at h;obtain ⟨rfl,rfl⟩:=h;obtain ⟨v,us,rfl,h1,h2⟩:=hr.cons_inv;cases h1 with
    |list h3 _=>
     obtain rfl:=h3.1;exact ⟨[_],us,rfl,h3.toC (fun b hb=>⟨hb.1,hb.2 hkd⟩),h2⟩
   ·cases h
 ·cases h
theorem vg {X:Ctx}: ∀{t:Ty} {cs:List V} {x:t.den} {r:List V} {vs:List Value},dec t cs=some (x,r)->RepL X cs vs->
 ∃v1 v2,vs=v1++v2/\RepC X.w X.G t x v1/\RepL X r v2
 | .pair a b,cs,x,r,vs,h,hr=>by
  unfold dec at h;cases h1:dec a cs with
  |none=>simp [h1] at h
  |some p=>
   obtain ⟨x1,r1⟩:=p;simp only [h1] at h;cases h2:dec b r1 with
   |none=>simp [h2] at h
   |some q=>
    obtain ⟨x2,r2⟩:=q;simp only [h2,Q9] at h;cases h;obtain ⟨v1,v2,rfl,k1,k2⟩:=vg h1 hr;obtain ⟨v3,v4,rfl,k3,k4⟩:=vg h2 k2;exact ⟨v1++v3,v4,by simp,⟨v1,v3,rfl,k1,k3⟩,k4⟩
 | .bool,_,_,_,_,h,hr=>yp h hr
 | .str,_,_,_,_,h,hr=>BD h hr
 | .int _,_,_,_,_,h,hr=>BE h hr
 | .slice _,_,_,_,_,h,hr=>vf h hr
theorem q9 {X:Ctx} {t:Ty} {cs:List V} {x:t.den} {vs:List Value} (h:u_ t cs=some x) (hr:RepL X cs vs):RepC X.w X.G t x vs:=by
 unfold u_ at h;split at h
 ·rename_i y hd;simp only [Q9] at h;subst h;obtain ⟨v1,v2,rfl,h1,h2⟩:=vg hd hr;rw [h2.nil_inv,RH];exact h1
 ·cases h
theorem RepC.one {w:World} {G:Nat->Prop}: ∀{t:Ty} {x:t.den} {cs:List Value},RepC w G t x cs->∀u∈cs,u.oneCell'=true
 | .bool,_,_,h=>by simp only [RepC] at h;subst h;intro u hu;simp at hu;subst hu;rfl
 | .int _,_,_,h=>by simp only [RepC] at h;subst h;intro u hu;simp at hu;subst hu;rfl
 | .str,_,_,h=>by obtain ⟨s,rfl,_⟩:=h;intro u hu;simp at hu;subst hu;rfl
 | .slice _,_,_,h=>by obtain ⟨A,cap,rfl,_⟩:=h;intro u hu;simp at hu;subst hu;rfl
 | .pair _ _,_,_,h=>by
  obtain ⟨c1,c2,rfl,h1,h2⟩:=h;intro u hu;rcases Rn.1 hu with hu|hu
  ·exact h1.one u hu
  ·exact h2.one u hu
theorem Rep.one {X:Ctx} {c:V} {v:Value} (h:Rep X c v) (hc:Gq c=true):v.oneCell'=true:=by
 cases h<;>first|rfl|exact OK.val_one _ _|(rename_i hu;rcases hu with rfl|rfl<;>rfl)|(simp [Gq] at hc)
theorem a7 (σ:Store) (id k:Nat) (o:Obj):Store.get ((id,o)::σ) k=if id=k then some o else σ.get k:=rfl
theorem KY {B:Nat->Prop} {X:Ctx} (hI:Inv B X) (hB: ∀b,X.w.heap.size<=b->B b) {id:Nat} {o':Obj} {p':Option (Nat×Nat×Nat)} {w':World}
 (hos:w'.os=X.w.os) (ht:w'.tape=X.w.tape) (ho:w'.output=X.w.output) (hs:X.w.heap.size<=w'.heap.size)
 (di: ∀b,b<X.w.heap.size->(∀o,X.σ.get id=some o->¬Blk X id o b)->w'.heap[b]? =X.w.heap[b]?)
 (hp: ∀b,Blk ⟨w',(id,o')::X.σ,fun i=>if i=id then p' else X.μ i,X.F⟩ id o' b->X.w.heap.size<=b∨∃o,X.σ.get id=some o/\Blk X id o b)
 (hbox: ∀c,X.σ.get id=some (.box c)->(∃c',o'= .box c')/\p'=X.μ id)
 (harr: ∀ep t l,X.σ.get id=some (.arr ep t l)->∃ep' l',o'= .arr ep' t l'/\ep<=ep'/\(ep'=ep->p'=X.μ id/\l'.length=l.length))
 (hnest: ∀iv t f h l,X.σ.get id=some (.nest iv t f h l)->∃iv' h' l',o'= .nest iv' t f h' l'/\iv<=iv'/\p'=X.μ id/\l'.length=l.length/\(iv'=iv->l'=l/\h'=h/\∀p,X.μ id=some p->w'.heap[p.1]? =X.w.heap[p.1]?))
 (hok:Evo X ⟨w',(id,o')::X.σ,fun i=>if i=id then p' else X.μ i,X.F⟩->ObjOk ⟨w',(id,o')::X.σ,fun i=>if i=id then p' else X.μ i,X.F⟩ id o')
 (hopq: ∀k d,X.σ.get id=some (.opq k d)->(∃d',o'= .opq k d')/\p'.map (·.1)=(X.μ id).map (·.1):=by intro k d hg;simp_all [cU]):
 Evo X ⟨w',(id,o')::X.σ,fun i=>if i=id then p' else X.μ i,X.F⟩/\Inv B ⟨w',(id,o')::X.σ,fun i=>if i=id then p' else X.μ i,X.F⟩:=by
 have hsame: ∀{j o},j≠id->X.σ.get j=some o->∀b,Blk X j o b->w'.heap[b]? =X.w.heap[b]? :=fun {j o} hj hg b hk=>
  di b (hI.ltB hg hk) (fun o1 h1 h2=>hj (hI.injB id j o1 o b h1 hg h2 hk).symm)
 have hold: ∀{j o b},j≠id->X.σ.get j=some o->Blk ⟨w',(id,o')::X.σ,fun i=>if i=id then p' else X.μ i,X.F⟩ j o b->Blk X j o b:=fun {j o b} hj hg hk=>
  Blk.move (X:=X) (by show (if j=id then p' else X.μ j)=X.μ j;rw [Q8 hj]) (fun p hm=>hsame hj hg _ (.top hm)) hk
 have hcase: ∀{j o},Store.get ((id,o')::X.σ) j=some o->(j=id/\o=o')∨(j≠id/\X.σ.get j=some o):=fun {j o} hg=>by
  simp only [a7] at hg;by_cases hj:j=id
  ·subst hj;simp at hg;exact .inl ⟨rfl,hg.symm⟩
  ·rw [Q8 (fun e=>hj e.symm)] at hg;exact .inr ⟨hj,hg⟩
 have hE:Evo X ⟨w',(id,o')::X.σ,fun i=>if i=id then p' else X.μ i,X.F⟩:=by
  refine ⟨hos,ht,ho,hs,rfl,fun b hb=>⟨⟨SD hb.1 hs,fun j o hg hk=> ?_⟩,di b hb.1 (fun o hg hk=>hb.2 id o hg hk)⟩,fun j c hg=> ?_,fun j ep t l hg=> ?_,fun j iv t f h l hg=> ?_,fun j kk d hg=> ?_⟩
  ·rcases hcase hg with ⟨rfl,rfl⟩|⟨hj,hg'⟩
   ·rcases hp b hk with h|⟨o,h1,h2⟩
    ·have:=hb.1;omega
    ·exact hb.2 _ o h1 h2
   ·exact hb.2 j o hg' (hold hj hg' hk)
  ·by_cases hj:j=id
   ·subst hj;obtain ⟨⟨c',h1⟩,h2⟩:=hbox c hg;exact ⟨⟨c',by simp [a7,h1]⟩,by simp [h2]⟩
   ·exact ⟨⟨c,by simp only [a7];rw [Q8 (fun e=>hj e.symm)];exact hg⟩,by simp [hj]⟩
  ·by_cases hj:j=id
   ·subst hj;obtain ⟨ep',l',h1,h2,h3⟩:=harr ep t l hg;exact ⟨ep',l',by simp [a7,h1],h2,fun e=>by simpa using h3 e⟩
   ·exact ⟨ep,l,by simp only [a7];rw [Q8 (fun e=>hj e.symm)];exact hg,Rf _,fun _=>by simp [hj]⟩
  ·by_cases hj:j=id
   ·subst hj;obtain ⟨iv',h',l',h1,h2,h3,h4,h5⟩:=hnest iv t f h l hg;exact ⟨iv',h',l',by simp [a7,h1],h2,by simpa using h3,h4,h5⟩
   ·exact ⟨iv,h,l,by simp only [a7];rw [Q8 (fun e=>hj e.symm)];exact hg,Rf _,by simp [hj],rfl,fun _=>⟨rfl,rfl,fun p hm=>hsame hj hg _ (.top hm)⟩⟩
  ·by_cases hj:j=id
   ·subst hj;obtain ⟨⟨d',h1⟩,h2⟩:=hopq kk d hg;exact ⟨⟨d',by simp [a7,h1]⟩,by simpa using h2⟩
   ·exact ⟨⟨d,by simp only [a7];rw [Q8 (fun e=>hj e.symm)];exact hg⟩,by simp [hj]⟩
 refine ⟨hE,⟨fun j o hg=> ?_,fun i j o1 o2 b hi hj hpi hpj=> ?_,fun j o b hg hk=> ?_,fun b hb=>hI.out b (Ro hs hb),hI.vis, .evo hI hE⟩⟩
 ·rcases hcase hg with ⟨rfl,rfl⟩|⟨hj,hg'⟩
  ·exact hok hE
  ·exact ObjOk.move (X:=X) (by show (if j=id then p' else X.μ j)=X.μ j;rw [Q8 hj]) (hsame hj hg') hE.good (fun _ _ _ h=>h.evo hE) (hI.objs j o hg')
 ·rcases hcase hi with ⟨rfl,rfl⟩|⟨hii,hi'⟩
  ·rcases hcase hj with ⟨rfl,rfl⟩|⟨hjj,hj'⟩
   ·rfl
   ·have h2:=hold hjj hj' hpj;rcases hp b hpi with h|⟨o,h1,h3⟩
    ·have:=hI.ltB hj' h2;omega
    ·exact hI.injB _ _ o o2 b h1 hj' h3 h2
  ·have h2:=hold hii hi' hpi;rcases hcase hj with ⟨rfl,rfl⟩|⟨hjj,hj'⟩
   ·rcases hp b hpj with h|⟨o,h1,h3⟩
    ·have:=hI.ltB hi' h2;omega
    ·exact hI.injB _ _ o1 o b hi' h1 h2 h3
   ·exact hI.injB i j o1 o2 b hi' hj' h2 (hold hjj hj' hpj)
 ·rcases hcase hg with ⟨rfl,rfl⟩|⟨hj,hg'⟩
  ·rcases hp b hk with h|⟨o,h1,h2⟩
   ·exact hB _ h
   ·exact hI.baseB _ o b h1 h2
  ·exact hI.baseB j o b hg' (hold hj hg' hk)
theorem yq {X:Ctx} {id:Nat} {o:Obj} {b:Nat} (hn:cU (some o)=false) (h:Blk X id o b): ∃p,X.μ id=some p/\p.1=b:=by
 obtain ⟨p,hm,h⟩:=h;rcases h with h|h
 ·exact ⟨p,hm,h⟩
 ·cases o with
  |box _=>exact h.elim
  |arr _ _ _=>exact h.elim
  |nest=>simp [cU] at hn
  |opq=>simp [cU] at hn
theorem dE {B:Nat->Prop} {X:Ctx} (hI:Inv B X) (hB: ∀b,X.w.heap.size<=b->B b) {id:Nat} {o':Obj} {p':Option (Nat×Nat×Nat)} {w':World}
 (hos:w'.os=X.w.os) (ht:w'.tape=X.w.tape) (ho:w'.output=X.w.output) (hs:X.w.heap.size<=w'.heap.size)
 (di: ∀b,b<X.w.heap.size->(∀o q,X.σ.get id=some o->X.μ id=some q->q.1≠b)->w'.heap[b]? =X.w.heap[b]?)
 (hp: ∀q,p'=some q->X.w.heap.size<=q.1∨∃o q0,X.σ.get id=some o/\X.μ id=some q0/\q0.1=q.1)
 (hbox: ∀c,X.σ.get id=some (.box c)->(∃c',o'= .box c')/\p'=X.μ id)
 (harr: ∀ep t l,X.σ.get id=some (.arr ep t l)->∃ep' l',o'= .arr ep' t l'/\ep<=ep'/\(ep'=ep->p'=X.μ id/\l'.length=l.length))
 (hok:Evo X ⟨w',(id,o')::X.σ,fun i=>if i=id then p' else X.μ i,X.F⟩->ObjOk ⟨w',(id,o')::X.σ,fun i=>if i=id then p' else X.μ i,X.F⟩ id o')
 (hn1:cU (some o')=false:=by rfl) (hn2:cU (X.σ.get id)=false:=by simp_all [cU]):
 Evo X ⟨w',(id,o')::X.σ,fun i=>if i=id then p' else X.μ i,X.F⟩/\Inv B ⟨w',(id,o')::X.σ,fun i=>if i=id then p' else X.μ i,X.F⟩:=by
 refine KY hI hB hos ht ho hs (fun b hb hk=>di b hb (fun o q hg hm e=>hk o hg ⟨q,hm, .inl e⟩)) (fun b hk=> ?_) hbox harr (fun iv t f h l hg=>by rw [hg] at hn2;simp [cU] at hn2) hok (fun k d hg=>by rw [hg] at hn2;simp [cU] at hn2);obtain ⟨p,hm,e⟩:=yq hn1 hk;rcases hp p (by simpa using hm) with h|⟨o,q0,h1,h2,h3⟩
 ·exact .inl (by omega)
 ·exact .inr ⟨o,h1,q0,h2, .inl (by omega)⟩
def OpRuns (P:Program) (o:Oper) (ρr:Operand->Value) (w:World) (Q:Value->World->Prop):Prop:=
 match (execOp ρr o).run P w with
 | .ok (.value u) w'=>Q u w'
 | .ok .skip w'=>Q undef w'
 | .ok (.enter f args) w'=>Calls P f args w' fun e w''=> ∃u,e= .returned u/\Q u w''
 |_=>False
def OpOk (P:Program) (o:Oper) (ρ:Operand->V) (σ:Store) (v:V) (σ':Store):Prop:=
 ∀B F ρr w μ,Inv B ⟨w,σ,μ,F⟩->(∀b,w.heap.size<=b->B b)->(∀x,x∈o.op.operands.toList->Rep ⟨w,σ,μ,F⟩ (ρ x) (ρr x))->
  OpRuns P o ρr w fun u w'=> ∃μ',Inv B ⟨w',σ',μ',F⟩/\Rep ⟨w',σ',μ',F⟩ v u/\Evo ⟨w,σ,μ,F⟩ ⟨w',σ',μ',F⟩
theorem OpRuns.val {P:Program} {o:Oper} {ρr:Operand->Value} {w:World} {Q:Value->World->Prop} {u:Value} {w':World}
 (h:(execOp ρr o).run P w= .ok (.value u) w') (hQ:Q u w'):OpRuns P o ρr w Q:=by
 unfold OpRuns;rw [h];exact hQ
theorem OpRuns.skip {P:Program} {o:Oper} {ρr:Operand->Value} {w:World} {Q:Value->World->Prop} {w':World}
 (h:(execOp ρr o).run P w= .ok .skip w') (hQ:Q undef w'):OpRuns P o ρr w Q:=by
 unfold OpRuns;rw [h];exact hQ
theorem cB {P:Program} {t:TypeId} {n:Nat} (h:dd P t=some n) (w:World):(sizeOf t).run P w= .ok n w:=by
 unfold dd at h;cases hi:P.info? t with
 |none=>simp [hi] at h
 |some i=>simp [hi] at h;simp [sizeOf,typeInfo,hi,h]
theorem iu {P:Program} {t:TypeId} {g:Bool} (h:eS P t=some g) (w:World):(isAgg t).run P w= .ok g w:=by
 unfold eS at h;cases hu:P.underlying t with
 |none=>simp [hu] at h
 |some d=>
  rw [hu] at h;simp only [isAgg,Sem.run_bind,run_underlying hu,Result.andThen_ok];cases d<;>simp at h<;>subst h<;>rfl
theorem yr {P:Program} {t:TypeId} {g:Bool} {n:Nat} (hg:eS P t=some g) (hn:dd P t=some n) (w:World) (b o:Nat) (vs:List Value) (hl:vs.length=n)
 (hc: ∀j u,vs[j]? =some u->w.cell? ⟨b,o+j,none⟩=some u) (h1:g=false->n=1):
 (loadVar t ⟨b,o,none⟩).run P w= .ok (if g then .agg vs.toArray else vs.getD 0 undef) w:=by
 cases g with
 |true=>
  have hcl:=run_loadCells_list (P:=P) w ⟨b,o,none⟩ vs (fun j v hv=>by rw [Addr.add_lit];exact hc j v hv);rw [hl] at hcl;simp [loadVar,iu hg,cB hn,hcl]
 |false=>
  obtain rfl:=h1 rfl;match vs,hl with
  |[u],_=>
   have h0:=hc 0 u (by simp)
   simp only [RR] at h0
   simp [loadVar,iu hg,h0]
theorem yt {cells:List V} {off n:Nat} {cs:List V} (h:cut cells off n=some cs):off+n<=cells.length/\cs=(cells.drop off).take n:=by
 unfold cut at h;split at h
 ·exact ⟨by assumption,by simpa using h.symm⟩
 ·cases h
theorem gW {P:Program} {t:TypeId} {g:Bool} {n:Nat} (hg:eS P t=some g) (hn:dd P t=some n) {X:Ctx} {cells:List V} {off:Nat} {v:V}
 (hv:(cut cells off n).bind (cf g)=some v) {b o:Nat} (f:Nat->Value) (hc: ∀(j:Nat) c,cells[j]? =some c->X.w.cell? ⟨b,o+j,none⟩=some (f j))
 (hr: ∀(j:Nat) c,cells[j]? =some c->Rep X c (f j)): ∃u,(loadVar t ⟨b,o+off,none⟩).run P X.w= .ok u X.w/\Rep X v u:=by
 cases hcut:cut cells off n with
 |none=>simp [hcut] at hv
 |some cs=>
  simp only [hcut,Sy] at hv;obtain ⟨hle,rfl⟩:=yt hcut;have hget: ∀(j:Nat) u,((List.range n).map fun j=>f (off+j))[j]? =some u->j<n/\u=f (off+j):=by
   intro j u hu;simp only [List.getElem?_map,Rc] at hu;obtain ⟨a,ha,rfl⟩:=hu;have:=List.getElem?_eq_some_iff.1 ha;obtain ⟨hj,hja⟩:=this;simp at hj hja;subst hja;exact ⟨hj,rfl⟩
  have bS: ∀(j:Nat),j<n->∃c,cells[off+j]? =some c:=fun j hj=>⟨_,List.getElem?_eq_getElem (by omega)⟩
  have h1:g=false->n=1:=by
   intro e;subst e;unfold cf at hv;simp only [Rx,if_false] at hv;split at hv
   ·rename_i c hcs;have:=congrArg List.length hcs;simp at this;omega
   ·cases hv
  refine ⟨_,yr hg hn X.w b (o+off) ((List.range n).map fun j=>f (off+j)) (by simp) (fun j u hu=> ?_) h1, ?_⟩
  ·obtain ⟨hj,rfl⟩:=hget j u hu;obtain ⟨c,hcc⟩:=bS j hj;rw [RK];exact hc _ c hcc
  ·unfold cf at hv;cases g with
   |true=>
    simp only [if_true,Q9] at hv;subst hv;refine .agg (by simp;omega) (fun j c u hc' hu=> ?_);simp only [List.getElem?_toArray] at hu;obtain ⟨hj,rfl⟩:=hget j u hu;rw [List.getElem?_take,Q_ hj,List.getElem?_drop] at hc';exact hr _ c hc'
   |false=>
    obtain rfl:=h1 rfl;simp only [Rx,if_false] at hv;split at hv
    ·rename_i c hcs;simp only [Q9] at hv;subst hv;have hc0:cells[off]? =some c:=by
      have:=congrArg (fun l=>l[0]?) hcs;simpa [List.getElem?_take,List.getElem?_drop] using this
     simpa using hr off c hc0
    ·cases hv
end Go.Vm
namespace Go.Vm
theorem Dt (X:Ctx) (v:Value):Rep X (cv1 v) v:=by
 unfold cv1;split<;>first|exact .kb|exact .int|exact .str rfl|exact .nilp|exact .nils|exact .nilm|exact .nilf|exact .nili|exact .any
theorem yu (X:Ctx) (cs:Array Value):RepL X (cs.toList.map cv1) cs.toList:=
 ⟨by simp,fun j c u hc hu=>by
  rw [List.getElem?_map,hu] at hc;simp at hc;subst hc;exact Dt X u⟩
theorem RepL.agg {X:Ctx} {cs:List V} {vs:Array Value} (h:RepL X cs vs.toList):Rep X (.agg cs) (.agg vs):=
 .agg (by simpa using h.1) (fun j c u hc hu=>h.2 j c u hc (by simpa using hu))
theorem BF (X:Ctx) (v:Value):Rep X (cv v) v:=by
 unfold cv;split
 ·exact (yu X _).agg
 ·split
  ·rename_i h;exact .fn h.1 h.2 (fun _ _ _ h=>by simp at h) (fun _ _ _ h=>by simp at h)
  ·exact .any
 ·exact Dt X v
theorem ft {X:Ctx} {x:V} {v:Value} (h:Rep X x v) (hn:kP x=true):RepL X (cV x) v.cells.toList:=by
 cases h;case any=>simp [kP] at hn
 case nin=>simp [kP] at hn
 case nslc h1 h2=>exact .single (.nslc h1 h2)
 case rows f h1 h2 h3 h4=>exact .single (.rows f h1 h2 h3 h4)
 case nptr h1 h2=>exact .single (.nptr h1 h2)
 case oref h1=>rw [OK.val_cells];exact .single (.oref h1)
 case fopq S h1 h2=>rw [OK.val_cells];exact .single (.fopq S h1 h2)
 case agg h1 h2=>exact ⟨by simpa [cV,Value.cells] using h1,fun j c u hc hu=>h2 j c u hc (by simpa [Value.cells] using hu)⟩
 case kb=>exact .single .kb
 case bool=>exact .single .bool
 case int=>exact .single .int
 case str h=>exact .single (.str h)
 case nilp=>exact .single .nilp
 case nils=>exact .single .nils
 case nilm=>exact .single .nilm
 case nilf=>exact .single .nilf
 case nili=>exact .single .nili
 case errN=>exact .single .errN
 case errS=>exact .single .errS
 case bq h=>exact .single (.bq h)
 case list h1 h2=>exact .single (.list h1 h2)
 case slc h1 h2 h3=>exact .single (.slc h1 h2 h3)
 case fptr f h1 h2 h3=>exact .single (.fptr f h1 h2 h3)
 case ptr h1 h2=>exact .single (.ptr h1 h2)
 case own h1 h2 h3=>rcases h3 with rfl|rfl<;>first|exact .single (.own h1 h2 (.inl rfl))|exact .single (.own h1 h2 (.inr rfl))
 case eptr h1 h2 h3=>exact .single (.eptr h1 h2 h3)
 case fn h1 h2 h3 h4=>exact .single (.fn h1 h2 h3 h4)
 case tuple h1 h2=>exact .single (.tuple h1 h2)
 case iface h=>exact .single (.iface h)
theorem lM (X:Ctx) (z:Value):RepL X (cV (cv z)) z.cells.toList:=by
 cases hz:cv z with
 |any=>
  cases z with
  |agg cs=>simp [cv] at hz
  |_=>exact .single .any
 |nin=>cases z<;>simp [cv,cv1] at hz<;>(repeat' (split at hz))<;>simp_all
 |_=>rw [<-hz];exact ft (BF X z) (by rw [hz];rfl)
theorem RepL.one {X:Ctx} {cs:List V} {vs:List Value} (h:RepL X cs vs) (ho:cs.all Gq=true): ∀u∈vs,u.oneCell'=true:=by
 intro u hu;obtain ⟨j,hj,rfl⟩:=List.getElem_of_mem hu;have hc:cs[j]? =some (cs[j]'(by rw [<-h.1];exact hj)):=List.getElem?_eq_getElem _;exact (h.2 j _ _ hc (List.getElem?_eq_getElem hj)).one (RL.1 ho _ (List.getElem_mem _))
theorem kl {x:V} (h:(cV x).all Gq=true):kP x=true:=by
 cases x<;>first|rfl|simp [cV,Gq] at h
theorem lN {P:Program} {t:TypeId} {n:Nat} (hn:dd P t=some n) (w:World) (b o:Nat) (ty:TypeId) (cur:Array Value) (hg:w.heap[b]? =some (.cells cur ty (0,0))) (v:Value)
 (hl:v.cells.size=n) (h1: ∀u∈v.cells.toList,u.oneCell'=true) (hfit:o+n<=cur.size):
 (storeVar t ⟨b,o,none⟩ v).run P w= .ok () (w.setRow b (cur.toList.take o++v.cells.toList++cur.toList.drop (o+n)).toArray):=by
 have h:=run_storeCells_at P b o ty v.cells.toList 0 cur w hg (by simpa [hl] using hfit) h1;simp only [RR,Array.length_toList,hl] at h;simp only [storeVar,Sem.run_bind,cB hn,Result.andThen_ok,ne_eq,hl,not_true_eq_false,if_false,h]
theorem q_ {X:Ctx} {cells new:List V} {vs us:List Value} (off:Nat) (h:RepL X cells vs) (k:RepL X new us):RepL X (BA cells off new) (vs.take off++us++vs.drop (off+us.length)):=by
 unfold BA;rw [k.1];exact ((h.take off).append k).append (h.drop _)
theorem ao {o:Oper} {x:Operand} {l:List Operand} (h:o.op.operands.toList=l) (hx:x∈l):x∈o.op.operands.toList:=by rw [h];exact hx
theorem aH {P:Program} {o:Oper} {ρ:Operand->V} {σ:Store} {v:V}
 (h: ∀(X:Ctx) (ρr:Operand->Value),X.σ=σ->(∃B,Inv B X)->(∀x,x∈o.op.operands.toList->Rep X (ρ x) (ρr x))->∃u,(execOp ρr o).run P X.w= .ok (.value u) X.w/\Rep X v u):
 OpOk P o ρ σ v σ:=by
 intro B F ρr w μ hI hB hr;obtain ⟨u,h1,h2⟩:=h ⟨w,σ,μ,F⟩ ρr rfl ⟨B,hI⟩ hr;exact .val h1 ⟨μ,hI,h2,Evo.refl _⟩
section
variable {X:Ctx} {u:Value}
theorem Rep.int_inv {k:IntKind} {n:Int} (h:Rep X (.int k n) u):u= .int k n:=by cases h;rfl
theorem Rep.kb_inv {b:Bool} (h:Rep X (.kb b) u):u= .bool b:=by cases h;rfl
theorem Rep.bool_inv {b:Bool} (h:Rep X (.bool b) u):u= .bool b:=by cases h;rfl
theorem Rep.str_inv {l:List UInt8} (h:Rep X (.str l) u): ∃s:ByteArray,u= .string s/\s.data.toList=l:=by cases h;exact ⟨_,rfl,by assumption⟩
theorem Rep.nils_inv (h:Rep X .nils u):u= .slice none 0 0:=by cases h;rfl
theorem Rep.nilp_inv (h:Rep X .nilp u):u= .pointer none:=by cases h;rfl
theorem Rep.nilf_inv (h:Rep X .nilf u):u= .nilFunc:=by cases h;rfl
theorem Rep.list_inv {kd:LK} {t:Ty} {l:List t.den} (h:Rep X (.list kd t l) u): ∃A cap,u= .slice A l.length cap/\RepS X.w (X.H kd) X.G t l A l.length cap/\(kd= .full->cap=l.length):=by
 cases h with
 |list h1 h2=>
  have h0:=h1;obtain ⟨rfl,_⟩:=h1;exact ⟨_,_,rfl,h0,h2⟩
theorem Rep.fptr_inv {cells:List V} (h:Rep X (.fptr cells) u): ∃(b o:Nat) (f:Nat->Value),u= .pointer (some ⟨b,o,none⟩)/\(0<cells.length->X.T b)/\
 (∀(j:Nat) c,cells[j]? =some c->X.w.cell? ⟨b,o+j,none⟩=some (f j))/\(∀(j:Nat) c,cells[j]? =some c->Rep X c (f j)):=by
 cases h with
 |fptr f h1 h2 h3=>exact ⟨_,_,f,rfl,h1,h2,h3⟩
theorem Rep.ptr_inv {id off:Nat} (h:Rep X (.ptr id off) u): ∃cells b base C,u= .pointer (some ⟨b,base+off,none⟩)/\X.σ.get id=some (.box cells)/\X.μ id=some (b,base,C):=by
 cases h with
 |ptr h1 h2=>exact ⟨_,_,_,_,rfl,h1,h2⟩
theorem Rep.oref_inv {id:Nat} (h:Rep X (.oref id) u): ∃k d,u=OK.val k ((X.μ id).map (·.1))/\X.σ.get id=some (.opq k d):=by
 cases h with
 |oref h1=>exact ⟨_,_,rfl,h1⟩
theorem Rep.fopq_inv {k:OK} {d:k.den} (h:Rep X (.fopq k d) u): ∃o S,u=k.val o/\(o=none->k.isNil d=true)/\∀b,o=some b->k.isNil d=false/\k.holds d X.w b S/\∀c,c=b∨S c->X.T c:=by
 cases h with
 |fopq S h1 h2=>exact ⟨_,S,rfl,h1,h2⟩
theorem Rep.eptr_inv {id ep i off:Nat} (h:Rep X (.eptr id ep i off) u): ∃a ep' t l,u= .pointer (some a)/\X.σ.get id=some (.arr ep' t l)/\ep<=ep'/\
 (ep=ep'->∃b base C,X.μ id=some (b,base,C)/\a=⟨b,base+i*t.cells+off,none⟩):=by
 cases h with
 |eptr h1 h2 h3=>exact ⟨_,_,_,_,rfl,h1,h2,h3⟩
theorem Rep.nptr_inv {id i off:Nat} (h:Rep X (.nptr id i off) u): ∃iv t f h l b base C,u= .pointer (some ⟨b,base+i*t.cells+off,none⟩)/\X.σ.get id=some (.nest iv t f h l)/\X.μ id=some (b,base,C):=by
 cases h with
 |nptr h1 h2=>exact ⟨_,_,_,_,_,_,_,_,rfl,h1,h2⟩
theorem Rep.rows_inv {n:Nat} {cells:List V} (h:Rep X (.rows n cells) u): ∃(A:Option Addr) (len cap:Nat) (f:Nat->Value),u= .slice A len cap/\len*n=cells.length/\len<=cap/\
 (0<cells.length->∃b o,A=some ⟨b,o,none⟩/\X.G b/\∀(j:Nat) c,cells[j]? =some c->X.w.cell? ⟨b,o+j,none⟩=some (f j))/\(∀(j:Nat) c,cells[j]? =some c->Rep X c (f j)):=by
 cases h with
 |rows f h1 h2 h3 h4=>exact ⟨_,_,_,f,rfl,h1,h2,h3,h4⟩
theorem Rep.rows_re {X':Ctx} {n:Nat} {cells cs:List V} (h:Rep X (.rows n cells) u) (hl: ∀us,RepL X cells us->RepL X' cs us) (hG: ∀b,X.G b->X'.G b/\X'.w.heap[b]? =X.w.heap[b]?):Rep X' (.rows n cs) u:=by
 obtain ⟨A,len,cap,f,rfl,h1,h2,h3,h4⟩:=h.rows_inv;have hr:=hl ((List.range cells.length).map f) ⟨by simp,fun j c x hj hx=>by
  simp only [List.getElem?_map,Rc] at hx;obtain ⟨a,ha,rfl⟩:=hx;obtain ⟨q1,q2⟩:=List.getElem?_eq_some_iff.1 ha;simp at q2;subst q2;exact h4 _ c hj⟩
 have hlen:cs.length=cells.length:=by have:=hr.1;simp at this;omega
 have get: ∀{j:Nat} {c:V},cs[j]? =some c->j<cells.length/\Rep X' c (f j):=by
  intro j c hj;have hj':j<cells.length:=by rw [<-hlen];exact (List.getElem?_eq_some_iff.1 hj).1
  refine ⟨hj',hr.2 j c (f j) hj ?_⟩;simp [hj']
 refine .rows f (by rw [hlen];exact h1) h2 (fun h0=> ?_) (fun j c hj=>(get hj).2);obtain ⟨b,o,e,hb,hc⟩:=h3 (by omega);refine ⟨b,o,e,(hG b hb).1,fun j c hj=> ?_⟩;rw [dO (hG b hb).2];exact hc j _ (List.getElem?_eq_getElem (get hj).1)
theorem Rep.slc_inv {id ep:Nat} {rng:Option (Nat×Nat)} (h:Rep X (.slc id ep rng) u): ∃A len cap ep' t l,u= .slice A len cap/\X.σ.get id=some (.arr ep' t l)/\ep<=ep'/\
 (ep=ep'->Hdr (X.μ id) t l.length rng A len cap):=by
 cases h with
 |slc h1 h2 h3=>exact ⟨_,_,_,_,_,_,rfl,h1,h2,h3⟩
theorem Rep.agg_inv {cs:List V} (h:Rep X (.agg cs) u): ∃vs:Array Value,u= .agg vs/\RepL X cs vs.toList:=by
 cases h with
 |agg h1 h2=>exact ⟨_,rfl,by simpa using h1,fun j c u hc hu=>h2 j c u hc (by simpa using hu)⟩
theorem Rep.tuple_inv {cs:List V} (h:Rep X (.tuple cs) u): ∃vs:Array Value,u= .tuple vs/\RepL X cs vs.toList:=by
 cases h with
 |tuple h1 h2=>exact ⟨_,rfl,by simpa using h1,fun j c u hc hu=>h2 j c u hc (by simpa using hu)⟩
theorem Rep.fn_inv {f:Fn} {a b:List V} (h:Rep X (.fn f a b) u): ∃vs ws:Array Value,u= .func f vs ws/\RepL X a vs.toList/\RepL X b ws.toList:=by
 cases h with
 |fn h1 h2 h3 h4=>exact ⟨_,_,rfl,⟨by simpa using h1,fun j c u hc hu=>h3 j c u hc (by simpa using hu)⟩,⟨by simpa using h2,fun j c u hc hu=>h4 j c u hc (by simpa using hu)⟩⟩
end
theorem Oh {P:Program} {o:Oper} {t:TypeId} {a:Operand} (ho:o.op= .load t a) {ρ:Operand->V} {σ:Store} {k:K} (h:tc P t (ρ a) σ k):
 ∃v σ',k v σ'/\OpOk P o ρ σ v σ':=by
 have hops:o.op.operands.toList=[a]:=by rw [ho];rfl
 have run: ∀(ρr:Operand->Value) (w:World) (ad:Addr) (u:Value),ρr a= .pointer (some ad)->(loadVar t ad).run P w= .ok u w->(execOp ρr o).run P w= .ok (.value u) w:=by
  intro ρr w ad u h1 h2;simp [execOp,ho,h1,Instr.loadAt,Instr.sureAddr,h2]
 unfold tc at h;split at h
 ·rename_i g n hg hn;split at h
  ·rename_i cells ha;split at h
   ·rename_i v hv;refine ⟨v,σ,h,aH fun X ρr _ _ hr=> ?_⟩;have hra:=hr a (ao hops (by simp));rw [ha] at hra;obtain ⟨b,o',f,e,_,hc,hrc⟩:=hra.fptr_inv;obtain ⟨u',h1,h2⟩:=gW (X:=X) hg hn hv (b:=b) (o:=o') f hc hrc;exact ⟨u',run ρr X.w _ u' e h1,h2⟩
   ·exact h.elim
  ·rename_i id off ha;split at h
   ·rename_i cells hget;split at h
    ·rename_i v hv;refine ⟨v,σ,h,aH fun X ρr hσ hI hr=> ?_⟩;have hra:=hr a (ao hops (by simp));rw [ha] at hra;obtain ⟨cells',b,base,C,e,hg',hm⟩:=hra.ptr_inv;obtain ⟨B,hI⟩:=hI;subst hσ;rw [hget] at hg';cases hg';obtain ⟨b',cs,ty,k1,k2,k3⟩:=hI.objs id _ hget;rw [hm] at k1;cases k1;obtain ⟨u',h1,h2⟩:=gW (X:=X) hg hn hv (b:=b) (o:=0) (fun j=>cs.getD j undef)
      (fun j c hj=>by
       have hlt:j<cs.toList.length:=by rw [k3.1];exact (List.getElem?_eq_some_iff.1 hj).1
       simp at hlt;simp [World.cell?,k2,hlt])
      (fun j c hj=>by
       have hlt:j<cs.toList.length:=by rw [k3.1];exact (List.getElem?_eq_some_iff.1 hj).1
       have:=k3.2 j c _ hj (List.getElem?_eq_getElem hlt);simp at hlt;simpa [hlt] using this)
     exact ⟨u',run ρr X.w _ u' e h1,h2⟩
    ·exact h.elim
   ·exact h.elim
  ·rename_i id ep i off ha;split at h
   ·rename_i ep' t' l hget;split at h
    ·rename_i hep;obtain ⟨hi,h⟩:=h;have hx:nth l i=some (l[i]'hi):=List.getElem?_eq_getElem hi;have h:=h _ hx;generalize l[i]'hi=x at hx h;split at h
     ·rename_i v hv;refine ⟨v,σ,h,aH fun X ρr hσ hI hr=> ?_⟩;have hra:=hr a (ao hops (by simp));rw [ha] at hra;obtain ⟨ad,ep2,t2,l2,e,hg',_,hcur⟩:=hra.eptr_inv;obtain ⟨B,hI⟩:=hI;subst hσ;rw [hget] at hg';cases hg';obtain ⟨b,base,C,hm,rfl⟩:=hcur hep;have hob:=hI.objs id _ hget;rcases hob with ⟨k1,_⟩|⟨b',base',C',cs,ty,k1,k2,k3,k4,k5,k6⟩
      ·rw [hm] at k1;cases k1
      ·rw [hm] at k1;cases k1;obtain ⟨row,r1,r2⟩:=k6 i x hx;have hrow:=ik (X:=X) r1;obtain ⟨u',h1,h2⟩:=gW (X:=X) hg hn hv (b:=b) (o:=base+i*t'.cells) (fun j=>row.getD j undef)
        (fun j c hj=>by
         have hlt:j<row.length:=by rw [hrow.1];exact (List.getElem?_eq_some_iff.1 hj).1
         have:=r2 j _ (List.getElem?_eq_getElem hlt);simp [World.cell?,k2,this,hlt])
        (fun j c hj=>by
         have hlt:j<row.length:=by rw [hrow.1];exact (List.getElem?_eq_some_iff.1 hj).1
         have:=hrow.2 j c _ hj (List.getElem?_eq_getElem hlt);simpa [hlt] using this)
       exact ⟨u',run ρr X.w _ u' e h1,h2⟩
     ·exact h.elim
    ·exact h.elim
   ·exact h.elim
  ·exact h.elim
 ·exact h.elim
theorem eC {α:Type} (cs vs:List α) (o n:Nat) (hn:vs.length=n) (hfit:o+n<=cs.length) (p:Nat):
 (cs.take o++vs++cs.drop (o+n))[p]? =if p<o then cs[p]? else if p<o+n then vs[p-o]? else cs[p]? :=by
 have ht:(cs.take o).length=o:=by simp;omega
 by_cases h1:p<o
 ·rw [Q_ h1,RA,List.getElem?_append_left (by omega),List.getElem?_take,Q_ h1]
 ·rw [Q8 h1,RA,List.getElem?_append_right (by omega),ht];by_cases h2:p<o+n
  ·rw [Q_ h2,List.getElem?_append_left (by omega)]
  ·rw [Q8 h2,List.getElem?_append_right (by omega),hn,List.getElem?_drop];congr 1;omega
theorem yv {P:Program} {o:Oper} {t:TypeId} {a x:Operand} (ho:o.op= .store t a x) {ρ:Operand->V} {σ:Store} {k:K} (h:gu P t (ρ a) (ρ x) σ k):
 ∃v σ',k v σ'/\OpOk P o ρ σ v σ':=by
 have hops:o.op.operands.toList=[a,x]:=by rw [ho];rfl
 have run: ∀(ρr:Operand->Value) (w w':World) (ad:Addr),ρr a= .pointer (some ad)->(storeVar t ad (ρr x)).run P w= .ok () w'->(execOp ρr o).run P w= .ok .skip w':=by
  intro ρr w w' ad h1 h2;simp [execOp,ho,h1,Instr.storeAt,Instr.sureAddr,h2]
 unfold gu at h;split at h
 ·rename_i n hn;split at h
  ·rename_i hc;obtain ⟨hcl,hone⟩:=hc;split at h
   ·rename_i id off ha;split at h
    ·rename_i cells hget;split at h
     ·rename_i hfit;refine ⟨_,_,h,fun B F ρr w μ hI hB hr=> ?_⟩;have hra:=hr a (ao hops (by simp));rw [ha] at hra;have hrx:=ft (hr x (ao hops (by simp))) (kl hone);obtain ⟨cells',b,base,C,e,hg',hm⟩:=hra.ptr_inv;have hg2:Store.get σ id=some (.box cells'):=hg';rw [hget] at hg2;cases hg2;obtain ⟨b',cs,ty,k1,k2,k3⟩:=hI.objs id _ hget;have k1':μ id=some (b',0,ty):=k1;have hm':μ id=some (b,base,C):=hm;rw [hm'] at k1';cases k1';have hvl:(ρr x).cells.size=n:=by have:=hrx.1;simp at this;omega
      have hfit2:0+off+n<=cs.size:=by have:=k3.1;simp at this;omega
      have hst:=lN (P:=P) hn w b (0+off) C cs k2 (ρr x) hvl (hrx.one hone) hfit2;generalize harr:(cs.toList.take (0+off)++(ρr x).cells.toList++cs.toList.drop (0+off+n)).toArray=arr at hst;have key:=dE hI hB (id:=id) (o':= .box (BA cells off (cV (ρ x)))) (p':=μ id) (w':=w.setRow b arr) rfl rfl rfl (by simp)
       (fun b2 _ hne=>setRow_other w b b2 arr (fun e=>hne _ _ hget hm' e.symm))
       (fun q hq=> .inr ⟨_,_,hget,hm',by rw [hm'] at hq;cases hq;rfl⟩)
       (fun c _=>⟨⟨_,rfl⟩,rfl⟩)
       (fun ep t l hg=>by have hg3:Store.get σ id=some (.arr ep t l):=hg;rw [hget] at hg3;cases hg3)
       (fun hE=>⟨b,_,C,by simpa using hm',setRow_heap w b cs _ C (0,0) k2,by
        have h1:=q_ (X:=⟨w,σ,μ,F⟩) off k3 hrx;have h2:(ρr x).cells.toList.length=n:=by simpa using hvl
        rw [h2] at h1;have h3:arr.toList=cs.toList.take off++(ρr x).cells.toList++cs.toList.drop (off+n):=by rw [<-harr];simp
        rw [h3];exact h1.evo hE⟩)
      exact .skip (run ρr w _ _ e hst) ⟨_,key.2, .any,key.1⟩
     ·exact h.elim
    ·exact h.elim
   ·rename_i id ep i off ha;split at h
    ·rename_i ep' t' l hget;split at h
     ·rename_i hep;obtain ⟨hep,hin⟩:=hep;obtain ⟨hi,h⟩:=h;have hx:nth l i=some (l[i]'hi):=List.getElem?_eq_getElem hi;have h:=h _ hx;generalize l[i]'hi=y at hx h;split at h
      ·rename_i z hz;refine ⟨_,_,h,fun B F ρr w μ hI hB hr=> ?_⟩;have hra:=hr a (ao hops (by simp));rw [ha] at hra;have hrx:=ft (hr x (ao hops (by simp))) (kl hone);obtain ⟨ad,ep2,t2,l2,e,hg',_,hcur⟩:=hra.eptr_inv;have hg2:Store.get σ id=some (.arr ep2 t2 l2):=hg';rw [hget] at hg2;cases hg2;obtain ⟨b,base,C,hm,rfl⟩:=hcur hep;have hm':μ id=some (b,base,C):=hm;have hob:=hI.objs id _ hget;rcases hob with ⟨k1,_⟩|⟨b',base',C',cs,ty,k1,k2,k3,k4,k5,k6⟩
       ·have k1':μ id=none:=k1;rw [hm'] at k1';cases k1'
       ·have k1':μ id=some (b',base',C'):=k1;rw [hm'] at k1';cases k1';obtain ⟨row,r1,r2⟩:=k6 i y hx;have hrow:=ik (X:=⟨w,σ,μ,F⟩) r1;have hvl:(ρr x).cells.size=n:=by have:=hrx.1;simp at this;omega
        have hvl2:(ρr x).cells.toList.length=n:=by simpa using hvl
        have hsz:=r1.len;have hiC:i<C:=by omega
        have hmul:(i+1)*t'.cells<=C*t'.cells:=RN _ hiC;have hmul2:(i+1)*t'.cells=i*t'.cells+t'.cells:=by rw [RO,Sx]
        have hfit:base+i*t'.cells+off+n<=cs.size:=by omega
        have hst:=lN (P:=P) hn w b (base+i*t'.cells+off) ty cs k2 (ρr x) hvl (hrx.one hone) hfit;generalize harr:(cs.toList.take (base+i*t'.cells+off)++(ρr x).cells.toList++cs.toList.drop (base+i*t'.cells+off+n)).toArray=arr at hst;have harr2: ∀p:Nat,arr[p]? =if p<base+i*t'.cells+off then cs[p]? else if p<base+i*t'.cells+off+n then (ρr x).cells.toList[p-(base+i*t'.cells+off)]? else cs[p]? :=by
         intro p;have:=eC cs.toList (ρr x).cells.toList (base+i*t'.cells+off) n hvl2 (by simpa using hfit) p;rw [<-harr];simpa using this
        have hasz:arr.size=cs.size:=by rw [<-harr];simp;omega
        have hover:=q_ (X:=⟨w,σ,μ,F⟩) off hrow hrx;have hzr:=q9 hz hover;rw [hvl2] at hzr;have key:=dE hI hB (id:=id) (o':= .arr ep' t' (List.set l i z)) (p':=μ id) (w':=w.setRow b arr) rfl rfl rfl (by simp)
         (fun b2 _ hne=>setRow_other w b b2 arr (fun e=>hne _ _ hget hm' e.symm))
         (fun q hq=> .inr ⟨_,_,hget,hm',by rw [hm'] at hq;cases hq;rfl⟩)
         (fun c hg=>by have hg3:Store.get σ id=some (.box c):=hg;rw [hget] at hg3;cases hg3)
         (fun ep t l3 hg=>by
          have hg3:Store.get σ id=some (.arr ep t l3):=hg;rw [hget] at hg3;cases hg3;exact ⟨_,_,rfl,Rf _,fun _=>⟨rfl,List.length_set⟩⟩)
         (fun hE=> .inr ⟨b,base,C,_,ty,by simpa using hm',setRow_heap w b cs _ ty (0,0) k2,by rw [hasz];exact k3,by rw [List.length_set];exact k4,k5,fun j w0 hj=>by
          by_cases hji:i=j
          ·subst hji;have hzj:w0=z:=by
            have:(List.set l i z)[i]? =some z:=by simp [hi]
            exact (Option.some.inj (this.symm.trans hj)).symm
           subst hzj;refine ⟨_,hzr.keep hE.good,fun jj u hu=> ?_⟩;rw [eC _ _ off n hvl2 (by omega)] at hu;rw [harr2];split at hu
           ·rw [Q_ (by omega)];have:=r2 jj u hu;simpa using this
           ·rw [Q8 (by omega)];split at hu
            ·rw [Q_ (by omega)];rw [show base+i*t'.cells+jj-(base+i*t'.cells+off)=jj-off by omega];exact hu
            ·rw [Q8 (by omega)];have:=r2 jj u hu;simpa using this
          ·have hj':nth (α:=t'.den) l j=some w0:=by
            have:(List.set l i z)[j]? =l[j]? :=List.getElem?_set_ne hji;exact this.symm.trans hj
           obtain ⟨row2,q1,q2⟩:=k6 j w0 hj';refine ⟨row2,q1.keep hE.good,fun jj u hu=> ?_⟩;have hjl:=q1.len;have hlt:jj<row2.length:=(List.getElem?_eq_some_iff.1 hu).1;have hc:=q2 jj u hu;rw [harr2];rcases Nat.lt_or_gt_of_ne hji with hlt2|hgt
           ·have:(i+1)*t'.cells<=j*t'.cells:=RN _ hlt2;rw [Q8 (by omega),Q8 (by omega)];simpa using hc
           ·have h3:(j+1)*t'.cells<=i*t'.cells:=RN _ hgt;have h4:(j+1)*t'.cells=j*t'.cells+t'.cells:=by rw [RO,Sx]
            rw [Q_ (by omega)];simpa using hc⟩)
        exact .skip (run ρr w _ _ e hst) ⟨_,key.2, .any,key.1⟩
      ·exact h.elim
     ·exact h.elim
    ·exact h.elim
   ·exact h.elim
  ·exact h.elim
 ·exact h.elim
theorem BG {B:Nat->Prop} {w:World} {σ:Store} {μ:Mu} {F:Fr} {id ep:Nat} {t:Ty} {l:List t.den} {u:Value} (hI:Inv B ⟨w,σ,μ,F⟩) (hB: ∀b,w.heap.size<=b->B b) (hg:σ.get id=some (.arr ep t l))
 (hr:Rep ⟨w,σ,μ,F⟩ (.slc id ep none) u): ∃μ',Inv B ⟨w,(id, .arr (ep+1) t [])::σ,μ',F⟩/\Rep ⟨w,(id, .arr (ep+1) t [])::σ,μ',F⟩ (.list .part t l) u/\Evo ⟨w,σ,μ,F⟩ ⟨w,(id, .arr (ep+1) t [])::σ,μ',F⟩:=by
 have key:=dE hI hB (id:=id) (o':= .arr (ep+1) t []) (p':=none) (w':=w) rfl rfl rfl (Rf _)
  (fun b2 _ hne=>rfl)
  (fun q hq=>by cases hq)
  (fun c hg'=>by have hg':σ.get id=_:=hg';rw [hg] at hg';cases hg')
  (fun ep1 t1 l1 hg'=>by have hg':σ.get id=_:=hg';rw [hg] at hg';cases hg';exact ⟨_,_,rfl,by omega,fun e=>by omega⟩)
  (fun hE=> .inl ⟨by simp,rfl⟩) rfl (by show cU (σ.get id)=false;rw [hg];rfl)
 refine ⟨_,key.2, ?_,key.1⟩;obtain ⟨A,len,cap,ep2,t2,l2,rfl,hg2,hle,hcur⟩:=hr.slc_inv;have hg2':σ.get id=some (.arr ep2 t2 l2):=hg2;rw [hg] at hg2';cases hg2';have hh:=hcur rfl;have hO:=hI.objs id _ hg;rcases hO with ⟨k1,k2⟩|⟨b,base,C,cs,ty,k1,k2,k3,k4,k5,k6⟩
 ·have k1':μ id=none:=k1;rw [show Ctx.μ ⟨w,σ,μ,F⟩ id=none from k1'] at hh;obtain ⟨rfl,rfl,_⟩:=hh;exact .list ⟨k2.symm,Rf _,fun h=>absurd h (RY _)⟩ (fun h=>by cases h)
 ·have k1':μ id=some (b,base,C):=k1;rw [show Ctx.μ ⟨w,σ,μ,F⟩ id=_ from k1'] at hh;obtain ⟨rfl,rfl,hC,a,rfl,ha⟩:=hh;refine .list ⟨rfl,hC,fun h0=> ?_⟩ (fun h=>by cases h);have hbk:Blk ⟨w,σ,μ,F⟩ id (.arr ep t l) b:= .top k1;refine ⟨b,base,by rw [ha (by omega)],⟨⟨⟨(Array.getElem?_eq_some_iff.1 k2).1,fun j o hj hk=> ?_⟩,hI.hid b (hI.baseB id _ b hg hbk)⟩,fun _=>hI.own b (hI.baseB id _ b hg hbk)⟩,fun i x hx=> ?_⟩
  ·by_cases hji:j=id
   ·subst hji;obtain ⟨p,hp,_⟩:=hk;simp at hp
   ·have hj':σ.get j=some o:=by
     simp only [a7] at hj;rwa [Q8 (fun e=>hji e.symm)] at hj
    exact hji (hI.injB j id o _ b hj' hg (Blk.move (X:=⟨w,σ,μ,F⟩) (X':=⟨w,(id, .arr (ep+1) t [])::σ,fun i=>if i=id then none else μ i,F⟩) (id:=j) (id':=j) (by show (if j=id then none else μ j)=μ j;rw [Q8 hji]) (fun p hm=>rfl) hk) hbk)
  ·obtain ⟨row,r1,r2⟩:=k6 i x hx;exact ⟨row,r1.keep key.1.good,fun j v hv=>by
    have:=r2 j v hv;simpa [World.cell?,k2] using this⟩
theorem Gw {P:Program} {o:Oper} {t:TypeId} {a x:Operand} (ho:o.op= .store t a x) {ρ:Operand->V} {σ:Store} {k:K} (h:mZ P t (ρ a) (ρ x) σ k):
 ∃v σ',k v σ'/\OpOk P o ρ σ v σ':=by
 have hops:o.op.operands.toList=[a,x]:=by rw [ho];rfl
 unfold mZ at h;split at h
 ·rename_i id1 ep1 i off id ep ha hx;split at h
  ·rename_i ep' ty l hg;split at h
   ·rename_i hep;subst hep;have hax:a≠x:=fun e=>by rw [e,hx] at ha;cases ha
    haveI:DecidableEq Operand:=Classical.typeDecidableEq Operand;let ρ':Operand->V:=fun y=>if y=a then ρ a else if y=x then .list .part ty l else .any
    have e1:ρ' a= .eptr id1 ep1 i off:=by simp [ρ',ha]
    have e2:ρ' x= .list .part ty l:=by simp [ρ',Ne.symm hax]
    obtain ⟨v,σ',hk,hok⟩:=yv ho (ρ:=ρ') (σ:=(id, .arr (ep+1) ty [])::σ) (k:=k) (by rw [e1,e2];exact h);refine ⟨v,σ',hk,fun B F ρr w μ hI hB hr=> ?_⟩;have hra:=hr a (ao hops (by simp));have hrx:=hr x (ao hops (by simp));rw [hx] at hrx;obtain ⟨μ1,i1,r1,v1⟩:=BG hI hB hg hrx;have hfin:=hok B F ρr w μ1 i1 hB fun y hy=>by
     rw [hops] at hy;simp only [Rp,Sj,or_false] at hy;rcases hy with rfl|rfl
     ·rw [e1,<-ha];exact hra.evo v1
     ·rw [e2];exact r1
    unfold OpRuns at hfin⊢;split at hfin
    ·obtain ⟨μ',q1,q2,q3⟩:=hfin;exact ⟨μ',q1,q2,v1.trans q3⟩
    ·obtain ⟨μ',q1,q2,q3⟩:=hfin;exact ⟨μ',q1,q2,v1.trans q3⟩
    ·refine hfin.mono ?_;rintro e w' ⟨u,he,μ',q1,q2,q3⟩;exact ⟨u,he,μ',q1,q2,v1.trans q3⟩
    ·exact hfin
   ·exact h.elim
  ·exact h.elim
 ·exact yv ho h
theorem ea {σ:Store} {id:Nat} (h:cu σ id=true):σ.get id=none:=by
 unfold cu at h;split at h
 ·assumption
 ·cases h
theorem vh {B:Nat->Prop} {w:World} {σ:Store} {μ:Mu} {F:Fr} (hI:Inv B ⟨w,σ,μ,F⟩) (hB: ∀b,w.heap.size<=b->B b) {id:Nat} (hid:cu σ id=true) {o':Obj} {p':Option (Nat×Nat×Nat)} {w':World}
 (hos:w'.os=w.os) (ht:w'.tape=w.tape) (ho:w'.output=w.output) (hs:w.heap.size<=w'.heap.size) (di: ∀b,b<w.heap.size->w'.heap[b]? =w.heap[b]?)
 (hp: ∀q,p'=some q->w.heap.size<=q.1)
 (hok:Evo ⟨w,σ,μ,F⟩ ⟨w',(id,o')::σ,fun i=>if i=id then p' else μ i,F⟩->ObjOk ⟨w',(id,o')::σ,fun i=>if i=id then p' else μ i,F⟩ id o') (hn1:cU (some o')=false:=by rfl):
 Evo ⟨w,σ,μ,F⟩ ⟨w',(id,o')::σ,fun i=>if i=id then p' else μ i,F⟩/\Inv B ⟨w',(id,o')::σ,fun i=>if i=id then p' else μ i,F⟩:=by
 have h0:=ea hid;exact dE hI hB hos ht ho hs (fun b hb _=>di b hb) (fun q hq=> .inl (hp q hq))
  (fun c hg=>by have hg3:Store.get σ id=some (.box c):=hg;rw [h0] at hg3;cases hg3)
  (fun ep t l hg=>by have hg3:Store.get σ id=some (.arr ep t l):=hg;rw [h0] at hg3;cases hg3) hok hn1 (by show cU (σ.get id)=false;rw [h0];rfl)
theorem tj {B:Nat->Prop} {w:World} {σ:Store} {μ:Mu} {F:Fr} (hI:Inv B ⟨w,σ,μ,F⟩) (hB: ∀b,w.heap.size<=b->B b) {id:Nat} (hid:cu σ id=true) (ty:TypeId) {cs:List V} {vs:Array Value}
 (hr:RepL ⟨w,σ,μ,F⟩ cs vs.toList):
 ∃μ',Inv B ⟨w.alloc (.cells vs ty),(id, .box cs)::σ,μ',F⟩/\Rep ⟨w.alloc (.cells vs ty),(id, .box cs)::σ,μ',F⟩ (.ptr id 0) (.pointer (some ⟨w.heap.size,0,none⟩))/\
  Evo ⟨w,σ,μ,F⟩ ⟨w.alloc (.cells vs ty),(id, .box cs)::σ,μ',F⟩:=by
 have key:=vh hI hB hid (o':= .box cs) (p':=some (w.heap.size,0,ty)) (w':=w.alloc (.cells vs ty)) rfl rfl rfl (by simp) (fun b hb=>heap_alloc_old w _ hb)
  (fun q hq=>by cases hq;exact Rf _)
  (fun hE=>⟨w.heap.size,vs,ty,by simp,heap_alloc_new w _,hr.evo hE⟩)
 exact ⟨_,key.2, .ptr (cells:=cs) (C:=ty) (base:=0) (by simp [a7]) (by simp),key.1⟩
theorem KZ {P:Program} {o:Oper} {t:TypeId} (ho:o.op= .alloc t) {ρ:Operand->V} {σ:Store} {k:K} {id:Nat} (h:m0 P t id σ k):
 ∃v σ',k v σ'/\OpOk P o ρ σ v σ':=by
 unfold m0 at h;split at h
 ·rename_i i hi;split at h
  ·rename_i z hz;split at h
   ·rename_i hf;refine ⟨_,_,h,fun B F ρr w μ hI hB hr=> ?_⟩;refine .val (w':=w.alloc (.cells z.cells t)) (u:= .pointer (some ⟨w.heap.size,0,none⟩)) ?_ (tj hI hB hf t (lM _ z));simp [execOp,ho,Instr.alloc,zeroValue,typeInfo,hi,hz,newVar,newRow,newObj,Sem.run]
   ·exact h.elim
  ·exact h.elim
 ·exact h.elim
theorem Gx {B:Nat->Prop} {w:World} {σ:Store} {μ:Mu} {F:Fr} (hI:Inv B ⟨w,σ,μ,F⟩) (hB: ∀b,w.heap.size<=b->B b) {id:Nat} (hid:cu σ id=true) (ty:TypeId) {cs:List V} {vs:Array Value}
 (hr:RepL ⟨w,σ,μ,F⟩ (.nilp::cs) vs.toList):
 ∃μ',Inv B ⟨w.alloc (.cells vs ty),(id, .box (.own id ty::cs))::σ,μ',F⟩/\Rep ⟨w.alloc (.cells vs ty),(id, .box (.own id ty::cs))::σ,μ',F⟩ (.ptr id 0) (.pointer (some ⟨w.heap.size,0,none⟩))/\
  Evo ⟨w,σ,μ,F⟩ ⟨w.alloc (.cells vs ty),(id, .box (.own id ty::cs))::σ,μ',F⟩:=by
 have key:=vh hI hB hid (o':= .box (.own id ty::cs)) (p':=some (w.heap.size,0,ty)) (w':=w.alloc (.cells vs ty)) rfl rfl rfl (by simp) (fun b hb=>heap_alloc_old w _ hb)
  (fun q hq=>by cases hq;exact Rf _)
  (fun hE=>⟨w.heap.size,vs,ty,by simp,heap_alloc_new w _,by
   obtain ⟨u,us,e,h1,h2⟩:=hr.cons_inv;rw [e];refine .cons ?_ (RepL.evo hE h2);rw [h1.nilp_inv];exact .own (cells:= .own id ty::cs) (b:=w.heap.size) (by simp [a7]) (by simp) (.inl rfl)⟩)
 exact ⟨_,key.2, .ptr (cells:= .own id ty::cs) (C:=ty) (base:=0) (by simp [a7]) (by simp),key.1⟩
theorem Gy {P:Program} {o:Oper} {t:TypeId} (ho:o.op= .alloc t) {ρ:Operand->V} {σ:Store} {k:K} {id:Nat} (h:m7 P t id σ k):
 ∃v σ',k v σ'/\OpOk P o ρ σ v σ':=by
 unfold m7 at h;split at h
 ·rename_i i hi;split at h
  ·rename_i z hz;split at h
   ·rename_i r hc;split at h
    ·rename_i hf;refine ⟨_,_,h,fun B F ρr w μ hI hB hr=> ?_⟩;refine .val (w':=w.alloc (.cells z.cells t)) (u:= .pointer (some ⟨w.heap.size,0,none⟩)) ?_ (Gx hI hB hf t (by rw [<-hc];exact lM _ z));simp [execOp,ho,Instr.alloc,zeroValue,typeInfo,hi,hz,newVar,newRow,newObj,Sem.run]
    ·exact h.elim
   ·exact h.elim
  ·exact h.elim
 ·exact h.elim
theorem Qh {P:Program} {o:Oper} {t:TypeId} {x:Operand} (ho:o.op= .box t x) {ρ:Operand->V} {σ:Store} {k:K} {id:Nat} (h:Gr id (ρ x) σ k):
 ∃v σ',k v σ'/\OpOk P o ρ σ v σ':=by
 unfold Gr at h;split at h
 ·rename_i hf;refine ⟨_,_,h,fun B F ρr w μ hI hB hr=> ?_⟩;have hrx:=ft (hr x (by rw [ho];simp [Op.operands])) hf.2;refine .val (w':=w.alloc (.cells (ρr x).cells t)) (u:= .pointer (some ⟨w.heap.size,0,none⟩)) ?_ (tj hI hB hf.1 t hrx);simp [execOp,ho,Instr.box,newVar,newRow,newObj,Sem.run]
 ·exact h.elim
end Go.Vm
