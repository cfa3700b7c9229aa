/-
  The engine, part 3: data and cells; a thing of the store that is put; loads and stores.
  The engine, part 3b: nests: a row's list is taken out, and put in.
  The engine, part 4: what the operations on values and memory do is what part 2 says of them.
-/
import Derived.Test.YtabicbgeoiilmaaGreatDoorVmA
namespace Go.Vm
theorem RepL.nil {X:Ctx}:RepL X [] []:=⟨rfl,fun _ _ _ h=>by simp at h⟩
theorem RepL.single {X:Ctx} {c:V} {v:Value} (h:Rep X c v):RepL X [c] [v]:=
 ⟨rfl,fun j c' u hc hu=>by
  cases j with
  |zero=>simp at hc hu;subst hc;subst hu;exact h
  |succ j=>simp at hc⟩
theorem RepL.append {X:Ctx} {cs ds:List V} {vs us:List Value} (h:RepL X cs vs) (k:RepL X ds us):RepL X (cs++ds) (vs++us):=by
 refine ⟨by simp [h.1,k.1],fun j c u hc hu=> ?_⟩;rcases Nat.lt_or_ge j cs.length with hl|hl
 ·rw [List.getElem?_append_left hl] at hc;rw [List.getElem?_append_left (by rw [h.1];exact hl)] at hu;exact h.2 j c u hc hu
 ·rw [List.getElem?_append_right hl] at hc;rw [List.getElem?_append_right (by rw [h.1];exact hl),h.1] at hu;exact k.2 _ c u hc hu
theorem RepL.drop {X:Ctx} {cs:List V} {vs:List Value} (h:RepL X cs vs) (n:Nat):RepL X (cs.drop n) (vs.drop n):=
 ⟨by simp [h.1],fun j c u hc hu=>h.2 (n+j) c u (by simpa using hc) (by simpa using hu)⟩
theorem RepL.take {X:Ctx} {cs:List V} {vs:List Value} (h:RepL X cs vs) (n:Nat):RepL X (cs.take n) (vs.take n):=
 ⟨by simp [h.1],fun j c u hc hu=>by
  rw [List.getElem?_take] at hc hu;split at hc
  ·rename_i hj;simp only [hj,if_true] at hu;exact h.2 j c u hc hu
  ·cases hc⟩
theorem RepL.cons_inv {X:Ctx} {c:V} {cs:List V} {vs:List Value} (h:RepL X (c::cs) vs): ∃v us,vs=v::us/\Rep X c v/\RepL X cs us:=by
 cases vs with
 |nil=>simp [RepL] at h
 |cons v us=>
  refine ⟨v,us,rfl,h.2 0 c v (by simp) (by simp),by simpa using h.1,fun j c u hc hu=>h.2 (j+1) c u (by simpa using hc) (by simpa using hu)⟩
theorem RepL.cons {X:Ctx} {c:V} {v:Value} {cs:List V} {vs:List Value} (h:Rep X c v) (k:RepL X cs vs):RepL X (c::cs) (v::vs):=
 (RepL.single h).append k
theorem RepL.nil_inv {X:Ctx} {vs:List Value} (h:RepL X [] vs):vs=[]:=List.eq_nil_of_length_eq_zero h.1
theorem enc_rep {X:Ctx}: ∀{t:Ty} {x:t.den} {cs:List Value},RepC X.w X.G t x cs->RepL X (enc t x) cs
 | .bool,x,_,h=>by simp only [RepC] at h;subst h;exact .single .bool
 | .int k,x,_,h=>by simp only [RepC] at h;subst h;exact .single .int
 | .str,x,_,h=>by obtain ⟨s,rfl,hs⟩:=h;exact .single (.str hs)
 | .slice t,x,_,h=>by
  have h0:=h;obtain ⟨A,cap,rfl,_⟩:=h;have h1:=RepC.toS (l:=x) h0;exact .single (.list (l:=x) (h1.keep (fun b hb=>⟨hb,rfl⟩) (fun b hb=>⟨⟨hb.1,fun _=>hb.2⟩,rfl⟩)) (fun e=>by cases e))
 | .pair a b,x,_,h=>by
  obtain ⟨c1,c2,rfl,h1,h2⟩:=h;exact (enc_rep h1).append (enc_rep h2)
theorem enc_len: ∀(t:Ty) (x:t.den),(enc t x).length=t.cells
 | .bool,_| .int _,_| .str,_| .slice _,_=>rfl
 | .pair a b,x=>by simp only [enc,List.length_append,Ty.cells,enc_len a,enc_len b]
theorem decBool_rep {X:Ctx} {cs:List V} {x:Bool} {r:List V} {vs:List Value} (h:decBool cs=some (x,r)) (hr:RepL X cs vs):
 ∃v1 v2,vs=v1++v2/\RepC X.w X.G .bool x v1/\RepL X r v2:=by
 unfold decBool at h;split at h<;>simp at h;all_goals
  obtain ⟨rfl,rfl⟩:=h
  obtain ⟨v,us,rfl,h1,h2⟩:=hr.cons_inv
  cases h1
  exact ⟨[_],us,rfl,rfl,h2⟩
theorem decStr_rep {X:Ctx} {cs:List V} {x:List UInt8} {r:List V} {vs:List Value} (h:decStr cs=some (x,r)) (hr:RepL X cs vs):
 ∃v1 v2,vs=v1++v2/\RepC X.w X.G .str x v1/\RepL X r v2:=by
 unfold decStr at h;split at h<;>simp at h;obtain ⟨rfl,rfl⟩:=h;obtain ⟨v,us,rfl,h1,h2⟩:=hr.cons_inv;cases h1 with
 |str hs=>exact ⟨[_],us,rfl,⟨_,rfl,hs⟩,h2⟩
theorem decInt_rep {X:Ctx} {k:IntKind} {cs:List V} {x:Int} {r:List V} {vs:List Value} (h:decInt k cs=some (x,r)) (hr:RepL X cs vs):
 ∃v1 v2,vs=v1++v2/\RepC X.w X.G (.int k) x v1/\RepL X r v2:=by
 unfold decInt at h;split at h<;>simp at h;obtain ⟨rfl,rfl,rfl⟩:=h;obtain ⟨v,us,rfl,h1,h2⟩:=hr.cons_inv;cases h1;exact ⟨[_],us,rfl,rfl,h2⟩
theorem decSlice_rep {X:Ctx} {t:Ty} {cs:List V} {x:List t.den} {r:List V} {vs:List Value} (h:decSlice t cs=some (x,r)) (hr:RepL X cs vs):
 ∃v1 v2,vs=v1++v2/\RepC X.w X.G (.slice t) x v1/\RepL X r v2:=by
 unfold decSlice at h;split at h
 ·simp at h;obtain ⟨rfl,rfl⟩:=h;obtain ⟨v,us,rfl,h1,h2⟩:=hr.cons_inv;cases h1;refine ⟨[_],us,rfl,⟨none,0,rfl,Nat.le_refl _,fun h0=> ?_⟩,h2⟩;simp at h0
 ·rename_i kd t' l r';split at h
  ·cases h
  ·rename_i hkd;split at h
   ·rename_i hk;subst hk;simp only [Option.some.injEq,Prod.mk.injEq] at h;obtain ⟨rfl,rfl⟩:=h;obtain ⟨v,us,rfl,h1,h2⟩:=hr.cons_inv;cases h1 with
    |list h3 _=>
     obtain rfl:=h3.1;exact ⟨[_],us,rfl,h3.toC (fun b hb=>⟨hb.1,hb.2 hkd⟩),h2⟩
   ·cases h
 ·cases h
theorem dec_rep {X:Ctx}: ∀{t:Ty} {cs:List V} {x:t.den} {r:List V} {vs:List Value},dec t cs=some (x,r)->RepL X cs vs->
 ∃v1 v2,vs=v1++v2/\RepC X.w X.G t x v1/\RepL X r v2
 | .pair a b,cs,x,r,vs,h,hr=>by
  unfold dec at h;cases h1:dec a cs with
  |none=>simp [h1] at h
  |some p=>
   obtain ⟨x1,r1⟩:=p;simp only [h1] at h;cases h2:dec b r1 with
   |none=>simp [h2] at h
   |some q=>
    obtain ⟨x2,r2⟩:=q;simp only [h2,Option.some.injEq] at h;cases h;obtain ⟨v1,v2,rfl,k1,k2⟩:=dec_rep h1 hr;obtain ⟨v3,v4,rfl,k3,k4⟩:=dec_rep h2 k2;exact ⟨v1++v3,v4,by simp,⟨v1,v3,rfl,k1,k3⟩,k4⟩
 | .bool,_,_,_,_,h,hr=>decBool_rep h hr
 | .str,_,_,_,_,h,hr=>decStr_rep h hr
 | .int _,_,_,_,_,h,hr=>decInt_rep h hr
 | .slice _,_,_,_,_,h,hr=>decSlice_rep h hr
theorem decAll_rep {X:Ctx} {t:Ty} {cs:List V} {x:t.den} {vs:List Value} (h:decAll t cs=some x) (hr:RepL X cs vs):RepC X.w X.G t x vs:=by
 unfold decAll at h;split at h
 ·rename_i y hd;simp only [Option.some.injEq] at h;subst h;obtain ⟨v1,v2,rfl,h1,h2⟩:=dec_rep hd hr;rw [h2.nil_inv,List.append_nil];exact h1
 ·cases h
theorem dec_enc: ∀(t:Ty) (x:t.den) (r:List V),dec t (enc t x++r)=some (x,r)
 | .bool,_,_=>rfl
 | .str,_,_=>rfl
 | .int k,_,_=>by simp [dec,enc,decInt];rfl
 | .slice t,_,_=>by simp [dec,enc,decSlice];rfl
 | .pair a b,x,r=>by
  simp only [dec,enc,List.append_assoc,dec_enc a x.1,dec_enc b x.2];rfl
theorem decAll_enc (t:Ty) (x:t.den):decAll t (enc t x)=some x:=by
 have:=dec_enc t x [];rw [List.append_nil] at this;simp [decAll,this]
theorem encC {X:Ctx} {t:Ty} {x:t.den} {row:List Value} (h:RepL X (enc t x) row):RepC X.w X.G t x row:=decAll_rep (decAll_enc t x) h
theorem dec_cell: ∀{t:Ty} {cs:List V} {x:t.den} {r:List V},dec t cs=some (x,r)->∃pre,cs=pre++r/\pre.length=t.cells/\∀(j:Nat) c,pre[j]? =some c->∃c',(enc t x)[j]? =some c'/\(∀X u,Rep X c u->Rep X c' u)/\
 (∀tin l,c= .list .part tin l->c'=c)/\(c= .nils->∃tin,c'= .list .part tin [])
 | .bool,cs,x,r,h=>by
  simp only [dec] at h;unfold decBool at h;split at h
  ·cases h;refine ⟨[_],rfl,rfl,fun j c hj=> ?_⟩;match j with
   |0=>simp at hj;subst hj;exact ⟨_,rfl,fun _ _ h=>h,fun _ _ e=>(by cases e),fun e=>(by cases e)⟩
   |j+1=>simp at hj
  ·cases h;refine ⟨[_],rfl,rfl,fun j c hj=> ?_⟩;match j with
   |0=>simp at hj;subst hj;exact ⟨_,rfl,fun _ _ h=>(by cases h;exact .bool),fun _ _ e=>(by cases e),fun e=>(by cases e)⟩
   |j+1=>simp at hj
  ·cases h
 | .str,cs,x,r,h=>by
  simp only [dec] at h;unfold decStr at h;split at h
  ·cases h;refine ⟨[_],rfl,rfl,fun j c hj=> ?_⟩;match j with
   |0=>simp at hj;subst hj;exact ⟨_,rfl,fun _ _ h=>h,fun _ _ e=>(by cases e),fun e=>(by cases e)⟩
   |j+1=>simp at hj
  ·cases h
 | .int k,cs,x,r,h=>by
  simp only [dec] at h;unfold decInt at h;split at h
  ·split at h
   ·rename_i e;subst e;cases h;refine ⟨[_],rfl,rfl,fun j c hj=> ?_⟩;match j with
    |0=>simp at hj;subst hj;exact ⟨_,rfl,fun _ _ h=>h,fun _ _ e=>(by cases e),fun e=>(by cases e)⟩
    |j+1=>simp at hj
   ·cases h
  ·cases h
 | .slice t,cs,x,r,h=>by
  simp only [dec] at h;unfold decSlice at h;split at h
  ·cases h;refine ⟨[_],rfl,rfl,fun j c hj=> ?_⟩;match j with
   |0=>
    simp at hj
    subst hj
    exact ⟨_,rfl,fun _ _ h=>(by cases h;exact .list ⟨rfl,Nat.le_refl _,fun h=>absurd h (Nat.lt_irrefl _)⟩ (fun e=>by cases e)),fun _ _ e=>(by cases e),fun _=>⟨t,rfl⟩⟩
   |j+1=>simp at hj
  ·split at h
   ·cases h
   ·rename_i kd t' l r' hkd;split at h
    ·rename_i e;subst e;cases h;refine ⟨[_],rfl,rfl,fun j c hj=> ?_⟩;match j with
     |0=>
      simp at hj
      subst hj
      refine ⟨_,rfl,fun X u h=> ?_,fun _ _ e=>(by cases e;rfl),fun e=>(by cases e)⟩
      cases h with
      |list h1 h2=>exact .list (h1.keep (fun b hb=>⟨hb,rfl⟩) (fun b hb=>⟨⟨hb.1,fun _=>hb.2 hkd⟩,rfl⟩)) (fun e=>by cases e)
     |j+1=>simp at hj
    ·cases h
  ·cases h
 | .pair a b,cs,x,r,h=>by
  simp only [dec] at h;split at h
  ·rename_i y r1 h1;split at h
   ·rename_i z r2 h2;cases h;obtain ⟨p1,rfl,l1,q1⟩:=dec_cell h1;obtain ⟨p2,rfl,l2,q2⟩:=dec_cell h2;refine ⟨p1++p2,by simp,by simp [l1,l2,Ty.cells],fun j c hj=> ?_⟩;by_cases hlt:j<p1.length
    ·rw [List.getElem?_append_left hlt] at hj;obtain ⟨c',k1,k2⟩:=q1 j c hj;exact ⟨c',by simp only [enc];rw [List.getElem?_append_left (by rw [enc_len];omega)];exact k1,k2⟩
    ·rw [List.getElem?_append_right (by omega)] at hj;obtain ⟨c',k1,k2⟩:=q2 _ c hj;exact ⟨c',by simp only [enc];rw [List.getElem?_append_right (by rw [enc_len];omega),enc_len,<-l1];exact k1,k2⟩
   ·cases h
  ·cases h
theorem decAll_cell {t:Ty} {cs:List V} {x:t.den} (h:decAll t cs=some x):cs.length=t.cells/\∀(j:Nat) c,cs[j]? =some c->∃c',(enc t x)[j]? =some c'/\(∀X u,Rep X c u->Rep X c' u)/\
 (∀tin l,c= .list .part tin l->c'=c)/\(c= .nils->∃tin,c'= .list .part tin []):=by
 unfold decAll at h;split at h
 ·rename_i y hy;cases h;obtain ⟨pre,rfl,l1,q1⟩:=dec_cell hy;simpa using ⟨l1,q1⟩
 ·cases h
theorem RepC.one {w:World} {G:Nat->Prop}: ∀{t:Ty} {x:t.den} {cs:List Value},RepC w G t x cs->∀u∈cs,u.oneCell'=true
 | .bool,_,_,h=>by simp only [RepC] at h;subst h;intro u hu;simp at hu;subst hu;rfl
 | .int _,_,_,h=>by simp only [RepC] at h;subst h;intro u hu;simp at hu;subst hu;rfl
 | .str,_,_,h=>by obtain ⟨s,rfl,_⟩:=h;intro u hu;simp at hu;subst hu;rfl
 | .slice _,_,_,h=>by obtain ⟨A,cap,rfl,_⟩:=h;intro u hu;simp at hu;subst hu;rfl
 | .pair _ _,_,_,h=>by
  obtain ⟨c1,c2,rfl,h1,h2⟩:=h;intro u hu;rcases List.mem_append.1 hu with hu|hu
  ·exact h1.one u hu
  ·exact h2.one u hu
theorem Rep.one {X:Ctx} {c:V} {v:Value} (h:Rep X c v) (hc:oneV c=true):v.oneCell'=true:=by
 cases h<;>first|rfl|exact OK.val_one _ _|(rename_i hu;rcases hu with rfl|rfl<;>rfl)|(simp [oneV] at hc)
theorem get_cons (σ:Store) (id k:Nat) (o:Obj):Store.get ((id,o)::σ) k=if id=k then some o else σ.get k:=rfl
theorem put_evoG {B:Nat->Prop} {X:Ctx} (hI:Inv B X) (hB: ∀b,X.w.heap.size<=b->B b) {id:Nat} {o':Obj} {p':Option (Nat×Nat×Nat)} {w':World}
 (hos:w'.os=X.w.os) (ht:w'.tape=X.w.tape) (ho:w'.output=X.w.output) (hs:X.w.heap.size<=w'.heap.size)
 (hblk: ∀b,b<X.w.heap.size->(∀o,X.σ.get id=some o->¬Blk X id o b)->w'.heap[b]? =X.w.heap[b]?)
 (hp: ∀b,Blk ⟨w',(id,o')::X.σ,fun i=>if i=id then p' else X.μ i,X.F⟩ id o' b->X.w.heap.size<=b∨∃o,X.σ.get id=some o/\Blk X id o b)
 (hbox: ∀c,X.σ.get id=some (.box c)->(∃c',o'= .box c')/\p'=X.μ id)
 (harr: ∀ep t l,X.σ.get id=some (.arr ep t l)->∃ep' l',o'= .arr ep' t l'/\ep<=ep'/\(ep'=ep->p'=X.μ id/\l'.length=l.length))
 (hnest: ∀iv t f h l,X.σ.get id=some (.nest iv t f h l)->∃iv' h' l',o'= .nest iv' t f h' l'/\iv<=iv'/\p'=X.μ id/\l'.length=l.length/\(iv'=iv->l'=l/\h'=h/\∀p,X.μ id=some p->w'.heap[p.1]? =X.w.heap[p.1]?))
 (hok:Evo X ⟨w',(id,o')::X.σ,fun i=>if i=id then p' else X.μ i,X.F⟩->ObjOk ⟨w',(id,o')::X.σ,fun i=>if i=id then p' else X.μ i,X.F⟩ id o')
 (hopq: ∀k d,X.σ.get id=some (.opq k d)->(∃d',o'= .opq k d')/\p'.map (·.1)=(X.μ id).map (·.1):=by intro k d hg;simp_all [isNest]):
 Evo X ⟨w',(id,o')::X.σ,fun i=>if i=id then p' else X.μ i,X.F⟩/\Inv B ⟨w',(id,o')::X.σ,fun i=>if i=id then p' else X.μ i,X.F⟩:=by
 have hsame: ∀{j o},j≠id->X.σ.get j=some o->∀b,Blk X j o b->w'.heap[b]? =X.w.heap[b]? :=fun {j o} hj hg b hk=>
  hblk b (hI.ltB hg hk) (fun o1 h1 h2=>hj (hI.injB id j o1 o b h1 hg h2 hk).symm)
 have hold: ∀{j o b},j≠id->X.σ.get j=some o->Blk ⟨w',(id,o')::X.σ,fun i=>if i=id then p' else X.μ i,X.F⟩ j o b->Blk X j o b:=fun {j o b} hj hg hk=>
  Blk.move (X:=X) (by show (if j=id then p' else X.μ j)=X.μ j;rw [if_neg hj]) (fun p hm=>hsame hj hg _ (.top hm)) hk
 have hcase: ∀{j o},Store.get ((id,o')::X.σ) j=some o->(j=id/\o=o')∨(j≠id/\X.σ.get j=some o):=fun {j o} hg=>by
  simp only [get_cons] at hg;by_cases hj:j=id
  ·subst hj;simp at hg;exact .inl ⟨rfl,hg.symm⟩
  ·rw [if_neg (fun e=>hj e.symm)] at hg;exact .inr ⟨hj,hg⟩
 have hE:Evo X ⟨w',(id,o')::X.σ,fun i=>if i=id then p' else X.μ i,X.F⟩:=by
  refine ⟨hos,ht,ho,hs,rfl,fun b hb=>⟨⟨Nat.lt_of_lt_of_le hb.1 hs,fun j o hg hk=> ?_⟩,hblk b hb.1 (fun o hg hk=>hb.2 id o hg hk)⟩,fun j c hg=> ?_,fun j ep t l hg=> ?_,fun j iv t f h l hg=> ?_,fun j kk d hg=> ?_⟩
  ·rcases hcase hg with ⟨rfl,rfl⟩|⟨hj,hg'⟩
   ·rcases hp b hk with h|⟨o,h1,h2⟩
    ·have:=hb.1;omega
    ·exact hb.2 _ o h1 h2
   ·exact hb.2 j o hg' (hold hj hg' hk)
  ·by_cases hj:j=id
   ·subst hj;obtain ⟨⟨c',h1⟩,h2⟩:=hbox c hg;exact ⟨⟨c',by simp [get_cons,h1]⟩,by simp [h2]⟩
   ·exact ⟨⟨c,by simp only [get_cons];rw [if_neg (fun e=>hj e.symm)];exact hg⟩,by simp [hj]⟩
  ·by_cases hj:j=id
   ·subst hj;obtain ⟨ep',l',h1,h2,h3⟩:=harr ep t l hg;exact ⟨ep',l',by simp [get_cons,h1],h2,fun e=>by simpa using h3 e⟩
   ·exact ⟨ep,l,by simp only [get_cons];rw [if_neg (fun e=>hj e.symm)];exact hg,Nat.le_refl _,fun _=>by simp [hj]⟩
  ·by_cases hj:j=id
   ·subst hj;obtain ⟨iv',h',l',h1,h2,h3,h4,h5⟩:=hnest iv t f h l hg;exact ⟨iv',h',l',by simp [get_cons,h1],h2,by simpa using h3,h4,h5⟩
   ·exact ⟨iv,h,l,by simp only [get_cons];rw [if_neg (fun e=>hj e.symm)];exact hg,Nat.le_refl _,by simp [hj],rfl,fun _=>⟨rfl,rfl,fun p hm=>hsame hj hg _ (.top hm)⟩⟩
  ·by_cases hj:j=id
   ·subst hj;obtain ⟨⟨d',h1⟩,h2⟩:=hopq kk d hg;exact ⟨⟨d',by simp [get_cons,h1]⟩,by simpa using h2⟩
   ·exact ⟨⟨d,by simp only [get_cons];rw [if_neg (fun e=>hj e.symm)];exact hg⟩,by simp [hj]⟩
 refine ⟨hE,⟨fun j o hg=> ?_,fun i j o1 o2 b hi hj hpi hpj=> ?_,fun j o b hg hk=> ?_,fun b hb=>hI.out b (Nat.le_trans hs hb),hI.vis, .evo hI hE⟩⟩
 ·rcases hcase hg with ⟨rfl,rfl⟩|⟨hj,hg'⟩
  ·exact hok hE
  ·exact ObjOk.move (X:=X) (by show (if j=id then p' else X.μ j)=X.μ j;rw [if_neg hj]) (hsame hj hg') hE.good (fun _ _ _ h=>h.evo hE) (hI.objs j o hg')
 ·rcases hcase hi with ⟨rfl,rfl⟩|⟨hii,hi'⟩
  ·rcases hcase hj with ⟨rfl,rfl⟩|⟨hjj,hj'⟩
   ·rfl
   ·have h2:=hold hjj hj' hpj;rcases hp b hpi with h|⟨o,h1,h3⟩
    ·have:=hI.ltB hj' h2;omega
    ·exact hI.injB _ _ o o2 b h1 hj' h3 h2
  ·have h2:=hold hii hi' hpi;rcases hcase hj with ⟨rfl,rfl⟩|⟨hjj,hj'⟩
   ·rcases hp b hpj with h|⟨o,h1,h3⟩
    ·have:=hI.ltB hi' h2;omega
    ·exact hI.injB _ _ o1 o b hi' h1 h2 h3
   ·exact hI.injB i j o1 o2 b hi' hj' h2 (hold hjj hj' hpj)
 ·rcases hcase hg with ⟨rfl,rfl⟩|⟨hj,hg'⟩
  ·rcases hp b hk with h|⟨o,h1,h2⟩
   ·exact hB _ h
   ·exact hI.baseB _ o b h1 h2
  ·exact hI.baseB j o b hg' (hold hj hg' hk)
theorem blk_flat {X:Ctx} {id:Nat} {o:Obj} {b:Nat} (hn:isNest (some o)=false) (h:Blk X id o b): ∃p,X.μ id=some p/\p.1=b:=by
 obtain ⟨p,hm,h⟩:=h;rcases h with h|h
 ·exact ⟨p,hm,h⟩
 ·cases o with
  |box _=>exact h.elim
  |arr _ _ _=>exact h.elim
  |nest=>simp [isNest] at hn
  |opq=>simp [isNest] at hn
theorem put_evo {B:Nat->Prop} {X:Ctx} (hI:Inv B X) (hB: ∀b,X.w.heap.size<=b->B b) {id:Nat} {o':Obj} {p':Option (Nat×Nat×Nat)} {w':World}
 (hos:w'.os=X.w.os) (ht:w'.tape=X.w.tape) (ho:w'.output=X.w.output) (hs:X.w.heap.size<=w'.heap.size)
 (hblk: ∀b,b<X.w.heap.size->(∀o q,X.σ.get id=some o->X.μ id=some q->q.1≠b)->w'.heap[b]? =X.w.heap[b]?)
 (hp: ∀q,p'=some q->X.w.heap.size<=q.1∨∃o q0,X.σ.get id=some o/\X.μ id=some q0/\q0.1=q.1)
 (hbox: ∀c,X.σ.get id=some (.box c)->(∃c',o'= .box c')/\p'=X.μ id)
 (harr: ∀ep t l,X.σ.get id=some (.arr ep t l)->∃ep' l',o'= .arr ep' t l'/\ep<=ep'/\(ep'=ep->p'=X.μ id/\l'.length=l.length))
 (hok:Evo X ⟨w',(id,o')::X.σ,fun i=>if i=id then p' else X.μ i,X.F⟩->ObjOk ⟨w',(id,o')::X.σ,fun i=>if i=id then p' else X.μ i,X.F⟩ id o')
 (hn1:isNest (some o')=false:=by rfl) (hn2:isNest (X.σ.get id)=false:=by simp_all [isNest]):
 Evo X ⟨w',(id,o')::X.σ,fun i=>if i=id then p' else X.μ i,X.F⟩/\Inv B ⟨w',(id,o')::X.σ,fun i=>if i=id then p' else X.μ i,X.F⟩:=by
 refine put_evoG hI hB hos ht ho hs (fun b hb hk=>hblk b hb (fun o q hg hm e=>hk o hg ⟨q,hm, .inl e⟩)) (fun b hk=> ?_) hbox harr (fun iv t f h l hg=>by rw [hg] at hn2;simp [isNest] at hn2) hok (fun k d hg=>by rw [hg] at hn2;simp [isNest] at hn2);obtain ⟨p,hm,e⟩:=blk_flat hn1 hk;rcases hp p (by simpa using hm) with h|⟨o,q0,h1,h2,h3⟩
 ·exact .inl (by omega)
 ·exact .inr ⟨o,h1,q0,h2, .inl (by omega)⟩
def OpRuns (P:Program) (o:Oper) (ρr:Operand->Value) (w:World) (Q:Value->World->Prop):Prop:=
 match (execOp ρr o).run P w with
 | .ok (.value u) w'=>Q u w'
 | .ok .skip w'=>Q undef w'
 | .ok (.enter f args) w'=>Calls P f args w' fun e w''=> ∃u,e= .returned u/\Q u w''
 |_=>False
def OpOk (P:Program) (o:Oper) (ρ:Operand->V) (σ:Store) (v:V) (σ':Store):Prop:=
 ∀B F ρr w μ,Inv B ⟨w,σ,μ,F⟩->(∀b,w.heap.size<=b->B b)->(∀x,x∈o.op.operands.toList->Rep ⟨w,σ,μ,F⟩ (ρ x) (ρr x))->
  OpRuns P o ρr w fun u w'=> ∃μ',Inv B ⟨w',σ',μ',F⟩/\Rep ⟨w',σ',μ',F⟩ v u/\Evo ⟨w,σ,μ,F⟩ ⟨w',σ',μ',F⟩
theorem OpRuns.val {P:Program} {o:Oper} {ρr:Operand->Value} {w:World} {Q:Value->World->Prop} {u:Value} {w':World}
 (h:(execOp ρr o).run P w= .ok (.value u) w') (hQ:Q u w'):OpRuns P o ρr w Q:=by
 unfold OpRuns;rw [h];exact hQ
theorem OpRuns.skip {P:Program} {o:Oper} {ρr:Operand->Value} {w:World} {Q:Value->World->Prop} {w':World}
 (h:(execOp ρr o).run P w= .ok .skip w') (hQ:Q undef w'):OpRuns P o ρr w Q:=by
 unfold OpRuns;rw [h];exact hQ
theorem size?_run {P:Program} {t:TypeId} {n:Nat} (h:size? P t=some n) (w:World):(sizeOf t).run P w= .ok n w:=by
 unfold size? at h;cases hi:P.info? t with
 |none=>simp [hi] at h
 |some i=>simp [hi] at h;simp [sizeOf,typeInfo,hi,h]
theorem isAgg?_run {P:Program} {t:TypeId} {g:Bool} (h:isAgg? P t=some g) (w:World):(isAgg t).run P w= .ok g w:=by
 unfold isAgg? at h;cases hu:P.underlying t with
 |none=>simp [hu] at h
 |some d=>
  rw [hu] at h;simp only [isAgg,Sem.run_bind,run_underlying hu,Result.andThen_ok];cases d<;>simp at h<;>subst h<;>rfl
theorem run_loadVar {P:Program} {t:TypeId} {g:Bool} {n:Nat} (hg:isAgg? P t=some g) (hn:size? P t=some n) (w:World) (b o:Nat) (vs:List Value) (hl:vs.length=n)
 (hc: ∀j u,vs[j]? =some u->w.cell? ⟨b,o+j,none⟩=some u) (h1:g=false->n=1):
 (loadVar t ⟨b,o,none⟩).run P w= .ok (if g then .agg vs.toArray else vs.getD 0 undef) w:=by
 cases g with
 |true=>
  have hcl:=run_loadCells_list (P:=P) w ⟨b,o,none⟩ vs (fun j v hv=>by rw [Addr.add_lit];exact hc j v hv);rw [hl] at hcl;simp [loadVar,isAgg?_run hg,size?_run hn,hcl]
 |false=>
  obtain rfl:=h1 rfl;match vs,hl with
  |[u],_=>
   have h0:=hc 0 u (by simp)
   simp only [Nat.add_zero] at h0
   simp [loadVar,isAgg?_run hg,h0]
theorem cut_some {cells:List V} {off n:Nat} {cs:List V} (h:cut cells off n=some cs):off+n<=cells.length/\cs=(cells.drop off).take n:=by
 unfold cut at h;split at h
 ·exact ⟨by assumption,by simpa using h.symm⟩
 ·cases h
theorem load_core {P:Program} {t:TypeId} {g:Bool} {n:Nat} (hg:isAgg? P t=some g) (hn:size? P t=some n) {X:Ctx} {cells:List V} {off:Nat} {v:V}
 (hv:(cut cells off n).bind (ofCells g)=some v) {b o:Nat} (f:Nat->Value) (hc: ∀(j:Nat) c,cells[j]? =some c->X.w.cell? ⟨b,o+j,none⟩=some (f j))
 (hr: ∀(j:Nat) c,cells[j]? =some c->Rep X c (f j)): ∃u,(loadVar t ⟨b,o+off,none⟩).run P X.w= .ok u X.w/\Rep X v u:=by
 cases hcut:cut cells off n with
 |none=>simp [hcut] at hv
 |some cs=>
  simp only [hcut,Option.bind_some] at hv;obtain ⟨hle,rfl⟩:=cut_some hcut;have hget: ∀(j:Nat) u,((List.range n).map fun j=>f (off+j))[j]? =some u->j<n/\u=f (off+j):=by
   intro j u hu;simp only [List.getElem?_map,Option.map_eq_some_iff] at hu;obtain ⟨a,ha,rfl⟩:=hu;have:=List.getElem?_eq_some_iff.1 ha;obtain ⟨hj,hja⟩:=this;simp at hj hja;subst hja;exact ⟨hj,rfl⟩
  have hcell: ∀(j:Nat),j<n->∃c,cells[off+j]? =some c:=fun j hj=>⟨_,List.getElem?_eq_getElem (by omega)⟩
  have h1:g=false->n=1:=by
   intro e;subst e;unfold ofCells at hv;simp only [Bool.false_eq_true,if_false] at hv;split at hv
   ·rename_i c hcs;have:=congrArg List.length hcs;simp at this;omega
   ·cases hv
  refine ⟨_,run_loadVar hg hn X.w b (o+off) ((List.range n).map fun j=>f (off+j)) (by simp) (fun j u hu=> ?_) h1, ?_⟩
  ·obtain ⟨hj,rfl⟩:=hget j u hu;obtain ⟨c,hcc⟩:=hcell j hj;rw [Nat.add_assoc];exact hc _ c hcc
  ·unfold ofCells at hv;cases g with
   |true=>
    simp only [if_true,Option.some.injEq] at hv;subst hv;refine .agg (by simp;omega) (fun j c u hc' hu=> ?_);simp only [List.getElem?_toArray] at hu;obtain ⟨hj,rfl⟩:=hget j u hu;rw [List.getElem?_take,if_pos hj,List.getElem?_drop] at hc';exact hr _ c hc'
   |false=>
    obtain rfl:=h1 rfl;simp only [Bool.false_eq_true,if_false] at hv;split at hv
    ·rename_i c hcs;simp only [Option.some.injEq] at hv;subst hv;have hc0:cells[off]? =some c:=by
      have:=congrArg (fun l=>l[0]?) hcs;simpa [List.getElem?_take,List.getElem?_drop] using this
     simpa using hr off c hc0
    ·cases hv
end Go.Vm
namespace Go.Vm
theorem two_evo {B:Nat->Prop} {X:Ctx} (hI:Inv B X) {k1 k2:Nat} (hne:k2≠k1) {o1 o2:Obj} {p2:Option (Nat×Nat×Nat)} {iv iv':Nat} {t:Ty} {f:Nat} {h h':Option Nat} {l l':List t.den}
 (hg1:X.σ.get k1=some (.nest iv t f h l)) (ho1:o1= .nest iv' t f h' l') (hiv:iv<iv') (hl:l'.length=l.length)
 (hg2: ∀o,X.σ.get k2=some o->∃ep ep' tin l0 l0',o= .arr ep tin l0/\o2= .arr ep' tin l0'/\ep<ep')
 (hb1: ∀b,Blk ⟨X.w,(k2,o2)::(k1,o1)::X.σ,fun i=>if i=k2 then p2 else X.μ i,X.F⟩ k1 o1 b->Blk X k1 (.nest iv t f h l) b∨∃o,X.σ.get k2=some o/\Blk X k2 o b)
 (hb2: ∀b,Blk ⟨X.w,(k2,o2)::(k1,o1)::X.σ,fun i=>if i=k2 then p2 else X.μ i,X.F⟩ k2 o2 b->Blk X k1 (.nest iv t f h l) b∨∃o,X.σ.get k2=some o/\Blk X k2 o b)
 (hdis: ∀b,Blk ⟨X.w,(k2,o2)::(k1,o1)::X.σ,fun i=>if i=k2 then p2 else X.μ i,X.F⟩ k1 o1 b->¬Blk ⟨X.w,(k2,o2)::(k1,o1)::X.σ,fun i=>if i=k2 then p2 else X.μ i,X.F⟩ k2 o2 b)
 (hok1:Evo X ⟨X.w,(k2,o2)::(k1,o1)::X.σ,fun i=>if i=k2 then p2 else X.μ i,X.F⟩->ObjOk ⟨X.w,(k2,o2)::(k1,o1)::X.σ,fun i=>if i=k2 then p2 else X.μ i,X.F⟩ k1 o1)
 (hok2:Evo X ⟨X.w,(k2,o2)::(k1,o1)::X.σ,fun i=>if i=k2 then p2 else X.μ i,X.F⟩->ObjOk ⟨X.w,(k2,o2)::(k1,o1)::X.σ,fun i=>if i=k2 then p2 else X.μ i,X.F⟩ k2 o2):
 Evo X ⟨X.w,(k2,o2)::(k1,o1)::X.σ,fun i=>if i=k2 then p2 else X.μ i,X.F⟩/\Inv B ⟨X.w,(k2,o2)::(k1,o1)::X.σ,fun i=>if i=k2 then p2 else X.μ i,X.F⟩:=by
 have hcase: ∀{j o},Store.get ((k2,o2)::(k1,o1)::X.σ) j=some o->(j=k2/\o=o2)∨(j=k1/\o=o1)∨(j≠k1/\j≠k2/\X.σ.get j=some o):=fun {j o} hg=>by
  simp only [get_cons] at hg;by_cases hj:j=k2
  ·subst hj;simp at hg;exact .inl ⟨rfl,hg.symm⟩
  ·rw [if_neg (fun e=>hj e.symm)] at hg;by_cases hj1:j=k1
   ·subst hj1;simp at hg;exact .inr (.inl ⟨rfl,hg.symm⟩)
   ·rw [if_neg (fun e=>hj1 e.symm)] at hg;exact .inr (.inr ⟨hj1,hj,hg⟩)
 have hold: ∀{j o b},j≠k2->Blk ⟨X.w,(k2,o2)::(k1,o1)::X.σ,fun i=>if i=k2 then p2 else X.μ i,X.F⟩ j o b->Blk X j o b:=fun {j o b} hj hk=>
  Blk.move (X:=X) (X':=⟨X.w,(k2,o2)::(k1,o1)::X.σ,fun i=>if i=k2 then p2 else X.μ i,X.F⟩) (id:=j) (id':=j) (by show (if j=k2 then p2 else X.μ j)=X.μ j;rw [if_neg hj]) (fun _ _=>rfl) hk
 have hsrc: ∀{b},(Blk X k1 (.nest iv t f h l) b∨∃o,X.σ.get k2=some o/\Blk X k2 o b)->∃k o,(k=k1∨k=k2)/\X.σ.get k=some o/\Blk X k o b:=fun {b} hh=>by
  rcases hh with hh|⟨o,h1,h2⟩
  ·exact ⟨k1,_, .inl rfl,hg1,hh⟩
  ·exact ⟨k2,o, .inr rfl,h1,h2⟩
 have hE:Evo X ⟨X.w,(k2,o2)::(k1,o1)::X.σ,fun i=>if i=k2 then p2 else X.μ i,X.F⟩:=by
  refine ⟨rfl,rfl,rfl,Nat.le_refl _,rfl,fun b hb=>⟨⟨hb.1,fun j o hg hk=> ?_⟩,rfl⟩,fun j c hg=> ?_,fun j ep t2 l2 hg=> ?_,fun j iv2 t2 f2 h2 l2 hg=> ?_,fun j kk d hg=> ?_⟩
  ·rcases hcase hg with ⟨rfl,rfl⟩|⟨rfl,rfl⟩|⟨h1,h2,h3⟩
   ·obtain ⟨k,o,_,q1,q2⟩:=hsrc (hb2 b hk);exact hb.2 k o q1 q2
   ·obtain ⟨k,o,_,q1,q2⟩:=hsrc (hb1 b hk);exact hb.2 k o q1 q2
   ·exact hb.2 j o h3 (hold h2 hk)
  ·have h1:j≠k1:=by rintro rfl;rw [hg1] at hg;cases hg
   have h2:j≠k2:=by rintro rfl;obtain ⟨_,_,_,_,_,e,_⟩:=hg2 _ hg;cases e
   exact ⟨⟨c,by simp only [get_cons];rw [if_neg (fun e=>h2 e.symm),if_neg (fun e=>h1 e.symm)];exact hg⟩,by simp [h2]⟩
  ·have h1:j≠k1:=by rintro rfl;rw [hg1] at hg;cases hg
   by_cases h2:j=k2
   ·subst h2;obtain ⟨ep1,ep',tin,l0,l0',e1,e2,hlt⟩:=hg2 _ hg;cases e1;exact ⟨ep',l0',by simp [get_cons,e2],Nat.le_of_lt hlt,fun e=>by omega⟩
   ·exact ⟨ep,l2,by simp only [get_cons];rw [if_neg (fun e=>h2 e.symm),if_neg (fun e=>h1 e.symm)];exact hg,Nat.le_refl _,fun _=>by simp [h2]⟩
  ·have h2':j≠k2:=by rintro rfl;obtain ⟨_,_,_,_,_,e,_⟩:=hg2 _ hg;cases e
   by_cases h1:j=k1
   ·subst h1;rw [hg1] at hg;cases hg;exact ⟨iv',h',l',by simp [get_cons,hne,ho1],Nat.le_of_lt hiv,by simp [h2'],hl,fun e=>by omega⟩
   ·exact ⟨iv2,h2,l2,by simp only [get_cons];rw [if_neg (fun e=>h2' e.symm),if_neg (fun e=>h1 e.symm)];exact hg,Nat.le_refl _,by simp [h2'],rfl,fun _=>⟨rfl,rfl,fun _ _=>rfl⟩⟩
  ·have h1:j≠k1:=by rintro rfl;rw [hg1] at hg;cases hg
   have h2:j≠k2:=by rintro rfl;obtain ⟨_,_,_,_,_,e,_⟩:=hg2 _ hg;cases e
   exact ⟨⟨d,by simp only [get_cons];rw [if_neg (fun e=>h2 e.symm),if_neg (fun e=>h1 e.symm)];exact hg⟩,by simp [h2]⟩
 refine ⟨hE,⟨fun j o hg=> ?_,fun i j oi oj b hi hj hpi hpj=> ?_,fun j o b hg hk=> ?_,hI.out,hI.vis, .evo hI hE⟩⟩
 ·rcases hcase hg with ⟨rfl,rfl⟩|⟨rfl,rfl⟩|⟨h1,h2,h3⟩
  ·exact hok2 hE
  ·exact hok1 hE
  ·exact ObjOk.move (X:=X) (by show (if j=k2 then p2 else X.μ j)=X.μ j;rw [if_neg h2]) (fun _ _=>rfl) hE.good (fun _ _ _ h=>h.evo hE) (hI.objs j o h3)
 ·have other: ∀{j o},j≠k1->j≠k2->X.σ.get j=some o->Blk X j o b->(Blk X k1 (.nest iv t f h l) b∨∃o,X.σ.get k2=some o/\Blk X k2 o b)->False:=fun {j o} h1 h2 h3 h4 h5=>by
   obtain ⟨k,o',q0,q1,q2⟩:=hsrc h5;have:=hI.injB _ _ _ _ _ h3 q1 h4 q2;rcases q0 with rfl|rfl
   ·exact h1 this
   ·exact h2 this
  rcases hcase hi with ⟨rfl,rfl⟩|⟨rfl,rfl⟩|⟨i1,i2,i3⟩
  ·rcases hcase hj with ⟨rfl,rfl⟩|⟨rfl,rfl⟩|⟨j1,j2,j3⟩
   ·rfl
   ·exact absurd hpi (hdis b hpj)
   ·exact (other j1 j2 j3 (hold j2 hpj) (hb2 b hpi)).elim
  ·rcases hcase hj with ⟨rfl,rfl⟩|⟨rfl,rfl⟩|⟨j1,j2,j3⟩
   ·exact absurd hpj (hdis b hpi)
   ·rfl
   ·exact (other j1 j2 j3 (hold j2 hpj) (hb1 b hpi)).elim
  ·rcases hcase hj with ⟨rfl,rfl⟩|⟨rfl,rfl⟩|⟨j1,j2,j3⟩
   ·exact (other i1 i2 i3 (hold i2 hpi) (hb2 b hpj)).elim
   ·exact (other i1 i2 i3 (hold i2 hpi) (hb1 b hpj)).elim
   ·exact hI.injB i j oi oj b i3 j3 (hold i2 hpi) (hold j2 hpj)
 ·rcases hcase hg with ⟨rfl,rfl⟩|⟨rfl,rfl⟩|⟨h1,h2,h3⟩
  ·obtain ⟨k,o',_,q1,q2⟩:=hsrc (hb2 b hk);exact hI.baseB k o' b q1 q2
  ·obtain ⟨k,o',_,q1,q2⟩:=hsrc (hb1 b hk);exact hI.baseB k o' b q1 q2
  ·exact hI.baseB j o b h3 (hold h2 hk)
theorem RepH.slice {w : World} {G : Nat -> Prop} {tin : Ty} {l : List tin.den} {u : Value} (h : RepH w G (.list .part tin l) u) : ∃ A cap, u = .slice A l.length cap /\
    ((cap = 0 /\ l.length = 0) ∨ ∃ b base cs ty, A = some ⟨b, base, none⟩ /\ 0 < cap /\ w.heap[b]? = some (.cells cs ty (0, 0)) /\ base + cap * tin.cells = cs.size /\ l.length <= cap /\ Room tin ty base cap /\
      ∀ (i : Nat) (x : tin.den), l[i]? = some x -> ∃ row, RepC w G tin x row /\ ∀ (j : Nat) (u : Value), row[j]? = some u -> cs[base + i * tin.cells + j]? = some u) := by
  obtain ⟨tin', l', A, cap, e, rfl, h⟩ := h
  cases e
  exact ⟨A, cap, rfl, h⟩
theorem detach_evo {B : Nat -> Prop} {X : Ctx} (hI : Inv B X) {id iv i dst : Nat} {t : Ty} {f : Nat} {l : List t.den} (hg : X.σ.get id = some (.nest iv t f none l)) {u : Value} (hr : Rep X (.nin id iv i) u) (hd : X.σ.get dst = none)
    {tin : Ty} {li : List tin.den} (hi : i < l.length) (he : (enc t l[i])[f]? = some (.list .part tin li)) :
    ∃ μ', Inv B ⟨X.w, (dst, .arr 0 tin li) :: (id, .nest (iv + 1) t f (some i) l) :: X.σ, μ', X.F⟩ /\ Evo X ⟨X.w, (dst, .arr 0 tin li) :: (id, .nest (iv + 1) t f (some i) l) :: X.σ, μ', X.F⟩ /\
      Rep ⟨X.w, (dst, .arr 0 tin li) :: (id, .nest (iv + 1) t f (some i) l) :: X.σ, μ', X.F⟩ (.slc dst 0 none) u := by
  have hne : dst ≠ id := by rintro rfl; rw [hg] at hd; cases hd
  have hO := hI.objs id _ hg
  cases hr with
  | @nin _ _ _ _ iv2 t2 f2 h2 l2 hg' hle hc =>
    rw [hg] at hg'
    cases hg'
    obtain ⟨_, _, p, hp, hcel⟩ := hc rfl
    obtain ⟨c, u', r1, r2, r3⟩ := nest_row hO hp hi (by simp)
    rw [he] at r1
    cases r1
    rw [hcel] at r2
    cases r2
    obtain ⟨A, cap, rfl, hcc⟩ := r3.slice
    obtain ⟨b, base, C, cs, ty, k1, k2, k3, k4, k5, kf, k6, k7, k8⟩ := hO
    rw [hp] at k1
    cases k1
    have key : ∀ (p2 : Option (Nat × Nat × Nat)), (∀ q, p2 = some q -> hblk (.slice A li.length cap) = some q.1) ->
        ((p2 = none /\ li.length = 0) ∨ ∃ b base C cs ty, p2 = some (b, base, C) /\ X.w.heap[b]? = some (.cells cs ty (0, 0)) /\ base + C * tin.cells = cs.size /\ li.length <= C /\ Room tin ty base C /\
          ∀ (i : Nat) (x : tin.den), li[i]? = some x -> ∃ row, RepC X.w X.G tin x row /\ ∀ (j : Nat) (u : Value), row[j]? = some u -> cs[base + i * tin.cells + j]? = some u) ->
        Evo X ⟨X.w, (dst, .arr 0 tin li) :: (id, .nest (iv + 1) t f (some i) l) :: X.σ, fun k => if k = dst then p2 else X.μ k, X.F⟩ /\
        Inv B ⟨X.w, (dst, .arr 0 tin li) :: (id, .nest (iv + 1) t f (some i) l) :: X.σ, fun k => if k = dst then p2 else X.μ k, X.F⟩ := by
      intro p2 hq hok
      have hbl : ∀ b', Blk ⟨X.w, (dst, .arr 0 tin li) :: (id, .nest (iv + 1) t f (some i) l) :: X.σ, fun k => if k = dst then p2 else X.μ k, X.F⟩ dst (.arr 0 tin li) b' -> hblk (.slice A li.length cap) = some b' := by
        intro b' hk
        obtain ⟨q, hm, e⟩ := blk_flat rfl hk
        have hm : p2 = some q := by simpa using hm
        rw [<- e]
        exact hq q hm
      have hbn : ∀ b', Blk ⟨X.w, (dst, .arr 0 tin li) :: (id, .nest (iv + 1) t f (some i) l) :: X.σ, fun k => if k = dst then p2 else X.μ k, X.F⟩ id (.nest (iv + 1) t f (some i) l) b' ->
          b' = b ∨ ∃ j v, j < l.length /\ j ≠ i /\ hcell X.w (b, base, C) t f j = some v /\ hblk v = some b' := by
        intro b' ⟨q, hm, hk⟩
        have hm : (if id = dst then p2 else X.μ id) = some q := hm
        rw [if_neg (fun e => hne e.symm), hp] at hm
        cases hm
        rcases hk with hk | ⟨j, v, q1, q2, q3, q4⟩
        · exact .inl hk.symm
        · exact .inr ⟨j, v, q1, fun e => q2 (by rw [e]), q3, q4⟩
      refine two_evo hI hne hg rfl (Nat.lt_succ_self _) rfl (fun o ho => by rw [hd] at ho; cases ho) (fun b' hk => ?_) (fun b' hk => ?_) (fun b' hk1 hk2 => ?_) (fun hE => ?_) (fun hE => ?_)
      · rcases hbn b' hk with rfl | ⟨j, v, q1, q2, q3, q4⟩
        · exact .inl ⟨_, hp, .inl rfl⟩
        · exact .inl ⟨_, hp, .inr ⟨j, v, q1, by simp, q3, q4⟩⟩
      · exact .inl ⟨_, hp, .inr ⟨i, _, hi, by simp, hcel, hbl b' hk⟩⟩
      · have h2 := hbl b' hk2
        rcases hbn b' hk1 with rfl | ⟨j, v, q1, q2, q3, q4⟩
        · exact k8 i _ hi (by simp) hcel h2
        · exact q2 (k7 j i v _ b' q1 hi (by simp) (by simp) q3 hcel q4 h2)
      · refine ⟨b, base, C, cs, ty, by show (if id = dst then p2 else X.μ id) = _; rw [if_neg (fun e => hne e.symm)]; exact hp, k2, k3, k4, k5, kf, fun j x hx jj c hc => ?_, fun a1 a2 v1 v2 b' q1 q2 q3 q4 q5 q6 => k7 a1 a2 v1 v2 b' q1 q2 (by simp) (by simp) q5 q6, fun a v q1 q2 q3 => k8 a v q1 (by simp) q3⟩
        obtain ⟨v, q1, q2, q3⟩ := k6 j x hx jj c hc
        exact ⟨v, q1, fun hj => (q2 hj).dat hE.good (enc_dat (List.mem_of_getElem? hc)), fun hj _ => (q3 hj (by simp)).keep hE.good (fun _ _ => rfl)⟩
      · rcases hok with ⟨rfl, h0⟩ | ⟨b2, base2, C2, cs2, ty2, rfl, q1, q2, q3, q4, q5⟩
        · exact .inl ⟨by simp, h0⟩
        · refine .inr ⟨b2, base2, C2, cs2, ty2, by simp, q1, q2, q3, q4, fun a x hx => ?_⟩
          obtain ⟨row, r1, r2⟩ := q5 a x hx
          exact ⟨row, r1.keep hE.good, r2⟩
    rcases hcc with ⟨rfl, h0⟩ | ⟨b2, base2, cs2, ty2, rfl, q1, q2, q3, q4, q5, q6⟩
    · obtain ⟨e1, e2⟩ := key none (fun q hq => by cases hq) (.inl ⟨rfl, h0⟩)
      exact ⟨_, e2, e1, .slc (ep' := 0) (t := tin) (l := li) (by simp [get_cons]) (Nat.le_refl _) (fun _ => by simp only [if_true, Hdr]; exact ⟨h0, trivial, h0⟩)⟩
    · obtain ⟨e1, e2⟩ := key (some (b2, base2, cap)) (fun q hq => by cases hq; simp [hblk, q1]) (.inr ⟨b2, base2, cap, cs2, ty2, rfl, q2, q3, q4, q5, q6⟩)
      exact ⟨_, e2, e1, .slc (ep' := 0) (t := tin) (l := li) (by simp [get_cons]) (Nat.le_refl _) (fun _ => by simp only [if_true, Hdr]; exact ⟨trivial, trivial, q4, _, rfl, fun _ => rfl⟩)⟩
theorem attach_evo {B:Nat->Prop} {X:Ctx} (hI:Inv B X) {id iv i id2 ep2:Nat} {t:Ty} {f:Nat} {l:List t.den} (hg:X.σ.get id=some (.nest iv t f (some i) l)) {tin:Ty} {l2:List tin.den} (hg2:X.σ.get id2=some (.arr ep2 tin l2))
 {p:Nat×Nat×Nat} (hp:X.μ id=some p) {u:Value} (hcel:hcell X.w p t f i=some u) (hr:Rep X (.slc id2 ep2 none) u) (hi:i<l.length) (he:(enc t l[i])[f]? =some (.list .part tin l2)):
 Evo X ⟨X.w,(id2, .arr (ep2+1) tin [])::(id, .nest (iv+1) t f none l)::X.σ,fun k=>if k=id2 then none else X.μ k,X.F⟩/\
  Inv B ⟨X.w,(id2, .arr (ep2+1) tin [])::(id, .nest (iv+1) t f none l)::X.σ,fun k=>if k=id2 then none else X.μ k,X.F⟩:=by
 have hne:id2≠id:=by rintro rfl;rw [hg] at hg2;cases hg2
 have hO:=hI.objs id _ hg;have hO2:=hI.objs id2 _ hg2;cases hr with
 | @slc _ _ _ A len cap ep' t' l' hg' hle hcur=>
  rw [hg2] at hg';cases hg';have hh:=hcur rfl;have hbl: ∀b',hblk (.slice A len cap)=some b'->Blk X id2 (.arr ep2 tin l2) b':=by
   intro b' hb;cases A with
   |none=>simp [hblk] at hb
   |some a=>
    simp only [hblk] at hb;split at hb
    ·rename_i hc;cases hb;cases hm:X.μ id2 with
     |none=>
      rw [hm] at hh;simp only [Hdr] at hh;omega
     |some q=>
      obtain ⟨b2,base2,C2⟩:=q;rw [hm] at hh;simp only [Hdr] at hh;obtain ⟨rfl,rfl,hC,a',e,ha⟩:=hh;cases e;exact ⟨_,hm, .inl (by rw [ha hc])⟩
    ·cases hb
  have hH:RepH X.w X.G (.list .part tin l2) (.slice A len cap):=by
   rcases hO2 with ⟨hm,h0⟩|⟨b2,base2,C2,cs2,ty2,hm,q1,q2,q3,q4,q5⟩
   ·rw [hm] at hh;simp only [Hdr] at hh;obtain ⟨rfl,rfl,_⟩:=hh;exact ⟨tin,l2,A,0,rfl,by rw [h0], .inl ⟨rfl,h0⟩⟩
   ·rw [hm] at hh;simp only [Hdr] at hh;obtain ⟨rfl,rfl,hC,a,rfl,ha⟩:=hh;refine ⟨tin,l2,some a,_,rfl,rfl, ?_⟩;rcases Nat.eq_zero_or_pos cap with hc|hc
    ·exact .inl ⟨hc,by omega⟩
    ·exact .inr ⟨b2,base2,cs2,ty2,by rw [ha hc],hc,q1,q2,q3,q4,q5⟩
  obtain ⟨b,base,C,cs,ty,k1,k2,k3,k4,k5,kf,k6,k7,k8⟩:=hO;rw [hp] at k1;cases k1;have hbn: ∀b',Blk ⟨X.w,(id2, .arr (ep2+1) tin [])::(id, .nest (iv+1) t f none l)::X.σ,fun k=>if k=id2 then none else X.μ k,X.F⟩ id (.nest (iv+1) t f none l) b'->
   Blk X id (.nest iv t f (some i) l) b'∨hblk (.slice A len cap)=some b':=by
   intro b' ⟨q,hm,hk⟩;have hm:(if id=id2 then none else X.μ id)=some q:=hm;rw [if_neg (fun e=>hne e.symm),hp] at hm;cases hm;rcases hk with hk|⟨j,v,q1,q2,q3,q4⟩
   ·exact .inl ⟨_,hp, .inl hk⟩
   ·by_cases hj:j=i
    ·subst hj;have q3:Vm.hcell X.w (b,base,C) t f j=some v:=q3;rw [hcel] at q3;cases q3;exact .inr q4
    ·exact .inl ⟨_,hp, .inr ⟨j,v,q1,fun e=>hj (Option.some.inj e).symm,q3,q4⟩⟩
  have sep: ∀b',hblk (.slice A len cap)=some b'->¬Blk X id (.nest iv t f (some i) l) b':=fun b' h1 h2=>hne (hI.injB _ _ _ _ _ hg2 hg (hbl b' h1) h2);refine two_evo hI hne hg rfl (Nat.lt_succ_self _) rfl (fun o ho=>by rw [hg2] at ho;cases ho;exact ⟨_,_,_,_,_,rfl,rfl,Nat.lt_succ_self _⟩) (fun b' hk=> ?_) (fun b' hk=> ?_) (fun b' hk1 hk2=> ?_) (fun hE=> ?_) (fun hE=> ?_)
  ·rcases hbn b' hk with h1|h1
   ·exact .inl h1
   ·exact .inr ⟨_,hg2,hbl b' h1⟩
  ·obtain ⟨q,hm,_⟩:=hk;have hm:(if id2=id2 then none else X.μ id2)=some q:=hm;simp at hm
  ·obtain ⟨q,hm,_⟩:=hk2;have hm:(if id2=id2 then none else X.μ id2)=some q:=hm;simp at hm
  ·refine ⟨b,base,C,cs,ty,by show (if id=id2 then none else X.μ id)=_;rw [if_neg (fun e=>hne e.symm)];exact hp,k2,k3,k4,k5,kf,fun j x hx jj c hc=> ?_,fun a1 a2 v1 v2 b' q1 q2 q3 q4 q5 q6 q7 q8=> ?_,fun a v q1 q2 q3 q4=> ?_⟩
   ·obtain ⟨v,q1,q2,q3⟩:=k6 j x hx jj c hc;refine ⟨v,q1,fun hj=>(q2 hj).dat hE.good (enc_dat (List.mem_of_getElem? hc)),fun hj _=> ?_⟩;subst hj;by_cases hji:j=i
    ·subst hji;have hx':x=l[j]:=by
      have:=List.getElem?_eq_getElem hi;rw [hx] at this;exact Option.some.inj this
     subst hx';rw [he] at hc;cases hc;have:=hcell_of (C:=C) k2 q1;rw [hcel] at this;cases this;exact hH.keep hE.good (fun _ _=>rfl)
    ·exact (q3 rfl (fun e=>hji (Option.some.inj e).symm)).keep hE.good (fun _ _=>rfl)
   ·by_cases h1:a1=i
    ·by_cases h2:a2=i
     ·rw [h1,h2]
     ·subst h1;have q5:Vm.hcell X.w (b,base,C) t f a1=some v1:=q5;rw [hcel] at q5;cases q5;exact (sep b' q7 ⟨_,hp, .inr ⟨a2,v2,q2,fun e=>h2 (Option.some.inj e).symm,q6,q8⟩⟩).elim
    ·by_cases h2:a2=i
     ·subst h2;have q6:Vm.hcell X.w (b,base,C) t f a2=some v2:=q6;rw [hcel] at q6;cases q6;exact (sep b' q8 ⟨_,hp, .inr ⟨a1,v1,q1,fun e=>h1 (Option.some.inj e).symm,q5,q7⟩⟩).elim
     ·exact k7 a1 a2 v1 v2 b' q1 q2 (fun e=>h1 (Option.some.inj e).symm) (fun e=>h2 (Option.some.inj e).symm) q5 q6 q7 q8
   ·by_cases h1:a=i
    ·subst h1;have q3:Vm.hcell X.w (b,base,C) t f a=some v:=q3;rw [hcel] at q3;cases q3;exact sep b q4 ⟨_,hp, .inl rfl⟩
    ·exact k8 a v q1 (fun e=>h1 (Option.some.inj e).symm) q3 q4
  ·exact .inl ⟨by simp,rfl⟩
end Go.Vm
namespace Go.Vm
theorem cv1_rep (X:Ctx) (v:Value):Rep X (cv1 v) v:=by
 unfold cv1;split<;>first|exact .kb|exact .int|exact .str rfl|exact .nilp|exact .nils|exact .nilm|exact .nilf|exact .nili|exact .any
theorem map_cv1_rep (X:Ctx) (cs:Array Value):RepL X (cs.toList.map cv1) cs.toList:=
 ⟨by simp,fun j c u hc hu=>by
  rw [List.getElem?_map,hu] at hc;simp at hc;subst hc;exact cv1_rep X u⟩
theorem RepL.agg {X:Ctx} {cs:List V} {vs:Array Value} (h:RepL X cs vs.toList):Rep X (.agg cs) (.agg vs):=
 .agg (by simpa using h.1) (fun j c u hc hu=>h.2 j c u hc (by simpa using hu))
theorem cv_rep (X:Ctx) (v:Value):Rep X (cv v) v:=by
 unfold cv;split
 ·exact (map_cv1_rep X _).agg
 ·split
  ·rename_i h;exact .fn h.1 h.2 (fun _ _ _ h=>by simp at h) (fun _ _ _ h=>by simp at h)
  ·exact .any
 ·exact cv1_rep X v
theorem cells_rep {X:Ctx} {x:V} {v:Value} (h:Rep X x v) (hn:notAny x=true):RepL X (cellsV x) v.cells.toList:=by
 cases h;case any=>simp [notAny] at hn
 case nin=>simp [notAny] at hn
 case nslc h1 h2=>exact .single (.nslc h1 h2)
 case rows f h1 h2 h3 h4=>exact .single (.rows f h1 h2 h3 h4)
 case nptr h1 h2=>exact .single (.nptr h1 h2)
 case oref h1=>rw [OK.val_cells];exact .single (.oref h1)
 case fopq S h1 h2=>rw [OK.val_cells];exact .single (.fopq S h1 h2)
 case agg h1 h2=>exact ⟨by simpa [cellsV,Value.cells] using h1,fun j c u hc hu=>h2 j c u hc (by simpa [Value.cells] using hu)⟩
 case kb=>exact .single .kb
 case bool=>exact .single .bool
 case int=>exact .single .int
 case str h=>exact .single (.str h)
 case nilp=>exact .single .nilp
 case nils=>exact .single .nils
 case nilm=>exact .single .nilm
 case nilf=>exact .single .nilf
 case nili=>exact .single .nili
 case errN=>exact .single .errN
 case errS=>exact .single .errS
 case bq h=>exact .single (.bq h)
 case list h1 h2=>exact .single (.list h1 h2)
 case slc h1 h2 h3=>exact .single (.slc h1 h2 h3)
 case fptr f h1 h2 h3=>exact .single (.fptr f h1 h2 h3)
 case ptr h1 h2=>exact .single (.ptr h1 h2)
 case own h1 h2 h3=>rcases h3 with rfl|rfl<;>first|exact .single (.own h1 h2 (.inl rfl))|exact .single (.own h1 h2 (.inr rfl))
 case eptr h1 h2 h3=>exact .single (.eptr h1 h2 h3)
 case fn h1 h2 h3 h4=>exact .single (.fn h1 h2 h3 h4)
 case tuple h1 h2=>exact .single (.tuple h1 h2)
 case iface h=>exact .single (.iface h)
theorem zero_rep (X:Ctx) (z:Value):RepL X (cellsV (cv z)) z.cells.toList:=by
 cases hz:cv z with
 |any=>
  cases z with
  |agg cs=>simp [cv] at hz
  |_=>exact .single .any
 |nin=>cases z<;>simp [cv,cv1] at hz<;>(repeat' (split at hz))<;>simp_all
 |_=>rw [<-hz];exact cells_rep (cv_rep X z) (by rw [hz];rfl)
theorem RepL.one {X:Ctx} {cs:List V} {vs:List Value} (h:RepL X cs vs) (ho:cs.all oneV=true): ∀u∈vs,u.oneCell'=true:=by
 intro u hu;obtain ⟨j,hj,rfl⟩:=List.getElem_of_mem hu;have hc:cs[j]? =some (cs[j]'(by rw [<-h.1];exact hj)):=List.getElem?_eq_getElem _;exact (h.2 j _ _ hc (List.getElem?_eq_getElem hj)).one (List.all_eq_true.1 ho _ (List.getElem_mem _))
theorem notAny_of_one {x:V} (h:(cellsV x).all oneV=true):notAny x=true:=by
 cases x<;>first|rfl|simp [cellsV,oneV] at h
theorem run_storeVar {P:Program} {t:TypeId} {n:Nat} (hn:size? P t=some n) (w:World) (b o:Nat) (ty:TypeId) (cur:Array Value) (hg:w.heap[b]? =some (.cells cur ty (0,0))) (v:Value)
 (hl:v.cells.size=n) (h1: ∀u∈v.cells.toList,u.oneCell'=true) (hfit:o+n<=cur.size):
 (storeVar t ⟨b,o,none⟩ v).run P w= .ok () (w.setRow b (cur.toList.take o++v.cells.toList++cur.toList.drop (o+n)).toArray):=by
 have h:=run_storeCells_at P b o ty v.cells.toList 0 cur w hg (by simpa [hl] using hfit) h1;simp only [Nat.add_zero,Array.length_toList,hl] at h;simp only [storeVar,Sem.run_bind,size?_run hn,Result.andThen_ok,ne_eq,hl,not_true_eq_false,if_false,h]
theorem over_rep {X:Ctx} {cells new:List V} {vs us:List Value} (off:Nat) (h:RepL X cells vs) (k:RepL X new us):RepL X (over cells off new) (vs.take off++us++vs.drop (off+us.length)):=by
 unfold over;rw [k.1];exact ((h.take off).append k).append (h.drop _)
theorem mem_ops {o:Oper} {x:Operand} {l:List Operand} (h:o.op.operands.toList=l) (hx:x∈l):x∈o.op.operands.toList:=by rw [h];exact hx
theorem ok_pure {P:Program} {o:Oper} {ρ:Operand->V} {σ:Store} {v:V}
 (h: ∀(X:Ctx) (ρr:Operand->Value),X.σ=σ->(∃B,Inv B X)->(∀x,x∈o.op.operands.toList->Rep X (ρ x) (ρr x))->∃u,(execOp ρr o).run P X.w= .ok (.value u) X.w/\Rep X v u):
 OpOk P o ρ σ v σ:=by
 intro B F ρr w μ hI hB hr;obtain ⟨u,h1,h2⟩:=h ⟨w,σ,μ,F⟩ ρr rfl ⟨B,hI⟩ hr;exact .val h1 ⟨μ,hI,h2,Evo.refl _⟩
section
variable {X:Ctx} {u:Value}
theorem Rep.int_inv {k:IntKind} {n:Int} (h:Rep X (.int k n) u):u= .int k n:=by cases h;rfl
theorem Rep.kb_inv {b:Bool} (h:Rep X (.kb b) u):u= .bool b:=by cases h;rfl
theorem Rep.bool_inv {b:Bool} (h:Rep X (.bool b) u):u= .bool b:=by cases h;rfl
theorem Rep.str_inv {l:List UInt8} (h:Rep X (.str l) u): ∃s:ByteArray,u= .string s/\s.data.toList=l:=by cases h;exact ⟨_,rfl,by assumption⟩
theorem Rep.nils_inv (h:Rep X .nils u):u= .slice none 0 0:=by cases h;rfl
theorem Rep.nilp_inv (h:Rep X .nilp u):u= .pointer none:=by cases h;rfl
theorem Rep.nilf_inv (h:Rep X .nilf u):u= .nilFunc:=by cases h;rfl
theorem Rep.list_inv {kd:LK} {t:Ty} {l:List t.den} (h:Rep X (.list kd t l) u): ∃A cap,u= .slice A l.length cap/\RepS X.w (X.H kd) X.G t l A l.length cap/\(kd= .full->cap=l.length):=by
 cases h with
 |list h1 h2=>
  have h0:=h1;obtain ⟨rfl,_⟩:=h1;exact ⟨_,_,rfl,h0,h2⟩
theorem Rep.fptr_inv {cells:List V} (h:Rep X (.fptr cells) u): ∃(b o:Nat) (f:Nat->Value),u= .pointer (some ⟨b,o,none⟩)/\(0<cells.length->X.T b)/\
 (∀(j:Nat) c,cells[j]? =some c->X.w.cell? ⟨b,o+j,none⟩=some (f j))/\(∀(j:Nat) c,cells[j]? =some c->Rep X c (f j)):=by
 cases h with
 |fptr f h1 h2 h3=>exact ⟨_,_,f,rfl,h1,h2,h3⟩
theorem Rep.ptr_inv {id off:Nat} (h:Rep X (.ptr id off) u): ∃cells b base C,u= .pointer (some ⟨b,base+off,none⟩)/\X.σ.get id=some (.box cells)/\X.μ id=some (b,base,C):=by
 cases h with
 |ptr h1 h2=>exact ⟨_,_,_,_,rfl,h1,h2⟩
theorem Rep.oref_inv {id:Nat} (h:Rep X (.oref id) u): ∃k d,u=OK.val k ((X.μ id).map (·.1))/\X.σ.get id=some (.opq k d):=by
 cases h with
 |oref h1=>exact ⟨_,_,rfl,h1⟩
theorem Rep.fopq_inv {k:OK} {d:k.den} (h:Rep X (.fopq k d) u): ∃o S,u=k.val o/\(o=none->k.isNil d=true)/\∀b,o=some b->k.isNil d=false/\k.holds d X.w b S/\∀c,c=b∨S c->X.T c:=by
 cases h with
 |fopq S h1 h2=>exact ⟨_,S,rfl,h1,h2⟩
theorem Rep.eptr_inv {id ep i off:Nat} (h:Rep X (.eptr id ep i off) u): ∃a ep' t l,u= .pointer (some a)/\X.σ.get id=some (.arr ep' t l)/\ep<=ep'/\
 (ep=ep'->∃b base C,X.μ id=some (b,base,C)/\a=⟨b,base+i*t.cells+off,none⟩):=by
 cases h with
 |eptr h1 h2 h3=>exact ⟨_,_,_,_,rfl,h1,h2,h3⟩
theorem Rep.nptr_inv {id i off:Nat} (h:Rep X (.nptr id i off) u): ∃iv t f h l b base C,u= .pointer (some ⟨b,base+i*t.cells+off,none⟩)/\X.σ.get id=some (.nest iv t f h l)/\X.μ id=some (b,base,C):=by
 cases h with
 |nptr h1 h2=>exact ⟨_,_,_,_,_,_,_,_,rfl,h1,h2⟩
theorem Rep.rows_inv {n:Nat} {cells:List V} (h:Rep X (.rows n cells) u): ∃(A:Option Addr) (len cap:Nat) (f:Nat->Value),u= .slice A len cap/\len*n=cells.length/\len<=cap/\
 (0<cells.length->∃b o,A=some ⟨b,o,none⟩/\X.G b/\∀(j:Nat) c,cells[j]? =some c->X.w.cell? ⟨b,o+j,none⟩=some (f j))/\(∀(j:Nat) c,cells[j]? =some c->Rep X c (f j)):=by
 cases h with
 |rows f h1 h2 h3 h4=>exact ⟨_,_,_,f,rfl,h1,h2,h3,h4⟩
theorem Rep.rows_re {X':Ctx} {n:Nat} {cells cs:List V} (h:Rep X (.rows n cells) u) (hl: ∀us,RepL X cells us->RepL X' cs us) (hG: ∀b,X.G b->X'.G b/\X'.w.heap[b]? =X.w.heap[b]?):Rep X' (.rows n cs) u:=by
 obtain ⟨A,len,cap,f,rfl,h1,h2,h3,h4⟩:=h.rows_inv;have hr:=hl ((List.range cells.length).map f) ⟨by simp,fun j c x hj hx=>by
  simp only [List.getElem?_map,Option.map_eq_some_iff] at hx;obtain ⟨a,ha,rfl⟩:=hx;obtain ⟨q1,q2⟩:=List.getElem?_eq_some_iff.1 ha;simp at q2;subst q2;exact h4 _ c hj⟩
 have hlen:cs.length=cells.length:=by have:=hr.1;simp at this;omega
 have get: ∀{j:Nat} {c:V},cs[j]? =some c->j<cells.length/\Rep X' c (f j):=by
  intro j c hj;have hj':j<cells.length:=by rw [<-hlen];exact (List.getElem?_eq_some_iff.1 hj).1
  refine ⟨hj',hr.2 j c (f j) hj ?_⟩;simp [hj']
 refine .rows f (by rw [hlen];exact h1) h2 (fun h0=> ?_) (fun j c hj=>(get hj).2);obtain ⟨b,o,e,hb,hc⟩:=h3 (by omega);refine ⟨b,o,e,(hG b hb).1,fun j c hj=> ?_⟩;rw [cell_same (hG b hb).2];exact hc j _ (List.getElem?_eq_getElem (get hj).1)
theorem Rep.nslc_inv {id:Nat} (h:Rep X (.nslc id) u): ∃A len cap iv t f h l,u= .slice A len cap/\X.σ.get id=some (.nest iv t f h l)/\Hdr (X.μ id) t l.length none A len cap:=by
 cases h with
 |nslc h1 h2=>exact ⟨_,_,_,_,_,_,_,_,rfl,h1,h2⟩
theorem Rep.nin_inv {id iv i:Nat} {t:Ty} {f:Nat} {h:Option Nat} {l:List t.den} (hr:Rep X (.nin id iv i) u) (hg:X.σ.get id=some (.nest iv t f h l)):(i<l.length/\h≠some i)/\∃p,X.μ id=some p/\hcell X.w p t f i=some u:=by
 cases hr with
 |nin h1 h2 h3=>
  rw [hg] at h1;cases h1;obtain ⟨q1,q2,q3⟩:=h3 rfl;exact ⟨⟨q1,q2⟩,q3⟩
theorem Rep.slc_inv {id ep:Nat} {rng:Option (Nat×Nat)} (h:Rep X (.slc id ep rng) u): ∃A len cap ep' t l,u= .slice A len cap/\X.σ.get id=some (.arr ep' t l)/\ep<=ep'/\
 (ep=ep'->Hdr (X.μ id) t l.length rng A len cap):=by
 cases h with
 |slc h1 h2 h3=>exact ⟨_,_,_,_,_,_,rfl,h1,h2,h3⟩
theorem Rep.agg_inv {cs:List V} (h:Rep X (.agg cs) u): ∃vs:Array Value,u= .agg vs/\RepL X cs vs.toList:=by
 cases h with
 |agg h1 h2=>exact ⟨_,rfl,by simpa using h1,fun j c u hc hu=>h2 j c u hc (by simpa using hu)⟩
theorem Rep.tuple_inv {cs:List V} (h:Rep X (.tuple cs) u): ∃vs:Array Value,u= .tuple vs/\RepL X cs vs.toList:=by
 cases h with
 |tuple h1 h2=>exact ⟨_,rfl,by simpa using h1,fun j c u hc hu=>h2 j c u hc (by simpa using hu)⟩
theorem Rep.fn_inv {f:Fn} {a b:List V} (h:Rep X (.fn f a b) u): ∃vs ws:Array Value,u= .func f vs ws/\RepL X a vs.toList/\RepL X b ws.toList:=by
 cases h with
 |fn h1 h2 h3 h4=>exact ⟨_,_,rfl,⟨by simpa using h1,fun j c u hc hu=>h3 j c u hc (by simpa using hu)⟩,⟨by simpa using h2,fun j c u hc hu=>h4 j c u hc (by simpa using hu)⟩⟩
end
theorem load_ok {P:Program} {o:Oper} {t:TypeId} {a:Operand} (ho:o.op= .load t a) {ρ:Operand->V} {σ:Store} {k:K} (h:loadV P t (ρ a) σ k):
 ∃v σ',k v σ'/\OpOk P o ρ σ v σ':=by
 have hops:o.op.operands.toList=[a]:=by rw [ho];rfl
 have run: ∀(ρr:Operand->Value) (w:World) (ad:Addr) (u:Value),ρr a= .pointer (some ad)->(loadVar t ad).run P w= .ok u w->(execOp ρr o).run P w= .ok (.value u) w:=by
  intro ρr w ad u h1 h2;simp [execOp,ho,h1,Instr.loadAt,Instr.sureAddr,h2]
 unfold loadV at h;split at h
 ·rename_i g n hg hn;split at h
  ·rename_i cells ha;split at h
   ·rename_i v hv;refine ⟨v,σ,h,ok_pure fun X ρr _ _ hr=> ?_⟩;have hra:=hr a (mem_ops hops (by simp));rw [ha] at hra;obtain ⟨b,o',f,e,_,hc,hrc⟩:=hra.fptr_inv;obtain ⟨u',h1,h2⟩:=load_core (X:=X) hg hn hv (b:=b) (o:=o') f hc hrc;exact ⟨u',run ρr X.w _ u' e h1,h2⟩
   ·exact h.elim
  ·rename_i id off ha;split at h
   ·rename_i cells hget;split at h
    ·rename_i v hv;refine ⟨v,σ,h,ok_pure fun X ρr hσ hI hr=> ?_⟩;have hra:=hr a (mem_ops hops (by simp));rw [ha] at hra;obtain ⟨cells',b,base,C,e,hg',hm⟩:=hra.ptr_inv;obtain ⟨B,hI⟩:=hI;subst hσ;rw [hget] at hg';cases hg';obtain ⟨b',cs,ty,k1,k2,k3⟩:=hI.objs id _ hget;rw [hm] at k1;cases k1;obtain ⟨u',h1,h2⟩:=load_core (X:=X) hg hn hv (b:=b) (o:=0) (fun j=>cs.getD j undef)
      (fun j c hj=>by
       have hlt:j<cs.toList.length:=by rw [k3.1];exact (List.getElem?_eq_some_iff.1 hj).1
       simp at hlt;simp [World.cell?,k2,hlt])
      (fun j c hj=>by
       have hlt:j<cs.toList.length:=by rw [k3.1];exact (List.getElem?_eq_some_iff.1 hj).1
       have:=k3.2 j c _ hj (List.getElem?_eq_getElem hlt);simp at hlt;simpa [hlt] using this)
     exact ⟨u',run ρr X.w _ u' e h1,h2⟩
    ·exact h.elim
   ·exact h.elim
  ·rename_i id ep i off ha;split at h
   ·rename_i ep' t' l hget;split at h
    ·rename_i hep;obtain ⟨hi,h⟩:=h;have hx:nth l i=some (l[i]'hi):=List.getElem?_eq_getElem hi;have h:=h _ hx;generalize l[i]'hi=x at hx h;split at h
     ·rename_i v hv;refine ⟨v,σ,h,ok_pure fun X ρr hσ hI hr=> ?_⟩;have hra:=hr a (mem_ops hops (by simp));rw [ha] at hra;obtain ⟨ad,ep2,t2,l2,e,hg',_,hcur⟩:=hra.eptr_inv;obtain ⟨B,hI⟩:=hI;subst hσ;rw [hget] at hg';cases hg';obtain ⟨b,base,C,hm,rfl⟩:=hcur hep;have hob:=hI.objs id _ hget;rcases hob with ⟨k1,_⟩|⟨b',base',C',cs,ty,k1,k2,k3,k4,k5,k6⟩
      ·rw [hm] at k1;cases k1
      ·rw [hm] at k1;cases k1;obtain ⟨row,r1,r2⟩:=k6 i x hx;have hrow:=enc_rep (X:=X) r1;obtain ⟨u',h1,h2⟩:=load_core (X:=X) hg hn hv (b:=b) (o:=base+i*t'.cells) (fun j=>row.getD j undef)
        (fun j c hj=>by
         have hlt:j<row.length:=by rw [hrow.1];exact (List.getElem?_eq_some_iff.1 hj).1
         have:=r2 j _ (List.getElem?_eq_getElem hlt);simp [World.cell?,k2,this,hlt])
        (fun j c hj=>by
         have hlt:j<row.length:=by rw [hrow.1];exact (List.getElem?_eq_some_iff.1 hj).1
         have:=hrow.2 j c _ hj (List.getElem?_eq_getElem hlt);simpa [hlt] using this)
       exact ⟨u',run ρr X.w _ u' e h1,h2⟩
     ·exact h.elim
    ·exact h.elim
   ·exact h.elim
  ·rename_i id i off ha;split at h
   ·rename_i iv t' f l hget;obtain ⟨hi,h⟩:=h;have hx:nth l i=some (l[i]'hi):=List.getElem?_eq_getElem hi;have h:=h _ hx;split at h
    ·rename_i v hv;refine ⟨v,σ,h,ok_pure fun X ρr hσ hI hr=> ?_⟩;have hra:=hr a (mem_ops hops (by simp));rw [ha] at hra;obtain ⟨B,hI⟩:=hI;subst hσ;obtain ⟨iv2,t2,f2,h2,l2,b,base,C,e,hg',hm⟩:=hra.nptr_inv;rw [hget] at hg';cases hg';obtain ⟨b',base',C',cs,ty,k1,k2,k3,k4,k5,kf,k6,k7,k8⟩:=hI.objs id _ hget;rw [hm] at k1;cases k1;have hcell: ∀(j:Nat) c,((enc t' l[i]).set f (.nin id iv i))[j]? =some c->∃u,cs[base+i*t'.cells+j]? =some u/\Rep X c u:=by
      intro j c hj;have hlt:j<t'.cells:=by have:=(List.getElem?_eq_some_iff.1 hj).1;simpa [enc_len] using this
      obtain ⟨c0,hc0⟩:=enc_get (x:=l[i]) hlt;obtain ⟨u,q1,q2,q3⟩:=k6 i _ hx j c0 hc0;refine ⟨u,q1, ?_⟩;by_cases hjf:j=f
      ·subst hjf;rw [List.getElem?_set_self (by rw [enc_len];exact kf)] at hj;cases hj;exact .nin hget (Nat.le_refl _) (fun _=>⟨hi,by simp,_,hm,hcell_of k2 q1⟩)
      ·rw [List.getElem?_set_ne (fun e=>hjf e.symm),hc0] at hj;cases hj;exact q2 hjf
     obtain ⟨u',h1,h2⟩:=load_core (X:=X) hg hn hv (b:=b) (o:=base+i*t'.cells) (fun j=>cs.getD (base+i*t'.cells+j) undef)
      (fun j c hj=>by
       obtain ⟨u,q1,_⟩:=hcell j c hj;simp [World.cell?,k2,q1])
      (fun j c hj=>by
       obtain ⟨u,q1,q2⟩:=hcell j c hj;rw [show cs.getD (base+i*t'.cells+j) undef=u by simp [Array.getD_eq_getD_getElem?,q1]];exact q2)
     exact ⟨u',run ρr X.w _ u' e h1,h2⟩
    ·exact h.elim
   ·exact h.elim
  ·exact h.elim
 ·exact h.elim
theorem splice_get {α:Type} (cs vs:List α) (o n:Nat) (hn:vs.length=n) (hfit:o+n<=cs.length) (p:Nat):
 (cs.take o++vs++cs.drop (o+n))[p]? =if p<o then cs[p]? else if p<o+n then vs[p-o]? else cs[p]? :=by
 have ht:(cs.take o).length=o:=by simp;omega
 by_cases h1:p<o
 ·rw [if_pos h1,List.append_assoc,List.getElem?_append_left (by omega),List.getElem?_take,if_pos h1]
 ·rw [if_neg h1,List.append_assoc,List.getElem?_append_right (by omega),ht];by_cases h2:p<o+n
  ·rw [if_pos h2,List.getElem?_append_left (by omega)]
  ·rw [if_neg h2,List.getElem?_append_right (by omega),hn,List.getElem?_drop];congr 1;omega
theorem nest_put {B:Nat->Prop} {X:Ctx} (hI:Inv B X) (hB: ∀b,X.w.heap.size<=b->B b) {id iv:Nat} {t:Ty} {f:Nat} {h:Option Nat} {l:List t.den} (hg:X.σ.get id=some (.nest iv t f h l)) {b base C:Nat} (hm:X.μ id=some (b,base,C))
 {i:Nat} (hi:i<l.length) (hh:h=none∨h=some i) {z:t.den} {arr cs:Array Value} {ty:TypeId} (hb:X.w.heap[b]? =some (.cells cs ty (0,0))) (hasz:arr.size=cs.size)
 (hother: ∀j jj,j≠i->jj<t.cells->arr[base+j*t.cells+jj]? =cs[base+j*t.cells+jj]?)
 (hrow: ∀(j:Nat) c,(enc t z)[j]? =some c->∃u,arr[base+i*t.cells+j]? =some u/\(j≠f->Rep X c u)) {h':Option Nat}
 (hh':h'=some i∨(h'=none/\∃u c,arr[base+i*t.cells+f]? =some u/\(enc t z)[f]? =some c/\RepH X.w X.G c u/\∀b',hblk u=some b'->h=none/\cs[base+i*t.cells+f]? =some u)):
 Evo X ⟨X.w.setRow b arr,(id, .nest (iv+1) t f h' (l.set i z))::X.σ,fun k=>if k=id then X.μ id else X.μ k,X.F⟩/\
  Inv B ⟨X.w.setRow b arr,(id, .nest (iv+1) t f h' (l.set i z))::X.σ,fun k=>if k=id then X.μ id else X.μ k,X.F⟩:=by
 obtain ⟨b',base',C',cs',ty',k1,k2,k3,k4,k5,kf,k6,k7,k8⟩:=hI.objs id _ hg;rw [hm] at k1;cases k1;rw [hb] at k2;cases k2;have hnew:(X.w.setRow b arr).heap[b]? =some (.cells arr ty (0,0)):=setRow_heap X.w b cs _ ty (0,0) hb;have oth: ∀{j:Nat},h'≠some j->j≠i->h≠some j:=by
  intro j _ hji e;rcases hh with rfl|rfl
  ·cases e
  ·exact hji (Option.some.inj e).symm
 have cell': ∀{j:Nat} {v:Value},hcell (X.w.setRow b arr) (b,base,C) t f j=some v->arr[base+j*t.cells+f]? =some v:=by
  intro j v hv;simpa [hcell,World.cell?,hnew] using hv
 have hdr: ∀{j:Nat} {v:Value} {b':Nat},j<l.length->h'≠some j->hcell (X.w.setRow b arr) (b,base,C) t f j=some v->hblk v=some b'->h≠some j/\hcell X.w (b,base,C) t f j=some v:=by
  intro j v b' hj hn hv hbv;have hv:=cell' hv;by_cases hji:j=i
  ·subst hji;rcases hh' with e|⟨_,u,c,q1,q2,q3,q4⟩
   ·exact absurd e hn
   ·rw [q1] at hv;cases hv;obtain ⟨e1,e2⟩:=q4 b' hbv;exact ⟨by rw [e1];simp,hcell_of hb e2⟩
  ·rw [hother j f hji kf] at hv;exact ⟨oth hn hji,hcell_of hb hv⟩
 refine put_evoG hI hB (o':= .nest (iv+1) t f h' (l.set i z)) (p':=X.μ id) (w':=X.w.setRow b arr) rfl rfl rfl (by simp) (fun b2 _ hk=>setRow_other X.w b b2 arr (fun e=>hk _ hg ⟨_,hm, .inl e.symm⟩)) (fun b2 hk=> ?_)
  (fun c hc=>by rw [hg] at hc;cases hc) (fun ep t2 l2 hc=>by rw [hg] at hc;cases hc)
  (fun iv2 t2 f2 h2 l2 hc=>by rw [hg] at hc;cases hc;exact ⟨_,_,_,rfl,Nat.le_succ _,rfl,List.length_set,fun e=>by omega⟩) (fun hE=> ?_)
 ·obtain ⟨p,hp,hk⟩:=hk;have hp:X.μ id=some p:=by simpa using hp
  rw [hm] at hp;cases hp;refine .inr ⟨_,hg,_,hm, ?_⟩;rcases hk with hk|⟨j,v,q1,q2,q3,q4⟩
  ·exact .inl hk
  ·rw [List.length_set] at q1;obtain ⟨e1,e2⟩:=hdr q1 q2 q3 q4;exact .inr ⟨j,v,q1,e1,e2,q4⟩
 ·refine ⟨b,base,C,arr,ty,by simpa using hm,hnew,by rw [hasz];exact k3,by rw [List.length_set];exact k4,k5,kf,fun j x hx jj c hc=> ?_,fun a1 a2 v1 v2 b' q1 q2 q3 q4 q5 q6 q7 q8=> ?_,fun a v q1 q2 q3 q4=> ?_⟩
  ·by_cases hji:j=i
   ·subst hji;have hxz:x=z:=by
     have:(List.set l j z)[j]? =some z:=by simp [hi]
     exact (Option.some.inj (this.symm.trans hx)).symm
    subst hxz;obtain ⟨u,r1,r2⟩:=hrow jj c hc;refine ⟨u,r1,fun hj=>(r2 hj).dat hE.good (enc_dat (List.mem_of_getElem? hc)),fun hj hn=> ?_⟩;subst hj;rcases hh' with e|⟨_,u',c',q1,q2,q3,q4⟩
    ·exact absurd e hn
    ·rw [r1] at q1;cases q1;rw [hc] at q2;cases q2;refine q3.keep hE.good (fun b2 hb2=>setRow_other X.w b b2 arr (fun e=> ?_));obtain ⟨e1,e2⟩:=q4 b2 hb2;subst e;exact k8 j u hi (by rw [e1];simp) (hcell_of hb e2) hb2
   ·have hx':l[j]? =some x:=by
     have:(List.set l i z)[j]? =l[j]? :=List.getElem?_set_ne (fun e=>hji e.symm);exact this.symm.trans hx
    obtain ⟨u,r1,r2,r3⟩:=k6 j x hx' jj c hc;have hjl:jj<t.cells:=by rw [<-enc_len t x];exact (List.getElem?_eq_some_iff.1 hc).1
    refine ⟨u,by rw [hother j jj hji hjl];exact r1,fun hj=>(r2 hj).dat hE.good (enc_dat (List.mem_of_getElem? hc)),fun hj hn=> ?_⟩;subst hj;refine (r3 rfl (oth hn hji)).keep hE.good (fun b2 hb2=>setRow_other X.w b b2 arr (fun e=> ?_));subst e;exact k8 j u (List.getElem?_eq_some_iff.1 hx').1 (oth hn hji) (hcell_of hb r1) hb2
  ·rw [List.length_set] at q1 q2;obtain ⟨e1,e2⟩:=hdr q1 q3 q5 q7;obtain ⟨e3,e4⟩:=hdr q2 q4 q6 q8;exact k7 a1 a2 v1 v2 b' q1 q2 e1 e3 e2 e4 q7 q8
  ·rw [List.length_set] at q1;obtain ⟨e1,e2⟩:=hdr q1 q2 q3 q4;exact k8 a v q1 e1 e2 q4
theorem holeIs_or {h:Option Nat} {i:Nat} (hh:holeIs h i):h=none∨h=some i:=by
 cases h with
 |none=>exact .inl rfl
 |some j=>have hh:i=j:=hh;exact .inr (by rw [hh])
theorem get_set_ne {cells:List V} {f j:Nat} {c:V} (h:j≠f):(cells.set f c)[j]? =cells[j]? :=List.getElem?_set_ne (fun e=>h e.symm)
theorem over_get (cells new:List V) (off:Nat) (hfit:off+new.length<=cells.length) (p:Nat):
 (over cells off new)[p]? =if p<off then cells[p]? else if p<off+new.length then new[p-off]? else cells[p]? :=splice_get cells new off new.length rfl hfit p
theorem storeN_ok {P:Program} {o:Oper} {t:TypeId} {a x:Operand} (ho:o.op= .store t a x) {ρ:Operand->V} {σ:Store} {k:K} {n id i off:Nat} (hn:size? P t=some n) (ha:ρ a= .nptr id i off)
 (hcl:(cellsV (ρ x)).length=n) (hone:(cellsV (ρ x)).all oneV=true) (h:storeN id i off n (cellsV (ρ x)) σ k): ∃v σ',k v σ'/\OpOk P o ρ σ v σ':=by
 have hops:o.op.operands.toList=[a,x]:=by rw [ho];rfl
 have run: ∀(ρr:Operand->Value) (w w':World) (ad:Addr),ρr a= .pointer (some ad)->(storeVar t ad (ρr x)).run P w= .ok () w'->(execOp ρr o).run P w= .ok .skip w':=by
  intro ρr w w' ad h1 h2;simp [execOp,ho,h1,Instr.storeAt,Instr.sureAddr,h2]
 unfold storeN at h;split at h
 ·rename_i iv t' f hl l hget;split at h
  ·rename_i hfit0;have phys: ∀{B:Nat->Prop} {F:Fr} {ρr:Operand->Value} {w:World} {μ:Mu},Inv B ⟨w,σ,μ,F⟩->(∀y,y∈o.op.operands.toList->Rep ⟨w,σ,μ,F⟩ (ρ y) (ρr y))->i<l.length->
    ∃b base C cs ty arr,μ id=some (b,base,C)/\w.heap[b]? =some (.cells cs ty (0,0))/\(execOp ρr o).run P w= .ok .skip (w.setRow b arr)/\arr.size=cs.size/\
     (∀j jj,j≠i->jj<t'.cells->arr[base+j*t'.cells+jj]? =cs[base+j*t'.cells+jj]?)/\
     (∀jj,jj<t'.cells->arr[base+i*t'.cells+jj]? =if jj<off then cs[base+i*t'.cells+jj]? else if jj<off+n then (ρr x).cells.toList[jj-off]? else cs[base+i*t'.cells+jj]?)/\
     RepL ⟨w,σ,μ,F⟩ (cellsV (ρ x)) (ρr x).cells.toList/\base+i*t'.cells+t'.cells<=cs.size:=by
    intro B F ρr w μ hI hr hi;have hra:=hr a (mem_ops hops (by simp));rw [ha] at hra;have hrx:=cells_rep (hr x (mem_ops hops (by simp))) (notAny_of_one hone);obtain ⟨iv2,t2,f2,h2,l2,b,base,C,e,hg',hm⟩:=hra.nptr_inv;have hg2:Store.get σ id=some (.nest iv2 t2 f2 h2 l2):=hg';rw [hget] at hg2;cases hg2;obtain ⟨b',base',C',cs,ty,k1,k2,k3,k4,k5,kf,k6,k7,k8⟩:=hI.objs id _ hget;have k1':μ id=some (b',base',C'):=k1;have hm':μ id=some (b,base,C):=hm;rw [hm'] at k1';cases k1';have hvl:(ρr x).cells.size=n:=by have:=hrx.1;simp at this;omega
    have hvl2:(ρr x).cells.toList.length=n:=by simpa using hvl
    have hiC:i<C:=by omega
    have hmul:(i+1)*t'.cells<=C*t'.cells:=Nat.mul_le_mul_right _ hiC;have hmul2:(i+1)*t'.cells=i*t'.cells+t'.cells:=by rw [Nat.add_mul,Nat.one_mul]
    have hfit:base+i*t'.cells+off+n<=cs.size:=by omega
    have hst:=run_storeVar (P:=P) hn w b (base+i*t'.cells+off) ty cs k2 (ρr x) hvl (hrx.one hone) hfit;generalize harr:(cs.toList.take (base+i*t'.cells+off)++(ρr x).cells.toList++cs.toList.drop (base+i*t'.cells+off+n)).toArray=arr at hst;have harr2: ∀p:Nat,arr[p]? =if p<base+i*t'.cells+off then cs[p]? else if p<base+i*t'.cells+off+n then (ρr x).cells.toList[p-(base+i*t'.cells+off)]? else cs[p]? :=by
     intro p;have:=splice_get cs.toList (ρr x).cells.toList (base+i*t'.cells+off) n hvl2 (by simpa using hfit) p;rw [<-harr];simpa using this
    refine ⟨b,base,C,cs,ty,arr,hm',k2,run ρr w _ _ e hst,by rw [<-harr];simp;omega,fun j jj hj hjj=> ?_,fun jj hjj=> ?_,hrx,by omega⟩
    ·rw [harr2];rcases Nat.lt_or_gt_of_ne hj with h3|h3
     ·have h4:(j+1)*t'.cells<=i*t'.cells:=Nat.mul_le_mul_right _ h3;have h5:(j+1)*t'.cells=j*t'.cells+t'.cells:=by rw [Nat.add_mul,Nat.one_mul]
      rw [if_pos (by omega)]
     ·have h4:(i+1)*t'.cells<=j*t'.cells:=Nat.mul_le_mul_right _ h3;rw [if_neg (by omega),if_neg (by omega)]
    ·rw [harr2];by_cases h1:jj<off
     ·rw [if_pos (by omega),if_pos h1]
     ·rw [if_neg (by omega),if_neg h1];by_cases h2:jj<off+n
      ·rw [if_pos (by omega),if_pos h2];congr 1;omega
      ·rw [if_neg (by omega),if_neg h2]
   have rows: ∀{B:Nat->Prop} {F:Fr} {ρr:Operand->Value} {w:World} {μ:Mu} {b base C:Nat} {cs arr:Array Value} {ty:TypeId},Inv B ⟨w,σ,μ,F⟩->μ id=some (b,base,C)->w.heap[b]? =some (.cells cs ty (0,0))->
    RepL ⟨w,σ,μ,F⟩ (cellsV (ρ x)) (ρr x).cells.toList->(∀jj,jj<t'.cells->arr[base+i*t'.cells+jj]? =if jj<off then cs[base+i*t'.cells+jj]? else if jj<off+n then (ρr x).cells.toList[jj-off]? else cs[base+i*t'.cells+jj]?)->
    ∀(hi:i<l.length) (cs':List V) (z:t'.den),decAll t' cs'=some z->(∀jj,jj≠f->cs'[jj]? =(over (enc t' l[i]) off (cellsV (ρ x)))[jj]?)->base+i*t'.cells+t'.cells<=cs.size->arr.size=cs.size->
    ∀(j:Nat) c,(enc t' z)[j]? =some c->∃u,arr[base+i*t'.cells+j]? =some u/\(j≠f->Rep ⟨w,σ,μ,F⟩ c u):=by
    intro B F ρr w μ b base C cs arr ty hI hm hb hrx harr hi cs' z hz hcs hsz hasz j c hc;have hj:j<t'.cells:=by rw [<-enc_len t' z];exact (List.getElem?_eq_some_iff.1 hc).1
    have hlt:base+i*t'.cells+j<arr.size:=by omega
    refine ⟨arr[base+i*t'.cells+j],Array.getElem?_eq_getElem hlt,fun hjf=> ?_⟩;have hu:arr[base+i*t'.cells+j]? =some arr[base+i*t'.cells+j]:=Array.getElem?_eq_getElem hlt;generalize arr[base+i*t'.cells+j]=u at hu;obtain ⟨hcl',hdc⟩:=decAll_cell hz;obtain ⟨c0,hc0⟩: ∃c0,cs'[j]? =some c0:=⟨_,List.getElem?_eq_getElem (by omega)⟩
    obtain ⟨c1,h1,h2,_,_⟩:=hdc j c0 hc0;rw [hc] at h1;cases h1;refine h2 _ _ ?_;rw [hcs j hjf,over_get _ _ _ (by rw [enc_len];omega),hcl] at hc0;rw [harr j hj] at hu;obtain ⟨b',base',C',cs2,ty2,k1,k2,k3,k4,k5,kf,k6,k7,k8⟩:=hI.objs id _ hget;have k1':μ id=some (b',base',C'):=k1;rw [hm] at k1';cases k1';rw [show Ctx.w ⟨w,σ,μ,F⟩=w from rfl,hb] at k2;cases k2;have old:(enc t' l[i])[j]? =some c0->cs[base+i*t'.cells+j]? =some u->Rep ⟨w,σ,μ,F⟩ c0 u:=by
     intro e1 e2;obtain ⟨u',q1,q2,_⟩:=k6 i _ (List.getElem?_eq_getElem hi) j c0 e1;rw [e2] at q1;cases q1;exact q2 hjf
    split at hu
    ·rename_i h3;rw [if_pos h3] at hc0;exact old hc0 hu
    ·rename_i h3;rw [if_neg h3] at hc0;split at hu
     ·rename_i h4;rw [if_pos h4] at hc0;exact hrx.2 _ _ _ hc0 hu
     ·rename_i h4;rw [if_neg h4] at hc0;exact old hc0 hu
   split at h
   ·rename_i hoff;split at h
    ·rename_i hnil;obtain ⟨⟨hi,hho⟩,h⟩:=h;have h:=h _ (List.getElem?_eq_getElem hi);split at h
     ·rename_i z hz;refine ⟨_,_,h,fun B F ρr w μ hI hB hr=> ?_⟩;obtain ⟨b,base,C,cs,ty,arr,hm,hb,hrun,hasz,hoth,hrow,hrx,hsz⟩:=phys hI hr hi;have hr2:=rows (arr:=arr) hI hm hb hrx hrow hi _ z hz (fun _ _=>rfl) hsz hasz;obtain ⟨hcl',hdc⟩:=decAll_cell hz;have kf:f<t'.cells:=by omega
      have hcf:(over (enc t' l[i]) off (cellsV (ρ x)))[f]? =some .nils:=by
       rw [over_get _ _ _ (by rw [enc_len];omega),hcl,if_neg (by omega),if_pos hoff.2];exact hnil
      obtain ⟨c1,q1,_,_,q4⟩:=hdc f _ hcf;obtain ⟨tin,rfl⟩:=q4 rfl;have huf:arr[base+i*t'.cells+f]? =some (.slice none 0 0):=by
       rw [hrow f kf,if_neg (by omega),if_pos hoff.2];have hlt:f-off<(ρr x).cells.toList.length:=by rw [hrx.1,hcl];omega
       have:=hrx.2 _ _ _ hnil (List.getElem?_eq_getElem hlt);rw [List.getElem?_eq_getElem hlt,this.nils_inv]
      have key:=nest_put (X:=⟨w,σ,μ,F⟩) hI hB hget hm hi (holeIs_or hho) (z:=z) hb hasz hoth hr2 (h':=none)
       (.inr ⟨rfl,_,_,huf,q1,⟨tin,[],none,0,rfl,rfl, .inl ⟨rfl,rfl⟩⟩,fun b' hb'=>by simp [hblk] at hb'⟩)
      exact .skip hrun ⟨_,key.2, .any,key.1⟩
     ·exact h.elim
    ·rename_i id2 ep hnil;split at h
     ·rename_i ep2 tin l2 hg2;split at h
      ·rename_i hep;subst hep;obtain ⟨⟨hi,hho⟩,h⟩:=h;have h:=h _ (List.getElem?_eq_getElem hi);split at h
       ·rename_i z hz;refine ⟨_,_,h,fun B F ρr w μ hI hB hr=> ?_⟩;obtain ⟨b,base,C,cs,ty,arr,hm,hb,hrun,hasz,hoth,hrow,hrx,hsz⟩:=phys hI hr hi;have hr2:=rows (arr:=arr) hI hm hb hrx hrow hi _ z hz (fun jj hjj=>get_set_ne hjj) hsz hasz;obtain ⟨hcl',hdc⟩:=decAll_cell hz;have kf:f<t'.cells:=by omega
        have hlo:(over (enc t' l[i]) off (cellsV (ρ x))).length=t'.cells:=by rw [<-hcl',List.length_set]
        obtain ⟨c1,q1,_,q3,_⟩:=hdc f (.list .part tin l2) (List.getElem?_set_self (by omega));obtain rfl:=q3 _ _ rfl;have hlt:f-off<(ρr x).cells.toList.length:=by rw [hrx.1,hcl];omega
        have hru:=hrx.2 _ _ _ hnil (List.getElem?_eq_getElem hlt);have huf:arr[base+i*t'.cells+f]? =some ((ρr x).cells.toList[f-off]):=by
         rw [hrow f kf,if_neg (by omega),if_pos hoff.2,List.getElem?_eq_getElem hlt]
        generalize (ρr x).cells.toList[f-off]=u at hru huf;have key:=nest_put (X:=⟨w,σ,μ,F⟩) hI hB hget hm hi (holeIs_or hho) (z:=z) hb hasz hoth hr2 (h':=some i) (.inl rfl);have hne:id2≠id:=by rintro rfl;rw [hget] at hg2;cases hg2
        have key2:=attach_evo (X:=⟨w.setRow b arr,(id, .nest (iv+1) t' f (some i) (l.set i z))::σ,fun k=>if k=id then μ id else μ k,F⟩) key.2 (id:=id) (iv:=iv+1) (f:=f) (id2:=id2) (ep2:=ep) (i:=i) (l:=l.set i z) (by simp [get_cons])
         (tin:=tin) (l2:=l2) (by simp only [get_cons];rw [if_neg (fun e=>hne e.symm)];exact hg2) (p:=(b,base,C)) (by simpa using hm) (u:=u) (by simp [hcell,World.cell?,setRow_heap w b cs arr ty (0,0) hb,huf])
         (hru.evo key.1) (by simpa using hi) (by simpa using q1)
        exact .skip hrun ⟨_,key2.2, .any,key.1.trans key2.1⟩
       ·exact h.elim
      ·exact h.elim
     ·exact h.elim
    ·exact h.elim
   ·rename_i hoff;split at h
    ·obtain ⟨hi,h⟩:=h;have h:=h _ (List.getElem?_eq_getElem hi);split at h
     ·rename_i z hz;refine ⟨_,_,h,fun B F ρr w μ hI hB hr=> ?_⟩;obtain ⟨b,base,C,cs,ty,arr,hm,hb,hrun,hasz,hoth,hrow,hrx,hsz⟩:=phys hI hr hi;have hr2:=rows (arr:=arr) hI hm hb hrx hrow hi _ z hz (fun _ _=>rfl) hsz hasz;obtain ⟨hcl',hdc⟩:=decAll_cell hz;obtain ⟨b',base',C',cs2,ty2,k1,k2,k3,k4,k5,kf,k6,k7,k8⟩:=hI.objs id _ hget;have k1':μ id=some (b',base',C'):=k1;rw [hm] at k1';cases k1';rw [show Ctx.w ⟨w,σ,μ,F⟩=w from rfl,hb] at k2;cases k2;obtain ⟨c,hc⟩:=enc_get (x:=l[i]) kf;obtain ⟨u,r1,_,r3⟩:=k6 i _ (List.getElem?_eq_getElem hi) f c hc;have hH:=r3 rfl (by simp);have hcf:(over (enc t' l[i]) off (cellsV (ρ x)))[f]? =some c:=by
       rw [over_get _ _ _ (by rw [enc_len];omega),hcl];by_cases h1:f<off
       ·rw [if_pos h1];exact hc
       ·rw [if_neg h1,if_neg (by omega)];exact hc
      obtain ⟨c1,q1,_,q3,_⟩:=hdc f c hcf;have huf:arr[base+i*t'.cells+f]? =cs[base+i*t'.cells+f]? :=by
       rw [hrow f kf];by_cases h1:f<off
       ·rw [if_pos h1]
       ·rw [if_neg h1,if_neg (by omega)]
      obtain ⟨tin,li,A,cap,rfl,rfl,hH2⟩:=hH;obtain rfl:=q3 _ _ rfl;have key:=nest_put (X:=⟨w,σ,μ,F⟩) hI hB hget hm hi (.inl rfl) (z:=z) hb hasz hoth hr2 (h':=none)
       (.inr ⟨rfl,_,_,huf.trans r1,q1,⟨tin,li,A,cap,rfl,rfl,hH2⟩,fun b' hb'=>⟨rfl,r1⟩⟩)
      exact .skip hrun ⟨_,key.2, .any,key.1⟩
     ·exact h.elim
    ·exact h.elim
  ·exact h.elim
 ·exact h.elim
theorem store_ok {P:Program} {o:Oper} {t:TypeId} {a x:Operand} (ho:o.op= .store t a x) {ρ:Operand->V} {σ:Store} {k:K} (h:storeV P t (ρ a) (ρ x) σ k):
 ∃v σ',k v σ'/\OpOk P o ρ σ v σ':=by
 have hops:o.op.operands.toList=[a,x]:=by rw [ho];rfl
 have run: ∀(ρr:Operand->Value) (w w':World) (ad:Addr),ρr a= .pointer (some ad)->(storeVar t ad (ρr x)).run P w= .ok () w'->(execOp ρr o).run P w= .ok .skip w':=by
  intro ρr w w' ad h1 h2;simp [execOp,ho,h1,Instr.storeAt,Instr.sureAddr,h2]
 unfold storeV at h;split at h
 ·rename_i n hn;split at h
  ·rename_i hc;obtain ⟨hcl,hone⟩:=hc;split at h
   ·rename_i id off ha;split at h
    ·rename_i cells hget;split at h
     ·rename_i hfit;refine ⟨_,_,h,fun B F ρr w μ hI hB hr=> ?_⟩;have hra:=hr a (mem_ops hops (by simp));rw [ha] at hra;have hrx:=cells_rep (hr x (mem_ops hops (by simp))) (notAny_of_one hone);obtain ⟨cells',b,base,C,e,hg',hm⟩:=hra.ptr_inv;have hg2:Store.get σ id=some (.box cells'):=hg';rw [hget] at hg2;cases hg2;obtain ⟨b',cs,ty,k1,k2,k3⟩:=hI.objs id _ hget;have k1':μ id=some (b',0,ty):=k1;have hm':μ id=some (b,base,C):=hm;rw [hm'] at k1';cases k1';have hvl:(ρr x).cells.size=n:=by have:=hrx.1;simp at this;omega
      have hfit2:0+off+n<=cs.size:=by have:=k3.1;simp at this;omega
      have hst:=run_storeVar (P:=P) hn w b (0+off) C cs k2 (ρr x) hvl (hrx.one hone) hfit2;generalize harr:(cs.toList.take (0+off)++(ρr x).cells.toList++cs.toList.drop (0+off+n)).toArray=arr at hst;have key:=put_evo hI hB (id:=id) (o':= .box (over cells off (cellsV (ρ x)))) (p':=μ id) (w':=w.setRow b arr) rfl rfl rfl (by simp)
       (fun b2 _ hne=>setRow_other w b b2 arr (fun e=>hne _ _ hget hm' e.symm))
       (fun q hq=> .inr ⟨_,_,hget,hm',by rw [hm'] at hq;cases hq;rfl⟩)
       (fun c _=>⟨⟨_,rfl⟩,rfl⟩)
       (fun ep t l hg=>by have hg3:Store.get σ id=some (.arr ep t l):=hg;rw [hget] at hg3;cases hg3)
       (fun hE=>⟨b,_,C,by simpa using hm',setRow_heap w b cs _ C (0,0) k2,by
        have h1:=over_rep (X:=⟨w,σ,μ,F⟩) off k3 hrx;have h2:(ρr x).cells.toList.length=n:=by simpa using hvl
        rw [h2] at h1;have h3:arr.toList=cs.toList.take off++(ρr x).cells.toList++cs.toList.drop (off+n):=by rw [<-harr];simp
        rw [h3];exact h1.evo hE⟩)
      exact .skip (run ρr w _ _ e hst) ⟨_,key.2, .any,key.1⟩
     ·exact h.elim
    ·exact h.elim
   ·rename_i id ep i off ha;split at h
    ·rename_i ep' t' l hget;split at h
     ·rename_i hep;obtain ⟨hep,hin⟩:=hep;obtain ⟨hi,h⟩:=h;have hx:nth l i=some (l[i]'hi):=List.getElem?_eq_getElem hi;have h:=h _ hx;generalize l[i]'hi=y at hx h;split at h
      ·rename_i z hz;refine ⟨_,_,h,fun B F ρr w μ hI hB hr=> ?_⟩;have hra:=hr a (mem_ops hops (by simp));rw [ha] at hra;have hrx:=cells_rep (hr x (mem_ops hops (by simp))) (notAny_of_one hone);obtain ⟨ad,ep2,t2,l2,e,hg',_,hcur⟩:=hra.eptr_inv;have hg2:Store.get σ id=some (.arr ep2 t2 l2):=hg';rw [hget] at hg2;cases hg2;obtain ⟨b,base,C,hm,rfl⟩:=hcur hep;have hm':μ id=some (b,base,C):=hm;have hob:=hI.objs id _ hget;rcases hob with ⟨k1,_⟩|⟨b',base',C',cs,ty,k1,k2,k3,k4,k5,k6⟩
       ·have k1':μ id=none:=k1;rw [hm'] at k1';cases k1'
       ·have k1':μ id=some (b',base',C'):=k1;rw [hm'] at k1';cases k1';obtain ⟨row,r1,r2⟩:=k6 i y hx;have hrow:=enc_rep (X:=⟨w,σ,μ,F⟩) r1;have hvl:(ρr x).cells.size=n:=by have:=hrx.1;simp at this;omega
        have hvl2:(ρr x).cells.toList.length=n:=by simpa using hvl
        have hsz:=r1.len;have hiC:i<C:=by omega
        have hmul:(i+1)*t'.cells<=C*t'.cells:=Nat.mul_le_mul_right _ hiC;have hmul2:(i+1)*t'.cells=i*t'.cells+t'.cells:=by rw [Nat.add_mul,Nat.one_mul]
        have hfit:base+i*t'.cells+off+n<=cs.size:=by omega
        have hst:=run_storeVar (P:=P) hn w b (base+i*t'.cells+off) ty cs k2 (ρr x) hvl (hrx.one hone) hfit;generalize harr:(cs.toList.take (base+i*t'.cells+off)++(ρr x).cells.toList++cs.toList.drop (base+i*t'.cells+off+n)).toArray=arr at hst;have harr2: ∀p:Nat,arr[p]? =if p<base+i*t'.cells+off then cs[p]? else if p<base+i*t'.cells+off+n then (ρr x).cells.toList[p-(base+i*t'.cells+off)]? else cs[p]? :=by
         intro p;have:=splice_get cs.toList (ρr x).cells.toList (base+i*t'.cells+off) n hvl2 (by simpa using hfit) p;rw [<-harr];simpa using this
        have hasz:arr.size=cs.size:=by rw [<-harr];simp;omega
        have hover:=over_rep (X:=⟨w,σ,μ,F⟩) off hrow hrx;have hzr:=decAll_rep hz hover;rw [hvl2] at hzr;have key:=put_evo hI hB (id:=id) (o':= .arr ep' t' (List.set l i z)) (p':=μ id) (w':=w.setRow b arr) rfl rfl rfl (by simp)
         (fun b2 _ hne=>setRow_other w b b2 arr (fun e=>hne _ _ hget hm' e.symm))
         (fun q hq=> .inr ⟨_,_,hget,hm',by rw [hm'] at hq;cases hq;rfl⟩)
         (fun c hg=>by have hg3:Store.get σ id=some (.box c):=hg;rw [hget] at hg3;cases hg3)
         (fun ep t l3 hg=>by
          have hg3:Store.get σ id=some (.arr ep t l3):=hg;rw [hget] at hg3;cases hg3;exact ⟨_,_,rfl,Nat.le_refl _,fun _=>⟨rfl,List.length_set⟩⟩)
         (fun hE=> .inr ⟨b,base,C,_,ty,by simpa using hm',setRow_heap w b cs _ ty (0,0) k2,by rw [hasz];exact k3,by rw [List.length_set];exact k4,k5,fun j w0 hj=>by
          by_cases hji:i=j
          ·subst hji;have hzj:w0=z:=by
            have:(List.set l i z)[i]? =some z:=by simp [hi]
            exact (Option.some.inj (this.symm.trans hj)).symm
           subst hzj;refine ⟨_,hzr.keep hE.good,fun jj u hu=> ?_⟩;rw [splice_get _ _ off n hvl2 (by omega)] at hu;rw [harr2];split at hu
           ·rw [if_pos (by omega)];have:=r2 jj u hu;simpa using this
           ·rw [if_neg (by omega)];split at hu
            ·rw [if_pos (by omega)];rw [show base+i*t'.cells+jj-(base+i*t'.cells+off)=jj-off by omega];exact hu
            ·rw [if_neg (by omega)];have:=r2 jj u hu;simpa using this
          ·have hj':nth (α:=t'.den) l j=some w0:=by
            have:(List.set l i z)[j]? =l[j]? :=List.getElem?_set_ne hji;exact this.symm.trans hj
           obtain ⟨row2,q1,q2⟩:=k6 j w0 hj';refine ⟨row2,q1.keep hE.good,fun jj u hu=> ?_⟩;have hjl:=q1.len;have hlt:jj<row2.length:=(List.getElem?_eq_some_iff.1 hu).1;have hc:=q2 jj u hu;rw [harr2];rcases Nat.lt_or_gt_of_ne hji with hlt2|hgt
           ·have:(i+1)*t'.cells<=j*t'.cells:=Nat.mul_le_mul_right _ hlt2;rw [if_neg (by omega),if_neg (by omega)];simpa using hc
           ·have h3:(j+1)*t'.cells<=i*t'.cells:=Nat.mul_le_mul_right _ hgt;have h4:(j+1)*t'.cells=j*t'.cells+t'.cells:=by rw [Nat.add_mul,Nat.one_mul]
            rw [if_pos (by omega)];simpa using hc⟩)
        exact .skip (run ρr w _ _ e hst) ⟨_,key.2, .any,key.1⟩
      ·exact h.elim
     ·exact h.elim
    ·exact h.elim
   ·rename_i id i off ha;exact storeN_ok ho hn ha hcl hone h
   ·exact h.elim
  ·exact h.elim
 ·exact h.elim
theorem freeze_evo {B:Nat->Prop} {w:World} {σ:Store} {μ:Mu} {F:Fr} {id ep:Nat} {t:Ty} {l:List t.den} {u:Value} (hI:Inv B ⟨w,σ,μ,F⟩) (hB: ∀b,w.heap.size<=b->B b) (hg:σ.get id=some (.arr ep t l))
 (hr:Rep ⟨w,σ,μ,F⟩ (.slc id ep none) u): ∃μ',Inv B ⟨w,(id, .arr (ep+1) t [])::σ,μ',F⟩/\Rep ⟨w,(id, .arr (ep+1) t [])::σ,μ',F⟩ (.list .part t l) u/\Evo ⟨w,σ,μ,F⟩ ⟨w,(id, .arr (ep+1) t [])::σ,μ',F⟩:=by
 have key:=put_evo hI hB (id:=id) (o':= .arr (ep+1) t []) (p':=none) (w':=w) rfl rfl rfl (Nat.le_refl _)
  (fun b2 _ hne=>rfl)
  (fun q hq=>by cases hq)
  (fun c hg'=>by have hg':σ.get id=_:=hg';rw [hg] at hg';cases hg')
  (fun ep1 t1 l1 hg'=>by have hg':σ.get id=_:=hg';rw [hg] at hg';cases hg';exact ⟨_,_,rfl,by omega,fun e=>by omega⟩)
  (fun hE=> .inl ⟨by simp,rfl⟩) rfl (by show isNest (σ.get id)=false;rw [hg];rfl)
 refine ⟨_,key.2, ?_,key.1⟩;obtain ⟨A,len,cap,ep2,t2,l2,rfl,hg2,hle,hcur⟩:=hr.slc_inv;have hg2':σ.get id=some (.arr ep2 t2 l2):=hg2;rw [hg] at hg2';cases hg2';have hh:=hcur rfl;have hO:=hI.objs id _ hg;rcases hO with ⟨k1,k2⟩|⟨b,base,C,cs,ty,k1,k2,k3,k4,k5,k6⟩
 ·have k1':μ id=none:=k1;rw [show Ctx.μ ⟨w,σ,μ,F⟩ id=none from k1'] at hh;obtain ⟨rfl,rfl,_⟩:=hh;exact .list ⟨k2.symm,Nat.le_refl _,fun h=>absurd h (Nat.lt_irrefl _)⟩ (fun h=>by cases h)
 ·have k1':μ id=some (b,base,C):=k1;rw [show Ctx.μ ⟨w,σ,μ,F⟩ id=_ from k1'] at hh;obtain ⟨rfl,rfl,hC,a,rfl,ha⟩:=hh;refine .list ⟨rfl,hC,fun h0=> ?_⟩ (fun h=>by cases h);have hbk:Blk ⟨w,σ,μ,F⟩ id (.arr ep t l) b:= .top k1;refine ⟨b,base,by rw [ha (by omega)],⟨⟨⟨(Array.getElem?_eq_some_iff.1 k2).1,fun j o hj hk=> ?_⟩,hI.hid b (hI.baseB id _ b hg hbk)⟩,fun _=>hI.own b (hI.baseB id _ b hg hbk)⟩,fun i x hx=> ?_⟩
  ·by_cases hji:j=id
   ·subst hji;obtain ⟨p,hp,_⟩:=hk;simp at hp
   ·have hj':σ.get j=some o:=by
     simp only [get_cons] at hj;rwa [if_neg (fun e=>hji e.symm)] at hj
    exact hji (hI.injB j id o _ b hj' hg (Blk.move (X:=⟨w,σ,μ,F⟩) (X':=⟨w,(id, .arr (ep+1) t [])::σ,fun i=>if i=id then none else μ i,F⟩) (id:=j) (id':=j) (by show (if j=id then none else μ j)=μ j;rw [if_neg hji]) (fun p hm=>rfl) hk) hbk)
  ·obtain ⟨row,r1,r2⟩:=k6 i x hx;exact ⟨row,r1.keep key.1.good,fun j v hv=>by
    have:=r2 j v hv;simpa [World.cell?,k2] using this⟩
theorem storeF_ok {P:Program} {o:Oper} {t:TypeId} {a x:Operand} (ho:o.op= .store t a x) {ρ:Operand->V} {σ:Store} {k:K} (h:storeF P t (ρ a) (ρ x) σ k):
 ∃v σ',k v σ'/\OpOk P o ρ σ v σ':=by
 have hops:o.op.operands.toList=[a,x]:=by rw [ho];rfl
 unfold storeF at h;split at h
 ·rename_i id1 ep1 i off id ep ha hx;split at h
  ·rename_i ep' ty l hg;split at h
   ·rename_i hep;subst hep;have hax:a≠x:=fun e=>by rw [e,hx] at ha;cases ha
    haveI:DecidableEq Operand:=Classical.typeDecidableEq Operand;let ρ':Operand->V:=fun y=>if y=a then ρ a else if y=x then .list .part ty l else .any
    have e1:ρ' a= .eptr id1 ep1 i off:=by simp [ρ',ha]
    have e2:ρ' x= .list .part ty l:=by simp [ρ',Ne.symm hax]
    obtain ⟨v,σ',hk,hok⟩:=store_ok ho (ρ:=ρ') (σ:=(id, .arr (ep+1) ty [])::σ) (k:=k) (by rw [e1,e2];exact h);refine ⟨v,σ',hk,fun B F ρr w μ hI hB hr=> ?_⟩;have hra:=hr a (mem_ops hops (by simp));have hrx:=hr x (mem_ops hops (by simp));rw [hx] at hrx;obtain ⟨μ1,i1,r1,v1⟩:=freeze_evo hI hB hg hrx;have hfin:=hok B F ρr w μ1 i1 hB fun y hy=>by
     rw [hops] at hy;simp only [List.mem_cons,List.not_mem_nil,or_false] at hy;rcases hy with rfl|rfl
     ·rw [e1,<-ha];exact hra.evo v1
     ·rw [e2];exact r1
    unfold OpRuns at hfin⊢;split at hfin
    ·obtain ⟨μ',q1,q2,q3⟩:=hfin;exact ⟨μ',q1,q2,v1.trans q3⟩
    ·obtain ⟨μ',q1,q2,q3⟩:=hfin;exact ⟨μ',q1,q2,v1.trans q3⟩
    ·refine hfin.mono ?_;rintro e w' ⟨u,he,μ',q1,q2,q3⟩;exact ⟨u,he,μ',q1,q2,v1.trans q3⟩
    ·exact hfin
   ·exact h.elim
  ·exact h.elim
 ·exact store_ok ho h
theorem isFresh_none {σ:Store} {id:Nat} (h:isFresh σ id=true):σ.get id=none:=by
 unfold isFresh at h;split at h
 ·assumption
 ·cases h
theorem new_evo {B:Nat->Prop} {w:World} {σ:Store} {μ:Mu} {F:Fr} (hI:Inv B ⟨w,σ,μ,F⟩) (hB: ∀b,w.heap.size<=b->B b) {id:Nat} (hid:isFresh σ id=true) {o':Obj} {p':Option (Nat×Nat×Nat)} {w':World}
 (hos:w'.os=w.os) (ht:w'.tape=w.tape) (ho:w'.output=w.output) (hs:w.heap.size<=w'.heap.size) (hblk: ∀b,b<w.heap.size->w'.heap[b]? =w.heap[b]?)
 (hp: ∀q,p'=some q->w.heap.size<=q.1)
 (hok:Evo ⟨w,σ,μ,F⟩ ⟨w',(id,o')::σ,fun i=>if i=id then p' else μ i,F⟩->ObjOk ⟨w',(id,o')::σ,fun i=>if i=id then p' else μ i,F⟩ id o') (hn1:isNest (some o')=false:=by rfl):
 Evo ⟨w,σ,μ,F⟩ ⟨w',(id,o')::σ,fun i=>if i=id then p' else μ i,F⟩/\Inv B ⟨w',(id,o')::σ,fun i=>if i=id then p' else μ i,F⟩:=by
 have h0:=isFresh_none hid;exact put_evo hI hB hos ht ho hs (fun b hb _=>hblk b hb) (fun q hq=> .inl (hp q hq))
  (fun c hg=>by have hg3:Store.get σ id=some (.box c):=hg;rw [h0] at hg3;cases hg3)
  (fun ep t l hg=>by have hg3:Store.get σ id=some (.arr ep t l):=hg;rw [h0] at hg3;cases hg3) hok hn1 (by show isNest (σ.get id)=false;rw [h0];rfl)
theorem newVar_ok {B:Nat->Prop} {w:World} {σ:Store} {μ:Mu} {F:Fr} (hI:Inv B ⟨w,σ,μ,F⟩) (hB: ∀b,w.heap.size<=b->B b) {id:Nat} (hid:isFresh σ id=true) (ty:TypeId) {cs:List V} {vs:Array Value}
 (hr:RepL ⟨w,σ,μ,F⟩ cs vs.toList):
 ∃μ',Inv B ⟨w.alloc (.cells vs ty),(id, .box cs)::σ,μ',F⟩/\Rep ⟨w.alloc (.cells vs ty),(id, .box cs)::σ,μ',F⟩ (.ptr id 0) (.pointer (some ⟨w.heap.size,0,none⟩))/\
  Evo ⟨w,σ,μ,F⟩ ⟨w.alloc (.cells vs ty),(id, .box cs)::σ,μ',F⟩:=by
 have key:=new_evo hI hB hid (o':= .box cs) (p':=some (w.heap.size,0,ty)) (w':=w.alloc (.cells vs ty)) rfl rfl rfl (by simp) (fun b hb=>heap_alloc_old w _ hb)
  (fun q hq=>by cases hq;exact Nat.le_refl _)
  (fun hE=>⟨w.heap.size,vs,ty,by simp,heap_alloc_new w _,hr.evo hE⟩)
 exact ⟨_,key.2, .ptr (cells:=cs) (C:=ty) (base:=0) (by simp [get_cons]) (by simp),key.1⟩
theorem alloc_ok {P:Program} {o:Oper} {t:TypeId} (ho:o.op= .alloc t) {ρ:Operand->V} {σ:Store} {k:K} {id:Nat} (h:allocV P t id σ k):
 ∃v σ',k v σ'/\OpOk P o ρ σ v σ':=by
 unfold allocV at h;split at h
 ·rename_i i hi;split at h
  ·rename_i z hz;split at h
   ·rename_i hf;refine ⟨_,_,h,fun B F ρr w μ hI hB hr=> ?_⟩;refine .val (w':=w.alloc (.cells z.cells t)) (u:= .pointer (some ⟨w.heap.size,0,none⟩)) ?_ (newVar_ok hI hB hf t (zero_rep _ z));simp [execOp,ho,Instr.alloc,zeroValue,typeInfo,hi,hz,newVar,newRow,newObj,Sem.run]
   ·exact h.elim
  ·exact h.elim
 ·exact h.elim
theorem newOwn_ok {B:Nat->Prop} {w:World} {σ:Store} {μ:Mu} {F:Fr} (hI:Inv B ⟨w,σ,μ,F⟩) (hB: ∀b,w.heap.size<=b->B b) {id:Nat} (hid:isFresh σ id=true) (ty:TypeId) {cs:List V} {vs:Array Value}
 (hr:RepL ⟨w,σ,μ,F⟩ (.nilp::cs) vs.toList):
 ∃μ',Inv B ⟨w.alloc (.cells vs ty),(id, .box (.own id ty::cs))::σ,μ',F⟩/\Rep ⟨w.alloc (.cells vs ty),(id, .box (.own id ty::cs))::σ,μ',F⟩ (.ptr id 0) (.pointer (some ⟨w.heap.size,0,none⟩))/\
  Evo ⟨w,σ,μ,F⟩ ⟨w.alloc (.cells vs ty),(id, .box (.own id ty::cs))::σ,μ',F⟩:=by
 have key:=new_evo hI hB hid (o':= .box (.own id ty::cs)) (p':=some (w.heap.size,0,ty)) (w':=w.alloc (.cells vs ty)) rfl rfl rfl (by simp) (fun b hb=>heap_alloc_old w _ hb)
  (fun q hq=>by cases hq;exact Nat.le_refl _)
  (fun hE=>⟨w.heap.size,vs,ty,by simp,heap_alloc_new w _,by
   obtain ⟨u,us,e,h1,h2⟩:=hr.cons_inv;rw [e];refine .cons ?_ (RepL.evo hE h2);rw [h1.nilp_inv];exact .own (cells:= .own id ty::cs) (b:=w.heap.size) (by simp [get_cons]) (by simp) (.inl rfl)⟩)
 exact ⟨_,key.2, .ptr (cells:= .own id ty::cs) (C:=ty) (base:=0) (by simp [get_cons]) (by simp),key.1⟩
theorem allocO_ok {P:Program} {o:Oper} {t:TypeId} (ho:o.op= .alloc t) {ρ:Operand->V} {σ:Store} {k:K} {id:Nat} (h:allocO P t id σ k):
 ∃v σ',k v σ'/\OpOk P o ρ σ v σ':=by
 unfold allocO at h;split at h
 ·rename_i i hi;split at h
  ·rename_i z hz;split at h
   ·rename_i r hc;split at h
    ·rename_i hf;refine ⟨_,_,h,fun B F ρr w μ hI hB hr=> ?_⟩;refine .val (w':=w.alloc (.cells z.cells t)) (u:= .pointer (some ⟨w.heap.size,0,none⟩)) ?_ (newOwn_ok hI hB hf t (by rw [<-hc];exact zero_rep _ z));simp [execOp,ho,Instr.alloc,zeroValue,typeInfo,hi,hz,newVar,newRow,newObj,Sem.run]
    ·exact h.elim
   ·exact h.elim
  ·exact h.elim
 ·exact h.elim
theorem box_ok {P:Program} {o:Oper} {t:TypeId} {x:Operand} (ho:o.op= .box t x) {ρ:Operand->V} {σ:Store} {k:K} {id:Nat} (h:boxV id (ρ x) σ k):
 ∃v σ',k v σ'/\OpOk P o ρ σ v σ':=by
 unfold boxV at h;split at h
 ·rename_i hf;refine ⟨_,_,h,fun B F ρr w μ hI hB hr=> ?_⟩;have hrx:=cells_rep (hr x (by rw [ho];simp [Op.operands])) hf.2;refine .val (w':=w.alloc (.cells (ρr x).cells t)) (u:= .pointer (some ⟨w.heap.size,0,none⟩)) ?_ (newVar_ok hI hB hf.1 t hrx);simp [execOp,ho,Instr.box,newVar,newRow,newObj,Sem.run]
 ·exact h.elim
end Go.Vm
