import Derived.Test.YtabicbgeoiilmaaGreatDoorVmD
namespace Go.Vm
open Go.RowKit (Below)
section
variable {X' X:Ctx} {L:List Nat} {g:Nat->Nat}
def Sub (s σ:Store):Prop:= ∀p∈s,Store.get σ p.1=some p.2
structure Takes (X' X:Ctx) (L:List Nat) (g:Nat->Nat):Prop where
 w:X.w=X'.w
 good: ∀b,X'.G b->X.G b
 μ: ∀(i:Nat) id,L[i]? =some id->X.μ (g i)=X'.μ id
theorem Takes.rows (h:Takes X' X L g) {t:Ty} {l:List t.den} {cell:Nat->Option Value} (hr:RowsAt X'.w X'.G t l cell):RowsAt X.w X.G t l cell:=by
 intro i x hx;obtain ⟨row,r1,r2⟩:=hr i x hx;exact ⟨row,r1.keep (fun b hb=>⟨h.good b hb,by rw [h.w]⟩),r2⟩
mutual
theorem Dw {B:Nat->Prop} (hI:Inv B X') (hT:Takes X' X L g): ∀{n j:Nat} {v r r':V} {new:Store} {j':Nat},own X'.σ n v=some r->fZ g n j r=some (r',new,j')->
 (∀(i:Nat) id,(ids X'.σ n v)[i]? =some id->L[j+i]? =some id)->Sub new X.σ->
 (∀u,Rep X' v u->Rep X r' u)/\(∀p∈new,ObjOk X p.1 p.2)/\j'=j+(ids X'.σ n v).length/\new.map (·.1)=(List.range (ids X'.σ n v).length).map fun i=>g (j+i)
 |0,j,v,r,r',new,j',h,_,_,_=>by simp [own] at h
 |n+1,j,v,r,r',new,j',h,he,hL,hS=>by
  unfold own at h;split at h
  ·rename_i id ep;split at h
   ·rename_i ep' t l hg;split at h
    ·rename_i hep;simp only [Q9] at h;subst h;simp only [fZ,Q9,Prod.mk.injEq] at he;obtain ⟨rfl,rfl,rfl⟩:=he;have hid:L[j]? =some id:=by have:=hL 0 id (by simp [ids]);simpa using this
     have hmu:=hT.μ j id hid;have hget:X.σ.get (g j)=some (.arr 0 t l):=hS (g j, .arr 0 t l) (by simp);refine ⟨fun u hr=> ?_,fun p hp=> ?_,by simp [ids],by simp [ids]⟩
     ·obtain ⟨A,len,cap,ep2,t2,l2,rfl,hg',hle,hcur⟩:=hr.slc_inv;rw [hg] at hg';cases hg';refine .slc hget (Rf _) (fun _=> ?_);rw [hmu];exact hcur hep
     ·simp only [Ru] at hp;subst hp;rcases hI.objs id _ hg with ⟨h1,h2⟩|⟨b,base,C,cs,ty,h1,h2,h3,h4,h5,h6⟩
      ·exact .inl ⟨by simp only;rw [hmu];exact h1,h2⟩
      ·refine .inr ⟨b,base,C,cs,ty,by simp only;rw [hmu];exact h1,by rw [hT.w];exact h2,h3,h4,h5,fun i x hx=> ?_⟩;obtain ⟨row,r1,r2⟩:=h6 i x hx;exact ⟨row,r1.keep (fun b hb=>⟨hT.good b hb,by rw [hT.w]⟩),r2⟩
    ·cases h
   ·cases h
  ·rename_i id;split at h
   ·rename_i cells hg;simp only [Rc] at h;obtain ⟨cs,ho,rfl⟩:=h;simp only [fZ] at he;split at he
    ·rename_i cs' s' j2 hex;simp only [Q9,Prod.mk.injEq] at he;obtain ⟨rfl,rfl,rfl⟩:=he;have hids:ids X'.σ (n+1) (.ptr id 0)=id::dk X'.σ n cells:=by simp [ids,hg]
     have hid:L[j]? =some id:=by have:=hL 0 id (by rw [hids];simp);simpa using this
     have hmu:=hT.μ j id hid;have hget:X.σ.get (g j)=some (.box cs'):=hS (g j, .box cs') (by simp);obtain ⟨c1,c2,c3,c4⟩:=gX hI hT ho hex (fun i id' hi=>by have:=hL (i+1) id' (by rw [hids];simpa using hi);rw [show j+1+i=j+(i+1) by omega];exact this) (fun p hp=>hS p (by simp [hp]));refine ⟨fun u hr=> ?_,fun p hp=> ?_,by rw [hids];simp;omega, ?_⟩
     ·obtain ⟨cells',b,base,C,rfl,hg',hm⟩:=hr.ptr_inv;exact .ptr hget (hmu.trans hm)
     ·rcases Rp.1 hp with rfl|hp
      ·obtain ⟨b,ws,ty,h1,h2,h3⟩:=hI.objs id _ hg;exact ⟨b,ws,ty,hmu.trans h1,by rw [hT.w];exact h2,c1 _ h3⟩
      ·exact c2 p hp
     ·rw [hids,RU,c4,Rj,List.range_succ_eq_map,RU,SM];simp only [RR,List.cons.injEq,true_and];apply Sp;intro i _;simp only [Function.comp];congr 1;omega
    ·cases he
   ·cases h
  ·rename_i kd t l;split at h
   ·cases h
   ·rename_i hk;simp only [Q9] at h;subst h;simp only [fZ,Q8 hk,Q9,Prod.mk.injEq] at he;obtain ⟨rfl,rfl,rfl⟩:=he;refine ⟨fun u hr=> ?_,fun p hp=>by simp at hp,by simp [ids],by simp [ids]⟩;obtain ⟨A,cap,rfl,hc,hf⟩:=hr.list_inv;have hG: ∀b,X'.H kd b->X.H kd b/\X.w.heap[b]? =X'.w.heap[b]? :=fun b hb=>by
     have:=hT.good b ⟨hb.1,hb.2 hk⟩;exact ⟨⟨this.1,fun _=>this.2⟩,by rw [hT.w]⟩
    exact .list (hc.keep (fun b hb=>⟨hT.good b hb,by rw [hT.w]⟩) hG) hf
  ·simp only [Rc] at h;obtain ⟨cs,ho,rfl⟩:=h;simp [fZ] at he
  ·rename_i cells;simp only [Rc] at h;obtain ⟨cs,ho,rfl⟩:=h;simp only [fZ] at he;split at he
   ·rename_i cs' s' j2 hex;simp only [Q9,Prod.mk.injEq] at he;obtain ⟨rfl,rfl,rfl⟩:=he;obtain ⟨c1,c2,c3,c4⟩:=gX hI hT ho hex (fun i id' hi=>hL i id' (by simpa [ids] using hi)) hS;refine ⟨fun u hr=> ?_,c2,by simpa [ids] using c3,by simpa [ids] using c4⟩;obtain ⟨vs,rfl,hl⟩:=hr.agg_inv;exact (c1 _ hl).agg
   ·cases he
  ·rename_i cells;simp only [Rc] at h;obtain ⟨cs,ho,rfl⟩:=h;simp only [fZ] at he;split at he
   ·rename_i cs' s' j2 hex;simp only [Q9,Prod.mk.injEq] at he;obtain ⟨rfl,rfl,rfl⟩:=he;obtain ⟨c1,c2,c3,c4⟩:=gX hI hT ho hex (fun i id' hi=>hL i id' (by simpa [ids] using hi)) hS;refine ⟨fun u hr=> ?_,c2,by simpa [ids] using c3,by simpa [ids] using c4⟩;obtain ⟨vs,rfl,hl⟩:=hr.tuple_inv;have:=c1 _ hl;exact .tuple (by simpa using this.1) (fun j c x hc hx=>this.2 j c x hc (by simpa using hx))
   ·cases he
  ·rename_i f a b;split at h
   ·rename_i a' b' ha hb;simp only [Q9] at h;subst h;simp only [fZ] at he;split at he
    ·rename_i a2 s2 j2 hea;split at he
     ·rename_i b2 s3 j3 heb;simp only [Q9,Prod.mk.injEq] at he;obtain ⟨rfl,rfl,rfl⟩:=he;have hids:ids X'.σ (n+1) (.fn f a b)=dk X'.σ n a++dk X'.σ n b:=by simp [ids]
      rw [hids] at hL⊢;obtain ⟨c1,c2,c3,c4⟩:=gX hI hT ha hea (fun i id' hi=>hL i id' (by rw [List.getElem?_append_left (List.getElem?_eq_some_iff.1 hi).1];exact hi)) (fun p hp=>hS p (by simp [hp]));obtain ⟨d1,d2,d3,d4⟩:=gX hI hT hb heb (fun i id' hi=>by
       have:=hL ((dk X'.σ n a).length+i) id' (by rw [List.getElem?_append_right (by omega)];simpa using hi);rw [c3,RK];exact this) (fun p hp=>hS p (by simp [hp]))
      refine ⟨fun u hr=> ?_,fun p hp=> ?_,by rw [Re];omega, ?_⟩
      ·obtain ⟨vs,ws,rfl,h1,h2⟩:=hr.fn_inv;have l1:=c1 _ h1;have l2:=d1 _ h2;exact .fn (by simpa using l1.1) (by simpa using l2.1) (fun j c x hc hx=>l1.2 j c x hc (by simpa using hx)) (fun j c x hc hx=>l2.2 j c x hc (by simpa using hx))
      ·rcases Rn.1 hp with hp|hp
       ·exact c2 p hp
       ·exact d2 p hp
      ·rw [RW,c4,d4,Re,List.range_add,RW,SM];congr 1;apply Sp;intro i _;simp only [Function.comp,c3];congr 1;omega
     ·cases he
    ·cases he
   ·cases h
  all_goals first
   |(cases h;done)
   |(simp only [Q9] at h;subst h;simp only [fZ,Q9,Prod.mk.injEq] at he;obtain ⟨rfl,rfl,rfl⟩:=he;refine ⟨fun u hr=> ?_,fun p hp=>by simp at hp,by simp [ids],by simp [ids]⟩;cases hr<;>first|exact .any|exact .kb|exact .bool|exact .int|(exact .str (by assumption))|exact .nilp|exact .nils|exact .nilm|exact .nilf|exact .nili|exact .errN|exact .errS)
theorem gX {B:Nat->Prop} (hI:Inv B X') (hT:Takes X' X L g): ∀{n j:Nat} {vs rs rs':List V} {new:Store} {j':Nat},aR X'.σ n vs=some rs->iG g n j rs=some (rs',new,j')->
 (∀(i:Nat) id,(dk X'.σ n vs)[i]? =some id->L[j+i]? =some id)->Sub new X.σ->
 (∀us,RepL X' vs us->RepL X rs' us)/\(∀p∈new,ObjOk X p.1 p.2)/\j'=j+(dk X'.σ n vs).length/\new.map (·.1)=(List.range (dk X'.σ n vs).length).map fun i=>g (j+i)
 |0,j,vs,rs,rs',new,j',h,_,_,_=>by simp [aR] at h
 |n+1,j,[],rs,rs',new,j',h,he,hL,hS=>by
  simp only [aR,Q9] at h;subst h;simp only [iG,Q9,Prod.mk.injEq] at he;obtain ⟨rfl,rfl,rfl⟩:=he;exact ⟨fun us hr=>by rw [hr.nil_inv];exact .nil,fun p hp=>by simp at hp,by simp [dk],by simp [dk]⟩
 |n+1,j,v::vs,rs,rs',new,j',h,he,hL,hS=>by
  unfold aR at h;split at h
  ·rename_i v1 r1 hv hr1;simp only [Q9] at h;subst h;simp only [iG] at he;split at he
   ·rename_i a2 s2 j2 hea;split at he
    ·rename_i b2 s3 j3 heb;simp only [Q9,Prod.mk.injEq] at he;obtain ⟨rfl,rfl,rfl⟩:=he;have hids:dk X'.σ (n+1) (v::vs)=ids X'.σ n v++dk X'.σ n vs:=by simp [dk]
     rw [hids] at hL⊢;obtain ⟨c1,c2,c3,c4⟩:=Dw hI hT hv hea (fun i id' hi=>hL i id' (by rw [List.getElem?_append_left (List.getElem?_eq_some_iff.1 hi).1];exact hi)) (fun p hp=>hS p (by simp [hp]));obtain ⟨d1,d2,d3,d4⟩:=gX hI hT hr1 heb (fun i id' hi=>by
      have:=hL ((ids X'.σ n v).length+i) id' (by rw [List.getElem?_append_right (by omega)];simpa using hi);rw [c3,RK];exact this) (fun p hp=>hS p (by simp [hp]))
     refine ⟨fun us hr=> ?_,fun p hp=> ?_,by rw [Re];omega, ?_⟩
     ·obtain ⟨u,us',rfl,h1,h2⟩:=hr.cons_inv;exact .cons (c1 _ h1) (d1 _ h2)
     ·rcases Rn.1 hp with hp|hp
      ·exact c2 p hp
      ·exact d2 p hp
     ·rw [RW,c4,d4,Re,List.range_add,RW,SM];congr 1;apply Sp;intro i _;simp only [Function.comp,c3];congr 1;omega
    ·cases he
   ·cases he
  ·cases h
end
theorem ko: ∀{new σ:Store},ji σ new=true->(∀p∈new,σ.get p.1=none)/\(new.map (·.1)).Nodup/\∀p∈new,cU (some p.2)=false
 |[],σ,_=>⟨fun p hp=>by simp at hp,by simp,fun p hp=>by simp at hp⟩
 |(i,o)::r,σ,h=>by
  simp only [ji,Ri,Rb] at h;obtain ⟨⟨h1,hfl⟩,h2⟩:=h;have h0:=ea h1;obtain ⟨k1,k2,k3⟩:=ko h2;have hne: ∀p∈r,p.1≠i/\σ.get p.1=none:=fun p hp=>by
   have:=k1 p hp;rw [a7] at this;split at this
   ·cases this
   ·rename_i hne;exact ⟨fun e=>hne e.symm,this⟩
  refine ⟨fun p hp=> ?_, ?_,fun p hp=> ?_⟩
  ·rcases Rp.1 hp with rfl|hp
   ·exact h0
   ·exact (hne p hp).2
  ·rw [RU,Su];refine ⟨fun hm=> ?_,k2⟩;obtain ⟨p,hp,e⟩:=RS.1 hm;exact (hne p hp).1 e
  ·rcases Rp.1 hp with rfl|hp
   ·exact hfl
   ·exact k3 p hp
theorem eJ: ∀{new σ:Store},(new.map (·.1)).Nodup->∀p∈new,Store.get (new++σ) p.1=some p.2
 |[],_,_,p,hp=>by simp at hp
 |(i,o)::r,σ,h,p,hp=>by
  rw [RU,Su] at h;rw [RP,a7];rcases Rp.1 hp with rfl|hp
  ·rw [Q_ rfl]
  ·rw [Q8 (fun e=>h.1 (RS.2 ⟨p,hp,e.symm⟩))];exact eJ h.2 p hp
theorem fS: ∀{new σ:Store} {k:Nat},(∀p∈new,p.1≠k)->Store.get (new++σ) k=σ.get k
 |[],_,_,_=>rfl
 |(i,o)::r,σ,k,h=>by
  rw [RP,a7,Q8 (h (i,o) (by simp))];exact fS fun p hp=>h p (by simp [hp])
theorem gY {new σ:Store} {k:Nat} {o:Obj} (h:Store.get (new++σ) k=some o):(∃p∈new,p.1=k)∨σ.get k=some o:=by
 by_cases hk: ∃p∈new,p.1=k
 ·exact .inl hk
 ·refine .inr ?_;rw [fS (fun p hp e=>hk ⟨p,hp,e⟩)] at h;exact h
mutual
theorem yK {σ:Store}: ∀{n:Nat} {v r:V},own σ n v=some r->∀id∈ids σ n v,∃o,σ.get id=some o
 |0,v,r,h,_,_=>by simp [own] at h
 |n+1,v,r,h,id,hid=>by
  unfold own at h;split at h
  ·rename_i id' ep;simp only [ids,Ru] at hid;subst hid;split at h
   ·rename_i hg;exact ⟨_,hg⟩
   ·cases h
  ·rename_i id';split at h
   ·rename_i cells hg;simp only [Rc] at h;obtain ⟨cs,ho,rfl⟩:=h;simp only [ids,hg,Rp] at hid;rcases hid with rfl|hid
    ·exact ⟨_,hg⟩
    ·exact fu ho id hid
   ·cases h
  ·simp [ids] at hid
  ·simp [ids] at hid
  ·simp only [Rc] at h;obtain ⟨cs,ho,rfl⟩:=h;exact fu ho id (by simpa [ids] using hid)
  ·simp only [Rc] at h;obtain ⟨cs,ho,rfl⟩:=h;exact fu ho id (by simpa [ids] using hid)
  ·split at h
   ·rename_i a' b' ha hb;simp only [ids,Rn] at hid;rcases hid with hid|hid
    ·exact fu ha id hid
    ·exact fu hb id hid
   ·cases h
  all_goals first
   |(simp [ids] at hid;done)
   |(cases h;done)
theorem fu {σ:Store}: ∀{n:Nat} {vs rs:List V},aR σ n vs=some rs->∀id∈dk σ n vs,∃o,σ.get id=some o
 |0,vs,rs,h,_,_=>by simp [aR] at h
 |n+1,[],rs,h,id,hid=>by simp [dk] at hid
 |n+1,v::vs,rs,h,id,hid=>by
  unfold aR at h;split at h
  ·rename_i v1 r1 hv hr1;simp only [dk,Rn] at hid;rcases hid with hid|hid
   ·exact yK hv id hid
   ·exact fu hr1 id hid
  ·cases h
end
mutual
theorem tq {σ:Store} {g:Nat->Nat}: ∀{n j:Nat} {v r r':V} {new:Store} {j':Nat},own σ n v=some r->fZ g n j r=some (r',new,j')->
 j'=j+(ids σ n v).length/\new.map (·.1)=(List.range (ids σ n v).length).map fun i=>g (j+i)
 |0,j,v,r,r',new,j',h,_=>by simp [own] at h
 |n+1,j,v,r,r',new,j',h,he=>by
  unfold own at h;split at h
  ·rename_i id ep;split at h
   ·split at h
    ·simp only [Q9] at h;subst h;simp only [fZ,Q9,Prod.mk.injEq] at he;obtain ⟨rfl,rfl,rfl⟩:=he;exact ⟨by simp [ids],by simp [ids]⟩
    ·cases h
   ·cases h
  ·rename_i id;split at h
   ·rename_i cells hg;simp only [Rc] at h;obtain ⟨cs,ho,rfl⟩:=h;simp only [fZ] at he;split at he
    ·rename_i cs' s' j2 hex;simp only [Q9,Prod.mk.injEq] at he;obtain ⟨rfl,rfl,rfl⟩:=he;have hids:ids σ (n+1) (.ptr id 0)=id::dk σ n cells:=by simp [ids,hg]
     obtain ⟨c3,c4⟩:=eE ho hex;refine ⟨by rw [hids];simp;omega, ?_⟩;rw [hids,RU,c4,Rj,List.range_succ_eq_map,RU,SM];simp only [RR,List.cons.injEq,true_and];apply Sp;intro i _;simp only [Function.comp];congr 1;omega
    ·cases he
   ·cases h
  ·rename_i kd t l;split at h
   ·cases h
   ·rename_i hk;simp only [Q9] at h;subst h;simp only [fZ,Q8 hk,Q9,Prod.mk.injEq] at he;obtain ⟨rfl,rfl,rfl⟩:=he;exact ⟨by simp [ids],by simp [ids]⟩
  ·simp only [Rc] at h;obtain ⟨cs,ho,rfl⟩:=h;simp [fZ] at he
  ·rename_i cells;simp only [Rc] at h;obtain ⟨cs,ho,rfl⟩:=h;simp only [fZ] at he;split at he
   ·rename_i cs' s' j2 hex;simp only [Q9,Prod.mk.injEq] at he;obtain ⟨rfl,rfl,rfl⟩:=he;have:=eE ho hex;simpa [ids] using this
   ·cases he
  ·rename_i cells;simp only [Rc] at h;obtain ⟨cs,ho,rfl⟩:=h;simp only [fZ] at he;split at he
   ·rename_i cs' s' j2 hex;simp only [Q9,Prod.mk.injEq] at he;obtain ⟨rfl,rfl,rfl⟩:=he;have:=eE ho hex;simpa [ids] using this
   ·cases he
  ·rename_i f a b;split at h
   ·rename_i a' b' ha hb;simp only [Q9] at h;subst h;simp only [fZ] at he;split at he
    ·rename_i a2 s2 j2 hea;split at he
     ·rename_i b2 s3 j3 heb;simp only [Q9,Prod.mk.injEq] at he;obtain ⟨rfl,rfl,rfl⟩:=he;have hids:ids σ (n+1) (.fn f a b)=dk σ n a++dk σ n b:=by simp [ids]
      rw [hids];obtain ⟨c3,c4⟩:=eE ha hea;obtain ⟨d3,d4⟩:=eE hb heb;refine ⟨by rw [Re];omega, ?_⟩;rw [RW,c4,d4,Re,List.range_add,RW,SM];congr 1;apply Sp;intro i _;simp only [Function.comp,c3];congr 1;omega
     ·cases he
    ·cases he
   ·cases h
  all_goals first
   |(cases h;done)
   |(simp only [Q9] at h;subst h;simp only [fZ,Q9,Prod.mk.injEq] at he;obtain ⟨rfl,rfl,rfl⟩:=he;exact ⟨by simp [ids],by simp [ids]⟩)
theorem eE {σ:Store} {g:Nat->Nat}: ∀{n j:Nat} {vs rs rs':List V} {new:Store} {j':Nat},aR σ n vs=some rs->iG g n j rs=some (rs',new,j')->
 j'=j+(dk σ n vs).length/\new.map (·.1)=(List.range (dk σ n vs).length).map fun i=>g (j+i)
 |0,j,vs,rs,rs',new,j',h,_=>by simp [aR] at h
 |n+1,j,[],rs,rs',new,j',h,he=>by
  simp only [aR,Q9] at h;subst h;simp only [iG,Q9,Prod.mk.injEq] at he;obtain ⟨rfl,rfl,rfl⟩:=he;exact ⟨by simp [dk],by simp [dk]⟩
 |n+1,j,v::vs,rs,rs',new,j',h,he=>by
  unfold aR at h;split at h
  ·rename_i v1 r1 hv hr1;simp only [Q9] at h;subst h;simp only [iG] at he;split at he
   ·rename_i a2 s2 j2 hea;split at he
    ·rename_i b2 s3 j3 heb;simp only [Q9,Prod.mk.injEq] at he;obtain ⟨rfl,rfl,rfl⟩:=he;have hids:dk σ (n+1) (v::vs)=ids σ n v++dk σ n vs:=by simp [dk]
     rw [hids];obtain ⟨c3,c4⟩:=tq hv hea;obtain ⟨d3,d4⟩:=eE hr1 heb;refine ⟨by rw [Re];omega, ?_⟩;rw [RW,c4,d4,Re,List.range_add,RW,SM];congr 1;apply Sp;intro i _;simp only [Function.comp,c3];congr 1;omega
    ·cases he
   ·cases he
  ·cases h
end
theorem C1 {B:Nat->Prop} {X:Ctx} (hI:Inv B X) (hB: ∀b,X.w.heap.size<=b->B b) {w':World} (hw:Below X.w.heap.size X.w w') {r r':V} {u:Value} (hh:rf X.w.heap.size X.outerF w' r u)
 {g:Nat->Nat} (hg: ∀i j,g i=g j->i=j) {new:Store} {n:Nat} (he:fZ g 60 0 r=some (r',new,n)) (hf:ji X.σ new=true):
 ∃μ2,Inv B ⟨w',new++X.σ,μ2,X.F⟩/\Rep ⟨w',new++X.σ,μ2,X.F⟩ r' u/\Evo X ⟨w',new++X.σ,μ2,X.F⟩:=by
 obtain ⟨σ',μ',v',hI',hr,ho,hnd⟩:=hh;obtain ⟨f1,f2,f3⟩:=ko hf;generalize hLdef:ids σ' 60 v'=L at hnd;have hlive: ∀id∈L,∃o,Store.get σ' id=some o:=by rw [<-hLdef];exact yK ho
 let μ2:Mu:=fun k=>match (List.range L.length).find? (fun i=>g i==k) with
  |some i=>μ' (L.getD i 0)
  |none=>X.μ k
 have hμ: ∀(i:Nat) id,L[i]? =some id->μ2 (g i)=μ' id:=by
  intro i id hi;have hlt:=(List.getElem?_eq_some_iff.1 hi).1;have hfind:(List.range L.length).find? (fun j=>g j==g i)=some i:=by
   cases hfd:(List.range L.length).find? (fun j=>g j==g i) with
   |none=>
    have:=List.find?_eq_none.1 hfd i (RX.2 hlt);simp at this
   |some j=>
    have:=List.find?_some hfd;simp only [beq_iff_eq] at this;rw [hg _ _ this]
  show (match (List.range L.length).find? (fun j=>g j==g i) with|some j=>μ' (L.getD j 0)|none=>X.μ (g i))=μ' id;rw [hfind];simp [List.getD,hi]
 have hTake:Takes ⟨w',σ',μ',X.outerF⟩ ⟨w',new++X.σ,μ2,X.F⟩ L g->(∀p∈new,ObjOk ⟨w',new++X.σ,μ2,X.F⟩ p.1 p.2)/\Rep ⟨w',new++X.σ,μ2,X.F⟩ r' u/\new.map (·.1)=(List.range L.length).map g:=by
  intro hT;obtain ⟨c1,c2,_,c4⟩:=Dw hI' hT ho he (fun i id hi=>by rw [RQ,<-hLdef];exact hi) (fun p hp=>eJ f2 p hp);refine ⟨c2,c1 u hr, ?_⟩;rw [c4,show ids (Ctx.σ ⟨w',σ',μ',X.outerF⟩) 60 v'=L from hLdef];simp
 have hkeys: ∀k,(∃p∈new,p.1=k)↔∃i,i<L.length/\g i=k:=by
  have key:=(tq (σ:=σ') ho he).2;rw [hLdef] at key;intro k;have h1:k∈new.map (·.1)↔k∈(List.range L.length).map (fun i=>g (0+i)):=by rw [key]
  simp only [RS,RX,RQ] at h1;exact h1
 have hold: ∀k o,X.σ.get k=some o->Store.get (new++X.σ) k=some o/\μ2 k=X.μ k:=by
  intro k o hk;have hout: ∀p∈new,p.1≠k:=fun p hp e=>by
   have:=f1 p hp;rw [e,hk] at this;cases this
  refine ⟨by rw [fS hout];exact hk, ?_⟩;show (match (List.range L.length).find? (fun i=>g i==k) with|some i=>μ' (L.getD i 0)|none=>X.μ k)=X.μ k;have hfind:(List.range L.length).find? (fun i=>g i==k)=none:=by
   rw [List.find?_eq_none];intro i hi;have hi:=RX.1 hi;simp only [beq_iff_eq];intro e;obtain ⟨p,hp,e2⟩:=(hkeys k).2 ⟨i,hi,e⟩;exact hout p hp e2
  rw [hfind]
 have hcases: ∀k o,Store.get (new++X.σ) k=some o->(∃i id o',L[i]? =some id/\g i=k/\μ2 k=μ' id/\Store.get σ' id=some o'/\∀b,Blk ⟨w',σ',μ',X.outerF⟩ id o b->Blk ⟨w',σ',μ',X.outerF⟩ id o' b)∨(X.σ.get k=some o/\μ2 k=X.μ k):=by
  intro k o hk;have hfl:(∃p∈new,p.1=k)->cU (some o)=false:=by
   rintro ⟨p,hp,rfl⟩;have:=eJ (σ:=X.σ) f2 p hp;rw [hk] at this;cases this;exact f3 p hp
  rcases gY hk with h1|h1
  ·have hfl:=hfl h1;obtain ⟨i,hi,e⟩:=(hkeys k).1 h1;have hid:L[i]? =some L[i]:=List.getElem?_eq_getElem hi;obtain ⟨o',ho'⟩:=hlive L[i] (List.getElem_mem hi);exact .inl ⟨i,L[i],o',hid,e,by rw [<-e];exact hμ i _ hid,ho',fun b hb=>by obtain ⟨p,h1,h2⟩:=yq hfl hb;exact ⟨p,h1, .inl h2⟩⟩
  ·exact .inr ⟨h1,(hold k o h1).2⟩
 have hbnew: ∀{id k o b},μ2 k=μ' id->Blk ⟨w',new++X.σ,μ2,X.F⟩ k o b->Blk ⟨w',σ',μ',X.outerF⟩ id o b:=fun {id k o b} hm hk=>
  Blk.move (X:=⟨w',σ',μ',X.outerF⟩) (X':=⟨w',new++X.σ,μ2,X.F⟩) hm (fun _ _=>rfl) hk
 have hbold: ∀{k o b},X.σ.get k=some o->μ2 k=X.μ k->Blk ⟨w',new++X.σ,μ2,X.F⟩ k o b->Blk X k o b:=fun {k o b} hg hm hk=>
  Blk.move (X:=X) (X':=⟨w',new++X.σ,μ2,X.F⟩) hm (fun p hp=>hw.block _ (hI.lt hg hp)) hk
 have hbup: ∀{k o b},X.σ.get k=some o->Blk X k o b->Blk ⟨w',X.σ,X.μ,X.F⟩ k o b:=fun {k o b} hg hk=>
  Blk.move (X:=⟨w',X.σ,X.μ,X.F⟩) (X':=X) rfl (fun p hp=>(hw.block _ (hI.lt hg hp)).symm) hk
 have hgood: ∀b,Ctx.G ⟨w',σ',μ',X.outerF⟩ b->Ctx.G ⟨w',new++X.σ,μ2,X.F⟩ b:=by
  intro b hb;refine ⟨⟨⟨hb.1.1.1,fun k o hk hm=> ?_⟩,hb.1.2⟩,fun hf=>hb.2 (.inl hf)⟩;rcases hcases k o hk with ⟨i,id,o',hi,_,hmu,ho',hoo⟩|⟨hk',hmu⟩
  ·exact hb.1.1.2 id o' ho' (hoo _ (hbnew hmu hm))
  ·exact hb.2 (.inr ⟨k,o,hk',hbold hk' hmu hm⟩)
 obtain ⟨c1,c2,_⟩:=hTake ⟨rfl,hgood,hμ⟩;have hE:Evo X ⟨w',new++X.σ,μ2,X.F⟩:=by
  refine ⟨hw.os,hw.tape,hw.output,hw.size,rfl,fun b hb=>⟨⟨SD hb.1 hw.size,fun k o hk hm=> ?_⟩,hw.block b hb.1⟩,fun id cells hg'=> ?_,fun id ep t l hg'=> ?_,fun id iv t f h l hg'=> ?_,fun id kk d hg'=> ?_⟩
  ·rcases hcases k o hk with ⟨i,id,o',hi,_,hmu,ho',hoo⟩|⟨hk',hmu⟩
   ·have h1:X.w.heap.size<=b:=hI'.baseB id o' b ho' (hoo _ (hbnew hmu hm));have h2:=hb.1;omega
   ·exact hb.2 k o hk' (hbold hk' hmu hm)
  ·obtain ⟨h1,h2⟩:=hold id _ hg';exact ⟨⟨cells,h1⟩,h2⟩
  ·obtain ⟨h1,h2⟩:=hold id _ hg';exact ⟨ep,l,h1,Rf _,fun _=>⟨h2,rfl⟩⟩
  ·obtain ⟨h1,h2⟩:=hold id _ hg';exact ⟨iv,h,l,h1,Rf _,h2,rfl,fun _=>⟨rfl,rfl,fun p hp=>hw.block _ (hI.lt hg' hp)⟩⟩
  ·obtain ⟨h1,h2⟩:=hold id _ hg';exact ⟨⟨d,h1⟩,congrArg (Option.map (·.1)) h2⟩
 refine ⟨μ2,⟨fun k o hk=> ?_,fun i j o1 o2 b hi hj hpi hpj=> ?_,fun k o b hk hm=> ?_,fun b hb=>hI.out b (Ro hw.size hb),hI.vis, .evo hI hE⟩,c2,hE⟩
 ·rcases gY hk with ⟨p,hp,rfl⟩|h1
  ·have:=eJ (σ:=X.σ) f2 p hp;rw [show Store.get (new++X.σ) p.1=some o from hk] at this;cases this;exact c1 p hp
  ·obtain ⟨e1,e2⟩:=hold k o h1;exact ObjOk.move (X:=X) e2 (fun b hb=>hw.block b (hI.ltB h1 hb)) hE.good (fun _ _ _ h=>h.evo hE) (hI.objs k o h1)
 ·rcases hcases i o1 hi with ⟨a,id,o',ha,hga,hmu,ho',hoo⟩|⟨hk',hmu⟩
  ·have q1:=hoo _ (hbnew hmu hpi);rcases hcases j o2 hj with ⟨a2,id2,o2',ha2,hga2,hmu2,ho2',hoo2⟩|⟨hk2,hmu2⟩
   ·have hid:=hI'.injB id id2 o' o2' b ho' ho2' q1 (hoo2 _ (hbnew hmu2 hpj));subst hid;have haa:a=a2:=(List.getElem?_inj (List.getElem?_eq_some_iff.1 ha).1 hnd).1 (ha.trans ha2.symm);rw [<-hga,<-hga2,haa]
   ·have h1:X.w.heap.size<=b:=hI'.baseB id o' b ho' q1;have h2:=hI.ltB hk2 (hbold hk2 hmu2 hpj);omega
  ·have q1:=hbold hk' hmu hpi;rcases hcases j o2 hj with ⟨a2,id2,o2',ha2,hga2,hmu2,ho2',hoo2⟩|⟨hk2,hmu2⟩
   ·have h1:X.w.heap.size<=b:=hI'.baseB id2 o2' b ho2' (hoo2 _ (hbnew hmu2 hpj));have h2:=hI.ltB hk' q1;omega
   ·exact hI.injB i j o1 o2 b hk' hk2 q1 (hbold hk2 hmu2 hpj)
 ·rcases hcases k o hk with ⟨i,id,o',hi,_,hmu,ho',hoo⟩|⟨hk',hmu⟩
  ·exact hB _ (hI'.baseB id o' b ho' (hoo _ (hbnew hmu hm)))
  ·exact hI.baseB k o b hk' (hbold hk' hmu hm)
end
end Go.Vm
namespace Go.Vm
open Go.RowKit (Below)
section
variable {X' X:Ctx}
mutual
theorem BR {B:Nat->Prop} (hI:Inv B X') (hw:X.w=X'.w) (hgood: ∀b,X'.G b->X.G b) (hown: ∀id o p,X'.σ.get id=some o->X'.μ id=some p->X.G p.1):
 ∀{n:Nat} {v r r':V} {u:Value},own X'.σ n v=some r->oI n r=some r'->Rep X' v u->Rep X r' u
 |0,v,r,r',u,h,_,_=>by simp [own] at h
 |n+1,v,r,r',u,h,hf,hr=>by
  unfold own at h;split at h
  ·rename_i id ep;split at h
   ·rename_i ep' t l hg;split at h
    ·rename_i hep;simp only [Q9] at h;subst h;simp only [oI,Q9] at hf;subst hf;obtain ⟨A,len,cap,ep2,t2,l2,rfl,hg',hle,hcur⟩:=hr.slc_inv;rw [hg] at hg';cases hg';have hh:=hcur hep;refine .list ?_ (fun e=>by cases e);cases hm:X'.μ id with
     |none=>
      rw [hm] at hh;simp only [Hdr] at hh;obtain ⟨rfl,rfl,h0⟩:=hh;exact ⟨h0.symm,Rf _,fun h=>absurd h (RY _)⟩
     |some q=>
      obtain ⟨b,base,C⟩:=q;rw [hm] at hh;simp only [Hdr] at hh;obtain ⟨rfl,rfl,hC,a,rfl,ha⟩:=hh;obtain ⟨cs,ty,k2,k3,k4,k5,k6⟩:=eQ hI hg hm;have hG:=hown id _ _ hg hm;refine ⟨rfl,hC,fun h0=>⟨b,base,by rw [ha (by omega)],⟨hG.1,fun _=>hG.2⟩,fun i x hx=> ?_⟩⟩;obtain ⟨row,r1,r2⟩:=k6 i x hx;refine ⟨row,r1.keep (fun b hb=>⟨hgood b hb,by rw [hw]⟩),fun j v hv=> ?_⟩;have:=r2 j v hv;rw [hw];simp only at this;unfold World.cell?;simp only [k2];rw [<-this,RK];simp
    ·cases h
   ·cases h
  ·rename_i id;split at h
   ·rename_i cells hg;simp only [Rc] at h;obtain ⟨cs,ho,rfl⟩:=h;simp only [oI,Rc] at hf;obtain ⟨cs',hf,rfl⟩:=hf;obtain ⟨cells',b,base,C,rfl,hg',hm⟩:=hr.ptr_inv;rw [hg] at hg';cases hg';obtain ⟨b',ws,ty,k1,k2,k3⟩:=hI.objs id _ hg;rw [hm] at k1;cases k1;have hG:=hown id _ _ hg hm;have hl:=ix hI hw hgood hown ho hf k3;refine .fptr (fun j=>ws.getD j undef) (fun _=>hG.1) (fun j c hj=> ?_) (fun j c hj=> ?_)
    ·obtain ⟨x,hx,_⟩:=hl.get hj;simp only [Array.getElem?_toList] at hx;have h1:=(Array.getElem?_eq_some_iff.1 hx).1;rw [hw];unfold World.cell?;simp only [k2];simp [h1]
    ·obtain ⟨x,hx,hrx⟩:=hl.get hj;simp only [Array.getElem?_toList] at hx;obtain ⟨h1,h2⟩:=Array.getElem?_eq_some_iff.1 hx;simp [h1,h2,hrx]
   ·cases h
  ·rename_i kd t l;split at h
   ·cases h
   ·rename_i hk;simp only [Q9] at h;subst h;simp only [oI,Q8 hk,Q9] at hf;subst hf;obtain ⟨A,cap,rfl,hc,hfull⟩:=hr.list_inv;exact .list (hc.keep (fun b hb=>⟨hgood b hb,by rw [hw]⟩) (fun b hb=>by
     have:=hgood b ⟨hb.1,hb.2 hk⟩;exact ⟨⟨this.1,fun _=>this.2⟩,by rw [hw]⟩)) hfull
  ·simp only [Rc] at h;obtain ⟨cs,ho,rfl⟩:=h;simp only [oI,Rc] at hf;obtain ⟨cs',hf,rfl⟩:=hf;exact hr.rows_re (fun us hl=>ix hI hw hgood hown ho hf hl) (fun b hb=>⟨hgood b hb,by rw [hw]⟩)
  ·simp only [Rc] at h;obtain ⟨cs,ho,rfl⟩:=h;simp only [oI,Rc] at hf;obtain ⟨cs',hf,rfl⟩:=hf;obtain ⟨vs,rfl,hl⟩:=hr.agg_inv;exact (ix hI hw hgood hown ho hf hl).agg
  ·simp only [Rc] at h;obtain ⟨cs,ho,rfl⟩:=h;simp only [oI,Rc] at hf;obtain ⟨cs',hf,rfl⟩:=hf;obtain ⟨vs,rfl,hl⟩:=hr.tuple_inv;have:=ix hI hw hgood hown ho hf hl;exact .tuple (by simpa using this.1) (fun j c x hc hx=>this.2 j c x hc (by simpa using hx))
  ·split at h
   ·rename_i a' b' ha hb;simp only [Q9] at h;subst h;simp only [oI] at hf;split at hf
    ·rename_i a2 b2 hfa hfb;simp only [Q9] at hf;subst hf;obtain ⟨vs,ws,rfl,h1,h2⟩:=hr.fn_inv;have l1:=ix hI hw hgood hown ha hfa h1;have l2:=ix hI hw hgood hown hb hfb h2;exact .fn (by simpa using l1.1) (by simpa using l2.1) (fun j c x hc hx=>l1.2 j c x hc (by simpa using hx)) (fun j c x hc hx=>l2.2 j c x hc (by simpa using hx))
    ·cases hf
   ·cases h
  all_goals first
   |(cases h;done)
   |(simp only [Q9] at h;subst h;simp only [oI,Q9] at hf;subst hf;cases hr<;>first|exact .any|exact .kb|exact .bool|exact .int|(exact .str (by assumption))|exact .nilp|exact .nils|exact .nilm|exact .nilf|exact .nili|exact .errN|exact .errS)
theorem ix {B:Nat->Prop} (hI:Inv B X') (hw:X.w=X'.w) (hgood: ∀b,X'.G b->X.G b) (hown: ∀id o p,X'.σ.get id=some o->X'.μ id=some p->X.G p.1):
 ∀{n:Nat} {vs rs rs':List V} {us:List Value},aR X'.σ n vs=some rs->rS n rs=some rs'->RepL X' vs us->RepL X rs' us
 |0,vs,rs,rs',us,h,_,_=>by simp [aR] at h
 |n+1,[],rs,rs',us,h,hf,hr=>by
  simp only [aR,Q9] at h;subst h;simp only [rS,Q9] at hf;subst hf;rw [hr.nil_inv];exact .nil
 |n+1,v::vs,rs,rs',us,h,hf,hr=>by
  unfold aR at h;split at h
  ·rename_i v1 r1 hv hr1;simp only [Q9] at h;subst h;simp only [rS] at hf;split at hf
   ·rename_i a2 b2 hfa hfb;simp only [Q9] at hf;subst hf;obtain ⟨u,us',rfl,h1,h2⟩:=hr.cons_inv;exact .cons (BR hI hw hgood hown hv hfa h1) (ix hI hw hgood hown hr1 hfb h2)
   ·cases hf
  ·cases h
end
end
def Upd (P:Program) (f:FuncId) (args:List V) (σ:Store) (r:V) (σ':Store):Prop:=
 ∀(B:Nat->Prop) (F:Fr) (w:World) (μ:Mu) (vs:List Value),Inv B ⟨w,σ,μ,F⟩->(∀b,w.heap.size<=b->B b)->RepL ⟨w,σ,μ,F⟩ args vs->
  Calls P f vs.toArray w fun e w'=> ∃u,e= .returned u/\∃μ',Inv B ⟨w',σ',μ',F⟩/\Rep ⟨w',σ',μ',F⟩ r u/\Evo ⟨w,σ,μ,F⟩ ⟨w',σ',μ',F⟩
def Ext (P:Program) (f:FuncId) (args:List V) (r:V):Prop:=
 ∀(X:Ctx) (vs:List Value),RepL X args vs->∃u,(callFunc f vs.toArray).run P X.w= .ok (.value u) X.w/\Rep X r u
def Dx (B0:Nat) (F:Fr) (w':World) (r:V) (u:Value):Prop:=
 ∃σ' μ' v',Inv (fun b=>B0<=b) ⟨w',σ',μ',F⟩/\Rep ⟨w',σ',μ',F⟩ v' u/\own σ' 60 v'=some r
def PureZ (P:Program) (f:FuncId) (args:List V) (r:V):Prop:=
 ∀(F:Fr) (w:World) (vs:List Value),Ground F w->RepL ⟨w,[],fun _=>none,F⟩ args vs->
  Calls P f vs.toArray w fun e w'=> ∃u,e= .returned u/\Below w.heap.size w w'/\Dx w.heap.size F w' r u
structure SpecsOk (E:Env):Prop where
 pure: ∀f args pre r,E.specs f args=some (pre,r)->pre->Pure E.P f args r
 upd: ∀f args σ pre r new,E.upd f args σ=some (pre,r,new)->pre->Upd E.P f args σ r (new++σ)
 ext: ∀f args pre r,E.ext f args=some (pre,r)->pre->Ext E.P f args r
 z: ∀f args pre r,E.zspecs f args=some (pre,r)->pre->PureZ E.P f args r
 prog:E.P=P0
theorem vw {P:Program} {g:FuncId} (h:ve P g=true) (args:Array Value) (w:World):(callFunc g args).run P w= .ok (.enter g args) w:=by
 unfold ve at h;split at h
 ·rename_i fn hf;simp only [Ri,Rb,beq_eq_false_iff_ne,ne_eq] at h;obtain ⟨h1,h2⟩:=h;obtain ⟨b,hb⟩:=RG.1 h1;simp [callFunc,hf,h2,hb]
 ·cases h
theorem Ov (dst:Nat): ∀i j,idf dst i=idf dst j->i=j:=by
 intro i j h;unfold idf at h;omega
theorem Ow {E:Env} (hS:SpecsOk E) {o:Oper} {ρ:Operand->V} {σ:Store} {k:K} {c:Call} {f:Operand} {dst:Nat} (ho:o.op= .call c) (hc:c.callee= .value f)
 (h:tg E (ρ f) (c.args.toList.map ρ) dst σ k): ∃v σ',k v σ'/\OpOk E.P o ρ σ v σ':=by
 have hops:o.op.operands.toList=f::c.args.toList:=by rw [ho];simp [Op.operands,Call.operands,hc]
 unfold tg at h;split at h
 ·rename_i g a b hf;split at h
  ·rename_i hb;have start: ∀{B:Nat->Prop} {F:Fr} {ρr:Operand->Value} {w:World} {μ:Mu},Inv B ⟨w,σ,μ,F⟩->(∀x,x∈o.op.operands.toList->Rep ⟨w,σ,μ,F⟩ (ρ x) (ρr x))->
    ∃us:List Value,RepL ⟨w,σ,μ,F⟩ (a++c.args.toList.map ρ++b) us/\(execOp ρr o).run E.P w= .ok (.enter g us.toArray) w:=by
    intro B F ρr w μ hI hr;have hrf:=hr f (ao hops (by simp));rw [hf] at hrf;obtain ⟨vs,ws,e,h1,h2⟩:=hrf.fn_inv;have hargs:RepL ⟨w,σ,μ,F⟩ (c.args.toList.map ρ) (c.args.toList.map ρr):=⟨by simp,fun j x u hx hu=>by
     simp only [List.getElem?_map,Rc] at hx hu;obtain ⟨y,hy,rfl⟩:=hx;obtain ⟨y',hy',rfl⟩:=hu;rw [hy] at hy';cases hy';exact hr y (ao hops (Rq _ (Rr hy)))⟩
    have hall:=(h1.append hargs).append h2;refine ⟨_,hall, ?_⟩;have e3:vs++c.args.map ρr++ws=(vs.toList++c.args.toList.map ρr++ws.toList).toArray:=by
     apply Array.ext';simp
    simp only [execOp,ho,resolve,hc,e,Deferred.ofValue,Sem.run_bind,Sem.run_pure,Result.andThen_ok,invoke];rw [vw hb,<-e3]
   split at h
   ·rename_i pre r new hu;obtain ⟨hpre,h⟩:=h;split at hu
    ·cases hu
    have hupd:=hS.upd g _ σ pre r new hu hpre;refine ⟨_,_,h,fun B F ρr w μ hI hB hr=> ?_⟩;obtain ⟨us,hus,hrun⟩:=start hI hr;unfold OpRuns;rw [hrun];exact (hupd B F w μ us hI hB hus).mono fun e w' ⟨u,he,hq⟩=>⟨u,he,hq⟩
   split at h
   ·rename_i ars has;have hout: ∀{B:Nat->Prop} {F:Fr} {w:World} {μ:Mu},Inv B ⟨w,σ,μ,F⟩->∀b,w.heap.size<=b->¬(Ctx.outerF ⟨w,σ,μ,F⟩).any b:=by
     intro B F w μ hI;rintro b hb ((h3|⟨id,o',hg,hm⟩)|h3);rotate_left 2
     ·exact hI.out b hb (.inr h3)
     ·exact hI.out b hb (.inl h3)
     ·have h4:=hI.ltB hg hm;have h5:b<w.heap.size:=h4;omega
    split at h
    ·rename_i pre r hsp;obtain ⟨hpre,h⟩:=h;split at hsp;rotate_left
     ·cases hsp
     have hpure:=hS.z g ars pre r hsp hpre;split at h
     ·rename_i r' hfz;refine ⟨_,_,h,fun B F ρr w μ hI hB hr=> ?_⟩;obtain ⟨us,hall,hrun⟩:=start hI hr;have hsn:=dC hI has hall;have hcalls:=hpure _ w _ ⟨hout hI,rfl,fun e he=>(hI.marks.gnd e he).1⟩ hsn;unfold OpRuns;rw [hrun];refine hcalls.mono fun e w' ⟨u,he,hbl,hh⟩=>⟨u,he,μ, ?_⟩
      obtain ⟨hE,hI2⟩:=dB hI (w':=w') hbl.os hbl.tape hbl.output hbl.size (fun b hb=>hbl.block b hb);obtain ⟨σ',μ',v',hI',hrv,hov⟩:=hh;refine ⟨hI2,BR (X':=⟨w',σ',μ',_⟩) (X:=⟨w',σ,μ,F⟩) hI' rfl (fun b hb=> ?_) (fun id o' p hg hm=> ?_) hov hfz hrv,hE⟩
      ·refine ⟨⟨⟨hb.1.1.1,fun id o' hg hm=>hb.2 (.inr ⟨id,o',hg,jL hI (w':=w') (fun b hb=>hbl.block b hb) hg hm⟩)⟩,hb.1.2⟩,fun h3=>hb.2 (.inl h3)⟩
      ·have h1:w.heap.size<=p.1:=hI'.base id o' p hg hm;have h2:=hI'.lt hg hm;refine ⟨⟨⟨h2,fun id2 o2 hg2 hm2=> ?_⟩,fun h3=>hI.out _ h1 (.inr h3)⟩,fun h3=>hI.out _ h1 (.inl h3)⟩;have h4:p.1<w.heap.size:=hI.ltB hg2 (jL hI (w':=w') (fun b hb=>hbl.block b hb) hg2 hm2);omega
     ·exact h.elim
    split at h
    ·rename_i pre r hsp;obtain ⟨hpre,h⟩:=h;have hpure:=hS.pure g ars pre r hsp hpre;have runs: ∀{B:Nat->Prop} {F:Fr} {ρr:Operand->Value} {w:World} {μ:Mu} {Q:Value->World->Prop},Inv B ⟨w,σ,μ,F⟩->(∀x,x∈o.op.operands.toList->Rep ⟨w,σ,μ,F⟩ (ρ x) (ρr x))->
      (∀u w',Below w.heap.size w w'->rf w.heap.size (Ctx.outerF ⟨w,σ,μ,F⟩) w' r u->Q u w')->OpRuns E.P o ρr w Q:=by
      intro B F ρr w μ Q hI hr hQ;obtain ⟨us,hall,hrun⟩:=start hI hr;have hsn:=dC hI has hall;have hout: ∀b,w.heap.size<=b->¬(Ctx.outerF ⟨w,σ,μ,F⟩).any b:=by
       rintro b hb ((h3|⟨id,o',hg,hm⟩)|h3);rotate_left 2
       ·exact hI.out b hb (.inr h3)
       ·exact hI.out b hb (.inl h3)
       ·have h4:=hI.ltB hg hm;have h5:b<w.heap.size:=h4;omega
      have hcalls:=hpure _ w _ ⟨hout,rfl,fun e he=>(hI.marks.gnd e he).1⟩ hsn;unfold OpRuns;rw [hrun];exact hcalls.mono fun e w' ⟨u,he,hbl,hh⟩=>⟨u,he,hQ u w' hbl hh⟩
     split at h
     ·split at h
      ·rename_i r' hfz;refine ⟨_,_,h,fun B F ρr w μ hI hB hr=>runs hI hr fun u w' hbl hh=>⟨μ, ?_⟩⟩;obtain ⟨hE,hI2⟩:=dB hI (w':=w') hbl.os hbl.tape hbl.output hbl.size (fun b hb=>hbl.block b hb);obtain ⟨σ',μ',v',hI',hrv,hov,_⟩:=hh;refine ⟨hI2,BR (X':=⟨w',σ',μ',_⟩) (X:=⟨w',σ,μ,F⟩) hI' rfl (fun b hb=> ?_) (fun id o' p hg hm=> ?_) hov hfz hrv,hE⟩
       ·refine ⟨⟨⟨hb.1.1.1,fun id o' hg hm=>hb.2 (.inr ⟨id,o',hg,jL hI (w':=w') (fun b hb=>hbl.block b hb) hg hm⟩)⟩,hb.1.2⟩,fun h3=>hb.2 (.inl h3)⟩
       ·have h1:w.heap.size<=p.1:=hI'.base id o' p hg hm;have h2:=hI'.lt hg hm;refine ⟨⟨⟨h2,fun id2 o2 hg2 hm2=> ?_⟩,fun h3=>hI.out _ h1 (.inr h3)⟩,fun h3=>hI.out _ h1 (.inl h3)⟩;have h4:p.1<w.heap.size:=hI.ltB hg2 (jL hI (w':=w') (fun b hb=>hbl.block b hb) hg2 hm2);omega
      ·exact h.elim
     ·split at h
      ·rename_i r' new n hex;split at h
       ·rename_i hfr;exact ⟨_,_,h,fun B F ρr w μ hI hB hr=>runs hI hr fun u w' hbl hh=>C1 hI hB hbl hh (Ov dst) hex hfr⟩
       ·exact h.elim
      ·exact h.elim
    ·exact h.elim
   ·exact h.elim
  ·split at h
   ·rename_i pre r hx;obtain ⟨hpre,h⟩:=h;refine ⟨r,σ,h,aH fun X ρr hσ hI hr=> ?_⟩;have hrf:=hr f (ao hops (by simp));rw [hf] at hrf;obtain ⟨vs,ws,e,h1,h2⟩:=hrf.fn_inv;have hargs:RepL X (c.args.toList.map ρ) (c.args.toList.map ρr):=⟨by simp,fun j x u hx hu=>by
     simp only [List.getElem?_map,Rc] at hx hu;obtain ⟨y,hy,rfl⟩:=hx;obtain ⟨y',hy',rfl⟩:=hu;rw [hy] at hy';cases hy';exact hr y (ao hops (Rq _ (Rr hy)))⟩
    have hall:=(h1.append hargs).append h2;obtain ⟨u,k1,k2⟩:=hS.ext g _ pre r hx hpre X _ hall;refine ⟨u, ?_,k2⟩;have e3:vs++c.args.map ρr++ws=(vs.toList++c.args.toList.map ρr++ws.toList).toArray:=by
     apply Array.ext';simp
    simp only [execOp,ho,resolve,hc,e,Deferred.ofValue,Sem.run_bind,Sem.run_pure,Result.andThen_ok,invoke];rw [e3,k1]
   ·exact h.elim
 ·exact h.elim
theorem Rep.lit {X:Ctx} {v:V} {u:Value} (f:Bool) (h:Rep X v u):Rep X (Og f v) u:=by
 unfold Og;split
 ·rw [h.bool_inv];exact .kb
 ·exact h
theorem OpRuns.mono {P:Program} {o:Oper} {ρr:Operand->Value} {w:World} {Q Q':Value->World->Prop} (h:OpRuns P o ρr w Q) (hi: ∀u w',Q u w'->Q' u w'):OpRuns P o ρr w Q':=by
 unfold OpRuns at h⊢;split at h
 ·exact hi _ _ h
 ·exact hi _ _ h
 ·refine Calls.mono h ?_;rintro e w'' ⟨u,rfl,hu⟩;exact ⟨u,rfl,hi _ _ hu⟩
 ·exact h.elim
theorem OpOk.lit {P:Program} {o:Oper} {ρ:Operand->V} {σ σ':Store} {v:V} (f:Bool) (h:OpOk P o ρ σ v σ'):OpOk P o ρ σ (Og f v) σ':=fun B F ρr w μ h1 h2 h3=>
 (h B F ρr w μ h1 h2 h3).mono fun _ _ ⟨μ',a,b,c⟩=>⟨μ',a,b.lit f,c⟩
theorem OW {E:Env} (hS:SpecsOk E) {o:Oper} {ρ:Operand->V} {σ:Store} {k:K} (h:qZ E o ρ σ k): ∃v σ',k v σ'/\OpOk E.P o ρ σ v σ':=by
 unfold qZ at h;simp only at h;split at h
 ·rename_i x ho;refine ⟨_,_,h,aH fun X ρr _ _ hr=>⟨ρr x,by simp [execOp,ho],hr x (by rw [ho];simp [Op.operands])⟩⟩
 ·rename_i x ho;refine ⟨_,_,h,aH fun X ρr _ _ hr=>⟨ρr x,by simp [execOp,ho],hr x (by rw [ho];simp [Op.operands])⟩⟩
 ·rename_i c a b ho;exact Om ho h
 ·rename_i t ho;split at h
  ·exact Gy ho h
  ·exact KZ ho h
 ·rename_i t x ho;exact Qh ho h
 ·rename_i t ps ho;exact K7 ho h
 ·rename_i t n ps ho;exact rT ho h
 ·rename_i t a ho;exact Oh ho h
 ·rename_i t a x ho;exact Gw ho h
 ·rename_i x ho;exact yy ho h
 ·rename_i op t x y t2 ho;obtain ⟨v,σ',hk,hok⟩:=Oj ho h;exact ⟨_,_,hk,OpOk.lit _ hok⟩
 ·rename_i op t x ho;exact QX ho h
 ·rename_i s d x ho;exact Ol ho h
 ·rename_i fn a b ho;exact yD ho h
 ·rename_i t l c ho;exact vq ho h
 ·rename_i t x lo hi mx ho;exact K6 ho h
 ·rename_i t x f ho;exact vn ho h
 ·rename_i t x f ho;exact K3 ho h
 ·rename_i t x i ho;split at h
  ·split at h
   ·exact yB ho h
   ·exact lP ho (yz h)
  ·exact lP ho h
 ·rename_i t x i ho;split at h
  ·exact yC ho h
  ·exact K4 ho h
 ·rename_i t m x ok ho;exact GL hS.prog ho h
 ·rename_i t m x y ho;exact GM hS.prog ho h
 ·rename_i t r ho;exact BP hS.prog ho h
 ·rename_i x i ho;split at h
  ·rename_i vs hx;split at h
   ·rename_i v hv;exact BM ho hx hv h
   ·exact h.elim
  ·exact h.elim
 ·rename_i c ho;split at h
  ·rename_i hc;split at h
   ·rename_i x t ha ht;split at h
    ·rename_i hs;exact Qk ho hc ha hs ht h
    ·exact h.elim
   ·exact h.elim
  ·rename_i hc;split at h
   ·rename_i d x t t' h0 h1 t0 t1;split at h
    ·rename_i hcond;obtain ⟨rfl,hs,ts⟩:=hcond;exact GH ho hc h0 h1 hs t0 t1 ts h
    ·split at h
     ·rename_i hcond;split at h
      ·rename_i hu2;exact BO ho hc h0 h1 hcond.1 t0 t1 hcond.2 hu2 h
      ·exact h.elim
     ·exact h.elim
   ·exact h.elim
  ·rename_i hc;split at h
   ·rename_i x y h0 h1;split at h
    ·rename_i hs;exact OU (mx:=false) ho hc h0 h1 hs h
    ·exact h.elim
   ·exact h.elim
  ·rename_i hc;split at h
   ·rename_i x y h0 h1;split at h
    ·rename_i hs;exact OU (mx:=true) ho hc h0 h1 hs h
    ·exact h.elim
   ·exact h.elim
  ·rename_i f hc;exact Ow hS ho hc h
  ·rename_i hc;split at h
   ·rename_i x t h0 t0;split at h
    ·rename_i hs;exact K9 ho hc h0 hs.1 t0 hs.2 h
    ·exact h.elim
   ·exact h.elim
  ·rename_i hc;split at h
   ·rename_i x h0;split at h
    ·rename_i hs;exact K8 ho hc h0 hs h
    ·exact h.elim
   ·exact h.elim
  ·rename_i hc;split at h
   ·rename_i x y t h0 h1 t0;split at h
    ·rename_i hs;exact Ot ho hc h0 h1 hs.1 t0 hs.2 h
    ·exact h.elim
   ·exact h.elim
  ·exact h.elim
 ·exact h.elim
end Go.Vm
namespace Go.Vm
mutual
def inV (τ:Store):Nat->V->Bool
 |0,_=>false
 |n+1,v=>match v with
  | .slc id _ _=>(τ.get id).isSome
  | .ptr id _=>(τ.get id).isSome
  | .own id _=>(τ.get id).isSome
  | .eptr id _ _ _=>(τ.get id).isSome
  | .rows _ cells=>lR τ n cells
  | .nslc id=>(τ.get id).isSome
  | .nptr id _ _=>(τ.get id).isSome
  | .nin id _ _=>(τ.get id).isSome
  | .oref id=>(τ.get id).isSome
  | .fptr cells=>lR τ n cells
  | .fn _ a b=>lR τ n a&&lR τ n b
  | .agg cells=>lR τ n cells
  | .tuple cells=>lR τ n cells
  | .iface _ x=>inV τ n x
  |_=>true
def lR (τ:Store):Nat->List V->Bool
 |0,_=>false
 |_+1,[]=>true
 |n+1,v::r=>inV τ n v&&lR τ n r
end
structure Part (σ τ:Store):Prop where
 sub: ∀k o,τ.get k=some o->σ.get k=some o
 closed: ∀k cells,τ.get k=some (.box cells)->lR τ 60 cells=true
def fT (σ τ:Store) (k:Nat):Prop:=(∃o,σ.get k=some o)/\τ.get k=none
def Ctx.restB (X:Ctx) (τ:Store) (b:Nat):Prop:= ∃k o,fT X.σ τ k/\X.σ.get k=some o/\Blk X k o b
def Ctx.cutF (X:Ctx) (τ:Store):Fr:=⟨X.F.out,fun b=>X.F.hid b∨X.restB τ b,[],X.F.gnd⟩
def Ctx.cut (X:Ctx) (τ:Store):Ctx:=⟨X.w,τ,X.μ,X.cutF τ⟩
section
variable {X:Ctx} {τ:Store} {B:Nat->Prop}
theorem K_ (h:Part X.σ τ) {b:Nat} (hb:X.T0 b):(X.cut τ).T0 b:=
 ⟨hb.1,fun id o hg hm=>hb.2 id o (h.sub id o hg) hm⟩
theorem tr (h:Part X.σ τ) {b:Nat} (hb:X.T b):(X.cut τ).T b:=by
 refine ⟨K_ h hb.1, ?_⟩;rintro (h1|⟨k,o,_,h2,h3⟩)
 ·exact hb.2 h1
 ·exact hb.1.2 k o h2 h3
theorem RepL.ofArr {X:Ctx} {cs:List V} {vs:Array Value} (h:vs.size=cs.length) (hr: ∀(j:Nat) c u,cs[j]? =some c->vs[j]? =some u->Rep X c u):RepL X cs vs.toList:=
 ⟨by simpa using h,fun j c u hc hu=>hr j c u hc (by simpa using hu)⟩
mutual
theorem Rep.cut (h:Part X.σ τ): ∀{n:Nat} {v:V} {u:Value},inV τ n v=true->Rep X v u->Rep (X.cut τ) v u
 |0,v,u,hi,_=>by simp [inV] at hi
 |n+1,v,u,hi,hr=>by
  unfold inV at hi;cases hr with
  |any=>exact .any
  |kb=>exact .kb
  |bool=>exact .bool
  |bq h=>exact .bq h
  |int=>exact .int
  |str h=>exact .str h
  |nilp=>exact .nilp
  |nils=>exact .nils
  |nilm=>exact .nilm
  |nilf=>exact .nilf
  |nili=>exact .nili
  |errN=>exact .errN
  |errS=>exact .errS
  |list h1 h2=>exact .list (h1.keep (fun b hb=>⟨⟨tr h hb.1,hb.2⟩,rfl⟩) (fun b hb=>⟨⟨tr h hb.1,hb.2⟩,rfl⟩)) h2
  |slc h1 h2 h3=>
   obtain ⟨o,ho⟩:=RG.1 hi;have:=h.sub _ _ ho;rw [h1] at this;cases this;exact .slc ho h2 h3
  | @fptr cells b o f h1 h2 h3=>
   have hl:=RepL.cutA h (vs:=(List.range cells.length).map f) hi ⟨by simp,fun j c x hj hx=>by
    simp only [List.getElem?_map,Rc] at hx;obtain ⟨a,ha,rfl⟩:=hx;obtain ⟨q1,q2⟩:=List.getElem?_eq_some_iff.1 ha;simp at q2;subst q2;exact h3 _ c hj⟩
   refine .fptr f (fun h0=>tr h (h1 h0)) h2 (fun j c hj=> ?_);obtain ⟨x,hx,hrx⟩:=hl.get hj;simp only [List.getElem?_map,Rc] at hx;obtain ⟨a,ha,rfl⟩:=hx;obtain ⟨q1,q2⟩:=List.getElem?_eq_some_iff.1 ha;simp at q2;subst q2;exact hrx
  |ptr h1 h2=>
   obtain ⟨o,ho⟩:=RG.1 hi;have:=h.sub _ _ ho;rw [h1] at this;cases this;exact .ptr ho h2
  |own h1 h2 h3=>
   obtain ⟨o,ho⟩:=RG.1 hi;have:=h.sub _ _ ho;rw [h1] at this;cases this;exact .own ho h2 h3
  |eptr h1 h2 h3=>
   obtain ⟨o,ho⟩:=RG.1 hi;have:=h.sub _ _ ho;rw [h1] at this;cases this;exact .eptr ho h2 h3
  |rows f h1 h2 h3 h4=>exact (Rep.rows f h1 h2 h3 h4).rows_re (fun us hl=>RepL.cutA h hi hl) (fun b hb=>⟨⟨tr h hb.1,hb.2⟩,rfl⟩)
  |nslc h1 h2=>
   obtain ⟨o,ho⟩:=RG.1 hi;have:=h.sub _ _ ho;rw [h1] at this;cases this;exact .nslc ho h2
  |nptr h1 h2=>
   obtain ⟨o,ho⟩:=RG.1 hi;have:=h.sub _ _ ho;rw [h1] at this;cases this;exact .nptr ho h2
  |nin h1 h2 h3=>
   obtain ⟨o,ho⟩:=RG.1 hi;have:=h.sub _ _ ho;rw [h1] at this;cases this;exact .nin ho h2 h3
  |oref h1=>
   obtain ⟨o,ho⟩:=RG.1 hi;have:=h.sub _ _ ho;rw [h1] at this;cases this;exact Rep.oref (X:=X.cut τ) ho
  |fopq S h1 h2=>exact .fopq S h1 fun b e=>⟨(h2 b e).1,(h2 b e).2.1,fun c hc=>tr h ((h2 b e).2.2 c hc)⟩
  |fn h1 h2 h3 h4=>
   simp only [Ri] at hi;have l1:=RepL.cutA h hi.1 (RepL.ofArr h1 h3);have l2:=RepL.cutA h hi.2 (RepL.ofArr h2 h4);exact .fn h1 h2 (fun j c x hc hx=>l1.2 j c x hc (by simpa using hx)) (fun j c x hc hx=>l2.2 j c x hc (by simpa using hx))
  |agg h1 h2=>
   have l1:=RepL.cutA h hi (RepL.ofArr h1 h2);exact .agg h1 (fun j c x hc hx=>l1.2 j c x hc (by simpa using hx))
  |tuple h1 h2=>
   have l1:=RepL.cutA h hi (RepL.ofArr h1 h2);exact .tuple h1 (fun j c x hc hx=>l1.2 j c x hc (by simpa using hx))
  |iface h1=>exact .iface (Rep.cut h hi h1)
theorem RepL.cutA (h:Part X.σ τ): ∀{n:Nat} {cs:List V} {vs:List Value},lR τ n cs=true->RepL X cs vs->RepL (X.cut τ) cs vs
 |0,cs,vs,hi,_=>by simp [lR] at hi
 |n+1,[],vs,hi,hr=>by rw [hr.nil_inv];exact .nil
 |n+1,c::cs,vs,hi,hr=>by
  unfold lR at hi;simp only [Ri] at hi;obtain ⟨v,us,rfl,r1,r2⟩:=hr.cons_inv;exact .cons (Rep.cut h hi.1 r1) (RepL.cutA h hi.2 r2)
end
theorem Inv.cut (hI:Inv B X) (h:Part X.σ τ):Inv (fun b=>B b/\¬X.restB τ b) (X.cut τ):=by
 refine ⟨fun id o hg=> ?_,fun i j o o' b hi hj=>hI.injB i j o o' b (h.sub _ _ hi) (h.sub _ _ hj),fun id o b hg hm=>⟨hI.baseB id o b (h.sub _ _ hg) hm, ?_⟩,fun b hb=> ?_,fun b hb=> ?_,⟨fun e he=>by simp [Ctx.cut,Ctx.cutF] at he,fun e he=>⟨(hI.marks.gnd e he).1,fun h=>(hI.marks.gnd e he).2 h.1⟩⟩⟩
 ·exact ObjOk.move (X:=X) rfl (fun _ _=>rfl) (fun b hb=>⟨⟨tr h hb.1,hb.2⟩,rfl⟩) (fun cells vs e h3=>by subst e;exact RepL.cutA h (h.closed _ _ hg) h3) (hI.objs id o (h.sub _ _ hg))
 ·rintro ⟨k,o',⟨_,h2⟩,h3,h4⟩;have:=hI.injB _ _ _ _ _ h3 (h.sub _ _ hg) h4 hm;subst this;have hg2:τ.get k=some o:=hg;rw [hg2] at h2;cases h2
 ·rintro (h1|h1|⟨k,o,_,h2,h3⟩)
  ·exact hI.out b hb (.inl h1)
  ·exact hI.out b hb (.inr h1)
  ·have h4:=hI.ltB h2 h3;have h5:X.w.heap.size<=b:=hb;omega
 ·rintro (h1|h1|h1)
  ·exact hI.vis b hb.1 (.inl h1)
  ·exact hI.vis b hb.1 (.inr h1)
  ·exact hb.2 h1
theorem iy (hI:Inv B X) (h:Part X.σ τ) {w':World} {τ' σ':Store} {μ':Mu} (hI':Inv (fun b=>B b/\¬X.restB τ b) ⟨w',τ',μ',X.cutF τ⟩) (hE:Evo (X.cut τ) ⟨w',τ',μ',X.cutF τ⟩)
 (h1: ∀k,fT X.σ τ k->σ'.get k=X.σ.get k/\τ'.get k=none) (h2: ∀k,¬fT X.σ τ k->σ'.get k=τ'.get k):
 ∃μ2,Inv B ⟨w',σ',μ2,X.F⟩/\Evo X ⟨w',σ',μ2,X.F⟩/\∀v u,Rep ⟨w',τ',μ',X.cutF τ⟩ v u->Rep ⟨w',σ',μ2,X.F⟩ v u:=by
 classical
 let μ2:Mu:=fun k=>if fT X.σ τ k then X.μ k else μ' k
 have m1: ∀k,fT X.σ τ k->μ2 k=X.μ k:=fun k hk=>Q_ hk;have m2: ∀k,¬fT X.σ τ k->μ2 k=μ' k:=fun k hk=>Q8 hk;have nr: ∀k o,τ'.get k=some o->¬fT X.σ τ k:=fun k o hk hr=>by have:=(h1 k hr).2;rw [hk] at this;cases this
 have same: ∀k o b,fT X.σ τ k->X.σ.get k=some o->Blk X k o b->w'.heap[b]? =X.w.heap[b]? :=by
  intro k o b hk hg hm;refine (hE.still b ⟨hI.ltB hg hm,fun id o' hg' hm'=> ?_⟩).2;have:=hI.injB _ _ _ _ _ (h.sub _ _ hg') hg hm' hm;subst this;have h0:=hk.2;have hg2:τ.get id=some o':=hg';rw [hg2] at h0;cases h0
 have b1: ∀{k o b},fT X.σ τ k->X.σ.get k=some o->Blk ⟨w',σ',μ2,X.F⟩ k o b->Blk X k o b:=fun {k o b} hk hg hm=>
  Blk.move (X:=X) (m1 k hk) (fun p hp=>same k o _ hk hg (.top hp)) hm
 have b2: ∀{k o b},¬fT X.σ τ k->Blk ⟨w',σ',μ2,X.F⟩ k o b->Blk ⟨w',τ',μ',X.cutF τ⟩ k o b:=fun {k o b} hk hm=>
  Blk.move (X:=⟨w',τ',μ',X.cutF τ⟩) (X':=⟨w',σ',μ2,X.F⟩) (m2 k hk) (fun _ _=>rfl) hm
 have upT: ∀b,Ctx.T ⟨w',τ',μ',X.cutF τ⟩ b->Ctx.T ⟨w',σ',μ2,X.F⟩ b:=by
  intro b hb;refine ⟨⟨hb.1.1,fun k o hg hm=> ?_⟩,fun hh=>hb.2 (.inl hh)⟩;by_cases hk:fT X.σ τ k
  ·have hg:σ'.get k=some o:=hg;rw [(h1 k hk).1] at hg;exact hb.2 (.inr ⟨k,o,hk,hg,b1 hk hg hm⟩)
  ·have hg:σ'.get k=some o:=hg;rw [h2 k hk] at hg;exact hb.1.2 k o hg (b2 hk hm)
 have upR: ∀{v u},Rep ⟨w',τ',μ',X.cutF τ⟩ v u->Rep ⟨w',σ',μ2,X.F⟩ v u:=by
  intro v u hr;induction hr with
  |any=>exact .any
  |kb=>exact .kb
  |bool=>exact .bool
  |bq h=>exact .bq h
  |int=>exact .int
  |str h=>exact .str h
  |nilp=>exact .nilp
  |nils=>exact .nils
  |nilm=>exact .nilm
  |nilf=>exact .nilf
  |nili=>exact .nili
  |errN=>exact .errN
  |errS=>exact .errS
  |list g1 g2=>exact .list (g1.keep (fun b hb=>⟨⟨upT b hb.1,hb.2⟩,rfl⟩) (fun b hb=>⟨⟨upT b hb.1,hb.2⟩,rfl⟩)) g2
  |slc g1 g2 g3=>
   have hk:=nr _ _ g1;exact .slc ((h2 _ hk).trans g1) g2 (fun e=>by have:=g3 e;simp only at this⊢;rw [m2 _ hk];exact this)
  |fptr f g1 g2 g3 ih=>exact .fptr f (fun h0=>upT _ (g1 h0)) g2 ih
  |ptr g1 g2=>
   have hk:=nr _ _ g1;exact .ptr ((h2 _ hk).trans g1) ((m2 _ hk).trans g2)
  |own g1 g2 g3=>
   have hk:=nr _ _ g1;exact .own ((h2 _ hk).trans g1) ((m2 _ hk).trans g2) g3
  |eptr g1 g2 g3=>
   have hk:=nr _ _ g1;exact .eptr ((h2 _ hk).trans g1) g2 (fun e=>by have:=g3 e;simp only at this⊢;rw [m2 _ hk];exact this)
  |rows f g1 g2 g3 _ ih=>
   refine .rows f g1 g2 (fun h0=> ?_) ih;obtain ⟨b,o,e,hb,hc⟩:=g3 h0;exact ⟨b,o,e,⟨upT b hb.1,hb.2⟩,hc⟩
  |nslc g1 g2=>
   have hk:=nr _ _ g1;exact .nslc ((h2 _ hk).trans g1) (by simp only at g2⊢;rw [m2 _ hk];exact g2)
  |nptr g1 g2=>
   have hk:=nr _ _ g1;exact .nptr ((h2 _ hk).trans g1) ((m2 _ hk).trans g2)
  |nin g1 g2 g3=>
   have hk:=nr _ _ g1;exact .nin ((h2 _ hk).trans g1) g2 (fun e=>by
    obtain ⟨q1,q2,p,q3,q4⟩:=g3 e;exact ⟨q1,q2,p,(m2 _ hk).trans q3,q4⟩)
  | @oref id k d g1=>
   have hk:=nr _ _ g1;have:=Rep.oref (X:=⟨w',σ',μ2,X.F⟩) ((h2 _ hk).trans g1);rw [show (Ctx.μ ⟨w',σ',μ2,X.F⟩ id)=μ' id from m2 _ hk] at this;exact this
  |fopq S g1 g2=>exact .fopq S g1 fun b e=>⟨(g2 b e).1,(g2 b e).2.1,fun c hc=>upT _ ((g2 b e).2.2 c hc)⟩
  |fn g1 g2 _ _ ih1 ih2=>exact .fn g1 g2 ih1 ih2
  |agg g1 _ ih=>exact .agg g1 ih
  |tuple g1 _ ih=>exact .tuple g1 ih
  |iface _ ih=>exact .iface ih
 have hE2:Evo X ⟨w',σ',μ2,X.F⟩:=by
  refine ⟨hE.os,hE.tape,hE.output,hE.size,rfl,fun b hb=> ?_,fun id cells hg=> ?_,fun id ep t l hg=> ?_,fun id iv t f hh l hg=> ?_,fun id kk d hg=> ?_⟩
  ·obtain ⟨k1,k2⟩:=hE.still b (K_ h hb);refine ⟨⟨k1.1,fun k o hg hm=> ?_⟩,k2⟩;by_cases hk:fT X.σ τ k
   ·have hg:σ'.get k=some o:=hg;rw [(h1 k hk).1] at hg;exact hb.2 k o hg (b1 hk hg hm)
   ·have hg:σ'.get k=some o:=hg;rw [h2 k hk] at hg;exact k1.2 k o hg (b2 hk hm)
  ·by_cases hk:fT X.σ τ id
   ·exact ⟨⟨cells,(h1 id hk).1.trans hg⟩,m1 id hk⟩
   ·have ht:τ.get id=some (.box cells):=by
     cases ht:τ.get id with
     |none=>exact absurd ⟨⟨_,hg⟩,ht⟩ hk
     |some o=>have:=h.sub _ _ ht;rw [hg] at this;cases this;rfl
    obtain ⟨⟨c',k1⟩,k2⟩:=hE.box id cells ht;exact ⟨⟨c',(h2 id hk).trans k1⟩,(m2 id hk).trans k2⟩
  ·by_cases hk:fT X.σ τ id
   ·exact ⟨ep,l,(h1 id hk).1.trans hg,Rf _,fun _=>⟨m1 id hk,rfl⟩⟩
   ·have ht:τ.get id=some (.arr ep t l):=by
     cases ht:τ.get id with
     |none=>exact absurd ⟨⟨_,hg⟩,ht⟩ hk
     |some o=>have:=h.sub _ _ ht;rw [hg] at this;cases this;rfl
    obtain ⟨ep',l',k1,k2,k3⟩:=hE.arr id ep t l ht;exact ⟨ep',l',(h2 id hk).trans k1,k2,fun e=>⟨(m2 id hk).trans (k3 e).1,(k3 e).2⟩⟩
  ·by_cases hk:fT X.σ τ id
   ·exact ⟨iv,hh,l,(h1 id hk).1.trans hg,Rf _,m1 id hk,rfl,fun _=>⟨rfl,rfl,fun p hp=>same id _ _ hk hg (.top hp)⟩⟩
   ·have ht:τ.get id=some (.nest iv t f hh l):=by
     cases ht:τ.get id with
     |none=>exact absurd ⟨⟨_,hg⟩,ht⟩ hk
     |some o=>have:=h.sub _ _ ht;rw [hg] at this;cases this;rfl
    obtain ⟨iv',h',l',k1,k2,k3,k4,k5⟩:=hE.nest id iv t f hh l ht;exact ⟨iv',h',l',(h2 id hk).trans k1,k2,(m2 id hk).trans k3,k4,k5⟩
  ·by_cases hk:fT X.σ τ id
   ·exact ⟨⟨d,(h1 id hk).1.trans hg⟩,congrArg (Option.map (·.1)) (m1 id hk)⟩
   ·have ht:τ.get id=some (.opq kk d):=by
     cases ht:τ.get id with
     |none=>exact absurd ⟨⟨_,hg⟩,ht⟩ hk
     |some o=>have:=h.sub _ _ ht;rw [hg] at this;cases this;rfl
    obtain ⟨⟨d',k1⟩,k2⟩:=hE.opq id kk d ht;exact ⟨⟨d',(h2 id hk).trans k1⟩,(congrArg (Option.map (·.1)) (m2 id hk)).trans k2⟩
 refine ⟨μ2,⟨fun id o hg=> ?_,fun i j o o' b hi hj hp hq=> ?_,fun id o b hg hm=> ?_,fun b hb=>hI.out b (Ro hE.size hb),hI.vis, .evo hI hE2⟩,hE2,fun v u=>upR⟩
 ·by_cases hk:fT X.σ τ id
  ·have hg0:X.σ.get id=some o:=(h1 id hk).1.symm.trans hg;exact ObjOk.move (X:=X) (m1 id hk) (fun b hb=>same id o b hk hg0 hb) hE2.good (fun _ _ _ h=>h.evo hE2) (hI.objs id o hg0)
  ·have hg0:τ'.get id=some o:=(h2 id hk).symm.trans hg;exact ObjOk.move (X:=⟨w',τ',μ',X.cutF τ⟩) (m2 id hk) (fun _ _=>rfl) (fun b hb=>⟨⟨upT b hb.1,hb.2⟩,rfl⟩) (fun cells vs _ k3=>⟨k3.1,fun j c u hc hu=>upR (k3.2 j c u hc hu)⟩) (hI'.objs id o hg0)
 ·have hi:σ'.get i=some o:=hi;have hj:σ'.get j=some o':=hj;by_cases hk:fT X.σ τ i
  ·rw [(h1 i hk).1] at hi;have hp:=b1 hk hi hp;by_cases hl:fT X.σ τ j
   ·rw [(h1 j hl).1] at hj;exact hI.injB i j o o' b hi hj hp (b1 hl hj hq)
   ·rw [h2 j hl] at hj;exact absurd ⟨i,o,hk,hi,hp⟩ (hI'.baseB j o' b hj (b2 hl hq)).2
  ·rw [h2 i hk] at hi;have hp:=b2 hk hp;by_cases hl:fT X.σ τ j
   ·rw [(h1 j hl).1] at hj;exact absurd ⟨j,o',hl,hj,b1 hl hj hq⟩ (hI'.baseB i o b hi hp).2
   ·rw [h2 j hl] at hj;exact hI'.injB i j o o' b hi hj hp (b2 hl hq)
 ·have hg:σ'.get id=some o:=hg;by_cases hk:fT X.σ τ id
  ·rw [(h1 id hk).1] at hg;exact hI.baseB id o b hg (b1 hk hg hm)
  ·rw [h2 id hk] at hg;exact (hI'.baseB id o b hg (b2 hk hm)).1
end
end Go.Vm
