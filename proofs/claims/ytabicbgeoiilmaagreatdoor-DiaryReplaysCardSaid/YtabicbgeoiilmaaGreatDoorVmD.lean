import Derived.Test.YtabicbgeoiilmaaGreatDoorVmC
import Derived.Lib.UnsafeStr
import Derived.Lib.AppendStr
namespace Go.Vm
section
variable {P:Program} {o:Oper} {ρ:Operand->V} {σ:Store} {k:K}
theorem tl (off:Nat): ∀(l:List Value) (j:Nat) (cells:Array Value),off+j+l.length<=cells.size->
 ((l.zipIdx j).foldl (fun cs (x:Value×Nat)=>cs.setIfInBounds (off+x.2) x.1) cells).toList=cells.toList.take (off+j)++l++cells.toList.drop (off+j+l.length)
 |[],j,cells,_=>by simp
 |c::l,j,cells,h=>by
  simp only [Rj] at h;rw [List.zipIdx_cons,Sf,tl off l (j+1) _ (by simp;omega)];have hlt:off+j<cells.size:=by omega
  apply Sv;intro p;rw [eC _ _ _ _ rfl (by simp;omega),eC _ _ _ _ rfl (by simp;omega)];simp only [Array.getElem?_toList,Array.getElem?_setIfInBounds,Rj];rcases Nat.lt_trichotomy p (off+j) with h1|h1|h1
  ·rw [Q_ (show p<off+(j+1) by omega),Q8 (show¬off+j=p by omega),Q_ h1]
  ·subst h1;rw [Q_ (show off+j<off+(j+1) by omega),Q_ rfl,Q_ hlt,Q8 (RY _),Q_ (by omega),Nat.sub_self];rfl
  ·rw [Q8 (show¬p<off+(j+1) by omega),Q8 (show¬p<off+j by omega)];by_cases h2:p<off+(j+1)+l.length
   ·rw [Q_ h2,Q_ (show p<off+j+(l.length+1) by omega),show p-(off+j)=(p-(off+(j+1)))+1 by omega,List.getElem?_cons_succ]
   ·rw [Q8 h2,Q8 (show¬off+j=p by omega),Q8 (show¬p<off+j+(l.length+1) by omega)]
def PartsRep (X:Ctx) (ps:List (Nat×V)) (vs:List (Nat×Value)):Prop:=vs.length=ps.length/\∀(j:Nat) p q,ps[j]? =some p->vs[j]? =some q->p.1=q.1/\Rep X p.2 q.2
theorem PartsRep.tail {X:Ctx} {p:Nat×V} {q:Nat×Value} {ps:List (Nat×V)} {vs:List (Nat×Value)} (h:PartsRep X (p::ps) (q::vs)):PartsRep X ps vs:=
 ⟨by simpa using h.1,fun j a b ha hb=>h.2 (j+1) a b (by simpa using ha) (by simpa using hb)⟩
theorem tm {cells:Array Value} {off size:Nat} {v:Value} (hs:v.cells.size=size) (hf:off+size<=cells.size):
 (v.cells.zipIdx.foldl (fun cs (x:Value×Nat)=>cs.setIfInBounds (off+x.2) x.1) cells).toList=cells.toList.take off++v.cells.toList++cells.toList.drop (off+size):=by
 have h:=tl off v.cells.toList 0 cells (by simp;omega);simp only [RR,Array.length_toList,hs] at h;rw [<-h];congr 1;rw [<-Array.foldl_toList];simp
theorem lQ {X:Ctx} {place:Nat->Option (Nat×Nat)}: ∀{ps:List (Nat×V)} {vs:List (Nat×Value)} {cs cs':List V} {cells:Array Value},kj place cs ps=some cs'->RepL X cs cells.toList->PartsRep X ps vs->
 ∃cells',Instr.fill place cells vs=some cells'/\RepL X cs' cells'.toList
 |[],vs,cs,cs',cells,h,hr,hp=>by
  simp only [kj,Q9] at h;subst h;obtain rfl:vs=[]:=Rk hp.1;exact ⟨cells,rfl,hr⟩
 |(i,v)::ps,[],cs,cs',cells,h,hr,hp=>by simp [PartsRep] at hp
 |(i,v)::ps,(i',u)::vs,cs,cs',cells,h,hr,hp=>by
  obtain ⟨rfl,hvu⟩:=hp.2 0 (i,v) (i',u) (by simp) (by simp);simp only at hvu;unfold kj at h;split at h
  ·cases h
  ·rename_i off size hpl;split at h
   ·rename_i hc;obtain ⟨hsz,hfit,hna⟩:=hc;have hu:=ft hvu hna;have husz:u.cells.size=size:=by have:=hu.1;simp at this;omega
    have hcsz:cells.size=cs.length:=by have:=hr.1;simpa using this
    have hst:=tm (cells:=cells) (off:=off) (v:=u) husz (by omega);have hov:=q_ off hr hu;have hul:u.cells.toList.length=size:=by simpa using husz
    rw [hul,<-hst] at hov;obtain ⟨cells',h1,h2⟩:=lQ h hov hp.tail;refine ⟨cells', ?_,h2⟩;unfold Instr.fill;simp only [hpl];rw [Q8 (by simp;omega)];exact h1
   ·cases h
theorem ni {X:Ctx} {ps:Array (Nat×Operand)} {ρr:Operand->Value} (hr: ∀p∈ps.toList,Rep X (ρ p.2) (ρr p.2)):
 PartsRep X (ps.toList.map fun (i,x)=>(i,ρ x)) (ps.map fun (i,x)=>(i,ρr x)).toList:=by
 refine ⟨by simp,fun j p q hp hq=> ?_⟩;simp only [Array.toList_map,List.getElem?_map,Rc] at hp hq;obtain ⟨a,ha,rfl⟩:=hp;obtain ⟨b,hb,rfl⟩:=hq;rw [ha] at hb;cases hb;exact ⟨rfl,hr a (Rr ha)⟩
theorem K7 {t:TypeId} {ps:Array (Nat×Operand)} (ho:o.op= .build t ps) (h:m8 P t (ps.toList.map fun (i,x)=>(i,ρ x)) σ k): ∃v σ',k v σ'/\OpOk P o ρ σ v σ':=by
 have hmem: ∀p∈ps.toList,p.2∈o.op.operands.toList:=by
  intro p hp;rw [ho];simp only [Op.operands];exact RS.2 ⟨p,hp,rfl⟩
 have close: ∀{cells:List V},k (.agg cells) σ->(∀(X:Ctx) (ρr:Operand->Value),PartsRep X (ps.toList.map fun (i,x)=>(i,ρ x)) (ps.map fun (i,x)=>(i,ρr x)).toList->
  ∃cs,P.built t (ps.map fun (i,x)=>(i,ρr x)).toList=some cs/\RepL X cells cs.toList)->∃v σ',k v σ'/\OpOk P o ρ σ v σ':=by
  intro cells hk hc;refine ⟨_,_,hk,aH fun X ρr _ _ hr=> ?_⟩;obtain ⟨cs,h1,h2⟩:=hc X ρr (ni fun p hp=>hr _ (hmem p hp));exact ⟨.agg cs,by simp only [execOp,ho,Sem.run_bind,run_build X.w t _ cs h1,Result.andThen_ok,Sem.run_pure],h2.agg⟩
 unfold m8 at h;split at h
 ·rename_i i fs hi hu;split at h
  ·rename_i z places hz hp;split at h
   ·rename_i cells hf;refine close h fun X ρr hpr=> ?_;obtain ⟨cs,h1,h2⟩:=lQ hf (lM X z) hpr;exact ⟨cs,by simp only [Program.built,hi,hu,hz,hp];exact h1,h2⟩
   ·exact h.elim
  ·exact h.elim
 ·rename_i i n e hi hu;split at h
  ·rename_i z ie hz hie;split at h
   ·rename_i cells hf;refine close h fun X ρr hpr=> ?_;obtain ⟨cs,h1,h2⟩:=lQ hf (lM X z) hpr;exact ⟨cs,by simp only [Program.built,hi,hu,hz,hie];exact h1,h2⟩
   ·exact h.elim
  ·exact h.elim
 ·exact h.elim
def RowsAt (w:World) (G:Nat->Prop) (t:Ty) (xs:List t.den) (cell:Nat->Option Value):Prop:=
 ∀(i:Nat) (x:t.den),nth xs i=some x->∃row,RepC w G t x row/\∀(j:Nat) (u:Value),row[j]? =some u->cell (i*t.cells+j)=some u
theorem oq {X:Ctx} {t:Ty}: ∀{ps:List (Nat×V)} {vs:List (Nat×Value)} {i:Nat} {xs:List t.den} {cells:Array Value},qX t i ps=some xs->PartsRep X ps vs->(i+ps.length)*t.cells<=cells.size->
 ∃cells',Instr.fill (fun i=>some (i*t.cells,t.cells)) cells vs=some cells'/\cells'.size=cells.size/\xs.length=ps.length/\(∀p,p<i*t.cells->cells'[p]? =cells[p]?)/\
  RowsAt X.w X.G t xs (fun p=>cells'[i*t.cells+p]?)
 |[],vs,i,xs,cells,h,hp,_=>by
  simp only [qX,Q9] at h;subst h;obtain rfl:vs=[]:=Rk hp.1;exact ⟨cells,rfl,rfl,rfl,fun _ _=>rfl,fun i x hx=>by simp at hx⟩
 |(j,v)::ps,[],i,xs,cells,h,hp,_=>by simp [PartsRep] at hp
 |(j,v)::ps,(j',u)::vs,i,xs,cells,h,hp,hfit=>by
  obtain ⟨rfl,hvu⟩:=hp.2 0 (j,v) (j',u) (by simp) (by simp);simp only at hvu;unfold qX at h;split at h
  ·rename_i hij;subst hij;split at h
   ·rename_i hna;split at h
    ·rename_i x xs' hx hxs;simp only [Q9] at h;subst h;have hu:=ft hvu hna;have hrx:=q9 hx hu;have husz:u.cells.size=t.cells:=by have:=hrx.len;simpa using this
     have hul:u.cells.toList.length=t.cells:=by simpa using husz
     simp only [Rj] at hfit;have hm1:(i+1)*t.cells=i*t.cells+t.cells:=by rw [RO,Sx]
     have hm2:(i+(ps.length+1))*t.cells=(i+1+ps.length)*t.cells:=by congr 1;omega
     have hm3:(i+1)*t.cells<=(i+1+ps.length)*t.cells:=RN _ (by omega);have hst:=tm (cells:=cells) (off:=i*t.cells) (v:=u) husz (by omega);generalize hc1:u.cells.zipIdx.foldl (fun cs (x:Value×Nat)=>cs.setIfInBounds (i*t.cells+x.2) x.1) cells=c1 at hst;have hget: ∀p:Nat,c1[p]? =if p<i*t.cells then cells[p]? else if p<i*t.cells+t.cells then u.cells.toList[p-i*t.cells]? else cells[p]? :=by
      intro p;have:=eC cells.toList u.cells.toList (i*t.cells) t.cells hul (by simp;omega) p;rw [<-hst] at this;simpa using this
     have hc1s:c1.size=cells.size:=by
      have:=congrArg List.length hst;simp at this;omega
     obtain ⟨c2,h1,h2,h3,h4,h5⟩:=oq (cells:=c1) hxs hp.tail (by omega);refine ⟨c2, ?_,by omega,by simp [h3],fun p hpl=> ?_,fun q y hy=> ?_⟩
     ·unfold Instr.fill;simp only;rw [Q8 (by simp;omega)];rw [hc1];exact h1
     ·rw [h4 p (by omega),hget,Q_ hpl]
     ·cases q with
      |zero=>
       simp only [List.getElem?_cons_zero,Q9] at hy;subst hy;refine ⟨_,hrx,fun jj w0 hw=> ?_⟩;have hlt:jj<t.cells:=by have:=(List.getElem?_eq_some_iff.1 hw).1;omega
       simp only [SN,RQ];rw [h4 _ (by omega),hget,Q8 (by omega),Q_ (by omega),So];exact hw
      |succ q=>
       simp only [List.getElem?_cons_succ] at hy;obtain ⟨row,r1,r2⟩:=h5 q y hy;refine ⟨row,r1,fun jj w0 hw=> ?_⟩;have:=r2 jj w0 hw;show c2[i*t.cells+((q+1)*t.cells+jj)]? =some w0;rw [show i*t.cells+((q+1)*t.cells+jj)=(i+1)*t.cells+(q*t.cells+jj) by rw [RO,RO];omega];exact this
    ·cases h
   ·cases h
  ·cases h
theorem yF (w:World) (vs:Array Value) (ty:TypeId) (j:Nat):(w.alloc (.cells vs ty)).cell? ⟨w.heap.size,j,none⟩=vs[j]? :=by
 unfold World.cell?;simp only;rw [heap_alloc_new];simp
theorem yG {e:TypeId} {t:Ty} {C:Nat} (h:KR e t=true) (hC:C<=maxLen):Bv t e 0 C:=
 ⟨hC,fun ht=>by subst ht;exact ⟨Sb (by simpa [KR] using h),rfl⟩⟩
theorem GE {B:Nat->Prop} {w w1:World} {σ:Store} {μ:Mu} {F:Fr} (hI:Inv B ⟨w,σ,μ,F⟩) (hB: ∀b,w.heap.size<=b->B b) {id:Nat} (hid:cu σ id=true) (ty:TypeId) {t:Ty} {xs:List t.den} {vs:Array Value} {C ep:Nat}
 (h1:w1.os=w.os) (h2:w1.tape=w.tape) (h3:w1.output=w.output) (h4:w1.heap=w.heap)
 (hC:C*t.cells=vs.size) (hl:xs.length<=C) (hm:Bv t ty 0 C) (hr:RowsAt w (Ctx.G ⟨w,σ,μ,F⟩) t xs (fun p=>vs[p]?)) {A:Option Addr} (hA: ∃a,A=some a/\(0<C->a=⟨w.heap.size,0,none⟩)):
 ∃μ',Inv B ⟨w1.alloc (.cells vs ty),(id, .arr ep t xs)::σ,μ',F⟩/\Rep ⟨w1.alloc (.cells vs ty),(id, .arr ep t xs)::σ,μ',F⟩ (.slc id ep none) (.slice A xs.length C)/\
  Evo ⟨w,σ,μ,F⟩ ⟨w1.alloc (.cells vs ty),(id, .arr ep t xs)::σ,μ',F⟩:=by
 have hsz:w1.heap.size=w.heap.size:=by rw [h4]
 have key:=vh hI hB hid (o':= .arr ep t xs) (p':=some (w.heap.size,0,C)) (w':=w1.alloc (.cells vs ty)) h1 h2 h3 (by simp;omega)
  (fun b hb=>by rw [heap_alloc_old w1 _ (by omega),h4]) (fun q hq=>by cases hq;exact Rf _)
  (fun hE=> .inr ⟨w.heap.size,0,C,vs,ty,by simp,by rw [<-hsz];exact heap_alloc_new w1 _,by omega,hl,hm,fun i x hx=>by
   obtain ⟨row,r1,r2⟩:=hr i x hx;exact ⟨row,r1.keep hE.good,fun j u hu=>by simpa using r2 j u hu⟩⟩)
 refine ⟨_,key.2, .slc (ep':=ep) (t:=t) (l:=xs) (by simp [a7]) (Rf _) (fun _=> ?_),key.1⟩;simp only [if_true,Hdr];exact ⟨trivial,trivial,hl,hA⟩
theorem tn {place:Nat->Option (Nat×Nat)}: ∀{ps:List (Nat×V)} {cs cs':List V},kj place cs ps=some cs'->cs'.length=cs.length
 |[],cs,cs',h=>by simp only [kj,Q9] at h;rw [h]
 |(i,v)::r,cs,cs',h=>by
  simp only [kj] at h;split at h
  ·cases h
  ·rename_i off size hp;split at h
   ·rename_i hc;rw [tn h];unfold BA;simp only [Re,Rz,RE];omega
   ·cases h
theorem vp {E:Env} {t:TypeId} {n:Nat} {ps:Array (Nat×Operand)} (ho:o.op= .buildSlice t n ps) (h:ez E t n (ps.toList.map fun (i,x)=>(i,ρ x)) σ k):
 ∃v σ',k v σ'/\OpOk E.P o ρ σ v σ':=by
 have hmem: ∀p∈ps.toList,p.2∈o.op.operands.toList:=by
  intro p hp;rw [ho];simp only [Op.operands];exact RS.2 ⟨p,hp,rfl⟩
 unfold ez at h;split at h
 ·rename_i e hu;split at h
  ·rename_i i hi;split at h
   ·rename_i hc;obtain ⟨hpos,hbig,hz⟩:=hc;obtain ⟨z,hz⟩:=RG.1 hz;split at h
    ·rename_i cells hf;refine ⟨_,_,h,fun B F ρr w μ hI hB hr=> ?_⟩;have hpr:=ni (X:=⟨w,σ,μ,F⟩) (ρr:=ρr) fun p hp=>hr _ (hmem p hp);have h0: ¬n*i.size=0:=by omega
     have hnb: ¬(16777216<n*i.size):=by omega
     obtain ⟨cs,h1,h2⟩:=lQ (cells:=(Array.range (n*i.size)).map (z.cells[· %z.cells.size]!)) hf ⟨by simp,fun j c u hc _=>by
      have:=(List.getElem?_eq_some_iff.1 hc).2;simp only [Sq] at this;subst this;exact .any⟩ hpr
     have h1':Instr.fill (fun j=>some (j*i.size,i.size)) (Array.map (fun x=>z.cells[x%z.cells.size]!) (Array.range (n*i.size))) (List.map (fun x=>(x.fst,ρr x.snd)) ps.toList)=some cs:=by simpa using h1
     have hcl:cells.length=n*i.size:=by
      have e1:=h2.1;have:=tn hf;simpa using this
     have hcs:cs.size=n*i.size:=by have:=h2.1;simp at this;omega
     have hrun:(execOp ρr o).run E.P w= .ok (.value (.slice (some ⟨w.heap.size,0,none⟩) n n)) (w.alloc (.cells cs e)):=by
      simp [execOp,ho,Instr.buildSlice,run_underlying hu,sizeOf,typeInfo,zeroValue,hi,hz,hnb,h0,h1',newRow]
     refine .val hrun ⟨μ, ?_⟩;obtain ⟨hE,hI'⟩:=dB hI (w':=w.alloc (.cells cs e)) rfl rfl rfl (by simp) (fun b hb=>heap_alloc_old w _ hb);have h2':RepL ⟨w.alloc (.cells cs e),σ,μ,F⟩ cells cs.toList:=h2.evo hE;refine ⟨hI', .rows (fun j=>cs.getD j undef) (by omega) (Rf _) (fun _=>⟨w.heap.size,0,rfl,⟨⟨⟨by simp,fun id o' hg hk=> ?_⟩,fun hf=>hI.out _ (Rf _) (.inr hf)⟩,fun hf=>hI.out _ (Rf _) (.inl hf)⟩,fun j c hj=> ?_⟩) (fun j c hj=> ?_),hE⟩
     ·have:=hI.ltB hg (jL hI (w':=w.alloc (.cells cs e)) (fun b hb=>heap_alloc_old w _ hb) hg hk);exact RY _ this
     ·have hlt:j<cs.size:=by have:=(List.getElem?_eq_some_iff.1 hj).1;omega
      rw [yF];simp [hlt]
     ·have hlt:j<cs.size:=by have:=(List.getElem?_eq_some_iff.1 hj).1;omega
      have:=h2'.2 j c cs[j] hj (by rw [Array.getElem?_toList];exact Array.getElem?_eq_getElem hlt);simpa [hlt] using this
    ·exact h.elim
   ·exact h.elim
  ·exact h.elim
 ·exact h.elim
theorem rT {E:Env} {t:TypeId} {n dst:Nat} {ps:Array (Nat×Operand)} (ho:o.op= .buildSlice t n ps) (h:dQ E t n (ps.toList.map fun (i,x)=>(i,ρ x)) dst σ k):
 ∃v σ',k v σ'/\OpOk E.P o ρ σ v σ':=by
 have hmem: ∀p∈ps.toList,p.2∈o.op.operands.toList:=by
  intro p hp;rw [ho];simp only [Op.operands];exact RS.2 ⟨p,hp,rfl⟩
 unfold dQ at h;split at h
 ·exact vp ho h
 split at h
 ·rename_i e hu;split at h
  ·rename_i i ty hi hty;split at h
   ·rename_i hc;obtain ⟨hsz,hpl,hbig,hz,hbt⟩:=hc;obtain ⟨z,hz⟩:=RG.1 hz;split at h
    ·rename_i xs hxs;have run: ∀(X:Ctx) (ρr:Operand->Value),(∀x,x∈o.op.operands.toList->Rep X (ρ x) (ρr x))->∃cells:Array Value,cells.size=n*ty.cells/\xs.length=n/\RowsAt X.w X.G ty xs (fun p=>cells[p]?)/\
      (execOp ρr o).run E.P X.w= .ok (.value (.slice (some ⟨X.w.heap.size,0,none⟩) n n)) (X.w.alloc (.cells cells e)):=by
      intro X ρr hr;have hpr:=ni (X:=X) (ρr:=ρr) fun p hp=>hr _ (hmem p hp);generalize hzc:(if n*i.size=0 then (#[]:Array Value) else z.cells)=zc;obtain ⟨c2,h1,h2,h3,_,h5⟩:=oq (X:=X) (cells:=(Array.range (n*i.size)).map (zc[· %zc.size]!)) hxs hpr (by simp [hsz] at hpl⊢;rw [hpl];exact Rf _);refine ⟨c2,by rw [h2];simp [hsz],by rw [h3];exact hpl,by simpa using h5, ?_⟩;have hnb: ¬(16777216<n*i.size):=by omega
      rw [<-hsz] at h1;by_cases h0:n*i.size=0
      ·simp only [h0,if_true] at hzc;subst hzc;simp only [execOp,ho,Instr.buildSlice,Sem.run_bind,run_underlying hu,Result.andThen_ok,sizeOf,typeInfo,run_program,hi,Sem.run_pure];simp [h0] at h1⊢;simp [h1,newRow]
      ·simp only [h0,if_false] at hzc;subst hzc;have h1':Instr.fill (fun j=>some (j*i.size,i.size)) (Array.map (fun x=>z.cells[x%z.cells.size]!) (Array.range (n*i.size))) (List.map (fun x=>(x.fst,ρr x.snd)) ps.toList)=some c2:=by simpa using h1
       simp [execOp,ho,Instr.buildSlice,run_underlying hu,sizeOf,typeInfo,zeroValue,hi,hz,hnb,h0,h1',newRow]
     split at h
     ·split at h
      ·rename_i hf;refine ⟨_,_,h,fun B F ρr w μ hI hB hr=> ?_⟩;obtain ⟨cells,c1,c2,c3,c4⟩:=run ⟨w,σ,μ,F⟩ ρr hr;have hcl:=ty.cells_pos;have hnn:n<=n*ty.cells:=Nat.le_mul_of_pos_right _ hcl;have hbig':n*ty.cells<=16777216:=by rw [<-hsz];exact hbig
       refine .val c4 ?_;have:=GE (w1:=w) (ep:=0) (C:=n) (A:=some ⟨w.heap.size,0,none⟩) hI hB hf e rfl rfl rfl rfl c1.symm (by omega) (yG hbt (by unfold maxLen;omega)) c3 ⟨_,rfl,fun _=>rfl⟩;rw [c2] at this;exact this
      ·exact h.elim
     ·refine ⟨_,_,h,fun B F ρr w μ hI hB hr=> ?_⟩;obtain ⟨cells,c1,c2,c3,c4⟩:=run ⟨w,σ,μ,F⟩ ρr hr;refine .val c4 ⟨μ, ?_⟩;obtain ⟨hE,hI'⟩:=dB hI (w':=w.alloc (.cells cells e)) rfl rfl rfl (by simp) (fun b hb=>heap_alloc_old w _ hb);refine ⟨hI', ?_,hE⟩;rw [<-c2];refine .list ⟨rfl,Rf _,fun h0=>⟨w.heap.size,0,rfl,⟨⟨⟨by simp,fun id o' hg hk=> ?_⟩,fun hf=>hI.out _ (Rf _) (.inr hf)⟩,fun _=> ?_⟩,fun i x hx=> ?_⟩⟩ (fun _=>rfl)
      ·have:=hI.ltB hg (jL hI (w':=w.alloc (.cells cells e)) (fun b hb=>heap_alloc_old w _ hb) hg hk);exact RY _ this
      ·exact fun hf=>hI.out _ (Rf _) (.inl hf)
      ·obtain ⟨row,r1,r2⟩:=c3 i x hx;refine ⟨row,r1.keep hE.good,fun j u hu=> ?_⟩;rw [yF];simpa using r2 j u hu
    ·exact h.elim
   ·exact h.elim
  ·exact h.elim
 ·exact h.elim
end
end Go.Vm
namespace Go.Vm
section
variable {P:Program} {o:Oper} {ρ:Operand->V} {σ:Store} {k:K}
theorem vq {E:Env} {t:TypeId} {n c:Operand} {dst:Nat} (ho:o.op= .makeSlice t n c) (h:fR E t (ρ n) (ρ c) dst σ k): ∃v σ',k v σ'/\OpOk E.P o ρ σ v σ':=h.elim
theorem fc {w:World} {G:Nat->Prop} {t:Ty}: ∀(xs:List t.den) (cell:Nat->Option Value),RowsAt w G t xs cell->
 ∃news:List Value,news.length=xs.length*t.cells/\(∀(p:Nat) u,news[p]? =some u->cell p=some u)/\(∀u∈news,u.oneCell'=true)/\RowsAt w G t xs (fun p=>news[p]?)
 |[],cell,_=>⟨[],by simp,fun p u h=>by simp at h,fun u h=>by simp at h,fun i x h=>by simp at h⟩
 |x::xs,cell,h=>by
  obtain ⟨row,r1,r2⟩:=h 0 x (by simp);have hl:=r1.len;obtain ⟨news,n1,n2,n3,n4⟩:=fc xs (fun p=>cell (t.cells+p)) (fun i y hy=>by
   obtain ⟨rw2,q1,q2⟩:=h (i+1) y (by simpa using hy);refine ⟨rw2,q1,fun j u hu=> ?_⟩;have:=q2 j u hu;rw [RO,Sx] at this;show cell (t.cells+(i*t.cells+j))=some u;rw [show t.cells+(i*t.cells+j)=i*t.cells+t.cells+j by omega];exact this)
  refine ⟨row++news,by simp [n1,hl,RO];omega,fun p u hp=> ?_,fun u hu=> ?_,fun i y hy=> ?_⟩
  ·rcases Nat.lt_or_ge p row.length with h1|h1
   ·rw [List.getElem?_append_left h1] at hp;have:=r2 p u hp;simpa using this
   ·rw [List.getElem?_append_right h1] at hp;have:=n2 _ u hp;rw [<-this];congr 1;omega
  ·rcases Rn.1 hu with h1|h1
   ·exact r1.one u h1
   ·exact n3 u h1
  ·cases i with
   |zero=>
    simp only [List.getElem?_cons_zero,Q9] at hy;subst hy;refine ⟨row,r1,fun j u hu=> ?_⟩;simp only [SN,RQ];rw [List.getElem?_append_left (List.getElem?_eq_some_iff.1 hu).1];exact hu
   |succ i=>
    simp only [List.getElem?_cons_succ] at hy;obtain ⟨rw2,q1,q2⟩:=n4 i y hy;refine ⟨rw2,q1,fun j u hu=> ?_⟩;have:=q2 j u hu;simp only at this⊢;rw [List.getElem?_append_right (by rw [RO,Sx];omega),RO,Sx,hl,show i*t.cells+t.cells+j-t.cells=i*t.cells+j by omega];exact this
def SegAt (X:Ctx) (t:Ty) (m:List t.den) (u:Value):Prop:=
 ∃(A:Option Addr) (cap:Nat) (news:List Value),u= .slice A m.length cap/\news.length=m.length*t.cells/\(∀v∈news,v.oneCell'=true)/\RowsAt X.w X.G t m (fun p=>news[p]?)/\
  (∀a,A=some a->∀(j:Nat) v,news[j]? =some v->X.w.cell? (a.add j)=some v)/\(A=none->m.length=0)
theorem On {α:Type} {l:List α} {off m i:Nat} {x:α} (h:nth ((l.drop off).take m) i=some x):nth l (off+i)=some x:=by
 have h1:((l.drop off).take m)[i]? =some x:=h;rw [List.getElem?_take] at h1;split at h1
 ·rwa [List.getElem?_drop] at h1
 ·cases h1
theorem eQ {B:Nat->Prop} {X:Ctx} (hI:Inv B X) {id ep:Nat} {t:Ty} {l:List t.den} (hg:X.σ.get id=some (.arr ep t l)) {b base C:Nat} (hm:X.μ id=some (b,base,C)):
 ∃cs ty,X.w.heap[b]? =some (.cells cs ty (0,0))/\base+C*t.cells=cs.size/\l.length<=C/\Bv t ty base C/\RowsAt X.w X.G t l (fun p=>cs[base+p]?):=by
 rcases hI.objs id _ hg with ⟨h,_⟩|⟨b',base',C',cs,ty,h1,h2,h3,h4,h5,h6⟩
 ·rw [hm] at h;cases h
 ·rw [hm] at h1;cases h1;refine ⟨cs,ty,h2,h3,h4,h5,fun i x hx=> ?_⟩;obtain ⟨row,r1,r2⟩:=h6 i x hx;exact ⟨row,r1,fun j u hu=>by simp only;rw [<-RK];exact r2 j u hu⟩
theorem RowsAt.drop {w:World} {G:Nat->Prop} {t:Ty} {l:List t.den} {cell:Nat->Option Value} (h:RowsAt w G t l cell) (off m:Nat):RowsAt w G t ((l.drop off).take m) (fun p=>cell (off*t.cells+p)):=by
 intro i x hx;obtain ⟨row,r1,r2⟩:=h (off+i) x (On hx);refine ⟨row,r1,fun j u hu=> ?_⟩;have:=r2 j u hu;rw [RO] at this;show cell (off*t.cells+(i*t.cells+j))=some u;rw [<-RK];exact this
theorem vr {B:Nat->Prop} {X:Ctx} (hI:Inv B X) {t:Ty} {x:V} {m:List t.den} {u:Value} (h:Gv t X.σ x=some m) (hr:Rep X x u):SegAt X t m u:=by
 unfold Gv at h;split at h
 ·simp only [Q9] at h;subst h;exact ⟨none,0,[],hr.nils_inv,by simp,fun u h=>by simp at h,fun i x h=>by simp at h,fun a h=>(by cases h),fun _=>rfl⟩
 ·rename_i kd t' l;split at h
  ·rename_i ht;subst ht;simp only [Q9] at h;subst h;obtain ⟨A,cap,e,hc,_⟩:=hr.list_inv;obtain ⟨_,hle,bS⟩:=hc;rcases Sk l.length with h0|h0
   ·have hl:l=[]:=Rk h0;subst hl;exact ⟨A,cap,[],e,by simp,fun u h=>by simp at h,fun i x h=>by simp at h,fun a _ j v hv=>by simp at hv,fun _=>rfl⟩
   ·obtain ⟨b,of,rfl,hG,hrow⟩:=bS h0;obtain ⟨news,n1,n2,n3,n4⟩:=fc (w:=X.w) (G:=X.G) l (fun p=>X.w.cell? ⟨b,of+p,none⟩) (fun i y hy=>by
     obtain ⟨row,r1,r2⟩:=hrow i y hy;exact ⟨row,r1,fun j u hu=>by simp only;rw [<-RK];exact r2 j u hu⟩)
    exact ⟨_,cap,news,e,n1,n3,n4,fun a ha j v hv=>by cases ha;rw [Addr.add_lit];exact n2 j v hv,fun h=>by cases h⟩
  ·cases h
 ·rename_i id ep rng;split at h
  ·rename_i ep' t' l hg;split at h
   ·rename_i hep;split at h
    ·rename_i ht;subst ht;obtain ⟨A,len,cap,ep2,t2,l2,e2,hg',hle,hcur⟩:=hr.slc_inv;rw [hg] at hg';cases hg';have hh:=hcur hep;split at h
     ·simp only [Q9] at h;subst h;cases hm:X.μ id with
      |none=>
       rw [hm] at hh;simp only [Hdr] at hh;obtain ⟨rfl,rfl,h0⟩:=hh;have hl:l=[]:=Rk h0;subst hl;exact ⟨A,0,[],e2,by simp,fun u h=>by simp at h,fun i x h=>by simp at h,fun a _ j v hv=>by simp at hv,fun _=>rfl⟩
      |some q=>
       obtain ⟨b,base,C⟩:=q;rw [hm] at hh;simp only [Hdr] at hh;obtain ⟨rfl,rfl,hC,a,rfl,ha⟩:=hh;obtain ⟨cs,ty,k2,k3,k4,k5,k6⟩:=eQ hI hg hm;obtain ⟨news,n1,n2,n3,n4⟩:=fc (w:=X.w) (G:=X.G) l _ k6;refine ⟨_,_,news,e2,n1,n3,n4,fun a' ha' j v hv=> ?_,fun h=>by cases h⟩;cases ha';have hj:=(List.getElem?_eq_some_iff.1 hv).1;have hpos:0<cap:=by
        rcases Sk cap with h0|h0
        ·have:l.length=0:=by omega
         rw [this] at n1;omega
        ·exact h0
       rw [ha hpos,Addr.add_lit];have:=n2 j v hv;simp [World.cell?,k2,this]
     ·rename_i off m';simp only [Q9] at h;subst h;cases hm:X.μ id with
      |none=>
       rw [hm] at hh;simp only [Hdr] at hh;obtain ⟨rfl,rfl,rfl,rfl,h0⟩:=hh;exact ⟨A,0,[],by simpa using e2,by simp,fun u h=>by simp at h,fun i x h=>by simp at h,fun a _ j v hv=>by simp at hv,fun _=>by simp⟩
      |some q=>
       obtain ⟨b,base,C⟩:=q;rw [hm] at hh;simp only [Hdr] at hh;obtain ⟨rfl,hoff,hC,rfl,a,rfl,ha⟩:=hh;obtain ⟨cs,ty,k2,k3,k4,k5,k6⟩:=eQ hI hg hm;obtain ⟨news,n1,n2,n3,n4⟩:=fc (w:=X.w) (G:=X.G) ((l.drop off).take len) _ (k6.drop off len);have hlen:((l.drop off).take len).length=len:=by simp;omega
       refine ⟨_,_,news,by rw [hlen];exact e2,n1,n3,n4,fun a' ha' j v hv=> ?_,fun h=>by cases h⟩;cases ha';have hj:=(List.getElem?_eq_some_iff.1 hv).1;have hpos:0<C-off:=by
        rcases Sk (C-off) with h0|h0
        ·rw [hlen,show len=0 by omega] at n1;omega
        ·exact h0
       rw [ha hpos,Addr.add_lit];have:=n2 j v hv;rw [RK];simp [World.cell?,k2,this]
    ·cases h
   ·cases h
  ·cases h
 ·cases h
end
end Go.Vm
namespace Go.Vm
section
variable {P:Program} {o:Oper} {ρ:Operand->V} {σ:Store} {k:K}
theorem RowsAt.mono {w:World} {G:Nat->Prop} {t:Ty} {xs:List t.den} {cell cell':Nat->Option Value} (h:RowsAt w G t xs cell) (hc: ∀p u,cell p=some u->cell' p=some u):RowsAt w G t xs cell':=by
 intro i x hx;obtain ⟨row,r1,r2⟩:=h i x hx;exact ⟨row,r1,fun j u hu=>hc _ _ (r2 j u hu)⟩
theorem RowsAt.append {w:World} {G:Nat->Prop} {t:Ty} {xs ys:List t.den} {olds news:List Value} (h:RowsAt w G t xs (fun p=>olds[p]?)) (ho:olds.length=xs.length*t.cells)
 (k:RowsAt w G t ys (fun p=>news[p]?)):RowsAt w G t (xs++ys) (fun p=>(olds++news)[p]?):=by
 intro i x hx;have hx':(xs++ys)[i]? =some x:=hx;rcases Nat.lt_or_ge i xs.length with h1|h1
 ·rw [List.getElem?_append_left h1] at hx';obtain ⟨row,r1,r2⟩:=h i x hx';refine ⟨row,r1,fun j u hu=> ?_⟩;have:=r2 j u hu;simp only at this⊢;rw [List.getElem?_append_left (List.getElem?_eq_some_iff.1 this).1];exact this
 ·rw [List.getElem?_append_right h1] at hx';obtain ⟨row,r1,r2⟩:=k _ x hx';refine ⟨row,r1,fun j u hu=> ?_⟩;have:=r2 j u hu;have hm:i*t.cells=xs.length*t.cells+(i-xs.length)*t.cells:=by rw [<-RO];congr 1;omega
  simp only at this⊢;rw [List.getElem?_append_right (by omega),show i*t.cells+j-olds.length=(i-xs.length)*t.cells+j by omega];exact this
section runs
variable {t ty e:TypeId} {i:TypeInfo} {z:Value} (hu:P.underlying t=some (.slice e)) (hi:P.info? e=some i) (hz:i.zero=some z)
include hu hi
theorem yH (w:World) (A A2:Option Addr) (n cap c2:Nat) (hn:n<=cap):
 (Builtin.append_ #[t,t] ty #[.slice A n cap, .slice A2 0 c2]).run P w= .ok (.slice A n cap) w:=by
 cases A<;>cases A2<;>simp [Builtin.append_,run_underlying hu,sizeOf,typeInfo,hi,Builtin.lenOf,hn,Builtin.firstCells,loadCells,loadCellsFrom,storeCells]
theorem GF (w:World) (b of n cap:Nat) (cs:Array Value) (ety:TypeId) (hg:w.heap[b]? =some (.cells cs ety (0,0))) (a2:Addr) (m c2:Nat) (news:List Value) (hl:news.length=m*i.size)
 (hc: ∀(j:Nat) v,news[j]? =some v->w.cell? (a2.add j)=some v) (h1: ∀u∈news,u.oneCell'=true) (hroom:n+m<=cap) (hfit:of+cap*i.size<=cs.size):
 (Builtin.append_ #[t,t] ty #[.slice (some ⟨b,of,none⟩) n cap, .slice (some a2) m c2]).run P w=
  .ok (.slice (some ⟨b,of,none⟩) (n+m) cap) (w.setRow b (cs.toList.take (of+n*i.size)++news++cs.toList.drop (of+n*i.size+news.length)).toArray):=by
 have hf:=run_firstCells_some (P:=P) w i.size m a2 m c2 news hl hc;have hmul:(n+m)*i.size<=cap*i.size:=RN _ hroom;rw [RO] at hmul;have hst:=run_storeCells_at P b (of+n*i.size) ety news 0 cs w hg (by omega) h1;simp only [RR] at hst;simp [Builtin.append_,run_underlying hu,sizeOf,typeInfo,hi,Builtin.lenOf,hroom,hf,Addr.add_lit,hst]
include hz
theorem yI (w:World) (A:Option Addr) (n cap:Nat) (olds:List Value) (hlo:olds.length=n*i.size) (hco: ∀a,A=some a->∀(j:Nat) v,olds[j]? =some v->w.cell? (a.add j)=some v)
 (hA:A=none->n=0/\cap=0) (a2:Addr) (m c2:Nat) (news:List Value) (hl:news.length=m*i.size) (hc: ∀(j:Nat) v,news[j]? =some v->w.cell? (a2.add j)=some v)
 (hroom:cap<n+m) (hby:(n+m)*i.bytes<=140737488355328) (h63:n+m<=4611686018427387904):
 ∃newCap,n+m<=newCap/\newCap<=maxLen/\(Builtin.append_ #[t,t] ty #[.slice A n cap, .slice (some a2) m c2]).run P w=
  .ok (.slice (some ⟨w.heap.size,0,none⟩) (n+m) newCap) (w.drew.alloc (.cells (olds.toArray++news.toArray++Builtin.zeroCells z.cells (newCap-(n+m))) e)):=by
 cases A with
 |none=>
  obtain ⟨rfl,rfl⟩:=hA rfl;simp only [SN] at hlo;have hnil:=Rk hlo;subst hnil;simp only [RQ] at*;refine ⟨grownCap w m 0 e,grownCap_ge w m 0 e,grownCap_le_maxLen w m 0 e (by unfold maxLen;omega), ?_⟩;have:=run_append_nil (P:=P) w t ty e i z hu hi hz a2 m c2 news hl hc (by omega) (by omega) (by omega);simpa using this
 |some a=>
  exact ⟨grownCap w (n+m) cap e,grownCap_ge w (n+m) cap e,grownCap_le_maxLen w (n+m) cap e (by unfold maxLen;omega),
   run_append_grow (P:=P) w t ty e i z hu hi hz a n cap olds hlo (hco a rfl) a2 m c2 news hl hc hroom (by omega) (growslice_fits hroom hby)⟩
end runs
theorem BN {σ:Store} {id ep:Nat} {t:Ty} (hid: ∀o',σ.get id=some o'->∃ep0 l0,o'= .arr ep0 t l0/\ep0<ep):cU (σ.get id)=false:=by
 cases h:σ.get id with
 |none=>rfl
 |some o'=>
  obtain ⟨_,_,rfl,_⟩:=hid _ h;rfl
theorem GG {B:Nat->Prop} {w w1:World} {σ:Store} {μ:Mu} {F:Fr} (hI:Inv B ⟨w,σ,μ,F⟩) (hB: ∀b,w.heap.size<=b->B b) {id:Nat} (ty:TypeId) {t:Ty} {xs:List t.den} {vs:Array Value} {C ep:Nat}
 (hid: ∀o',σ.get id=some o'->∃ep0 l0,o'= .arr ep0 t l0/\ep0<ep) (h1:w1.os=w.os) (h2:w1.tape=w.tape) (h3:w1.output=w.output) (h4:w1.heap=w.heap)
 (hC:C*t.cells=vs.size) (hl:xs.length<=C) (hm:Bv t ty 0 C) (hr:RowsAt w (Ctx.G ⟨w,σ,μ,F⟩) t xs (fun p=>vs[p]?)):
 ∃μ',Inv B ⟨w1.alloc (.cells vs ty),(id, .arr ep t xs)::σ,μ',F⟩/\Rep ⟨w1.alloc (.cells vs ty),(id, .arr ep t xs)::σ,μ',F⟩ (.slc id ep none) (.slice (some ⟨w.heap.size,0,none⟩) xs.length C)/\
  Evo ⟨w,σ,μ,F⟩ ⟨w1.alloc (.cells vs ty),(id, .arr ep t xs)::σ,μ',F⟩:=by
 have hsz:w1.heap.size=w.heap.size:=by rw [h4]
 have key:=dE hI hB (id:=id) (o':= .arr ep t xs) (p':=some (w.heap.size,0,C)) (w':=w1.alloc (.cells vs ty)) h1 h2 h3 (by simp;omega)
  (fun b hb _=>by rw [heap_alloc_old w1 _ (by rw [hsz];exact hb),h4]) (fun q hq=> .inl (by cases hq;exact Rf _))
  (fun c hg=>by obtain ⟨ep0,l0,e,_⟩:=hid _ hg;cases e)
  (fun ep1 t1 l1 hg=>by obtain ⟨ep0,l0,e,hlt⟩:=hid _ hg;cases e;exact ⟨ep,xs,rfl,by omega,fun e=>by omega⟩)
  (fun hE=> .inr ⟨w.heap.size,0,C,vs,ty,by simp,by rw [<-hsz];exact heap_alloc_new w1 _,by omega,hl,hm,fun i x hx=>by
   obtain ⟨row,r1,r2⟩:=hr i x hx;exact ⟨row,r1.keep hE.good,fun j u hu=>by simpa using r2 j u hu⟩⟩) rfl (BN hid)
 refine ⟨_,key.2, .slc (ep':=ep) (t:=t) (l:=xs) (by simp [a7]) (Rf _) (fun _=> ?_),key.1⟩;simp only [if_true,Hdr];exact ⟨trivial,trivial,hl,_,rfl,fun _=>rfl⟩
theorem rc {B:Nat->Prop} {w:World} {σ:Store} {μ:Mu} {F:Fr} (hI:Inv B ⟨w,σ,μ,F⟩) (hB: ∀b,w.heap.size<=b->B b) {id:Nat} {t:Ty} {ep:Nat} (hid: ∀o',σ.get id=some o'->∃ep0 l0,o'= .arr ep0 t l0/\ep0<ep)
 {xs:List t.den} (hx:xs.length=0) (A:Option Addr):
 ∃μ',Inv B ⟨w,(id, .arr ep t xs)::σ,μ',F⟩/\Rep ⟨w,(id, .arr ep t xs)::σ,μ',F⟩ (.slc id ep none) (.slice A 0 0)/\Evo ⟨w,σ,μ,F⟩ ⟨w,(id, .arr ep t xs)::σ,μ',F⟩:=by
 have key:=dE hI hB (id:=id) (o':= .arr ep t xs) (p':=none) (w':=w) rfl rfl rfl (Rf _) (fun b hb _=>rfl) (fun q hq=>by cases hq)
  (fun c hg=>by obtain ⟨ep0,l0,e,_⟩:=hid _ hg;cases e)
  (fun ep1 t1 l1 hg=>by obtain ⟨ep0,l0,e,hlt⟩:=hid _ hg;cases e;exact ⟨ep,xs,rfl,by omega,fun e=>by omega⟩)
  (fun hE=> .inl ⟨by simp,hx⟩) rfl (BN hid)
 refine ⟨_,key.2, .slc (ep':=ep) (t:=t) (l:=xs) (by simp [a7]) (Rf _) (fun _=> ?_),key.1⟩;simp only [if_true,Hdr];exact ⟨trivial,trivial,hx⟩
def vt (w:World) (μ:Mu) (id:Nat) (t:Ty) (n cap:Nat) (A:Option Addr) (olds:List Value):Prop:=
 0<cap->∃b of cs ety p,A=some ⟨b,of,none⟩/\μ id=some p/\p.1=b/\w.heap[b]? =some (.cells cs ety (0,0))/\of+cap*t.cells=cs.size/\olds.length=n*t.cells/\(t= .int .u8->ety=om/\of=0)/\∀(j:Nat) v,olds[j]? =some v->cs[of+j]? =some v
structure AppAt (P:Program) (t t2 oty e:TypeId) (i:TypeInfo) (z:Value) (X:Ctx) (ty:Ty) (m:List ty.den) (u2:Value) (news:List Value):Prop where
 len:news.length=m.length*ty.cells
 rows:RowsAt X.w X.G ty m (fun p=>news[p]?)
 none:m.length=0->∀(A:Option Addr) (n cap:Nat),n<=cap->(Builtin.append_ #[t,t2] oty #[.slice A n cap,u2]).run P X.w= .ok (.slice A n cap) X.w
 room:0<m.length->∀(b of n cap:Nat) (cs:Array Value) (ety:TypeId),X.w.heap[b]? =some (.cells cs ety (0,0))->n+m.length<=cap->of+cap*i.size<=cs.size->
  (Builtin.append_ #[t,t2] oty #[.slice (some ⟨b,of,Option.none⟩) n cap,u2]).run P X.w= .ok (.slice (some ⟨b,of,Option.none⟩) (n+m.length) cap) (X.w.setRow b (cs.toList.take (of+n*i.size)++news++cs.toList.drop (of+n*i.size+news.length)).toArray)
 grow:0<m.length->∀(A:Option Addr) (n cap:Nat) (olds:List Value),olds.length=n*i.size->(∀a,A=some a->∀(j:Nat) v,olds[j]? =some v->X.w.cell? (a.add j)=some v)->(A=Option.none->n=0/\cap=0)->cap<n+m.length->
  (n+m.length)*i.bytes<=140737488355328->n+m.length<=4611686018427387904->
  ∃newCap,n+m.length<=newCap/\newCap<=maxLen/\(Builtin.append_ #[t,t2] oty #[.slice A n cap,u2]).run P X.w= .ok (.slice (some ⟨X.w.heap.size,0,Option.none⟩) (n+m.length) newCap) (X.w.drew.alloc (.cells (olds.toArray++news.toArray++Builtin.zeroCells z.cells (newCap-(n+m.length))) e))
theorem SegAt.app {P:Program} {t oty e:TypeId} {i:TypeInfo} {z:Value} (hu:P.underlying t=some (.slice e)) (hi:P.info? e=some i) (hz:i.zero=some z) {X:Ctx} {ty:Ty} (hsz:i.size=ty.cells) {m:List ty.den} {u2:Value} (h:SegAt X ty m u2):
 ∃news,AppAt P t t oty e i z X ty m u2 news:=by
 obtain ⟨A2,c2,news,rfl,n1,n2,n3,n4,n5⟩:=h;refine ⟨news,n1,n3,fun hm A n cap hn=> ?_,fun hm b of n cap cs ety hg hr hf=> ?_,fun hm A n cap olds h1 h2 h3 h4 h5 h6=> ?_⟩
 ·rw [hm];exact yH hu hi X.w A A2 n cap c2 hn
 ·cases A2 with
  |none=>have:=n5 rfl;omega
  |some a2=>exact GF hu hi X.w b of n cap cs ety hg a2 m.length c2 news (by rw [n1,hsz]) (n4 a2 rfl) n2 hr hf
 ·cases A2 with
  |none=>have:=n5 rfl;omega
  |some a2=>exact yI hu hi hz X.w A n cap olds h1 h2 h3 a2 m.length c2 news (by rw [n1,hsz]) (n4 a2 rfl) h4 h5 h6
theorem AppAt.up {P:Program} {t t2 oty e:TypeId} {i:TypeInfo} {z:Value} {X X':Ctx} {ty:Ty} {m:List ty.den} {u:Value} {news:List Value} (h:AppAt P t t2 oty e i z X ty m u news) (hw:X'.w=X.w) (hG: ∀b,X.G b->X'.G b):AppAt P t t2 oty e i z X' ty m u news:=by
 obtain ⟨h1,h2,h3,h4,h5⟩:=h;refine ⟨h1,fun i x hx=> ?_,by rw [hw];exact h3,by rw [hw];exact h4,by rw [hw];exact h5⟩;obtain ⟨row,r1,r2⟩:=h2 i x hx;exact ⟨row,r1.keep (fun b hb=>⟨hG b hb,by rw [hw]⟩),r2⟩
theorem Oo {P:Program} {t t2 oty e:TypeId} {i:TypeInfo} {z:Value} (hu:P.underlying t=some (.slice e)) (hu2:P.underlying t2=some .string) (hi:P.info? e=some i) (hz:i.zero=some z) {X:Ctx} (hsz:i.size=(Ty.int .u8).cells) {l:List UInt8} {s:ByteArray} (hs:s.data.toList=l):
 ∃news,AppAt P t t2 oty e i z X (.int .u8) (l.map fun b=>(b.toNat:Int):List Int) (.string s) news:=by
 have hsize:s.size=l.length:=by rw [<-hs];rfl
 have h1:i.size=1:=hsz;have hl:(Lib.strCells s).length=s.size:=Lib.strCells_length s;have hml:((l.map fun b=>(b.toNat:Int):List Int)).length=s.size:=by rw [RI,hsize]
 refine ⟨Lib.strCells s,by rw [hl];show s.size=((l.map fun b=>(b.toNat:Int):List Int)).length*1;omega,fun j x hx=> ?_,fun hm A n cap hn=> ?_,fun hm b of n cap cs ety hg hr hf=> ?_,fun hm A n cap olds g1 g2 g3 g4 g5 g6=> ?_⟩
 ·obtain ⟨b,hb,hbx⟩: ∃b,l[j]? =some b/\(b.toNat:Int)=(x:Int):=by
   have hx':(l.map fun b=>(b.toNat:Int))[j]? =(some x:Option Int):=hx;rw [List.getElem?_map] at hx';cases hb:l[j]? with
   |none=>rw [hb] at hx';cases hx'
   |some b=>rw [hb] at hx';exact ⟨b,rfl,Option.some.inj hx'⟩
  refine ⟨[.int .u8 (b.toNat:Int)],by show [Value.int .u8 (b.toNat:Int)]=[Value.int .u8 (x:Int)];rw [hbx],fun q u hq=> ?_⟩;cases q with
  |zero=>
   simp only [List.getElem?_cons_zero,Q9] at hq;subst hq;show (Lib.strCells s)[j*1+0]? =_;rw [Nat.mul_one,RR];unfold Lib.strCells;rw [hs,List.getElem?_map,hb];rfl
  |succ q=>simp at hq
 ·have hm0:s.size=0:=by rw [<-hml];exact hm
  have hf:=Lib.run_firstCells_string (P:=P) X.w i.size s;have he:Lib.strCells s=[]:=Rk (by omega);rw [he,hm0] at hf;cases A<;>simp [Builtin.append_,run_underlying hu,run_underlying hu2,sizeOf,typeInfo,hi,Builtin.lenOf,hm0,hn,hf,storeCells]
 ·have hm':((l.map fun b=>(b.toNat:Int):List Int)).length=s.size:=hml;have hr':n+s.size<=cap:=by rw [<-hm'];exact hr
  have hf':=Lib.run_firstCells_string (P:=P) X.w i.size s;have hmul:(n+s.size)*i.size<=cap*i.size:=RN _ hr';rw [RO,h1,Nat.mul_one,Nat.mul_one,Nat.mul_one] at hmul;have hst:=run_storeCells_at P b (of+n*i.size) ety (Lib.strCells s) 0 cs X.w hg (by rw [h1,hl] at*;omega) (Lib.strCells_oneCell s);simp only [RR] at hst;show (Builtin.append_ #[t,t2] oty #[.slice (some ⟨b,of,none⟩) n cap, .string s]).run P X.w= .ok (.slice (some ⟨b,of,none⟩) (n+((l.map fun b=>(b.toNat:Int):List Int)).length) cap) _;rw [hm'];simp [Builtin.append_,run_underlying hu,run_underlying hu2,sizeOf,typeInfo,hi,Builtin.lenOf,hr',hf',Addr.add_lit,hst]
 ·have hm':((l.map fun b=>(b.toNat:Int):List Int)).length=s.size:=hml;have g4':cap<n+s.size:=by rw [<-hm'];exact g4
  have g5':(n+s.size)*i.bytes<=140737488355328:=by rw [<-hm'];exact g5
  have g6':n+s.size<=4611686018427387904:=by rw [<-hm'];exact g6
  have hm0:0<s.size:=by rw [<-hm'];exact hm
  suffices key: ∃newCap,n+s.size<=newCap/\newCap<=maxLen/\(Builtin.append_ #[t,t2] oty #[.slice A n cap, .string s]).run P X.w= .ok (.slice (some ⟨X.w.heap.size,0,Option.none⟩) (n+s.size) newCap)
   (X.w.drew.alloc (.cells (olds.toArray++(Lib.strCells s).toArray++Builtin.zeroCells z.cells (newCap-(n+s.size))) e)) by
   rw [<-hml] at key;exact key
  cases A with
  |none=>
   obtain ⟨rfl,rfl⟩:=g3 rfl;have hnil:olds=[]:=Rk (by rw [g1,SN]);subst hnil;simp only [RQ] at*;refine ⟨grownCap X.w s.size 0 e,grownCap_ge X.w s.size 0 e,grownCap_le_maxLen X.w s.size 0 e (by unfold maxLen;omega), ?_⟩;have:=run_append_nil_string (P:=P) X.w t t2 oty e i z hu hu2 hi hz s (by omega) (by omega) (by omega);have e1:(s.data.map fun b=>Value.int .u8 b.toNat)=(Lib.strCells s).toArray:=by
    apply Array.ext';simp [Lib.strCells]
   rw [e1] at this;simpa using this
  |some a=>
   exact ⟨grownCap X.w (n+s.size) cap e,grownCap_ge X.w (n+s.size) cap e,grownCap_le_maxLen X.w (n+s.size) cap e (by unfold maxLen;omega),
    Lib.run_append_grow_string (P:=P) X.w t t2 oty e i z hu hu2 hi hz a n cap olds g1 (g2 a rfl) s g4' (by omega) (growslice_fits g4' g5')⟩
theorem gn {B : Nat -> Prop} {w : World} {σ : Store} {μ : Mu} {F : Fr} (hI : Inv B ⟨w, σ, μ, F⟩) (hB : ∀ b, w.heap.size <= b -> B b) {t t2 oty e : TypeId} {i : TypeInfo} {z : Value}
    {ty : Ty} (hsz : i.size = ty.cells) (hzs : z.cells.size = i.size) (hbt : KR e ty = true) {A : Option Addr} {cap : Nat} {l m : List ty.den} {u2 : Value} {id ep : Nat} (hid : ∀ o', σ.get id = some o' -> ∃ ep0 l0, o' = .arr ep0 ty l0 /\ ep0 < ep)
    {olds : List Value} (hlo : olds.length = l.length * ty.cells) (hro : RowsAt w (Ctx.G ⟨w, σ, μ, F⟩) ty l (fun p => olds[p]?)) (hco : ∀ a, A = some a -> ∀ (j : Nat) v, olds[j]? = some v -> w.cell? (a.add j) = some v)
    (hA : A = none -> l.length = 0 /\ cap = 0) (hn : l.length <= cap) (hcm : cap <= maxLen) {news : List Value} (hx : AppAt P t t2 oty e i z ⟨w, σ, μ, F⟩ ty m u2 news) (hby : (l.length + m.length) * i.bytes <= 140737488355328) (h63 : l.length + m.length <= 4611686018427387904)
    (hin : l.length + m.length <= cap -> (l.length + m.length = 0 /\ cap = 0) ∨ ((∃ ep0 l0, σ.get id = some (.arr ep0 ty l0)) /\ vt w μ id ty l.length cap A olds)) :
    ∃ u w', (Builtin.append_ #[t, t2] oty #[.slice A l.length cap, u2]).run P w = .ok u w' /\
      ∃ μ', Inv B ⟨w', (id, .arr ep ty (l ++ m)) :: σ, μ', F⟩ /\ Rep ⟨w', (id, .arr ep ty (l ++ m)) :: σ, μ', F⟩ (.slc id ep none) u /\ Evo ⟨w, σ, μ, F⟩ ⟨w', (id, .arr ep ty (l ++ m)) :: σ, μ', F⟩ := by
  obtain ⟨n1, n3, r0, r1, r2⟩ := hx
  simp only at r0 r1 r2 n3
  have hlm : (l ++ m).length = l.length + m.length := Re
  by_cases hroom : l.length + m.length <= cap
  · rcases hin hroom with ⟨h0, hc0⟩ | ⟨⟨ep0, l0, hex⟩, hip⟩
    · have hm0 : m.length = 0 := by omega
      have hrun := r0 hm0 A l.length cap hn
      refine ⟨_, _, hrun, ?_⟩
      have hl0 : l.length = 0 := by omega
      rw [hl0, hc0]
      exact rc hI hB hid (by omega) A
    · rcases Sk cap with hc | hc
      · have hm0 : m.length = 0 := by omega
        have hrun := r0 hm0 A l.length cap hn
        refine ⟨_, _, hrun, ?_⟩
        have hl0 : l.length = 0 := by omega
        rw [hl0, hc]
        exact rc hI hB hid (by omega) A
      · obtain ⟨b, of, cs, ety, p, rfl, hmu, hp, hg, hfit, _, hbb, hcs⟩ := hip hc
        have put : ∀ (w' : World) (cs' : Array Value), w'.os = w.os -> w'.tape = w.tape -> w'.output = w.output -> w'.heap.size = w.heap.size -> (∀ k, k ≠ b -> w'.heap[k]? = w.heap[k]?) -> w'.heap[b]? = some (.cells cs' ety (0, 0)) -> cs'.size = cs.size ->
            (∀ (j : Nat) v, (olds ++ news)[j]? = some v -> cs'[of + j]? = some v) ->
            ∃ μ', Inv B ⟨w', (id, .arr ep ty (l ++ m)) :: σ, μ', F⟩ /\ Rep ⟨w', (id, .arr ep ty (l ++ m)) :: σ, μ', F⟩ (.slc id ep none) (.slice (some ⟨b, of, none⟩) (l.length + m.length) cap) /\
              Evo ⟨w, σ, μ, F⟩ ⟨w', (id, .arr ep ty (l ++ m)) :: σ, μ', F⟩ := by
          intro w' cs' e1 e2 e3 e4 e5 e6 e7 e8
          have key := dE hI hB (id := id) (o' := .arr ep ty (l ++ m)) (p' := some (b, of, cap)) (w' := w') e1 e2 e3 (by show w.heap.size <= w'.heap.size; omega)
            (fun b2 _ hne => e5 b2 (fun e => hne _ _ hex hmu (by rw [hp, e])))
            (fun q hq => .inr ⟨_, _, hex, hmu, by cases hq; exact hp⟩)
            (fun c hg' => by obtain ⟨_, _, e, _⟩ := hid _ hg'; cases e)
            (fun ep1 t1 l1 hg' => by obtain ⟨_, _, e, hlt⟩ := hid _ hg'; cases e; exact ⟨ep, _, rfl, by omega, fun e => by omega⟩)
            (fun hE => .inr ⟨b, of, cap, cs', ety, by simp, e6, by omega, by omega, ⟨hcm, hbb⟩, fun j x hx => by
              obtain ⟨row, r1, r2⟩ := (RowsAt.append hro hlo n3) j x hx
              exact ⟨row, r1.keep hE.good, fun q v hv => by rw [RK]; exact e8 _ _ (r2 q v hv)⟩⟩) rfl (BN hid)
          refine ⟨_, key.2, .slc (ep' := ep) (t := ty) (l := l ++ m) (by simp [a7]) (Rf _) (fun _ => ?_), key.1⟩
          simp only [if_true, Hdr]
          exact ⟨hlm.symm, trivial, by omega, _, rfl, fun _ => rfl⟩
        rcases Sk m.length with hm0 | hm0
        · have hrun := r0 hm0 (some ⟨b, of, none⟩) l.length cap hn
          have hnl : news = [] := Rk (by rw [n1, hm0, SN])
          refine ⟨_, _, hrun, ?_⟩
          have := put w cs rfl rfl rfl rfl (fun _ _ => rfl) hg rfl (fun j v hv => by rw [hnl, RH] at hv; exact hcs j v hv)
          simpa [hm0] using this
        ·
          have hrun := r1 hm0 b of l.length cap cs ety hg hroom (by rw [hsz]; omega)
          refine ⟨_, _, hrun, ?_⟩
          have hmul : (l.length + m.length) * ty.cells <= cap * ty.cells := RN _ hroom
          rw [RO] at hmul
          have hfit2 : of + l.length * ty.cells + news.length <= cs.toList.length := by rw [n1]; simp; omega
          refine put _ _ rfl rfl rfl (by simp) (fun k hk => setRow_other w b k _ hk) (setRow_heap w b cs _ ety (0, 0) hg) ?_ (fun j v hv => ?_)
          · rw [hsz]
            simp only [R4, Re, Rz, RE, Array.length_toList] at hfit2 ⊢
            omega
          · rw [hsz]
            simp only [List.getElem?_toArray]
            rw [eC _ _ _ _ rfl hfit2]
            rcases Nat.lt_or_ge j olds.length with hj | hj
            · rw [List.getElem?_append_left hj] at hv
              rw [Q_ (by omega)]
              simpa using hcs j v hv
            · rw [List.getElem?_append_right hj] at hv
              have := (List.getElem?_eq_some_iff.1 hv).1
              rw [Q8 (by omega), Q_ (by omega), show of + j - (of + l.length * ty.cells) = j - olds.length by omega]
              exact hv
  · have hm0 : 0 < m.length := by omega
    obtain ⟨nc, c1, c3, hrun⟩ := r2 hm0 A l.length cap olds (by rw [hlo, hsz]) hco hA (by omega) hby h63
    refine ⟨_, _, hrun, ?_⟩
    have := GG (w1 := w.drew) hI hB (id := id) e (t := ty) (xs := l ++ m) (C := nc) (ep := ep) (vs := olds.toArray ++ news.toArray ++ Builtin.zeroCells z.cells (nc - (l.length + m.length))) hid rfl rfl rfl rfl
      (by
        have e1 : (nc - (l.length + m.length) + (l.length + m.length)) * ty.cells = nc * ty.cells := by congr 1; omega
        simp only [Array.size_append, R4, size_zeroCells, hlo, n1, hzs, hsz]
        rw [<- e1, RO, RO]
        omega) (by omega) (yG hbt c3)
      ((RowsAt.append hro hlo n3).mono fun p v hv => by
        have hp := (List.getElem?_eq_some_iff.1 hv).1
        rw [Array.getElem?_append_left (by simpa using hp)]
        simpa using hv)
    rw [hlm] at this
    exact this
theorem SegAt.up {X X':Ctx} {t:Ty} {m:List t.den} {u:Value} (h:SegAt X t m u) (hw:X'.w=X.w) (hG: ∀b,X.G b->X'.G b):SegAt X' t m u:=by
 obtain ⟨A,cap,news,h1,h2,h3,h4,h5,h6⟩:=h;refine ⟨A,cap,news,h1,h2,h3,fun i x hx=> ?_,fun a ha j v hv=>by rw [hw];exact h5 a ha j v hv,h6⟩;obtain ⟨row,r1,r2⟩:=h4 i x hx;exact ⟨row,r1.keep (fun b hb=>⟨hG b hb,by rw [hw]⟩),r2⟩
theorem re {E:Env} {t t2:TypeId} {seg:(ty:Ty)->Option (List ty.den)} {d x:Operand} {c:Call} {dst:Nat} (ho:o.op= .call c) (hc:c.callee= .builtin .append) (h0:c.args[0]? =some d) (h1:c.args[1]? =some x) (hs:c.args.size=2)
 (t0:c.argTypes[0]? =some t) (t1:c.argTypes[1]? =some t2) (ts:c.argTypes.size=2)
 (hx: ∀{B:Nat->Prop} {X:Ctx} {u:Value},X.σ=σ->Inv B X->Rep X (ρ x) u->∀{e:TypeId} {i:TypeInfo} {z:Value} {ty:Ty} {m:List ty.den},E.P.underlying t=some (.slice e)->E.P.info? e=some i->i.zero=some z->i.size=ty.cells->seg ty=some m->
  ∃news,AppAt E.P t t2 o.type e i z X ty m u news)
 (h:ir E t (ρ d) seg dst σ k): ∃v σ',k v σ'/\OpOk E.P o ρ σ v σ':=by
 have two: ∀{α:Type} (xs:Array α) (p q:α),xs[0]? =some p->xs[1]? =some q->xs.size=2->xs= #[p,q]:=by
  intro α xs p q e0 e1 e2;apply Array.ext (by simpa using e2);intro i hi _;have hi2:i<2:=by omega
  match i,hi2 with
  |0,_=>rw [Array.getElem?_eq_getElem (by omega)] at e0;simpa using e0
  |1,_=>rw [Array.getElem?_eq_getElem (by omega)] at e1;simpa using e1
 have hargs:=two _ _ _ h0 h1 hs;have htys:=two _ _ _ t0 t1 ts;have hops:o.op.operands.toList=[d,x]:=by rw [ho];simp [Op.operands,Call.operands,hc,hargs]
 have run: ∀(ρr:Operand->Value) (w w':World) (u:Value),(Builtin.append_ #[t,t2] o.type #[ρr d,ρr x]).run E.P w= .ok u w'->(execOp ρr o).run E.P w= .ok (.value u) w':=by
  intro ρr w w' u hr;simp [execOp,ho,resolve,hc,invoke,builtin,hargs,htys,hr]
 unfold ir at h;split at h
 ·rename_i e hu;split at h
  ·rename_i i ty hi hty;split at h
   ·rename_i hcond;obtain ⟨hsz,hzz,hbt⟩:=hcond;cases hz:i.zero with
    |none=>rw [hz] at hzz;simp at hzz
    |some z=>
     rw [hz] at hzz;have hzs:z.cells.size=i.size:=by simpa using hzz
     split at h
     ·rename_i m hm;split at h
      ·rename_i hd;split at h
       ·rename_i hf;obtain ⟨⟨hb,hl⟩,h⟩:=h;refine ⟨_,_,h,fun B F ρr w μ hI hB hr=> ?_⟩;have hrd:=hr d (ao hops (by simp));have hrx:=hr x (ao hops (by simp));rw [hd] at hrd;obtain ⟨news,hseg⟩:=hx rfl hI hrx hu hi hz hsz hm;obtain ⟨u,w',h1,h2⟩:=gn (P:=E.P) (oty:=o.type) (A:=none) (cap:=0) (l:=([]:List ty.den)) (m:=m) (id:=dst) (ep:=0) (olds:=[]) hI hB hsz hzs hbt
         (fun o' ho'=>by rw [ea hf] at ho';cases ho') (by simp) (fun i x hx=>by simp at hx) (fun a ha=>by cases ha) (fun _=>⟨rfl,rfl⟩) (Rf _) (RV _) hseg
         (by simpa using hb) (by simpa using hl) (fun hle=> .inl ⟨by simpa using hle,rfl⟩)
        refine .val (run ρr w w' u ?_) h2;rw [hrd.nils_inv];exact h1
       ·exact h.elim
      ·rename_i t' l hd;split at h
       ·rename_i ht;subst ht;split at h
        ·rename_i hf;obtain ⟨⟨hb,hl,hne⟩,h⟩:=h;refine ⟨_,_,h,fun B F ρr w μ hI hB hr=> ?_⟩;have hrd:=hr d (ao hops (by simp));have hrx:=hr x (ao hops (by simp));rw [hd] at hrd;obtain ⟨news,hseg⟩:=hx rfl hI hrx hu hi hz hsz hm;have hsd:=vr (t:=t') (m:=l) hI (x:= .list .full t' l) (by simp [Gv]) hrd;obtain ⟨A,cap,e1,_,hfull⟩:=hrd.list_inv;have hcap:=hfull rfl;subst hcap;obtain ⟨A',cap',olds,e2,n1,n2,n3,n4,n5⟩:=hsd;rw [e1] at e2;simp only [Value.slice.injEq,true_and] at e2;obtain ⟨rfl,rfl⟩:=e2;obtain ⟨u,w',h1,h2⟩:=gn (P:=E.P) (oty:=o.type) (A:=A) (cap:=l.length) (l:=l) (m:=m) (id:=dst) (ep:=0) (olds:=olds) hI hB hsz hzs hbt
          (fun o' ho'=>by rw [ea hf] at ho';cases ho') n1 n3 n4 (fun hn=>⟨n5 hn,n5 hn⟩) (Rf _) (by unfold maxLen;omega) hseg hb hl (fun hle=> .inl ⟨by omega,by omega⟩)
         refine .val (run ρr w w' u ?_) h2;rw [e1];exact h1
        ·exact h.elim
       ·exact h.elim
      ·rename_i id ep hd;split at h
       ·rename_i ep' t' l hg;split at h
        ·rename_i ht;subst ht;split at h
         ·rename_i hep;subst hep;obtain ⟨⟨hb,hl⟩,h⟩:=h;refine ⟨_,_,h,fun B F ρr w μ hI hB hr=> ?_⟩;have hrd:=hr d (ao hops (by simp));have hrx:=hr x (ao hops (by simp));rw [hd] at hrd;obtain ⟨news,hseg⟩:=hx rfl hI hrx hu hi hz hsz hm;have hsd:=vr (t:=t') (m:=l) hI (x:= .slc id ep none) (by simp [Gv,hg]) hrd;obtain ⟨A,len,cap,ep2,t2,l2,e2,hg',hle,hcur⟩:=hrd.slc_inv;have hg2:Store.get σ id=some (.arr ep2 t2 l2):=hg';rw [hg] at hg2;cases hg2;have hh:=hcur rfl;obtain ⟨A',cap',olds,e3,n1,n2,n3,n4,n5⟩:=hsd;rw [e2] at e3;simp only [Value.slice.injEq] at e3;obtain ⟨rfl,rfl,rfl⟩:=e3;have hcl:l.length<=cap/\cap<=maxLen/\(A=none->l.length=0/\cap=0)/\(l.length+m.length<=cap->(l.length+m.length=0/\cap=0)∨((∃ep0 l0,σ.get id=some (.arr ep0 t' l0))/\vt w μ id t' l.length cap A olds)):=by
           cases hmu:μ id with
           |none=>
            have hmu':(Ctx.mk w σ μ F).μ id=none:=hmu;rw [hmu'] at hh;simp only [Hdr] at hh;exact ⟨by omega,by unfold maxLen;omega,fun _=>by omega,fun _=> .inl (by omega)⟩
           |some q=>
            obtain ⟨b,base,C⟩:=q;have hmu':(Ctx.mk w σ μ F).μ id=some (b,base,C):=hmu;rw [hmu'] at hh;simp only [Hdr] at hh;obtain ⟨_,rfl,hC,a,rfl,ha⟩:=hh;obtain ⟨cs,ety,k2,k3,k4,k5,k6⟩:=eQ hI hg hmu';refine ⟨hC,k5.1,fun e=>(by cases e),fun _=> .inr ⟨⟨_,_,hg⟩,fun hpos=> ?_⟩⟩;have ha:=ha hpos;subst ha;refine ⟨b,base,cs,ety,_,rfl,hmu,rfl,k2,k3,n1,k5.2,fun j v hv=> ?_⟩;have:=n4 _ rfl j v hv;rw [Addr.add_lit] at this;simpa [World.cell?,show w.heap[b]? =some (.cells cs ety (0,0)) from k2] using this
          obtain ⟨q1,q2,q3,q4⟩:=hcl;obtain ⟨u,w',h1,h2⟩:=gn (P:=E.P) (oty:=o.type) (A:=A) (cap:=cap) (l:=l) (m:=m) (id:=id) (ep:=ep+1) (olds:=olds) hI hB hsz hzs hbt
           (fun o' ho'=>by rw [hg] at ho';cases ho';exact ⟨ep,l,rfl,by omega⟩) n1 n3 n4 q3 q1 q2 hseg hb hl q4
          refine .val (run ρr w w' u ?_) h2;rw [e2];exact h1
         ·exact h.elim
        ·exact h.elim
       ·exact h.elim
      ·rename_i id ep off n hd;split at h
       ·rename_i ep' t' l hg;split at h
        ·rename_i ht;subst ht;split at h
         ·rename_i hep;obtain ⟨hep,hnb⟩:=hep;subst hep;obtain ⟨⟨hoff,hb,hl⟩,h⟩:=h;have hdl:(List.drop off l).length=n:=by simp;omega
          have hdt:(List.drop off l).take n=List.drop off l:=by rw [<-hdl];exact Ss
          refine ⟨_,_,h,fun B F ρr w μ hI hB hr=> ?_⟩;have hrd:=hr d (ao hops (by simp));have hrx:=hr x (ao hops (by simp));rw [hd] at hrd;obtain ⟨news,hseg⟩:=hx rfl hI hrx hu hi hz hsz hm;have hsd:=vr (t:=t') (m:=List.drop off l) hI (x:= .slc id ep (some (off,n))) (by simp [Gv,hg,hdt]) hrd;obtain ⟨A,len,cap,ep2,t2,l2,e2,hg',hle,hcur⟩:=hrd.slc_inv;have hg2:Store.get σ id=some (.arr ep2 t2 l2):=hg';rw [hg] at hg2;cases hg2;have hh:=hcur rfl;obtain ⟨A',cap',olds,e3,n1,n2,n3,n4,n5⟩:=hsd;rw [e2] at e3;simp only [Value.slice.injEq] at e3;obtain ⟨rfl,hlen,rfl⟩:=e3;have hcl:(List.drop off l).length<=cap/\cap<=maxLen/\(A=none->(List.drop off l).length=0/\cap=0)/\((List.drop off l).length+m.length<=cap->((List.drop off l).length+m.length=0/\cap=0)∨
           ((∃ep0 l0,σ.get id=some (.arr ep0 t' l0))/\vt w μ id t' (List.drop off l).length cap A olds)):=by
           rw [hdl];cases hmu:μ id with
           |none=>
            have hmu':(Ctx.mk w σ μ F).μ id=none:=hmu;rw [hmu'] at hh;simp only [Hdr] at hh;exact ⟨by omega,by unfold maxLen;omega,fun _=>by omega,fun _=> .inl (by omega)⟩
           |some q=>
            obtain ⟨b,base,C⟩:=q;have hmu':(Ctx.mk w σ μ F).μ id=some (b,base,C):=hmu;rw [hmu'] at hh;simp only [Hdr] at hh;obtain ⟨_,h2,hC,rfl,a,rfl,ha⟩:=hh;obtain ⟨cs,ety,k2,k3,k4,k5,k6⟩:=eQ hI hg hmu';have k51:=k5.1;refine ⟨by omega,by omega,fun e=>(by cases e),fun _=> .inr ⟨⟨_,_,hg⟩,fun hpos=> ?_⟩⟩;have ha:=ha hpos;subst ha;have hfit:base+off*t'.cells+(C-off)*t'.cells=cs.size:=by
             rw [<-k3,RK,<-RO];congr 2;omega
            refine ⟨b,base+off*t'.cells,cs,ety,_,rfl,hmu,rfl,k2,hfit,by rw [n1,hdl],fun e=>absurd e hnb,fun j v hv=> ?_⟩;have:=n4 _ rfl j v hv;rw [Addr.add_lit] at this;simpa [World.cell?,show w.heap[b]? =some (.cells cs ety (0,0)) from k2] using this
          obtain ⟨q1,q2,q3,q4⟩:=hcl;obtain ⟨u,w',h1,h2⟩:=gn (P:=E.P) (oty:=o.type) (A:=A) (cap:=cap) (l:=List.drop off l) (m:=m) (id:=id) (ep:=ep+1) (olds:=olds) hI hB hsz hzs hbt
           (fun o' ho'=>by rw [hg] at ho';cases ho';exact ⟨ep,l,rfl,by omega⟩) n1 n3 n4 q3 q1 q2 hseg (by rw [hdl];exact hb) (by rw [hdl];exact hl) q4
          refine .val (run ρr w w' u ?_) h2;rw [e2,hlen];exact h1
         ·exact h.elim
        ·exact h.elim
       ·exact h.elim
      ·exact h.elim
     ·exact h.elim
   ·exact h.elim
  ·exact h.elim
 ·exact h.elim
theorem GH {E:Env} {t:TypeId} {d x:Operand} {c:Call} {dst:Nat} (ho:o.op= .call c) (hc:c.callee= .builtin .append) (h0:c.args[0]? =some d) (h1:c.args[1]? =some x) (hs:c.args.size=2)
 (t0:c.argTypes[0]? =some t) (t1:c.argTypes[1]? =some t) (ts:c.argTypes.size=2) (h:oX E t (ρ d) (ρ x) dst σ k): ∃v σ',k v σ'/\OpOk E.P o ρ σ v σ':=
 re ho hc h0 h1 hs t0 t1 ts (fun hX hI hr _ _ _ _ _ hu hi hz hsz hm=>SegAt.app hu hi hz hsz (vr hI (by rw [hX];exact hm) hr)) h
theorem BO {E:Env} {t t2:TypeId} {d x:Operand} {c:Call} {dst:Nat} (ho:o.op= .call c) (hc:c.callee= .builtin .append) (h0:c.args[0]? =some d) (h1:c.args[1]? =some x) (hs:c.args.size=2)
 (t0:c.argTypes[0]? =some t) (t1:c.argTypes[1]? =some t2) (ts:c.argTypes.size=2) (hu2:E.P.underlying t2=some .string) (h:oY E t (ρ d) (ρ x) dst σ k): ∃v σ',k v σ'/\OpOk E.P o ρ σ v σ':=by
 refine re ho hc h0 h1 hs t0 t1 ts (fun {B X u} hX hI hr {e i z ty m} hu hi hz hsz hm=> ?_) h;unfold KW at hm;split at hm
 ·rename_i l hxl;split at hm
  ·rename_i e;subst e;cases hm;rw [hxl] at hr;cases hr with
   |str hs=>exact Oo hu hu2 hi hz hsz hs
  ·cases hm
 ·cases hm
theorem Oq {α:Type} {xs:Array α} {p:α} (e0:xs[0]? =some p) (e2:xs.size=1):xs= #[p]:=by
 apply Array.ext (by simpa using e2);intro i hi _;have hi2:i=0:=by omega
 subst hi2;rw [Array.getElem?_eq_getElem (by omega)] at e0;simpa using e0
theorem Du {α:Type} {xs:Array α} {p q:α} (e0:xs[0]? =some p) (e1:xs[1]? =some q) (e2:xs.size=2):xs= #[p,q]:=by
 apply Array.ext (by simpa using e2);intro i hi _;have hi2:i<2:=by omega
 match i,hi2 with
 |0,_=>rw [Array.getElem?_eq_getElem (by omega)] at e0;simpa using e0
 |1,_=>rw [Array.getElem?_eq_getElem (by omega)] at e1;simpa using e1
theorem K8 {E:Env} {x:Operand} {c:Call} (ho:o.op= .call c) (hc:c.callee= .builtin .unsafeSliceData) (h0:c.args[0]? =some x) (hs:c.args.size=1)
 (h:ng (ρ x) σ k): ∃v σ',k v σ'/\OpOk E.P o ρ σ v σ':=by
 have hargs:=Oq h0 hs;have hops:o.op.operands.toList=[x]:=by rw [ho];simp [Op.operands,Call.operands,hc,hargs]
 have run: ∀(ρr:Operand->Value) (w:World) (u:Value),(Builtin.unsafeSliceData_ c.argTypes o.type #[ρr x]).run E.P w= .ok u w->(execOp ρr o).run E.P w= .ok (.value u) w:=by
  intro ρr w u hr;simp [execOp,ho,resolve,hc,invoke,builtin,hargs,hr]
 unfold ng at h;split at h
 ·rename_i hx;refine ⟨_,_,h,aH fun X ρr _ _ hr=> ?_⟩;have hrx:=hr x (ao hops (by simp));rw [hx] at hrx;exact ⟨_,run ρr X.w _ (by rw [hrx.nils_inv];exact Lib.run_unsafeSliceData_nil _ _ _ _ _), .nilp⟩
 ·rename_i id ep hx;split at h
  ·rename_i ep' t l hg;split at h
   ·rename_i hep;subst hep;obtain ⟨hl,h⟩:=h;refine ⟨_,_,h,aH fun X ρr hσ _ hr=> ?_⟩;subst hσ;have hrx:=hr x (ao hops (by simp));rw [hx] at hrx;obtain ⟨A,len,cap,ep2,t2,l2,e2,hg',hle,hcur⟩:=hrx.slc_inv;rw [hg] at hg';cases hg';have hh:=hcur rfl;cases hm:X.μ id with
    |none=>rw [hm] at hh;simp only [Hdr] at hh;omega
    |some q=>
     obtain ⟨b,base,C⟩:=q;rw [hm] at hh;simp only [Hdr] at hh;obtain ⟨rfl,rfl,hC,a,rfl,ha⟩:=hh;have ha:=ha (by omega);subst ha;refine ⟨_,run ρr X.w _ (by rw [e2];exact Lib.run_unsafeSliceData_row _ _ _ _ _ _ (by omega)), ?_⟩;exact .eptr hg (Rf _) (fun _=>⟨b,base,_,hm,by simp⟩)
   ·exact h.elim
  ·exact h.elim
 ·exact h.elim
theorem GI (l:List Int):(fA l).length=l.length:=by simp [fA]
theorem GJ {l:List Int} {j:Nat} {z:UInt8} (h:(fA l)[j]? =some z): ∃n:Int,l[j]? =some n/\z=n.toNat.toUInt8:=by
 simp only [fA,List.getElem?_map,Rc] at h;obtain ⟨n,hn,rfl⟩:=h;exact ⟨n,hn,rfl⟩
theorem vu (w:World) (b n k:Nat) (hk:k≠b):(w.freeze ⟨b,0,none⟩ n).heap[k]? =w.heap[k]? :=by
 unfold World.freeze;split
 ·rfl
 ·simp only [Array.getElem?_modify];rw [Q8 (fun e=>hk e.symm)]
theorem yJ (w:World) (b n:Nat):(w.freeze ⟨b,0,none⟩ n).os=w.os/\(w.freeze ⟨b,0,none⟩ n).tape=w.tape/\(w.freeze ⟨b,0,none⟩ n).output=w.output/\(w.freeze ⟨b,0,none⟩ n).heap.size=w.heap.size:=by
 unfold World.freeze;split
 ·exact ⟨rfl,rfl,rfl,rfl⟩
 ·exact ⟨rfl,rfl,rfl,by simp⟩
theorem Ot {E:Env} {t:TypeId} {x y:Operand} {c:Call} (ho:o.op= .call c) (hc:c.callee= .builtin .unsafeString) (h0:c.args[0]? =some x) (h1:c.args[1]? =some y) (hs:c.args.size=2)
 (t0:c.argTypes[0]? =some t) (ts:c.argTypes.size=2) (h:th E.P t (ρ x) (ρ y) σ k): ∃v σ',k v σ'/\OpOk E.P o ρ σ v σ':=by
 have hargs:=Du h0 h1 hs;have htys:=Du t0 (show c.argTypes[1]? =some c.argTypes[1] from Array.getElem?_eq_getElem (by omega)) ts;generalize c.argTypes[1]=it at htys;have hops:o.op.operands.toList=[x,y]:=by rw [ho];simp [Op.operands,Call.operands,hc,hargs]
 have run: ∀(ρr:Operand->Value) (w w':World) (u:Value),(Builtin.unsafeString_ #[t,it] o.type #[ρr x,ρr y]).run E.P w= .ok u w'->(execOp ρr o).run E.P w= .ok (.value u) w':=by
  intro ρr w w' u hr;simp [execOp,ho,resolve,hc,invoke,builtin,hargs,htys,hr]
 unfold th at h;split at h
 ·rename_i m hx hy;obtain ⟨rfl,h⟩:=h;refine ⟨_,_,h,aH fun X ρr _ _ hr=> ?_⟩;have hrx:=hr x (ao hops (by simp));have hry:=hr y (ao hops (by simp));rw [hx] at hrx;rw [hy] at hry;exact ⟨_,run ρr X.w X.w _ (by rw [hrx.nilp_inv,hry.int_inv];exact Lib.run_unsafeString_none _ _ _ _ _), .str rfl⟩
 ·rename_i id ep m hx hy;split at h
  ·rename_i ep' t' l e hg hu;split at h
   ·rename_i ht;subst ht;split at h
    ·rename_i hcc;obtain ⟨rfl,rfl,hsz⟩:=hcc;obtain ⟨⟨rfl,hl,hin⟩,h⟩:=h;refine ⟨_,_,h,fun B F ρr w μ hI hB hr=> ?_⟩;have hrx:=hr x (ao hops (by simp));have hry:=hr y (ao hops (by simp));rw [hx] at hrx;rw [hy] at hry;obtain ⟨a,ep2,t2,l2,e2,hg',hle,hcur⟩:=hrx.eptr_inv;have hg2:Store.get σ id=some (.arr ep2 t2 l2):=hg';rw [hg] at hg2;cases hg2;obtain ⟨b,base,C,hmu,rfl⟩:=hcur rfl;have hmu:μ id=some (b,base,C):=hmu;obtain ⟨cs,ety,k2,k3,k4,k5,k6⟩:=eQ hI hg hmu;obtain ⟨k51,k52⟩:=k5;obtain ⟨rfl,rfl⟩:=k52 rfl;have k2:w.heap[b]? =some (.cells cs om (0,0)):=k2;have hcz:E.P.cellsOf om=1:=by
      unfold dd at hsz;simp [Program.cellsOf,hsz]
     have hlen:(fA l).length=List.length l:=GI l;have hrun:=Lib.run_unsafeString_row (P:=E.P) w t it o.type om hu hcz b cs.size (by simp [World.shape?,k2]) (fA l) (fun e=>by rw [e] at hlen;simp at hlen;omega) (by rw [hlen];simp [Ty.cells] at k3;omega) (by rw [hlen];unfold maxLen at k51;omega)
      (fun j z hz=>by
       obtain ⟨n,hn,rfl⟩:=GJ hz;obtain ⟨row,r1,r2⟩:=k6 j n hn;simp only [RepC] at r1;subst r1;have h3:=r2 0 _ rfl;have hnn:=hin n (Rr hn);have h4:((n.toNat.toUInt8).toNat:Int)=n:=by
        have:n.toNat<256:=by omega
        simp [Nat.toUInt8,Nat.mod_eq_of_lt this];omega
       rw [Addr.add_lit,h4];simp [World.cell?,k2];simpa [Ty.cells] using h3)
     rw [hlen] at hrun;obtain ⟨f1,f2,f3,f4⟩:=yJ w b l.length;have key:=dE hI hB (id:=id) (o':= .arr (ep+1) (.int .u8) []) (p':=none) (w':=w.freeze ⟨b,0,none⟩ l.length) f1 f2 f3 (by rw [f4];exact Rf _)
      (fun b2 _ hne=>vu w b _ b2 (fun e=>hne _ _ hg hmu e.symm))
      (fun q hq=>by cases hq)
      (fun c hg'=>by have hg':σ.get id=_:=hg';rw [hg] at hg';cases hg')
      (fun ep1 t1 l1 hg'=>by have hg':σ.get id=_:=hg';rw [hg] at hg';cases hg';exact ⟨_,_,rfl,by omega,fun e=>by omega⟩)
      (fun hE=> .inl ⟨by simp,rfl⟩) rfl (by show cU (σ.get id)=false;rw [hg];rfl)
     refine .val (run ρr w _ (.string ⟨(fA l).toArray⟩) ?_) ⟨_,key.2, .str (by simp),key.1⟩;rw [e2,hry.int_inv];simpa [Ty.cells] using hrun
    ·exact h.elim
   ·exact h.elim
  ·exact h.elim
 ·exact h.elim
end
end Go.Vm
namespace Go.Vm
section
variable {P:Program} {o:Oper} {ρ:Operand->V} {σ:Store} {k:K}
theorem K9 {E:Env} {t:TypeId} {x:Operand} {c:Call} (ho:o.op= .call c) (hc:c.callee= .builtin .clear) (h0:c.args[0]? =some x) (hs:c.args.size=1)
 (t0:c.argTypes[0]? =some t) (ts:c.argTypes.size=1) (h:qY E t (ρ x) σ k): ∃v σ',k v σ'/\OpOk E.P o ρ σ v σ':=h.elim
end
end Go.Vm
namespace Go.Vm
section
variable {P:Program} {o:Oper} {ρ:Operand->V} {σ:Store} {k:K}
theorem GK {t:TypeId} (h:BC P t=true):P.underlying t=some (.map fY Ar):=by
 unfold BC at h;split at h
 ·rename_i a b hu;simp only [Ri] at h;rw [hu,Sb h.1,Sb h.2]
 ·cases h
theorem Ou {B:Nat->Prop} {X:Ctx} (hI:Inv B X) {m:V} {l:List (Int×Nat)} {u:Value} (h:Qg X.σ m=some l) (hr:Rep X m u): ∃b,u= .map (some b)/\FunAt l X.w b:=by
 unfold Qg at h;split at h
 ·rename_i id;split at h
  ·rename_i kd d hg;obtain ⟨a1,a2,a3⟩:=OK.asF_ok h;obtain ⟨k',d',rfl,hg'⟩:=hr.oref_inv;rw [hg] at hg';cases hg';rcases hI.objs id _ hg with ⟨_,h2⟩|⟨b,base,C,h1,_,h2⟩
   ·rw [a1] at h2;cases h2
   ·exact ⟨b,by rw [a2,h1];rfl,a3 _ _ _ h2⟩
  ·cases h
 ·rename_i kd d;obtain ⟨a1,a2,a3⟩:=OK.asF_ok h;obtain ⟨o,S,rfl,h1,h2⟩:=hr.fopq_inv;cases o with
  |none=>
   have:=h1 rfl;rw [a1] at this;cases this
  |some b=>exact ⟨b,a2 _,a3 _ _ _ (h2 b rfl).2.1⟩
 ·cases h
theorem GL {t:TypeId} {m x:Operand} {ok:Bool} (hP:P=P0) (ho:o.op= .lookup t m x ok) (h:jM P t (ρ m) (ρ x) ok σ k): ∃v σ',k v σ'/\OpOk P o ρ σ v σ':=by
 subst hP;unfold jM at h;split at h
 ·rename_i hft;have ht:=GK hft;split at h
  ·rename_i L kx n hm hx;split at h
   ·rename_i hk;subst hk;split at h
    ·rename_i f hf;obtain ⟨hn,h⟩:=h;have hops:o.op.operands.toList=[m,x]:=by rw [ho];rfl
     refine ⟨_,_,h,aH fun X ρr hσ hB hr=> ?_⟩;have hrm:=hr m (ao hops (by simp));have hrx:=hr x (ao hops (by simp));rw [hx] at hrx;subst hσ;obtain ⟨B,hI⟩:=hB;obtain ⟨b,hb,hmap⟩:=Ou hI hm hrm;have hl:=hmap.look ht hn hf;exact ⟨.func (.func f) #[] #[],by simp [execOp,ho,hb,hrx.int_inv,hl], .fn rfl rfl (fun j c u hc hu=>by simp at hc) (fun j c u hc hu=>by simp at hc)⟩
    ·exact h.elim
   ·exact h.elim
  ·exact h.elim
 ·exact h.elim
theorem GM {t:TypeId} {m x y:Operand} (hP:P=P0) (ho:o.op= .mapUpdate t m x y) (h:lL P t (ρ m) (ρ x) (ρ y) σ k): ∃v σ',k v σ'/\OpOk P o ρ σ v σ':=h.elim
theorem BP {E:Env} {t:TypeId} {r:Option Operand} {dst:Nat} (hP:E.P=P0) (ho:o.op= .makeMap t r) (h:jh E t (r.map ρ) dst σ k): ∃v σ',k v σ'/\OpOk E.P o ρ σ v σ':=h.elim
end
end Go.Vm
namespace Go.Vm
open Go.RowKit (Below)
structure Ground (F:Fr) (w:World):Prop where
 out: ∀b,w.heap.size<=b->¬F.any b
 pin:F.pin=[]
 gnd: ∀e∈F.gnd.1,w.heap[e.1]? =some e.2
theorem Ground.lt {F:Fr} {w:World} (h:Ground F w) {e:Nat×_root_.Go.Obj} (he:e∈F.gnd.1):e.1<w.heap.size:=(Array.getElem?_eq_some_iff.1 (h.gnd e he)).1
def rf (B0:Nat) (F:Fr) (w':World) (r:V) (u:Value):Prop:=
 ∃σ' μ' v',Inv (fun b=>B0<=b) ⟨w',σ',μ',F⟩/\Rep ⟨w',σ',μ',F⟩ v' u/\own σ' 60 v'=some r/\(ids σ' 60 v').Nodup
def Pure (P:Program) (f:FuncId) (args:List V) (r:V):Prop:=
 ∀(F:Fr) (w:World) (vs:List Value),Ground F w->RepL ⟨w,[],fun _=>none,F⟩ args vs->
  Calls P f vs.toArray w fun e w'=> ∃u,e= .returned u/\Below w.heap.size w w'/\rf w.heap.size F w' r u
def Ctx.outerF (X:Ctx):Fr:=⟨fun b=>X.F b∨∃id o,X.σ.get id=some o/\Blk X id o b,X.F.hid,[],X.F.gnd⟩
section
variable {X:Ctx}
theorem vv {b:Nat} (h:X.T b):Ctx.T ⟨X.w,[],fun _=>none,X.outerF⟩ b:=⟨⟨h.1.1,fun _ _ hg=>by simp [Store.get] at hg⟩,h.2⟩
theorem OV {B:Nat->Prop} (hI:Inv B X) {id:Nat} {o:Obj} {b base C:Nat} (hlt:b<X.w.heap.size) (hg:X.σ.get id=some o) (hm:X.μ id=some (b,base,C)):Ctx.T ⟨X.w,[],fun _=>none,X.outerF⟩ b:=
 ⟨⟨hlt,fun _ _ hg=>by simp [Store.get] at hg⟩,hI.hid _ (hI.base _ _ _ hg hm)⟩
theorem tp {b:Nat} (h:X.G b): ¬X.outerF b:=by
 rintro (hf|⟨id,o,hg,hk⟩)
 ·exact h.2 hf
 ·exact h.1.1.2 id o hg hk
theorem BQ {b:Nat} (h:X.G b):Ctx.G ⟨X.w,[],fun _=>none,X.outerF⟩ b:=⟨vv h.1,tp h⟩
theorem RepL.get {cs:List V} {vs:List Value} (h:RepL X cs vs) {j:Nat} {c:V} (hc:cs[j]? =some c): ∃u,vs[j]? =some u/\Rep X c u:=by
 have hj:j<vs.length:=by rw [h.1];exact (List.getElem?_eq_some_iff.1 hc).1
 exact ⟨_,List.getElem?_eq_getElem hj,h.2 j c _ hc (List.getElem?_eq_getElem hj)⟩
mutual
theorem Dv {B:Nat->Prop} (hI:Inv B X): ∀{n:Nat} {v v':V} {u:Value},KX X.σ n v=some v'->Rep X v u->Rep ⟨X.w,[],fun _=>none,X.outerF⟩ v' u
 |0,v,v',u,h,_=>by simp [KX] at h
 |n+1,v,v',u,h,hr=>by
  unfold KX at h;split at h
  ·rename_i id off;split at h
   ·rename_i cells hg;split at h
    ·rename_i hoff;simp only [Rc] at h;obtain ⟨cs,hs,rfl⟩:=h;obtain ⟨cells',b,base,C,rfl,hg',hm⟩:=hr.ptr_inv;rw [hg] at hg';cases hg';obtain ⟨b',ws,ty,k1,k2,k3⟩:=hI.objs id _ hg;rw [hm] at k1;cases k1;have hl:=dC hI hs (k3.drop off);have hlt:b<X.w.heap.size:=(Array.getElem?_eq_some_iff.1 k2).1;refine .fptr (fun j=>ws.getD (off+j) undef) (fun _=>OV hI hlt hg hm) (fun j c hj=> ?_) (fun j c hj=> ?_)
     ·obtain ⟨x,hx,_⟩:=hl.get hj;simp only [List.getElem?_drop,Array.getElem?_toList] at hx;have h1:=(Array.getElem?_eq_some_iff.1 hx).1;simp only [RQ];unfold World.cell?;simp only [k2];simp [h1]
     ·obtain ⟨x,hx,hrx⟩:=hl.get hj;simp only [List.getElem?_drop,Array.getElem?_toList] at hx;have h1:=(Array.getElem?_eq_some_iff.1 hx)
      obtain ⟨h1,h2⟩:=h1;simp [h1,h2,hrx]
    ·cases h
   ·cases h
  ·rename_i id ep rng;split at h
   ·rename_i ep' t l hg;split at h
    ·rename_i hep;have rows: ∀{off m b base C:Nat} {cap:Nat},X.μ id=some (b,base,C)->off+m<=l.length->m<=cap->∀{A:Option Addr},(∃a,A=some a/\(0<m->a=⟨b,base+off*t.cells,none⟩))->
      RepS X.w (Ctx.H ⟨X.w,[],fun _=>none,X.outerF⟩ .tmp) (Ctx.G ⟨X.w,[],fun _=>none,X.outerF⟩) t ((List.drop off l).take m) A m cap:=by
      intro off m b base C cap hm hle hcap A hA;obtain ⟨a,rfl,ha⟩:=hA;obtain ⟨cs,ty,k2,k3,k4,k5,k6⟩:=eQ hI hg hm;have hlt:b<X.w.heap.size:=(Array.getElem?_eq_some_iff.1 k2).1;refine ⟨by simp;omega,hcap,fun h0=>⟨b,base+off*t.cells,by rw [ha h0],⟨OV hI hlt hg hm,fun h=>absurd rfl h⟩,fun i x hx=> ?_⟩⟩;obtain ⟨row,r1,r2⟩:=(k6.drop off m) i x hx;refine ⟨row,r1.keep (fun b hb=>⟨BQ hb,rfl⟩),fun j v hv=> ?_⟩;have:=r2 j v hv;unfold World.cell?;simp only [k2];simp only at this;rw [<-this];simp only [Option.isSome_none,Rx,if_false];congr 1;omega
     obtain ⟨A,len,cap,ep2,t2,l2,rfl,hg',hle,hcur⟩:=hr.slc_inv;rw [hg] at hg';cases hg';have hh:=hcur hep;split at h
     ·simp only [Q9] at h;subst h;refine .list ?_ (fun e=>by cases e);cases hm:X.μ id with
      |none=>
       rw [hm] at hh;simp only [Hdr] at hh;obtain ⟨rfl,rfl,h0⟩:=hh;exact ⟨h0.symm,Rf _,fun h=>absurd h (RY _)⟩
      |some q=>
       obtain ⟨b,base,C⟩:=q;rw [hm] at hh;simp only [Hdr] at hh;obtain ⟨rfl,rfl,hC,a,rfl,ha⟩:=hh;have:=rows (off:=0) (m:=l.length) (cap:=cap) hm (by omega) hC (A:=some a) ⟨a,rfl,fun h0=>by rw [ha (by omega)];simp⟩;simpa using this
     ·rename_i off m;simp only [Q9] at h;subst h;refine .list ?_ (fun e=>by cases e);cases hm:X.μ id with
      |none=>
       rw [hm] at hh;simp only [Hdr] at hh;obtain ⟨rfl,rfl,rfl,rfl,h0⟩:=hh;exact ⟨by simp,Rf _,fun h=>absurd h (RY _)⟩
      |some q=>
       obtain ⟨b,base,C⟩:=q;rw [hm] at hh;simp only [Hdr] at hh;obtain ⟨rfl,h2,hC,rfl,a,rfl,ha⟩:=hh;exact rows hm h2 (by omega) ⟨a,rfl,fun h0=>ha (by omega)⟩
    ·cases h
   ·cases h
  ·cases h
  ·cases h
  ·cases h
  ·rename_i cells;simp only [Rc] at h;obtain ⟨cs,hs,rfl⟩:=h;obtain ⟨b,o,f,rfl,hT,hc,hrc⟩:=hr.fptr_inv;have hl:=dC hI hs (vs:=(List.range cells.length).map f) ⟨by simp,fun j c x hj hx=>by
    simp only [List.getElem?_map,Rc] at hx;obtain ⟨a,ha,rfl⟩:=hx;obtain ⟨h1,h2⟩:=List.getElem?_eq_some_iff.1 ha;simp at h2;subst h2;exact hrc _ c hj⟩
   have hget: ∀{j:Nat} {c:V},cs[j]? =some c->j<cells.length/\Rep ⟨X.w,[],fun _=>none,X.outerF⟩ c (f j):=by
    intro j c hj;obtain ⟨x,hx,hrx⟩:=hl.get hj;simp only [List.getElem?_map,Rc] at hx;obtain ⟨a,ha,rfl⟩:=hx;obtain ⟨h1,h2⟩:=List.getElem?_eq_some_iff.1 ha;simp at h1 h2;subst h2;exact ⟨h1,hrx⟩
   refine .fptr f (fun h0=>vv (hT (by have:=hl.1;simp at this;omega))) (fun j c hj=> ?_) (fun j c hj=>(hget hj).2);exact hc j _ (List.getElem?_eq_getElem (hget hj).1)
  ·rename_i f a b;split at h
   ·rename_i a' b' ha hb;simp only [Q9] at h;subst h;obtain ⟨vs,ws,rfl,h1,h2⟩:=hr.fn_inv;have l1:=dC hI ha h1;have l2:=dC hI hb h2;exact .fn (by simpa using l1.1) (by simpa using l2.1) (fun j c x hc hx=>l1.2 j c x hc (by simpa using hx)) (fun j c x hc hx=>l2.2 j c x hc (by simpa using hx))
   ·cases h
  ·rename_i cells;simp only [Rc] at h;obtain ⟨cs,hs,rfl⟩:=h;obtain ⟨vs,rfl,hl⟩:=hr.agg_inv;exact (dC hI hs hl).agg
  ·rename_i cells;simp only [Rc] at h;obtain ⟨cs,hs,rfl⟩:=h;obtain ⟨vs,rfl,hl⟩:=hr.tuple_inv;have:=dC hI hs hl;exact .tuple (by simpa using this.1) (fun j c x hc hx=>this.2 j c x hc (by simpa using hx))
  ·rename_i t x;simp only [Rc] at h;obtain ⟨x',hs,rfl⟩:=h;cases hr with
   |iface h1=>exact .iface (Dv hI hs h1)
  ·cases h
  ·cases h
  ·cases h
  ·rename_i m cells;simp only [Rc] at h;obtain ⟨cs,hs,rfl⟩:=h;exact hr.rows_re (fun us hl=>dC hI hs hl) (fun b hb=>⟨BQ hb,rfl⟩)
  ·simp only [Q9] at h;subst h;exact .any
  ·rename_i id;split at h
   ·rename_i k d hg;cases h;obtain ⟨k',d',rfl,hg'⟩:=hr.oref_inv;rw [hg] at hg';cases hg';rcases hI.objs id _ hg with ⟨h1,h2⟩|⟨b,base,C,h1,h2,h3⟩
    ·rw [h1];exact .fopq (fun _=>False) (fun _=>h2) (fun b e=>by cases e)
    ·rw [h1];refine .fopq (fun c=>C.testBit c=true) (fun e=>by cases e) (fun b' e=> ?_);cases e;refine ⟨h2,h3,fun c hc=> ?_⟩;have hb:Blk X id (.opq k d) c:=⟨_,h1,hc.elim (fun e=> .inl e.symm) .inr⟩
     exact ⟨⟨hI.ltB hg hb,fun _ _ hg=>by simp [Store.get] at hg⟩,hI.hid _ (hI.baseB _ _ _ hg hb)⟩
   ·cases h
  ·simp only [Q9] at h;subst h;rename_i n1 n2 n3 n4 n5 n6 n7 n8 n9 n10 n11 n12 n13 n14 n15 n16;cases hr with
   |any=>exact .any
   |kb=>exact .kb
   |bool=>exact .bool
   |bq h=>exact .bq h
   |int=>exact .int
   |str h=>exact .str h
   |nilp=>exact .nilp
   |nils=>exact .nils
   |nilm=>exact .nilm
   |nilf=>exact .nilf
   |nili=>exact .nili
   |errN=>exact .errN
   |errS=>exact .errS
   |list h1 h2=>exact .list (h1.keep (fun b hb=>⟨BQ hb,rfl⟩) (fun b hb=>⟨⟨vv hb.1,fun hk=>tp ⟨hb.1,hb.2 hk⟩⟩,rfl⟩)) h2
   |slc _ _ _=>exact (n2 _ _ _ rfl).elim
   |fptr _ _ _ _=>exact (n6 _ rfl).elim
   |ptr _ _=>exact (n1 _ _ rfl).elim
   |own _ _ _=>exact (n15 _ _ rfl).elim
   |oref _=>exact (n16 _ rfl).elim
   |fopq S h1 h2=>exact .fopq S h1 fun b e=>⟨(h2 b e).1,(h2 b e).2.1,fun c hc=>vv ((h2 b e).2.2 c hc)⟩
   |eptr _ _ _=>exact (n3 _ _ _ _ rfl).elim
   |fn _ _ _ _=>exact (n7 _ _ _ rfl).elim
   |agg _ _=>exact (n8 _ rfl).elim
   |tuple _ _=>exact (n9 _ rfl).elim
   |iface _=>exact (n10 _ _ rfl).elim
   |nslc _ _=>exact (n11 _ rfl).elim
   |nptr _ _=>exact (n12 _ _ _ rfl).elim
   |nin _ _ _=>exact (n13 _ _ _ rfl).elim
   |rows _ _ _ _ _=>exact (n14 _ _ rfl).elim
theorem dC {B:Nat->Prop} (hI:Inv B X): ∀{n:Nat} {cs cs':List V} {vs:List Value},gV X.σ n cs=some cs'->RepL X cs vs->RepL ⟨X.w,[],fun _=>none,X.outerF⟩ cs' vs
 |0,cs,cs',vs,h,_=>by simp [gV] at h
 |n+1,[],cs',vs,h,hr=>by
  simp only [gV,Q9] at h;subst h;rw [hr.nil_inv];exact .nil
 |n+1,c::cs,cs',vs,h,hr=>by
  unfold gV at h;split at h
  ·rename_i v' r' h1 h2;simp only [Q9] at h;subst h;obtain ⟨v,us,rfl,r1,r2⟩:=hr.cons_inv;exact .cons (Dv hI h1 r1) (dC hI h2 r2)
  ·cases h
end
end
end Go.Vm
