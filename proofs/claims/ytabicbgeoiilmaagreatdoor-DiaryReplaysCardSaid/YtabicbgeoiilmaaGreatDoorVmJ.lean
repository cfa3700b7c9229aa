import Derived.Test.YtabicbgeoiilmaaGreatDoorVmI
namespace Go.Vm
open Go.RowKit (Below)
def look:List (Nat×Nat)->Nat->Option Nat
 |[],_=>none
 |(i,j)::r,k=>if i=k then some j else look r k
theorem zk: ∀{N:List (Nat×Nat)} {i j:Nat},look N i=some j->(i,j)∈N
 |(a,b)::r,i,j,h=>by
  simp only [look] at h;split at h
  ·rename_i e;subst e;cases h;simp
  ·exact Rq _ (zk h)
mutual
def Ci (N:List (Nat×Nat)) (e:Nat->Nat) (τ:Store):Nat->V->Option V
 |0,_=>none
 |n+1,v=>match v with
  | .slc id ep rng=>match τ.get id,look N id with
   |some (.arr ep' _ _),some j=>if ep=ep' then some (.slc j (e j) rng) else none
   |_,_=>none
  | .ptr id off=>match look N id with
   |some j=>some (.ptr j off)
   |none=>none
  | .own id T=>match look N id with
   |some j=>some (.own j T)
   |none=>none
  | .eptr id ep i off=>match τ.get id,look N id with
   |some (.arr ep' _ _),some j=>if ep=ep' then some (.eptr j (e j) i off) else none
   |_,_=>none
  | .fptr cells=>(mf N e τ n cells).map .fptr
  | .agg cells=>(mf N e τ n cells).map .agg
  | .tuple cells=>(mf N e τ n cells).map .tuple
  | .fn f a b=>match mf N e τ n a,mf N e τ n b with
   |some a',some b'=>some (.fn f a' b')
   |_,_=>none
  | .iface t x=>(Ci N e τ n x).map (.iface t)
  | .olist _ _=>none
  | .optr _=>none
  | .rows m cells=>(mf N e τ n cells).map (.rows m)
  | .nslc _=>none
  | .nptr _ _ _=>none
  | .nin _ _ _=>none
  | .oref id=>match look N id with
   |some j=>some (.oref j)
   |none=>none
  |v=>some v
def mf (N:List (Nat×Nat)) (e:Nat->Nat) (τ:Store):Nat->List V->Option (List V)
 |0,_=>none
 |_+1,[]=>some []
 |n+1,v::r=>match Ci N e τ n v,mf N e τ n r with
  |some v',some r'=>some (v'::r')
  |_,_=>none
end
def Named (X:Ctx) (L:Ent) (e:Nat->Nat) (i j:Nat):Prop:=
 Ent.find L j=some i/\((∃cells cells',X.σ.get i=some (.box cells)/\(bare L).get j=some (.box cells'))∨
  (∃ep t l,X.σ.get i=some (.arr ep t l)/\(bare L).get j=some (.arr (e j) t l))∨
  ∃k d,X.σ.get i=some (.opq k d)/\(bare L).get j=some (.opq k d))
section
variable {X:Ctx} {L:Ent} {N:List (Nat×Nat)} {e:Nat->Nat}
theorem Named.mu {i j:Nat} (h:Named X L e i j):(X.to L).μ j=X.μ i:=by
 show gw L X.μ j=X.μ i;simp [gw,h.1]
mutual
theorem Cj (hF:eT X L) (hN: ∀i j,look N i=some j->Named X L e i j): ∀{n:Nat} {v v':V} {u:Value},Ci N e X.σ n v=some v'->Rep X v u->Rep (X.to L) v' u
 |0,v,v',u,h,_=>by simp [Ci] at h
 |n+1,v,v',u,h,hr=>by
  unfold Ci at h;cases hr with
  |any=>cases h;exact .any
  |kb=>cases h;exact .kb
  |bool=>cases h;exact .bool
  |bq hp=>cases h;exact .bq hp
  |int=>cases h;exact .int
  |str hs=>cases h;exact .str hs
  |nilp=>cases h;exact .nilp
  |nils=>cases h;exact .nils
  |nilm=>cases h;exact .nilm
  |nilf=>cases h;exact .nilf
  |nili=>cases h;exact .nili
  |errN=>cases h;exact .errN
  |errS=>cases h;exact .errS
  |list h1 h2=>cases h;exact .list (h1.keep (fun b hb=>⟨⟨nk hF hb.1,hb.2⟩,rfl⟩) (fun b hb=>⟨⟨nk hF hb.1,hb.2⟩,rfl⟩)) h2
  |slc hg he hh=>
   simp only [hg] at h;split at h
   ·rename_i ep' t' l' j h1 h2;cases h1;split at h
    ·rename_i e1;cases h;have hj:=hN _ _ h2;rcases hj.2 with ⟨c,c',k1,_⟩|⟨ep2,t2,l2,k1,k2⟩|⟨_,_,k1,_⟩
     rotate_left 2
     ·rw [hg] at k1;cases k1
     ·rw [hg] at k1;cases k1
     ·rw [hg] at k1;cases k1;exact .slc k2 (Rf _) (fun _=>by rw [hj.mu];exact hh e1)
    ·cases h
   ·cases h
  | @fptr cells b o f h1 h2 h3=>
   simp only [Rc] at h;obtain ⟨cs,h4,rfl⟩:=h;have h5:=fi hF hN (vs:=(List.range cells.length).map f) h4 ⟨by simp,fun j c u hc hu=>by
    have hj:=(List.getElem?_eq_some_iff.1 hc).1;simp only [List.getElem?_map,List.getElem?_range hj,R8,Q9] at hu;subst hu;exact h3 j c hc⟩
   have hl:cs.length=cells.length:=by have:=h5.1;simp only [RI,List.length_range] at this;exact this.symm
   refine .fptr f (fun h0=>nk hF (h1 (by omega))) (fun j c hj=> ?_) (fun j c hj=> ?_)
   ·have hj':=(List.getElem?_eq_some_iff.1 hj).1;exact h2 j _ (List.getElem?_eq_getElem (by omega))
   ·have hj':=(List.getElem?_eq_some_iff.1 hj).1;exact h5.2 j c (f j) hj (by simp [List.getElem?_range (show j<cells.length by rw [<-hl];exact hj')])
  |ptr hg hm=>
   simp only at h;split at h
   ·rename_i j h2;cases h;have hj:=hN _ _ h2;rcases hj.2 with ⟨c,c',k1,k2⟩|⟨ep2,t2,l2,k1,k2⟩|⟨_,_,k1,_⟩
    rotate_left 2
    ·rw [hg] at k1;cases k1
    ·exact .ptr k2 (hj.mu.trans hm)
    ·rw [hg] at k1;cases k1
   ·cases h
  |own hg hm hu=>
   simp only at h;split at h
   ·rename_i j h2;cases h;have hj:=hN _ _ h2;rcases hj.2 with ⟨c,c',k1,k2⟩|⟨ep2,t2,l2,k1,k2⟩|⟨_,_,k1,_⟩
    rotate_left 2
    ·rw [hg] at k1;cases k1
    ·exact .own k2 (hj.mu.trans hm) hu
    ·rw [hg] at k1;cases k1
   ·cases h
  |eptr hg he hh=>
   simp only [hg] at h;split at h
   ·rename_i ep' t' l' j h1 h2;cases h1;split at h
    ·rename_i e1;cases h;have hj:=hN _ _ h2;rcases hj.2 with ⟨c,c',k1,_⟩|⟨ep2,t2,l2,k1,k2⟩|⟨_,_,k1,_⟩
     rotate_left 2
     ·rw [hg] at k1;cases k1
     ·rw [hg] at k1;cases k1
     ·rw [hg] at k1;cases k1;exact .eptr k2 (Rf _) (fun _=>by rw [hj.mu];exact hh e1)
    ·cases h
   ·cases h
  |rows f h1 h2 h3 h4=>
   simp only [Rc] at h;obtain ⟨cs,hs,rfl⟩:=h;exact (Rep.rows f h1 h2 h3 h4).rows_re (fun us hl=>fi hF hN hs hl) (fun b hb=>⟨⟨nk hF hb.1,hb.2⟩,rfl⟩)
  |nslc _ _=>cases h
  |nptr _ _=>cases h
  |nin _ _ _=>cases h
  |fopq S h1 h2=>cases h;exact .fopq S h1 fun b e=>⟨(h2 b e).1,(h2 b e).2.1,fun c hc=>nk hF ((h2 b e).2.2 c hc)⟩
  |oref hg=>
   simp only at h;split at h
   ·rename_i j h2;cases h;have hj:=hN _ _ h2;rcases hj.2 with ⟨c,c',k1,k2⟩|⟨ep2,t2,l2,k1,k2⟩|⟨k,d,k1,k2⟩
    ·rw [hg] at k1;cases k1
    ·rw [hg] at k1;cases k1
    ·rw [hg] at k1;cases k1;rw [<-hj.mu];exact .oref k2
   ·cases h
  |fn h1 h2 h3 h4=>
   simp only at h;split at h
   ·rename_i a' b' ha hb;cases h;have l1:=fi hF hN ha (RepL.ofArr h1 h3);have l2:=fi hF hN hb (RepL.ofArr h2 h4);exact .fn (by simpa using l1.1) (by simpa using l2.1) (fun j c x hc hx=>l1.2 j c x hc (by simpa using hx)) (fun j c x hc hx=>l2.2 j c x hc (by simpa using hx))
   ·cases h
  |agg h1 h2=>
   simp only [Rc] at h;obtain ⟨cs,h4,rfl⟩:=h;have l1:=fi hF hN h4 (RepL.ofArr h1 h2);exact .agg (by simpa using l1.1) (fun j c x hc hx=>l1.2 j c x hc (by simpa using hx))
  |tuple h1 h2=>
   simp only [Rc] at h;obtain ⟨cs,h4,rfl⟩:=h;have l1:=fi hF hN h4 (RepL.ofArr h1 h2);exact .tuple (by simpa using l1.1) (fun j c x hc hx=>l1.2 j c x hc (by simpa using hx))
  |iface h1=>
   simp only [Rc] at h;obtain ⟨cs,h4,rfl⟩:=h;exact .iface (Cj hF hN h4 h1)
theorem fi (hF:eT X L) (hN: ∀i j,look N i=some j->Named X L e i j): ∀{n:Nat} {cs cs':List V} {vs:List Value},mf N e X.σ n cs=some cs'->RepL X cs vs->RepL (X.to L) cs' vs
 |0,cs,cs',vs,h,_=>by simp [mf] at h
 |n+1,[],cs',vs,h,hr=>by
  simp only [mf,Q9] at h;subst h;rw [hr.nil_inv];exact .nil
 |n+1,c::cs,cs',vs,h,hr=>by
  unfold mf at h;split at h
  ·rename_i v1 r1 h1 h2;cases h;obtain ⟨u,us,rfl,k1,k2⟩:=hr.cons_inv;exact .cons (Cj hF hN h1 k1) (fi hF hN h2 k2)
  ·cases h
end
end
def nx (N:List (Nat×Nat)) (e:Nat->Nat) (τ:Store) (i j:Nat):Option Obj:=
 match τ.get i with
 |some (.box cells)=>(mf N e τ 60 cells).map .box
 |some (.arr _ t l)=>some (.arr (e j) t l)
 |some (.nest ..)=>none
 |some (.opq k d)=>some (.opq k d)
 |none=>none
def iF (N:List (Nat×Nat)) (e:Nat->Nat) (τ:Store):List (Nat×Nat)->Option Ent
 |[]=>some []
 |(i,j)::r=>match nx N e τ i j,iF N e τ r with
  |some o,some L=>some ((j,some i,o)::L)
  |_,_=>none
theorem rB {N:List (Nat×Nat)} {e:Nat->Nat} {τ:Store}: ∀{M:List (Nat×Nat)} {L:Ent},iF N e τ M=some L->
 (∀i j,(i,j)∈M->∃o,nx N e τ i j=some o/\(j,some i,o)∈L)/\∀x,x∈L->∃i j o,x=(j,some i,o)/\(i,j)∈M/\nx N e τ i j=some o
 |[],L,h=>by simp only [iF,Q9] at h;subst h;simp
 |(a,b)::r,L,h=>by
  simp only [iF] at h;split at h
  ·rename_i o L' h1 h2;cases h;obtain ⟨k1,k2⟩:=rB h2;refine ⟨fun i j hm=> ?_,fun x hx=> ?_⟩
   ·simp only [Rp,Prod.mk.injEq] at hm;rcases hm with ⟨rfl,rfl⟩|hm
    ·exact ⟨o,h1,by simp⟩
    ·obtain ⟨o',k3,k4⟩:=k1 i j hm;exact ⟨o',k3,Rq _ k4⟩
   ·simp only [Rp] at hx;rcases hx with rfl|hx
    ·exact ⟨a,b,o,rfl,by simp,h1⟩
    ·obtain ⟨i,j,o',k3,k4,k5⟩:=k2 x hx;exact ⟨i,j,o',k3,Rq _ k4,k5⟩
  ·cases h
def bE:List (Nat×Nat×Ty)->Ent
 |[]=>[]
 |(i,ep,t)::r=>(i,none, .arr ep t [])::bE r
theorem rC: ∀{D:List (Nat×Nat×Ty)} {i:Nat} {s:Option Nat} {o:Obj},(i,s,o)∈bE D->s=none/\∃ep t,o= .arr ep t []
 |(a,ep,t)::r,i,s,o,h=>by
  simp only [bE,Rp,Prod.mk.injEq] at h;rcases h with ⟨rfl,rfl,rfl⟩|h
  ·exact ⟨rfl,ep,t,rfl⟩
  ·exact rC h
theorem DO {B:Nat->Prop} {X:Ctx} (hI:Inv B X) (hp:X.F.pin=[]) {N:List (Nat×Nat)} {e:Nat->Nat} {D:List (Nat×Nat×Ty)} {M:Ent} (h:iF N e X.σ N=some M)
 (n1:bP (dv (M++bE D))=true) (n2:bP (cC (M++bE D))=true):
 Inv B (X.to (M++bE D))/\(∀{n:Nat} {v v':V} {u:Value},Ci N e X.σ n v=some v'->Rep X v u->Rep (X.to (M++bE D)) v' u)/\
  (∀{n:Nat} {cs cs':List V} {us:List Value},mf N e X.σ n cs=some cs'->RepL X cs us->RepL (X.to (M++bE D)) cs' us)/\(∀b,X.T0 b->(X.to (M++bE D)).T0 b)/\
  ∀i j,(i,j)∈N->Named X (M++bE D) e i j:=by
 obtain ⟨m1,m2⟩:=rB h;have hN: ∀i j,(i,j)∈N->Named X (M++bE D) e i j:=by
  intro i j hm;obtain ⟨o,h1,h2⟩:=m1 i j hm;obtain ⟨k1,k2⟩:=cx n1 (R7 _ h2);refine ⟨k2, ?_⟩;unfold nx at h1;split at h1
  ·rename_i cells hg;simp only [Rc] at h1;obtain ⟨cs,_,rfl⟩:=h1;exact .inl ⟨cells,cs,hg,k1⟩
  ·rename_i ep t l hg;cases h1;exact .inr (.inl ⟨ep,t,l,hg,k1⟩)
  ·cases h1
  ·rename_i k d hg;cases h1;exact .inr (.inr ⟨k,d,hg,k1⟩)
  ·cases h1
 have hF:eT X (M++bE D):=by
  intro i s o hm;rcases Rn.1 hm with hm|hm
  ·obtain ⟨a,b,o',h1,h2,h3⟩:=m2 _ hm;cases h1;unfold nx at h3;split at h3
   ·rename_i cells hg;simp only [Rc] at h3;obtain ⟨cs,_,rfl⟩:=h3;exact ⟨_,hg, .inr (.inl ⟨_,_,rfl,rfl⟩)⟩
   ·rename_i ep t l hg;cases h3;exact ⟨_,hg, .inl ⟨_,_,_,_,rfl,rfl⟩⟩
   ·cases h3
   ·rename_i k d hg;cases h3;exact ⟨_,hg, .inr (.inr (.inr ⟨_,_,rfl,rfl⟩))⟩
   ·cases h3
  ·obtain ⟨rfl,ep,t,rfl⟩:=rC hm;exact ⟨ep,t,rfl⟩
 have hN': ∀i j,look N i=some j->Named X (M++bE D) e i j:=fun i j hl=>hN i j (zk hl);refine ⟨BT hI hF n2 (fun e he=>by simp [hp] at he) (fun i src cells cells' hm hg vs hv=> ?_),fun h1 h2=>Cj hF hN' h1 h2,fun h1 h2=>fi hF hN' h1 h2,fun b hb=>La hF hb,hN⟩;rcases Rn.1 hm with hm|hm
 ·obtain ⟨a,b,o',h1,h2,h3⟩:=m2 _ hm;cases h1;unfold nx at h3;rw [hg] at h3;simp only [Rc] at h3;obtain ⟨cs,h4,h5⟩:=h3;cases h5;exact fi hF hN' h4 hv
 ·obtain ⟨h1,_⟩:=rC hm;cases h1
end Go.Vm
namespace Go.Vm
open Go.RowKit (Below)
def UpdC (P:Program) (f:FuncId) (args:List V) (σ:Store) (r:V) (σ':Store):Prop:=
 ∀(B:Nat->Prop) (F:Fr) (w:World) (μ:Mu) (vs:List Value),F.pin=[]->Inv B ⟨w,σ,μ,F⟩->(∀b,w.heap.size<=b->B b)->RepL ⟨w,σ,μ,F⟩ args vs->
  Calls P f vs.toArray w fun e w'=> ∃u,e= .returned u/\∃μ',Inv B ⟨w',σ',μ',F⟩/\Rep ⟨w',σ',μ',F⟩ r u/\Since ⟨w,σ,μ,F⟩ ⟨w',σ',μ',F⟩/\
   (∀c cells,σ.get c=some (.box cells)->(∃cells',σ'.get c=some (.box cells'))/\μ' c=μ c)/\
   ∀c k d,σ.get c=some (.opq k d)->(∃d',σ'.get c=some (.opq k d'))/\(μ' c).map (·.1)=(μ c).map (·.1)
mutual
def LE (σ:Store):Nat->List Nat->V->List Nat
 |0,acc,_=>acc
 |n+1,acc,v=>match v with
  | .slc id _ _=>if acc.contains id then acc else acc++[id]
  | .own id _=>if acc.contains id then acc else acc++[id]
  | .eptr id _ _ _=>if acc.contains id then acc else acc++[id]
  | .oref id=>if acc.contains id then acc else acc++[id]
  | .ptr id _=>if acc.contains id then acc else match σ.get id with
   |some (.box cells)=>gy σ n (acc++[id]) cells
   |_=>acc++[id]
  | .fptr cells=>gy σ n acc cells
  | .rows _ cells=>gy σ n acc cells
  | .agg cells=>gy σ n acc cells
  | .tuple cells=>gy σ n acc cells
  | .fn _ a b=>gy σ n (gy σ n acc a) b
  | .iface _ x=>LE σ n acc x
  |_=>acc
def gy (σ:Store):Nat->List Nat->List V->List Nat
 |0,acc,_=>acc
 |_+1,acc,[]=>acc
 |n+1,acc,v::r=>gy σ n (LE σ n acc v) r
end
def sub (σ:Store):List Nat->Store
 |[]=>[]
 |k::r=>match σ.get k with
  |some o=>(k,o)::sub σ r
  |none=>sub σ r
theorem mg {σ:Store}: ∀{ks:List Nat} {k:Nat} {o:Obj},(sub σ ks).get k=some o->k∈ks/\σ.get k=some o
 |[],k,o,h=>by simp [sub,Store.get] at h
 |a::r,k,o,h=>by
  simp only [sub] at h;split at h
  ·rename_i o' ho;simp only [Store.get] at h;split at h
   ·rename_i e;subst e;cases h;exact ⟨by simp,ho⟩
   ·obtain ⟨h1,h2⟩:=mg h;exact ⟨Rq _ h1,h2⟩
  ·obtain ⟨h1,h2⟩:=mg h;exact ⟨Rq _ h1,h2⟩
def ny:Nat->List Nat->List (Nat×Nat)
 |_,[]=>[]
 |n,k::r=>(k,n)::ny (n+1) r
theorem rD: ∀{ks:List Nat} {n k:Nat},k∈ks->∃c,(k,c)∈ny n ks
 |a::r,n,k,h=>by
  simp only [Rp] at h;rcases h with rfl|h
  ·exact ⟨n,by simp [ny]⟩
  ·obtain ⟨c,hc⟩:=rD (n:=n+1) h;exact ⟨c,by simp [ny,hc]⟩
def OZ (τ:Store) (ks:List Nat):Bool:=ks.all fun k=>match τ.get k with
 |some (.box cells)=>lR τ 60 cells
 |_=>true
theorem OI {σ:Store} {ks:List Nat} (h:OZ (sub σ ks) ks=true):Part σ (sub σ ks):=
 ⟨fun _ _ hg=>(mg hg).2,fun k cells hg=>by
  have:=RL.1 h k (mg hg).1;rw [hg] at this;exact this⟩
def DQ (σ':Store):List (Nat×Nat)->List (Nat×Nat)
 |[]=>[]
 |(i,c)::r=>match σ'.get c with
  |some _=>(c,i)::DQ σ' r
  |none=>DQ σ' r
def OJ (N:List (Nat×Nat)):Store->List Nat->Nat->List (Nat×Nat)
 |[],_,_=>[]
 |(c,_)::r,seen,k=>if seen.contains c||(N.any fun p=>p.2==c) then OJ N r seen k else (c,k)::OJ N r (c::seen) (k+1)
def LF (σ:Store) (j:Nat):Nat:=match σ.get j with
 |some (.arr ep _ _)=>ep+1
 |_=>0
def tM (τ:Store) (M:Ent):List Nat->List (Nat×Nat×Ty)
 |[]=>[]
 |k::r=>match τ.get k with
  |some (.arr ep t _)=>if (dv M).contains k then tM τ M r else (k,ep+1,t)::tM τ M r
  |_=>tM τ M r
def QZ (τ:Store) (L:Ent) (N:List (Nat×Nat)):Bool:=N.all fun p=>match τ.get p.1 with
 |some (.box _)=>match (bare L).get p.1 with
  |some (.box _)=>Ent.find L p.1==some p.2
  |_=>false
 |some (.arr ep t _)=>match (bare L).get p.1 with
  |some (.arr ep' t' _)=>decide (t'=t)&&Nat.blt ep ep'
  |_=>false
 |some (.nest ..)=>false
 |some (.opq k _)=>match (bare L).get p.1 with
  |some (.opq k' _)=>decide (k'=k)&&(Ent.find L p.1==some p.2)
  |_=>false
 |none=>true
def Qw (σ τ:Store) (ks:List Nat):Bool:=ks.all fun k=>(τ.get k).isSome||cu σ k
def Ck (run:List V->Store->Option (Prop×V×Store)) (args:List V) (σ:Store):Option (Prop×V×Store):=
 let ks:=gy σ 60 [] args
 let τ:=sub σ ks
 let N:=ny 9000 ks
 if lR τ 60 args&&OZ τ ks then
  match mf N (fun _=>0) τ 60 args,iF N (fun _=>0) τ N with
  |some cargs,some L=>
   if bP (dv (L++bE []))&&bP (cC (L++bE [])) then
    match run cargs (bare (L++bE [])) with
    |some (pre,r,σ')=>
     let Nb:=DQ σ' N++OJ N σ' [] (100000+100*σ.length)
     match Ci Nb (LF σ) σ' 60 r,iF Nb (LF σ) σ' Nb with
     |some r',some M=>
      let Lb:=M++bE (tM τ M ks)
      if bP (dv Lb)&&bP (cC Lb)&&QZ τ Lb N&&Qw σ τ (dv Lb) then some (pre,r',bare Lb) else none
     |_,_=>none
    |none=>none
   else none
  |_,_=>none
 else none
theorem Qx {P:Program} {f:FuncId} {run:List V->Store->Option (Prop×V×Store)} (hrun: ∀args σ pre r σ',run args σ=some (pre,r,σ')->pre->UpdC P f args σ r σ')
 {args:List V} {σ:Store} {pre:Prop} {r:V} {new:Store} (h:Ck run args σ=some (pre,r,new)) (hp:pre):Upd P f args σ r (new++σ):=by
 intro B F w μ vs hI hB hr;unfold Ck at h;simp only at h;generalize hks:gy σ 60 [] args=ks at h;generalize hN:ny 9000 ks=N at h;split at h
 ·rename_i hc;simp only [Ri] at hc;obtain ⟨hin,hcl⟩:=hc;split at h
  ·rename_i cargs L hca hL;split at h
   ·rename_i hn;simp only [Ri] at hn;split at h
    ·rename_i pre' r0 σ' hrn;generalize hNb:DQ σ' N++OJ N σ' [] (100000+100*σ.length)=Nb at h;split at h
     ·rename_i r' M hr' hM;generalize hLb:M++bE (tM (sub σ ks) M ks)=Lb at h;split at h
      ·rename_i hm;cases h;simp only [Ri] at hm;obtain ⟨⟨⟨n3,n4⟩,hst⟩,hap⟩:=hm;have hpart:=OI hcl;have hIc:=Inv.cut hI hpart;have hrc:=RepL.cutA hpart hin hr;obtain ⟨i1,_,i3,i4,i5⟩:=DO hIc rfl (D:=[]) hL hn.1 hn.2;have hr1:=i3 hca hrc;have htop: ∀b,w.heap.size<=b->B b/\¬Ctx.restB ⟨w,σ,μ,F⟩ (sub σ ks) b:=fun b hb=>⟨hB b hb,fun ⟨k2,o2,_,q1,q2⟩=>by
        have:=hI.ltB q1 q2;have h5:b<w.heap.size:=this;omega⟩
       have hr1:=i3 hca hrc;refine (hrun _ _ _ _ _ hrn hp _ (Ctx.cutF ⟨w,σ,μ,F⟩ (sub σ ks)) w _ vs rfl i1 htop hr1).mono fun e w' ⟨u,he,μ2,hI2,hr2,hs,hbx,hox⟩=>⟨u,he, ?_⟩
       have hren:=DO hI2 rfl (D:=tM (sub σ ks) M ks) hM (by rw [hLb];exact n3) (by rw [hLb];exact n4);rw [hLb] at hren;obtain ⟨j1,j2,_,j4,_⟩:=hren;have hmemN: ∀{k:Nat} {o:Obj},(sub σ ks).get k=some o->∃c,(k,c)∈N:=fun hg=>by
        rw [<-hN];exact rD (mg hg).1
       have hstay: ∀{k c:Nat},(k,c)∈N->_:=fun {k c} hm=>RL.1 hst (k,c) hm;have hE:Evo (Ctx.cut ⟨w,σ,μ,F⟩ (sub σ ks)) ⟨w',bare Lb,gw Lb μ2,Ctx.cutF ⟨w,σ,μ,F⟩ (sub σ ks)⟩:=by
        refine ⟨hs.os,hs.tape,hs.output,hs.size,rfl,fun b hb=> ?_,fun id cells hg=> ?_,fun id ep t l hg=> ?_,fun id iv t f h l hg=> ?_,fun id kd d hg=> ?_⟩
        ·obtain ⟨q1,q2⟩:=hs.still b (i4 b hb);exact ⟨j4 b q1,q2⟩
        ·obtain ⟨c,hc⟩:=hmemN hg;have h1:=hstay hc;have hg':(sub σ ks).get id=some (.box cells):=hg;rw [hg'] at h1;simp only at h1;split at h1
         ·rename_i cells' hb;have h2:Ent.find Lb id=some c:=by simpa using h1
          obtain ⟨q1,q2⟩:=i5 id c hc;obtain ⟨cells2,q3⟩: ∃cells2,(bare (L++bE [])).get c=some (.box cells2):=by
           rcases q2 with ⟨_,cells2,_,q4⟩|⟨_,_,_,q4,_⟩|⟨_,_,q4,_⟩
           ·exact ⟨_,q4⟩
           ·rw [show (Ctx.cut ⟨w,σ,μ,F⟩ (sub σ ks)).σ.get id=_ from hg] at q4;cases q4
           ·rw [show (Ctx.cut ⟨w,σ,μ,F⟩ (sub σ ks)).σ.get id=_ from hg] at q4;cases q4
          obtain ⟨_,q5⟩:=hbx _ _ q3;refine ⟨⟨cells',hb⟩, ?_⟩;show (Ent.find Lb id).bind μ2=μ id;rw [h2];show μ2 c=μ id;rw [q5];show (Ent.find _ c).bind μ=μ id;rw [q1];rfl
         ·cases h1
        ·obtain ⟨c,hc⟩:=hmemN hg;have h1:=hstay hc;have hg':(sub σ ks).get id=some (.arr ep t l):=hg;rw [hg'] at h1;simp only at h1;split at h1
         ·rename_i ep' t' l' hb;simp only [Ri,Q7] at h1;obtain ⟨rfl,h2⟩:=h1;have h2:ep<ep':=by simpa [Nat.blt_eq] using h2
          exact ⟨ep',l',hb,Nat.le_of_lt h2,fun e=>by omega⟩
         ·cases h1
        ·obtain ⟨c,hc⟩:=hmemN hg;have h1:=hstay hc;have hg':(sub σ ks).get id=some (.nest iv t f h l):=hg;rw [hg'] at h1;cases h1
        ·obtain ⟨c,hc⟩:=hmemN hg;have h1:=hstay hc;have hg':(sub σ ks).get id=some (.opq kd d):=hg;rw [hg'] at h1;simp only at h1;split at h1
         ·rename_i kd' d' hb;simp only [Ri,Q7,beq_iff_eq] at h1;obtain ⟨rfl,h2⟩:=h1;obtain ⟨q1,q2⟩:=i5 id c hc;obtain ⟨d2,q3⟩: ∃d2,(bare (L++bE [])).get c=some (.opq kd' d2):=by
           rcases q2 with ⟨_,_,q4,_⟩|⟨_,_,_,q4,_⟩|⟨_,d2,q4,q6⟩
           ·rw [show (Ctx.cut ⟨w,σ,μ,F⟩ (sub σ ks)).σ.get id=_ from hg] at q4;cases q4
           ·rw [show (Ctx.cut ⟨w,σ,μ,F⟩ (sub σ ks)).σ.get id=_ from hg] at q4;cases q4
           ·rw [show (Ctx.cut ⟨w,σ,μ,F⟩ (sub σ ks)).σ.get id=_ from hg] at q4;cases q4;exact ⟨_,q6⟩
          obtain ⟨_,q5⟩:=hox _ _ _ q3;refine ⟨⟨d',hb⟩, ?_⟩;show ((Ent.find Lb id).bind μ2).map (·.1)=(μ id).map (·.1);rw [h2];show (μ2 c).map (·.1)=(μ id).map (·.1);rw [q5];show ((Ent.find _ c).bind μ).map (·.1)=(μ id).map (·.1);rw [q1];rfl
         ·cases h1
       have hkey: ∀{k:Nat} {o:Obj},(bare Lb).get k=some o->(sub σ ks).get k≠none∨σ.get k=none:=by
        intro k o hg;have h1:=RL.1 hap k (vz (lU hg));simp only [RT] at h1;rcases h1 with h1|h1
        ·exact .inl (fun e=>by rw [e] at h1;cases h1)
        ·refine .inr ?_;unfold cu at h1;split at h1
         ·assumption
         ·cases h1
       obtain ⟨μ3,k1,k2,k3⟩:=iy (σ':=bare Lb++σ) hI hpart j1 hE (fun k hk=>by
        have hn:(bare Lb).get k=none:=by
         cases hg:(bare Lb).get k with
         |none=>rfl
         |some o=>
          obtain ⟨⟨o',h1⟩,h2⟩:=hk;rcases hkey hg with h3|h3
          ·exact absurd h2 h3
          ·rw [show σ.get k=_ from h1] at h3;cases h3
        exact ⟨by rw [cp,hn];rfl,hn⟩) (fun k hk=>by
        rw [cp];cases hg:(bare Lb).get k with
        |some o=>rfl
        |none=>
         show σ.get k=none;cases h1:σ.get k with
         |none=>rfl
         |some o=>
          exfalso;refine hk ⟨⟨o,h1⟩, ?_⟩;cases h2:(sub σ ks).get k with
          |none=>rfl
          |some o2=>
           exfalso;obtain ⟨c,hc⟩:=hmemN h2;have h3:=hstay hc;rw [h2] at h3;simp only [hg] at h3;cases o2<;>cases h3)
       exact ⟨μ3,k1,k3 _ _ (j2 hr' hr2),k2⟩
      ·cases h
     ·cases h
    ·cases h
   ·cases h
  ·cases h
 ·cases h
end Go.Vm
namespace Go.Vm
open Go.RowKit (Below)
theorem Rep.pin {w:World} {σ:Store} {μ:Mu} {o h:Nat->Prop} {p p':List (Nat×Pn)} {g g':{l:List (Nat×_root_.Go.Obj)//wQ l}} {c:V} {v:Value} (hr:Rep ⟨w,σ,μ,⟨o,h,p,g⟩⟩ c v):Rep ⟨w,σ,μ,⟨o,h,p',g'⟩⟩ c v:=by
 induction hr with
 |any=>exact .any
 |kb=>exact .kb
 |bool=>exact .bool
 |bq h=>exact .bq h
 |int=>exact .int
 |str h=>exact .str h
 |nilp=>exact .nilp
 |nils=>exact .nils
 |nilm=>exact .nilm
 |nilf=>exact .nilf
 |nili=>exact .nili
 |errN=>exact .errN
 |errS=>exact .errS
 |list h1 h2=>exact .list h1 h2
 |slc h1 h2 h3=>exact .slc h1 h2 h3
 |fptr f h1 h2 _ ih=>exact .fptr f h1 h2 ih
 |ptr h1 h2=>exact .ptr h1 h2
 |own h1 h2 h3=>exact .own h1 h2 h3
 |eptr h1 h2 h3=>exact .eptr h1 h2 h3
 |rows f h1 h2 h3 _ ih=>exact .rows f h1 h2 h3 ih
 |nslc h1 h2=>exact .nslc h1 h2
 |nptr h1 h2=>exact .nptr h1 h2
 |nin h1 h2 h3=>exact .nin h1 h2 h3
 |oref h1=>exact Rep.oref (X:=⟨w,σ,μ,⟨o,h,p',g'⟩⟩) h1
 |fopq S h1 h2=>exact .fopq S h1 h2
 |fn h1 h2 _ _ ih1 ih2=>exact .fn h1 h2 ih1 ih2
 |agg h1 _ ih=>exact .agg h1 ih
 |tuple h1 _ ih=>exact .tuple h1 ih
 |iface _ ih=>exact .iface ih
theorem RepL.pin {w:World} {σ:Store} {μ:Mu} {o h:Nat->Prop} {p p':List (Nat×Pn)} {g g':{l:List (Nat×_root_.Go.Obj)//wQ l}} {cs:List V} {vs:List Value} (hr:RepL ⟨w,σ,μ,⟨o,h,p,g⟩⟩ cs vs):RepL ⟨w,σ,μ,⟨o,h,p',g'⟩⟩ cs vs:=
 ⟨hr.1,fun j c u hc hu=>(hr.2 j c u hc hu).pin⟩
theorem Inv.pin {B:Nat->Prop} {w:World} {σ:Store} {μ:Mu} {o h:Nat->Prop} {p p':List (Nat×Pn)} {g:{l:List (Nat×_root_.Go.Obj)//wQ l}} (hI:Inv B ⟨w,σ,μ,⟨o,h,p,g⟩⟩)
 (hp: ∀e∈p',Pn.at σ μ e.1 e.2):Inv B ⟨w,σ,μ,⟨o,h,p',g⟩⟩:=by
 exact ⟨fun id ob hg=>ObjOk.move (X:=⟨w,σ,μ,⟨o,h,p,g⟩⟩) rfl (fun _ _=>rfl) (fun _ hb=>⟨hb,rfl⟩) (fun _ _ _ h=>h.pin) (hI.objs id ob hg),hI.injB,hI.baseB,hI.out,hI.vis,⟨hp,hI.marks.gnd⟩⟩
theorem nz: ∀{σ:Store} {k:Nat} {o:Obj},σ.get k=some o->(k,o)∈σ
 |(i,o')::r,k,o,h=>by
  simp only [Store.get] at h;split at h
  ·rename_i e;subst e;cases h;simp
  ·exact Rq _ (nz h)
def LG:Option Obj->Bool
 |some (.box _)=>true
 |_=>false
def DR (pins:List Nat) (σ:Store):Bool:=σ.all fun e=> !(LG (some e.2)||rh (some e.2))||pins.contains e.1
theorem GY {pins:List Nat} {σ:Store} (h:DR pins σ=true) {c:Nat} {cells:List V} (hg:σ.get c=some (.box cells)):c∈pins:=by
 have:=RL.1 h _ (nz hg);simpa [LG,rh] using this
theorem GZ {pins:List Nat} {σ:Store} (h:DR pins σ=true) {c:Nat} {k:OK} {d:k.den} (hg:σ.get c=some (.opq k d)):c∈pins:=by
 have:=RL.1 h _ (nz hg);simpa [LG,rh] using this
def rE (σ:Store) (μ:Mu) (c:Nat):Option (Nat×Pn):=
 match σ.get c with
 |some (.box _)=>(μ c).map fun q=>(c, .box q)
 |some (.opq k _)=>some (c, .opq k ((μ c).map (·.1)))
 |_=>none
theorem G0 {pins:List Nat} {σ:Store} {μ:Mu} {e:Nat×Pn} (h:e∈pins.filterMap (rE σ μ)):e.1∈pins/\Pn.at σ μ e.1 e.2:=by
 obtain ⟨c,hc,he⟩:=List.mem_filterMap.1 h;unfold rE at he;split at he
 ·rename_i cells hg;obtain ⟨q,hq,rfl⟩:=Rc.1 he;exact ⟨hc,⟨_,hg⟩,hq⟩
 ·rename_i k d hg;cases he;exact ⟨hc,⟨_,hg⟩,rfl⟩
 ·cases he
theorem G1 {pins:List Nat} {σ:Store} {μ:Mu} {c:Nat} {cells:List V} {q:Nat×Nat×Nat} (hc:c∈pins) (hg:σ.get c=some (.box cells)) (hm:μ c=some q):(c,Pn.box q)∈pins.filterMap (rE σ μ):=by
 refine List.mem_filterMap.2 ⟨c,hc, ?_⟩;unfold rE;rw [hg];simp only [hm];rfl
theorem G2 {pins:List Nat} {σ:Store} {μ:Mu} {c:Nat} {k:OK} {d:k.den} (hc:c∈pins) (hg:σ.get c=some (.opq k d)):(c,Pn.opq k ((μ c).map (·.1)))∈pins.filterMap (rE σ μ):=by
 refine List.mem_filterMap.2 ⟨c,hc, ?_⟩;unfold rE;rw [hg]
def iI (ann:Ann) (x:Xs ann.pats):Store:=iH ann.pats x++bare (eK ann.boxes ((ca ann.pats x).drop ann.slots.length))
structure OSpec (P:Program) where
 f:FuncId
 run:List V->Store->Option (Prop×V×Store)
 ok: ∀args σ pre r σ',run args σ=some (pre,r,σ')->pre->UpdC P f args σ r σ'
def OSpec.upd {P:Program} (o:OSpec P):UFSpec P:=⟨o.f,Ck o.run,fun _ _ _ _ _ h hp=>Qx o.ok h hp⟩
end Go.Vm
namespace Go.Vm
open Go.RowKit (Below)
def LH (P:Program) (σ:Store) (T:TypeId) (v:V):Option V:=
 match eS P T,dd P T with
 |some g,some n=>match v with
  | .ptr id off=>match σ.get id with
   |some (.box cells)=>(cut cells off n).bind (cf g)
   |_=>none
  | .fptr cells=>(cut cells 0 n).bind (cf g)
  |_=>none
 |_,_=>none
def oE (P:Program) (st:St):List ResultVar->Option (List V)
 |[]=>some []
 | .tmp t::r=>match nth st.s t,oE P st r with
  |some v,some vs=>some (v::vs)
  |_,_=>none
 | .cell a T::r=>match (nth st.s a).bind (LH P st.σ T),oE P st r with
  |some v,some vs=>some (v::vs)
  |_,_=>none
def kr:List V->List (Option Nat)->Option (List V)
 |[],[]=>some []
 |v::r,none::sh=>(kr r sh).map (v:: ·)
 | .agg cs::r,some n::sh=>if cs.length=n then (kr r sh).map (cs++ ·) else none
 |_,_=>none
def nA:List (Option Nat)->List V->List V
 |[],_=>[]
 |none::sh,cs=>cs.take 1++nA sh (cs.drop 1)
 |some n::sh,cs=> .agg (cs.take n)::nA sh (cs.drop n)
theorem LI {X:Ctx}: ∀{vs:List V} {sh:List (Option Nat)} {fs:List V} {us:List Value},kr vs sh=some fs->RepL X vs us->
 ∃gs,RepL X fs gs/\∀{X':Ctx} {fs':List V},RepL X' fs' gs->RepL X' (nA sh fs') us:=by
 intro vs;induction vs with
 |nil=>
  intro sh fs us h hr;cases sh with
  |nil=>
   simp only [kr,Q9] at h;subst h;rw [hr.nil_inv];exact ⟨[], .nil,fun _=> .nil⟩
  |cons a r=>cases a<;>simp [kr] at h
 |cons v r ih=>
  intro sh fs us h hr;obtain ⟨u,us',rfl,h1,h2⟩:=hr.cons_inv;cases sh with
  |nil=>simp [kr] at h
  |cons a sh=>
   cases a with
   |none=>
    simp only [kr,Rc] at h;obtain ⟨fs0,h3,rfl⟩:=h;obtain ⟨gs,k1,k2⟩:=ih h3 h2;refine ⟨u::gs, .cons h1 k1,fun hx=> ?_⟩;simp only [nA];exact (hx.take 1).append (k2 (hx.drop 1))
   |some n=>
    cases v with
    |agg cs=>
     simp only [kr] at h;split at h
     ·rename_i hn;simp only [Rc] at h;obtain ⟨fs0,h3,rfl⟩:=h;obtain ⟨gs,k1,k2⟩:=ih h3 h2;obtain ⟨ws,rfl,h4⟩:=h1.agg_inv;refine ⟨ws.toList++gs,h4.append k1,fun {X' fs'} hx=> ?_⟩;have hl:ws.toList.length=n:=by rw [h4.1];exact hn
      simp only [nA];have t1:=hx.take n;have t2:=hx.drop n;rw [show (ws.toList++gs).take n=ws.toList by rw [<-hl];simp] at t1;rw [show (ws.toList++gs).drop n=gs by rw [<-hl];simp] at t2;exact .cons t1.agg (k2 t2)
     ·cases h
    |_=>simp [kr] at h
theorem LJ {P:Program} {B:Nat->Prop} {X:Ctx} (hI:Inv B X) {T:TypeId} {v c:V} {u:Value} (h:LH P X.σ T v=some c) (hr:Rep X v u):
 ∃ad u',u= .pointer (some ad)/\(loadVar T ad).run P X.w= .ok u' X.w/\Rep X c u':=by
 unfold LH at h;split at h
 ·rename_i g n hg hn;split at h
  ·rename_i id off;split at h
   ·rename_i cells hget;obtain ⟨cells',b,base,C,e,hg',hm⟩:=hr.ptr_inv;rw [hget] at hg';cases hg';obtain ⟨b',cs,ty,k1,k2,k3⟩:=hI.objs id _ hget;rw [hm] at k1;cases k1;obtain ⟨u',h1,h2⟩:=gW (X:=X) hg hn h (b:=b) (o:=0) (fun j=>cs.getD j undef)
     (fun j c hj=>by
      have hlt:j<cs.toList.length:=by rw [k3.1];exact (List.getElem?_eq_some_iff.1 hj).1
      simp at hlt;simp [World.cell?,k2,hlt])
     (fun j c hj=>by
      have hlt:j<cs.toList.length:=by rw [k3.1];exact (List.getElem?_eq_some_iff.1 hj).1
      have:=k3.2 j c _ hj (List.getElem?_eq_getElem hlt);simp at hlt;simpa [hlt] using this)
    exact ⟨_,u',e,h1,h2⟩
   ·cases h
  ·rename_i cells;obtain ⟨b,o',f,e,_,hc,hrc⟩:=hr.fptr_inv;obtain ⟨u',h1,h2⟩:=gW (X:=X) hg hn h (b:=b) (o:=o') f hc hrc;exact ⟨_,u',e,h1,h2⟩
  ·cases h
 ·cases h
theorem nB {P:Program} {B:Nat->Prop} {w:World} {μ:Mu} {F:Fr} {st:St} {tmps:Array Value} (hI:Inv B ⟨w,st.σ,μ,F⟩) (hr:RepL ⟨w,st.σ,μ,F⟩ st.s tmps.toList) (f:ResultVar->Sem Value)
 (f1: ∀t,f (.tmp t)=pure (tmps.getD t undef)) (f2: ∀a T,f (.cell a T)=(do loadVar T (<-asAddr (tmps.getD a undef)))): ∀{rs:List ResultVar} {vs:List V},oE P st rs=some vs->
 ∃us,(rs.mapM f).run P w= .ok us w/\RepL ⟨w,st.σ,μ,F⟩ vs us
 |[],vs,h=>by
  simp only [oE,Q9] at h;subst h;exact ⟨[],by simp, .nil⟩
 | .tmp t::r,vs,h=>by
  simp only [oE] at h;split at h
  ·rename_i v vs' h1 h2;cases h;obtain ⟨us,k1,k2⟩:=nB hI hr f f1 f2 h2;obtain ⟨u,hu,hru⟩:=hr.get h1;simp only [Array.getElem?_toList] at hu;have hu':tmps.getD t undef=u:=by simp [Rv,hu]
   refine ⟨u::us, ?_, .cons hru k2⟩;rw [List.mapM_cons];simp only [Sem.run_bind,Sem.run_pure,Result.andThen_ok,k1,f1,hu']
  ·cases h
 | .cell a T::r,vs,h=>by
  simp only [oE] at h;split at h
  ·rename_i v vs' h1 h2;cases h;obtain ⟨us,k1,k2⟩:=nB hI hr f f1 f2 h2;simp only [Ra] at h1;obtain ⟨v0,h3,h4⟩:=h1;obtain ⟨u,hu,hru⟩:=hr.get h3;simp only [Array.getElem?_toList] at hu;have hu':tmps.getD a undef=u:=by simp [Rv,hu]
   obtain ⟨ad,u',e,h5,h6⟩:=LJ hI h4 hru;refine ⟨u'::us, ?_, .cons h6 k2⟩;rw [List.mapM_cons];rw [e] at hu';have h5':(loadVar T ad).run P w= .ok u' w:=h5;have hfa:(f (.cell a T)).run P w= .ok u' w:=by
    rw [f2,hu'];simp only [asAddr,Sem.run_bind,Sem.run_pure,Result.andThen_ok];exact h5'
   simp only [Sem.run_bind,hfa,Sem.run_pure,Result.andThen_ok,k1]
  ·cases h
theorem vS {P:Program} {B:Nat->Prop} {fn:Func} {w:World} {μ:Mu} {F:Fr} {st:St} {tmps:Array Value} (hI:Inv B ⟨w,st.σ,μ,F⟩) (hr:RepL ⟨w,st.σ,μ,F⟩ st.s tmps.toList) {vs:List V}
 (h:oE P st fn.results.toList=some vs): ∃us,(results fn tmps).run P w= .ok (ma us) w/\RepL ⟨w,st.σ,μ,F⟩ vs us:=by
 unfold results;have h0:fn.results=fn.results.toList.toArray:=by simp
 obtain ⟨us,h1,h2⟩:=nB hI hr (fun| .tmp t=>pure (tmps.getD t undef)| .cell a t=>do loadVar t (<-asAddr (tmps.getD a undef))) (fun t=>rfl) (fun a T=>rfl) h;refine ⟨us, ?_,h2⟩;rw [h0,List.mapM_toArray];simp only [Sem.run_bind];rw [map_eq_pure_bind];simp only [Sem.run_bind];erw [h1];simp only [Result.andThen_ok,Sem.run_pure];congr 1;match us with
 |[]=>simp [ma]
 |[t]=>simp [ma]
 |t::t2::r=>simp [ma]
def G3 (P:Program) (rs:List ResultVar) (sh:List (Option Nat)) (pins:List Nat) (ann:Ann) (x:Xs ann.pats) (st:St):Prop:=
 match (oE P st rs).bind fun vs=>kr vs sh with
 |some fs=>if fs.length=ann.slots.length then vC pins ann [] ⟨fs,st.σ⟩ ⟨fs,st.σ⟩ fun y=>y=x else False
 |none=>False
def qy (P:Program) (rs:List ResultVar) (sh:List (Option Nat)) (pins:List Nat) (ann:Ann) (x:Xs ann.pats):Leaf->St->Prop
 | .normal,st=>G3 P rs sh pins ann x st
 | .ret,st=>G3 P rs sh pins ann x st
 | .exit _,_=>False
 | .goto _,_=>False
def bB:Nat->List Pat->List (Nat×Pat)
 |_,[]=>[]
 |n,p::r=>(n,p)::bB (n+1) r
def rY (sh:List (Option Nat)) (ann:Ann) (x:Xs ann.pats):V:=vP (nA sh ((ca ann.pats x).take ann.slots.length))
end Go.Vm
namespace Go.Vm
open Go.RowKit (Below)
theorem oF: ∀{ps:List Pat} {k:Nat} {s cs:List V},s.length=k+ps.length->ps.length<=cs.length->cO s (bB k ps) cs=s.take k++cs.take ps.length
 |[],k,s,cs,h,_=>by
  simp only [bB,cO,RJ,List.take_zero,RH];rw [Rh (by simp at h;omega)]
 |p::r,k,s,[],h,h2=>by simp at h2
 |p::r,k,s,c::cs,h,h2=>by
  simp only [Rj] at h h2;simp only [bB,cO];rw [oF (k:=k+1) (by simp;omega) (by omega)];simp only [Rj,List.take_succ_cons];have:(s.set k c).take (k+1)=s.take k++[c]:=by
   rw [RD];simp [List.take_set,show k<s.length by omega];rw [List.set_eq_of_length_le (by simp;omega)]
  rw [this];simp
theorem DS {P:Program} {B:Nat->Prop} {fn:Func} {sh:List (Option Nat)} {pins:List Nat} {ann:Ann} {x:Xs ann.pats} {st:St} {w:World} {μ:Mu} {F:Fr} {tmps:Array Value}
 (hk:ann.keep=[]) (hsl:ann.slots=bB 0 (ann.slots.map (·.2))) (hp: ∀e∈F.pin,e.1∈pins) (h:G3 P fn.results.toList sh pins ann x st) (hI:Inv B ⟨w,st.σ,μ,F⟩) (hr:RepL ⟨w,st.σ,μ,F⟩ st.s tmps.toList):
 ∃u μ',(results fn tmps).run P w= .ok u w/\Inv B ⟨w,iI ann x,μ',F⟩/\Rep ⟨w,iI ann x,μ',F⟩ (rY sh ann x) u/\∀b,Ctx.T0 ⟨w,st.σ,μ,F⟩ b->Ctx.T0 ⟨w,iI ann x,μ',F⟩ b:=by
 unfold G3 at h;split at h
 ·rename_i fs hfs;split at h
  ·rename_i hlen;simp only [Ra] at hfs;obtain ⟨vs,hv,hfl⟩:=hfs;obtain ⟨us,h1,h2⟩:=vS (B:=B) hI hr hv;obtain ⟨gs,h3,h4⟩:=LI hfl h2;obtain ⟨y,μ2,rfl,k1,k2,k3⟩:=jP (st':=⟨fs,st.σ⟩) hp h rfl hI h3;have hσ:(head ann [] ⟨fs,st.σ⟩ y).σ=iI ann y:=by
    simp only [head,iI,hk,cn,bare,RH]
   rw [hσ] at k1 k2 k3;have hs:(head ann [] ⟨fs,st.σ⟩ y).s=(ca ann.pats y).take ann.slots.length:=by
    have hl:(ann.slots.map (·.2)).length=ann.slots.length:=by simp
    have hc:ann.slots.length<=(ca ann.pats y).length:=by rw [g7];simp [Ann.pats]
    have:=oF (ps:=ann.slots.map (·.2)) (k:=0) (s:=br (ann.m []) 0 fs) (cs:=ca ann.pats y) (by rw [iA,hl];omega) (by rw [hl];exact hc);rw [<-hsl,hl] at this;simpa [head] using this
   rw [hs] at k2;exact ⟨_,μ2,h1,k1,nv (h4 k2),k3⟩
  ·exact h.elim
 ·exact h.elim
theorem Pure.of_vcG {E:Env} (hS:SpecsOk E) (hm:E.P.follows .mixedOrders=true) {f:FuncId} {fn:Func} {c:Code} {args:List V} {sh:List (Option Nat)} {ann:Ann} {x:Xs ann.pats} {r:V} (hf:E.P.funcs[f]? =some fn) (hb:fn.body=some c)
 (hk:ann.keep=[]) (hsl:ann.slots=bB 0 (ann.slots.map (·.2))) (hown:own (iI ann x) 60 (rY sh ann x)=some r) (hids:bP (ids (iI ann x) 60 (rY sh ann x))=true)
 (h:vc E c ⟨args++List.replicate (fn.ntmps-args.length) (.tuple []),[]⟩ (qy E.P fn.results.toList sh E.pins ann x)):Pure E.P f args r:=by
 intro F w vs hF hr;have hend: ∀(st:St) (a:Act) (w':World) (μ':Mu),G3 E.P fn.results.toList sh E.pins ann x st->Good (Start.bare F w) F st a w' μ'->
  a.defers=[]/\∃v,(results fn a.tmps).run E.P w'= .ok v w'/\Below w.heap.size w w'/\rf w.heap.size F w' r v:=by
  intro st a w' μ' he hg;obtain ⟨u,μ2,h1,h2,h3,_⟩:=DS hk hsl (fun e he=>by simp [hF.pin] at he) he hg.inv hg.slots;exact ⟨hg.defers,u,h1,hg.below.below,_,μ2,_,h2,h3,hown,iE hids⟩
 refine calls_of_wp hf hb (l_ (w0:=Start.bare F w) (F:=F) (fun e he=>by simp [hF.pin] at he) hS hm _ _ _ _ (fun e st a w' μ hK _ hg=> ?_) h _ w (fun _=>none) ⟨?_, ?_, .refl _,rfl⟩)
 ·cases e with
  |normal=>
   obtain ⟨h1,v,h2,h3,h4⟩:=hend st a w' μ hK hg;exact ⟨h1,v,h2,v,rfl,h3,h4⟩
  |ret=>
   obtain ⟨h1,v,h2,h3,h4⟩:=hend st a w' μ hK hg;exact ⟨h1,v,h2,v,rfl,h3,h4⟩
  |exit id=>exact hK.elim
  |goto l=>exact hK.elim
 ·exact ⟨fun id o h=>by simp [Store.get] at h,fun i j o o' p q h=>by simp [Store.get] at h,fun id o p h=>by simp [Store.get] at h,hF.out,fun b hb=>hF.out b hb,⟨fun e he=>by simp [hF.pin] at he,fun e he=>⟨hF.gnd e he,fun h=>by have:=hF.lt he;simp only [Start.bare] at h;omega⟩⟩⟩
 ·have hl:vs.length=args.length:=hr.1;have:=hr.append (ds:=List.replicate (fn.ntmps-args.length) (.tuple [])) (us:=List.replicate (fn.ntmps-args.length) undef) ⟨by simp,fun j c u hc hu=>by
   have e1:=(List.getElem?_eq_some_iff.1 hc).2;have e2:=(List.getElem?_eq_some_iff.1 hu).2;simp only [Sq] at e1 e2;subst e1;subst e2;exact .tuple rfl (fun j c u hc=>by simp at hc)⟩
  simpa [hl] using this
theorem UpdC.of_vcG {E:Env} (hS:SpecsOk E) (hm:E.P.follows .mixedOrders=true) {f:FuncId} {fn:Func} {c:Code} {args:List V} {σ:Store} {sh:List (Option Nat)} {ann:Ann} {x:Xs ann.pats} (hf:E.P.funcs[f]? =some fn) (hb:fn.body=some c)
 (hk:ann.keep=[]) (hsl:ann.slots=bB 0 (ann.slots.map (·.2))) (hpins:DR E.pins σ=true)
 (h:vc E c ⟨args++List.replicate (fn.ntmps-args.length) (.tuple []),σ⟩ (qy E.P fn.results.toList sh E.pins ann x)):UpdC E.P f args σ (rY sh ann x) (iI ann x):=by
 intro B F w μ vs hFp hI hB hr;obtain ⟨o,hh,p,g⟩:=F;simp only at hFp;subst hFp;let pn:List (Nat×Pn):=E.pins.filterMap (rE σ μ)
 have hpn: ∀e∈pn,e.1∈E.pins/\Pn.at σ μ e.1 e.2:=fun e he=>G0 he;have hI1:Inv B ⟨w,σ,μ,⟨o,hh,pn,g⟩⟩:=hI.pin fun e he=>(hpn e he).2;have hend: ∀(st:St) (a:Act) (w':World) (μ':Mu),G3 E.P fn.results.toList sh E.pins ann x st->Good ⟨⟨w,σ,μ,⟨o,hh,pn,g⟩⟩,B,hB⟩ ⟨o,hh,pn,g⟩ st a w' μ'->
  a.defers=[]/\∃v,(results fn a.tmps).run E.P w'= .ok v w'/\∃μ2,Inv B ⟨w',iI ann x,μ2,⟨o,hh,[],g⟩⟩/\Rep ⟨w',iI ann x,μ2,⟨o,hh,[],g⟩⟩ (rY sh ann x) v/\
   Since ⟨w,σ,μ,⟨o,hh,[],g⟩⟩ ⟨w',iI ann x,μ2,⟨o,hh,[],g⟩⟩/\(∀c cells,σ.get c=some (.box cells)->(∃cells',(iI ann x).get c=some (.box cells'))/\μ2 c=μ c)/\∀c k d,σ.get c=some (.opq k d)->(∃d',(iI ann x).get c=some (.opq k d'))/\(μ2 c).map (·.1)=(μ c).map (·.1):=by
  intro st a w' μ' he hg;obtain ⟨u,μ2,h1,k1,k2,k3⟩:=DS hk hsl (fun e he=>(hpn e he).1) he hg.inv hg.slots;refine ⟨hg.defers,u,h1,μ2,k1.pin (fun e he=>by simp at he),k2.pin, ?_,fun c cells hc=> ?_,fun c k d hc=> ?_⟩
  ·exact ⟨hg.below.os,hg.below.tape,hg.below.output,hg.below.size,rfl,fun b hb=>by
    obtain ⟨q1,q2⟩:=hg.below.still b hb;exact ⟨k3 b q1,q2⟩⟩
  ·obtain ⟨b,cs,ty,h1,_⟩:=hI.objs c _ hc;obtain ⟨q1,q2⟩:=k1.marks.pin _ (G1 (GY hpins hc) hc h1);exact ⟨q1,q2.trans h1.symm⟩
  ·obtain ⟨q1,q2⟩:=k1.marks.pin _ (G2 (μ:=μ) (GZ hpins hc) hc);exact ⟨q1,q2⟩
 refine calls_of_wp hf hb (l_ (w0:=⟨⟨w,σ,μ,⟨o,hh,pn,g⟩⟩,B,hB⟩) (F:=⟨o,hh,pn,g⟩) (fun e he=>(hpn e he).1) hS hm _ _ _ _ (fun e st a w' μ' hK _ hg=> ?_) h _ w μ ⟨hI1, ?_, .refl _,rfl⟩)
 ·cases e with
  |normal=>
   obtain ⟨h1,v,h2,h4⟩:=hend st a w' μ' hK hg;exact ⟨h1,v,h2,v,rfl,h4⟩
  |ret=>
   obtain ⟨h1,v,h2,h4⟩:=hend st a w' μ' hK hg;exact ⟨h1,v,h2,v,rfl,h4⟩
  |exit id=>exact hK.elim
  |goto l=>exact hK.elim
 ·have hl:vs.length=args.length:=hr.1;have:=(hr.pin (p':=pn) (g':=g)).append (ds:=List.replicate (fn.ntmps-args.length) (.tuple [])) (us:=List.replicate (fn.ntmps-args.length) undef) ⟨by simp,fun j c u hc hu=>by
   have e1:=(List.getElem?_eq_some_iff.1 hc).2;have e2:=(List.getElem?_eq_some_iff.1 hu).2;simp only [Sq] at e1 e2;subst e1;subst e2;exact .tuple rfl (fun j c u hc=>by simp at hc)⟩
  simpa [hl] using this
theorem Weak.agg {cs cs':List V} (h:WeakL cs cs'):Weak (.agg cs) (.agg cs'):=fun X u hr=>by
 obtain ⟨vs,rfl,h1⟩:=hr.agg_inv;exact (h.rep h1).agg
theorem RepL.tuple2 {X:Ctx} {cs:List V} {vs:List Value} (h:RepL X cs vs):Rep X (.tuple cs) (.tuple vs.toArray):=
 .tuple (by simpa using h.1) (fun j c u hc hu=>h.2 j c u hc (by simpa using hu))
theorem UpdC.weak {P:Program} {f:FuncId} {args args':List V} {σ σ':Store} {r:V} (h:UpdC P f args' σ r σ') (hw:WeakL args args'):UpdC P f args σ r σ':=
 fun B F w μ vs hp hI hB hr=>h B F w μ vs hp hI hB (hw.rep hr)
theorem Pure.of_gG {E:Env} (hS:SpecsOk E) (hm:E.P.follows .mixedOrders=true) {f:FuncId} {fn:Func} {c:Code} {args:List V} {sh:List (Option Nat)} {ann:Ann} {x:Xs ann.pats} {r:V} (hf:E.P.funcs[f]? =some fn) (hb:fn.body=some c)
 (hk:ann.keep=[]) (hsl:ann.slots=bB 0 (ann.slots.map (·.2))) (hown:own (iI ann x) 60 (rY sh ann x)=some r) (hids:bP (ids (iI ann x) 60 (rY sh ann x))=true)
 {g:Prop} (hg:g=vc E c ⟨args++List.replicate (fn.ntmps-args.length) (.tuple []),[]⟩ (qy E.P fn.results.toList sh E.pins ann x)) (h:g):Pure E.P f args r:=
 Pure.of_vcG hS hm hf hb hk hsl hown hids (Eq.mp hg h)
end Go.Vm
namespace Go.Vm
def Ie (E:Env) (fn:Func) (args:List V) (ps:List Pat) (r:Xs ps):Prop:=vc E (ey fn) (mW fn args) (Lz (KC fn) ps r)
def Q0 (E:Env) (fn:Func) (args:List V) (r:V):Prop:=vc E (ey fn) (mW fn args) (OY (KC fn) r)
def dV (E:Env) (fn:Func) (args:List V) (σ:Store) (sh:List (Option Nat)) (ann:Ann) (x:Xs ann.pats):Prop:=vc E (ey fn) ⟨(mW fn args).s,σ⟩ (qy E.P fn.results.toList sh E.pins ann x)
def jY (E:Env) (fn:Func) (args:List V) (sh:List (Option Nat)) (ann:Ann) (x:Xs ann.pats):Prop:=vc E (ey fn) (mW fn args) (qy E.P fn.results.toList sh E.pins ann x)
theorem Pure.of_cond {E:Env} {f:FuncId} {fn:Func} {args:List V} {ps:List Pat} {r:Xs ps} {g:Prop} (e:Ie E fn args ps r=g) (h:g) (hS:SpecsOk E) (hm:E.P.follows .mixedOrders=true) (hf:E.P.funcs[f]? =some fn)
 (hb:fn.body=some (ey fn):=by rfl) (hts:dZ fn.results.toList=some (KC fn):=by rfl):Pure E.P f args (Bj ps r):=
 Pure.of_g hS hm hf hb hts rfl (Eq.mpr e h)
theorem PureZ.of_cond {E:Env} {f:FuncId} {fn:Func} {args:List V} {r:V} {g:Prop} (e:Q0 E fn args r=g) (h:g) (hS:SpecsOk E) (hm:E.P.follows .mixedOrders=true) (hf:E.P.funcs[f]? =some fn)
 (hb:fn.body=some (ey fn):=by rfl) (hts:dZ fn.results.toList=some (KC fn):=by rfl):PureZ E.P f args r:=
 PureZ.of_g hS hm hf hb hts rfl (Eq.mpr e h)
theorem Pure.of_condG {E:Env} {f:FuncId} {fn:Func} {args:List V} {sh:List (Option Nat)} {ann:Ann} {x:Xs ann.pats} {r:V} {g:Prop} (e:jY E fn args sh ann x=g) (h:g) (hown:own (iI ann x) 60 (rY sh ann x)=some r) (hS:SpecsOk E) (hm:E.P.follows .mixedOrders=true) (hf:E.P.funcs[f]? =some fn)
 (hb:fn.body=some (ey fn):=by rfl) (hk:ann.keep=[]:=by rfl) (hsl:ann.slots=bB 0 (ann.slots.map (·.2)):=by rfl) (hids:bP (ids (iI ann x) 60 (rY sh ann x))=true:=by rfl):Pure E.P f args r:=
 Pure.of_gG hS hm hf hb hk hsl hown hids rfl (Eq.mpr e h)
theorem UpdC.of_cond {E:Env} {f:FuncId} {fn:Func} {args:List V} {σ:Store} {sh:List (Option Nat)} {ann:Ann} {x:Xs ann.pats} {g:Prop} (e:dV E fn args σ sh ann x=g) (h:g) (hS:SpecsOk E) (hm:E.P.follows .mixedOrders=true) (hf:E.P.funcs[f]? =some fn)
 (hb:fn.body=some (ey fn):=by rfl) (hk:ann.keep=[]:=by rfl) (hsl:ann.slots=bB 0 (ann.slots.map (·.2)):=by rfl) (hpins:DR E.pins σ=true:=by rfl):UpdC E.P f args σ (rY sh ann x) (iI ann x):=
 UpdC.of_vcG hS hm hf hb hk hsl hpins (Eq.mpr e h)
theorem zU {α:Type} {q:Prop×α} {pre:Prop} {r:α} (h:some q=some (pre,r)) (hp:pre) {M:α->Prop} (k:q.1->M q.2):M r:=by
 cases h;exact k hp
theorem eL {α β:Type} {q:Prop×α×β} {pre:Prop} {r:α} {s:β} (h:some q=some (pre,r,s)) (hp:pre) {M:α->β->Prop} (k:q.1->M q.2.1 q.2.2):M r s:=by
 cases h;exact k hp
end Go.Vm
namespace Go.Vm
theorem vT {cs cs':List V} (h:WeakL cs cs'):cs.length=cs'.length:=by
 induction h with
 |nil=>rfl
 |cons _ _ ih=>simp [ih]
theorem vU {cs cs':List V} (h:WeakL cs cs'): ∀(j:Nat) (c':V),cs'[j]? =some c'->∃c,cs[j]? =some c/\Weak c c':=by
 induction h with
 |nil=>intro j c' h;simp at h
 |cons h1 _ ih=>
  intro j c' h;cases j with
  |zero=>
   simp only [List.getElem?_cons_zero,Q9] at h;subst h;exact ⟨_,rfl,h1⟩
  |succ j=>exact ih j c' (by simpa using h)
theorem OL {cs cs':List V} (h:WeakL cs cs'):Weak (.fptr cs) (.fptr cs'):=fun X u hr=>by
 obtain ⟨b,o,f,rfl,hT,hc,hrc⟩:=hr.fptr_inv;refine .fptr f (fun h0=>hT (by rw [vT h];exact h0)) (fun j c' hj=> ?_) (fun j c' hj=> ?_)
 ·obtain ⟨c,k1,_⟩:=vU h j c' hj;exact hc j c k1
 ·obtain ⟨c,k1,k2⟩:=vU h j c' hj;exact k2 X _ (hrc j c k1)
theorem Q1 {f:Fn} {fs fs' cs cs':List V} (hf:WeakL fs fs') (h:WeakL cs cs'):Weak (.fn f fs cs) (.fn f fs' cs'):=fun X u hr=>by
 obtain ⟨vs,ws,rfl,⟨a1,a2⟩,b1,b2⟩:=hr.fn_inv;refine .fn ((by simpa using a1:vs.size=fs.length).trans (vT hf)) ((by simpa using b1:ws.size=cs.length).trans (vT h)) (fun j c' u hj hu=> ?_) (fun j c' u hj hu=> ?_)
 ·obtain ⟨c,k1,k2⟩:=vU hf j c' hj;exact k2 X _ (a2 j c u k1 (by simpa using hu))
 ·obtain ⟨c,k1,k2⟩:=vU h j c' hj;exact k2 X _ (b2 j c u k1 (by simpa using hu))
inductive DP where
 |i (k:IntKind)|b|s|l (t:Ty)|p (t:Ty)|z|c (x r:DP)|g (x:DP)|f (x:DP)|n (m:FuncId) (x y:DP)
abbrev DP.j:DP:= .i .i64
def DP.D:DP->Type
 | .i _=>Int
 | .b=>Bool
 | .s=>List UInt8
 | .l t=>List t.den
 | .p t=>List t.den
 | .z=>Unit
 | .c x r=>x.D×r.D
 | .g x=>x.D
 | .f x=>x.D
 | .n _ x y=>x.D×y.D
def DP.e:(p:DP)->(p.D->V)×(p.D->List V)
 | .i k=>(fun (x:Int)=> .int k x,fun _=>[])
 | .b=>(fun (x:Bool)=> .bool x,fun _=>[])
 | .s=>(fun (x:List UInt8)=> .str x,fun _=>[])
 | .l t=>(fun (x:List t.den)=> .list .tmp t x,fun _=>[])
 | .p t=>(fun (x:List t.den)=> .list .part t x,fun _=>[])
 | .z=>(fun _=> .any,fun _=>[])
 | .c x r=>(fun _=> .any,fun (d:x.D×r.D)=>x.e.1 d.1::r.e.2 d.2)
 | .g x=>(fun (d:x.D)=> .agg (x.e.2 d),fun _=>[])
 | .f x=>(fun (d:x.D)=> .fptr (x.e.2 d),fun _=>[])
 | .n m x y=>(fun (d:x.D×y.D)=> .fn (.func m) (x.e.2 d.1) (y.e.2 d.2),fun _=>[])
def DP.dec:(p:DP)->(V->Option p.D)×(List V->Option p.D)
 | .i k=>(fun v=>match v with
  | .int k' w=>if k'=k then some (show Int from w) else none
  |_=>none,fun _=>none)
 | .b=>(fun v=>(bC v:Option Bool),fun _=>none)
 | .s=>(fun v=>match v with
  | .str x=>some (show List UInt8 from x)
  |_=>none,fun _=>none)
 | .l t=>(fun v=>(asL t v:Option (List t.den)),fun _=>none)
 | .p t=>(fun v=>(asP t v:Option (List t.den)),fun _=>none)
 | .z=>(fun _=>none,fun vs=>match vs with
  |[]=>some (show Unit from ())
  |_=>none)
 | .c x r=>(fun _=>none,fun vs=>match vs with
  |v::us=>(x.dec.1 v).bind fun a=>(r.dec.2 us).bind fun b=>some (show x.D×r.D from (a,b))
  |[]=>none)
 | .g x=>(fun v=>match v with
  | .agg cs=>(x.dec.2 cs:Option x.D)
  |_=>none,fun _=>none)
 | .f x=>(fun v=>match v with
  | .fptr cs=>(x.dec.2 cs:Option x.D)
  |_=>none,fun _=>none)
 | .n m x y=>(fun v=>match v with
  | .fn (.func m') us bs=>if m'=m then (x.dec.2 us).bind fun a=>(y.dec.2 bs).bind fun b=>some (show x.D×y.D from (a,b)) else none
  |_=>none,fun _=>none)
theorem DP.ok: ∀(p:DP),(∀v d,p.dec.1 v=some d->Weak v (p.e.1 d))/\(∀vs d,p.dec.2 vs=some d->WeakL vs (p.e.2 d))
 | .i k=>by
  refine ⟨fun v d h=> ?_,fun _ _ h=>by cases h⟩;simp only [DP.dec] at h;split at h
  ·split at h
   ·rename_i e;subst e;cases h;exact .refl _
   ·cases h
  ·cases h
 | .b=>⟨fun _ _ h=>a_ h,fun _ _ h=>by cases h⟩
 | .s=>by
  refine ⟨fun v d h=> ?_,fun _ _ h=>by cases h⟩;simp only [DP.dec] at h;split at h
  ·cases h;exact .refl _
  ·cases h
 | .l t=>⟨fun _ _ h=>aT h,fun _ _ h=>by cases h⟩
 | .p t=>⟨fun _ _ h=>pV h,fun _ _ h=>by cases h⟩
 | .z=>by
  refine ⟨fun _ _ h=>(by cases h),fun vs d h=> ?_⟩;simp only [DP.dec] at h;split at h
  ·exact .nil
  ·cases h
 | .c x r=>by
  refine ⟨fun _ _ h=>(by cases h),fun vs d h=> ?_⟩;simp only [DP.dec] at h;split at h
  ·obtain ⟨a,h1,h⟩:=Ra.1 h;obtain ⟨b,h2,h⟩:=Ra.1 h;cases h;exact .cons (x.ok.1 _ _ h1) (r.ok.2 _ _ h2)
  ·cases h
 | .g x=>by
  refine ⟨fun v d h=> ?_,fun _ _ h=>by cases h⟩;cases v with
  |agg us=>exact Weak.agg (x.ok.2 _ _ h)
  |_=>cases h
 | .f x=>by
  refine ⟨fun v d h=> ?_,fun _ _ h=>by cases h⟩;cases v with
  |fptr us=>exact OL (x.ok.2 _ _ h)
  |_=>cases h
 | .n m x y=>by
  refine ⟨fun v d h=> ?_,fun _ _ h=>by cases h⟩;simp only [DP.dec] at h;split at h
  ·split at h
   ·rename_i e;subst e;obtain ⟨a,h1,h⟩:=Ra.1 h;obtain ⟨b,h2,h⟩:=Ra.1 h;cases h;exact Q1 (x.ok.2 _ _ h1) (y.ok.2 _ _ h2)
   ·cases h
  ·cases h
def mkF {P:Program} (f:FuncId) (p:DP) (ps:List Pat) (q:p.D->Prop×Xs ps) (h: ∀x,(q x).1->Pure P f (p.e.2 x) (Bj ps (q x).2)):FSpec P where
 f:=f
 run vs:=(p.dec.2 vs).bind fun x=>some ((q x).1,Bj ps (q x).2)
 ok vs pre r e hp:=by
  obtain ⟨x,h1,e⟩:=Ra.1 e;cases e;exact (h x hp).weak (p.ok.2 _ _ h1)
def mkG {P:Program} (f:FuncId) (p:DP) (q:p.D->Prop×V) (h: ∀x,(q x).1->Pure P f (p.e.2 x) (q x).2):FSpec P where
 f:=f
 run vs:=(p.dec.2 vs).bind fun x=>some (q x)
 ok vs pre r e hp:=by
  obtain ⟨x,h1,e⟩:=Ra.1 e;exact zU e hp fun k=>(h x k).weak (p.ok.2 _ _ h1)
def mkZ {P:Program} (f:FuncId) (p:DP) (q:p.D->Prop×V) (h: ∀x,(q x).1->PureZ P f (p.e.2 x) (q x).2):ZSpec P where
 f:=f
 run vs:=(p.dec.2 vs).bind fun x=>some (q x)
 ok vs pre r e hp:=by
  obtain ⟨x,h1,e⟩:=Ra.1 e;exact zU e hp fun k=>(h x k).weak (p.ok.2 _ _ h1)
abbrev au (x:Int):Prop:=-9223372036854775808<=x/\x<=9223372036854775807
abbrev ag (p:Prop) [Decidable p]:Prop:=decide p=true
abbrev aj (p:Prop) [Decidable p]:Prop:=decide p=false
abbrev aP (p:Prop) [Decidable p]:Prop:=decide p= !true
abbrev bu (p:Prop) [Decidable p]:Prop:=decide p= !false
end Go.Vm
