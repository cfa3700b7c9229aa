import Derived.Test.YtabicbgeoiilmaaGreatDoorVmB
import Derived.Laws.BytesArg
import Derived.ChangeKeysEq
namespace Go.Vm
theorem InK.wrap {k:IntKind} {n:Int} (h:InK k n):k.wrap n=n:=by
 cases k<;>simp only [InK] at h<;>simp only [IntKind.wrap,IntKind.bits,IntKind.signed]<;>simp<;>omega
section
variable {P:Program} {o:Oper} {ρ:Operand->V} {σ:Store} {k:K}
theorem Qi {α:Type} [DecidableEq α] (a b:α):(a==b)=decide (a=b):=by by_cases h:a=b<;>simp [h]
theorem gv {a b:ByteArray}:(a.toList==b.toList)=decide (a.data.toList=b.data.toList):=by
 rw [ByteArray.toList_eq,ByteArray.toList_eq];by_cases h:a.data.toList=b.data.toList
 ·rw [h];simp
 ·rw [Rs h];exact beq_eq_false_iff_ne.2 h
theorem nh {wr:Bool} {kd:IntKind} {n:Int} (h:num wr kd n σ k): ∃m,k (.int kd m) σ/\kd.wrap n=m:=by
 unfold num at h;split at h
 ·exact ⟨_,h,rfl⟩
 ·exact ⟨_,h.2,h.1.wrap⟩
theorem Gz {wr:Bool} {op:BinOp} {kd:IntKind} {a b:Int} (h:m9 wr op kd a b σ k):
 ∃v,k v σ/\∀(t:TypeId) (w:World),∃u,(binOp op t (.int kd a) (.int kd b)).run P w= .ok u w/\∀X,Rep X v u:=by
 unfold m9 at h;split at h;case h_1=>obtain ⟨m,h1,h2⟩:=nh h;exact ⟨_,h1,fun t w=>⟨.int kd m,by simp [binOp,Op.intArith,h2],fun X=> .int⟩⟩
 case h_2=>obtain ⟨m,h1,h2⟩:=nh h;exact ⟨_,h1,fun t w=>⟨.int kd m,by simp [binOp,Op.intArith,h2],fun X=> .int⟩⟩
 case h_3=>obtain ⟨m,h1,h2⟩:=nh h;exact ⟨_,h1,fun t w=>⟨.int kd m,by simp [binOp,Op.intArith,h2],fun X=> .int⟩⟩
 case h_4=>obtain ⟨hb,h⟩:=h;obtain ⟨m,h1,h2⟩:=nh h;exact ⟨_,h1,fun t w=>⟨.int kd m,by simp [binOp,Op.intDiv,hb,h2],fun X=> .int⟩⟩
 case h_5=>obtain ⟨hb,h⟩:=h;exact ⟨_,h,fun t w=>⟨.int kd (a.tmod b),by simp [binOp,Op.intDiv,hb],fun X=> .int⟩⟩
 case h_6=>exact ⟨_,h,fun t w=>⟨.bool (decide (a=b)),by simp only [binOp,Op.intCmp,Qi];simp,fun X=> .bool⟩⟩
 case h_7=>exact ⟨_,h,fun t w=>⟨.bool (!decide (a=b)),by simp only [binOp,Op.intCmp,bne,Qi];simp,fun X=> .bool⟩⟩
 case h_8=>exact ⟨_,h,fun t w=>⟨.bool (decide (a<b)),by simp only [binOp,Op.intCmp];simp,fun X=> .bool⟩⟩
 case h_9=>exact ⟨_,h,fun t w=>⟨.bool (decide (a<=b)),by simp only [binOp,Op.intCmp];simp,fun X=> .bool⟩⟩
 case h_10=>exact ⟨_,h,fun t w=>⟨.bool (decide (b<a)),by simp only [binOp,Op.intCmp];simp,fun X=> .bool⟩⟩
 case h_11=>exact ⟨_,h,fun t w=>⟨.bool (decide (b<=a)),by simp only [binOp,Op.intCmp];simp,fun X=> .bool⟩⟩
 case h_12=>exact ⟨_,h,fun t w=>⟨.int kd (Qb kd a b),by simp [binOp,Op.intBits,Qb],fun X=> .int⟩⟩
 case h_13=>exact ⟨_,h,fun t w=>⟨.int kd (orI kd a b),by simp [binOp,Op.intBits,orI],fun X=> .int⟩⟩
 case h_14=>exact ⟨_,h,fun t w=>⟨.int kd (Qc kd a b),by simp [binOp,Op.intBits,Qc],fun X=> .int⟩⟩
 case h_15=>exact ⟨_,h,fun t w=>⟨.int kd (vd kd a b),by simp [binOp,Op.intBits,vd],fun X=> .int⟩⟩
 case h_16=>exact h.elim
theorem GA {op:BinOp} {a b:List UInt8} (h:m_ op a b σ k):
 ∃v,k v σ/\∀(t:TypeId) (w:World) (s s':ByteArray),s.data.toList=a->s'.data.toList=b->∃u,(binOp op t (.string s) (.string s')).run P w= .ok u w/\∀X,Rep X v u:=by
 unfold m_ at h;split at h;case h_1=>exact ⟨_,h,fun t w s s' e1 e2=>⟨.bool (decide (a=b)),by simp only [binOp,Op.stringOp,gv,e1,e2];simp,fun X=> .bool⟩⟩
 case h_2=>exact ⟨_,h,fun t w s s' e1 e2=>⟨.bool (!decide (a=b)),by simp only [binOp,Op.stringOp,gv,e1,e2];simp,fun X=> .bool⟩⟩
 case h_3=>
  refine ⟨_,h.2,fun t w s s' e1 e2=>⟨.string (s++s'), ?_,fun X=> .str ?_⟩⟩
  ·have h1:s.size=a.length:=by rw [<-e1];rfl
   have h2:s'.size=b.length:=by rw [<-e2];rfl
   have h3: ¬(((s.size+s'.size:Nat):Int)>IntKind.i64.max):=by
    have:=h.1;simp only [IntKind.max,IntKind.signed,IntKind.bits];simp;omega
   simp only [binOp,Op.stringOp,h3,if_false];simp
  ·rw [<-e1,<-e2];simp
 case h_4=>exact ⟨_,h,fun t w s s' e1 e2=>⟨.bool (Op.bytesLess a b),by simp only [binOp,Op.stringOp,ByteArray.toList_eq,e1,e2];simp,fun X=> .bool⟩⟩
 case h_5=>exact h.elim
theorem eD {X:Ctx} {x:V} {u:Value} {b:Bool} (h:bC x=some b) (hr:Rep X x u):u= .bool b:=by
 unfold bC at h;split at h<;>simp at h
 ·subst h;exact hr.kb_inv
 ·subst h;exact hr.bool_inv
theorem df {X:Ctx} {g:Bool} {cs:List V} {off sz:Nat} {v:V} {vs:Array Value} (h:(cut cs off sz).bind (cf g)=some v) (hr:RepL X cs vs.toList) {t:TypeId}
 (hg:eS P t=some g) (hn:dd P t=some sz) (w:World): ∃u,(part t vs off).run P w= .ok u w/\Rep X v u:=by
 cases hcut:cut cs off sz with
 |none=>simp [hcut] at h
 |some c2=>
  simp only [hcut,Sy] at h;obtain ⟨hle,rfl⟩:=yt hcut;have hl:=hr.1;simp at hl;unfold cf at h;cases g with
  |true=>
   simp only [if_true,Q9] at h;subst h;refine ⟨.agg (vs.extract off (off+sz)),by simp [part,iu hg,cB hn],RepL.agg ?_⟩;have e:(vs.extract off (off+sz)).toList=(vs.toList.drop off).take sz:=by simp
   rw [e];exact (hr.drop off).take sz
  |false=>
   simp only [Rx,if_false] at h;split at h
   ·rename_i c hc;simp only [Q9] at h;subst h;have h1:sz=1:=by
     have:=congrArg List.length hc;simp at this;omega
    subst h1;have hlt:off<vs.size:=by omega
    have hc0:cs[off]? =some c:=by
     have:=congrArg (fun l=>l[0]?) hc;simpa [List.getElem?_take,List.getElem?_drop] using this
    refine ⟨vs[off],by simp [part,iu hg,hlt],hr.2 off c _ hc0 (by simp [hlt])⟩
   ·cases h
mutual
theorem BH {X:Ctx}: ∀{n:Nat} {t:TypeId} {x y:V} {b:Bool} {u v:Value} (d:Nat),eqT P n t x y=some b->Rep X x u->Rep X y v->n<=d->
 (Op.equalIn d t u v).run P X.w= .ok b X.w
 |0,t,x,y,b,u,v,d,h,_,_,_=>by simp [eqT] at h
 |n+1,t,x,y,b,u,v,d,h,hx,hy,hd=>by
  obtain ⟨d,rfl⟩: ∃d',d=d'+1:=⟨d-1,by omega⟩
  unfold eqT at h;split at h
  ·rename_i kd hu;split at h
   ·split at h
    ·rename_i hk;obtain ⟨rfl,rfl⟩:=hk;simp only [Q9] at h;subst h;rw [hx.int_inv,hy.int_inv,run_equalIn_int X.w d t _ _ _ _ hu,Qi]
    ·cases h
   ·cases h
  ·rename_i hu;split at h
   ·rename_i a b' ha hb;simp only [Q9] at h;subst h;rw [eD ha hx,eD hb hy,run_equalIn_bool X.w d t _ _ hu]
   ·cases h
  ·rename_i hu;split at h
   ·simp only [Q9] at h;subst h;obtain ⟨s,rfl,e1⟩:=hx.str_inv;obtain ⟨s',rfl,e2⟩:=hy.str_inv;rw [run_equalIn_string X.w d t _ _ hu,gv,e1,e2]
   ·cases h
  ·rename_i fs hu;split at h
   ·split at h
    ·rename_i hs;obtain ⟨us,rfl,hxs⟩:=hx.agg_inv;obtain ⟨vs,rfl,hys⟩:=hy.agg_inv;have hf:P.fieldsOf t=fs:=by simp [Program.fieldsOf,hu]
     rw [run_equalIn_struct X.w d t us vs (by rw [hf];exact hu) hs,hf];exact lO d h hxs hys (by omega)
    ·cases h
   ·cases h
  ·rename_i len e hu;split at h
   ·split at h
    ·rename_i hs;obtain ⟨i,hi⟩:=RG.1 hs;obtain ⟨us,rfl,hxs⟩:=hx.agg_inv;obtain ⟨vs,rfl,hys⟩:=hy.agg_inv;rw [run_equalIn_array X.w d us vs hu hi];exact oo d h hxs hys (by omega)
    ·cases h
   ·cases h
  ·cases h
theorem oo {X:Ctx}: ∀{n:Nat} {e:TypeId} {js:List Nat} {xs ys:List V} {b:Bool} {us vs:Array Value} (d:Nat),gR P n e xs ys js=some b->RepL X xs us.toList->RepL X ys vs.toList->n<=d->
 (Op.eqItems d e (P.cellsOf e) us vs js).run P X.w= .ok b X.w
 |0,e,js,xs,ys,b,us,vs,d,h,_,_,_=>by simp [gR] at h
 |n+1,e,[],xs,ys,b,us,vs,d,h,_,_,_=>by
  simp only [gR,Q9] at h;subst h;simp [Op.eqItems]
 |n+1,e,j::js,xs,ys,b,us,vs,d,h,hx,hy,hd=>by
  unfold gR at h;split at h
  ·rename_i g sz hg hn;have hc:P.cellsOf e=sz:=by
    unfold dd at hn;simp only [Rc] at hn;obtain ⟨i,h1,h2⟩:=hn;simp [Program.cellsOf,h1,h2]
   split at h
   ·rename_i x y hcx hcy;split at h
    ·rename_i b1 b2 hb1 hb2;simp only [Q9] at h;subst h;obtain ⟨u,p1,r1⟩:=df hcx hx hg hn X.w;obtain ⟨v,p2,r2⟩:=df hcy hy hg hn X.w;have e1:=BH d hb1 r1 r2 (by omega);have e2:=oo d hb2 hx hy (by omega);rw [hc] at e2⊢;simp only [Op.eqItems,Sem.run_bind,p1,p2,e1,Result.andThen_ok,Sem.run_ite];cases b1
     ·simp
     ·simpa using e2
    ·cases h
   ·cases h
  ·cases h
theorem lO {X:Ctx}: ∀{n:Nat} {fs:List Field} {xs ys:List V} {b:Bool} {us vs:Array Value} (d:Nat),fr P n xs ys fs=some b->RepL X xs us.toList->RepL X ys vs.toList->n<=d->
 (Op.eqFields d us vs fs).run P X.w= .ok b X.w
 |0,fs,xs,ys,b,us,vs,d,h,_,_,_=>by simp [fr] at h
 |n+1,[],xs,ys,b,us,vs,d,h,_,_,_=>by
  simp only [fr,Q9] at h;subst h;simp [Op.eqFields]
 |n+1,f::fs,xs,ys,b,us,vs,d,h,hx,hy,hd=>by
  unfold fr at h;split at h
  ·rename_i hname;split at h
   ·rename_i g sz hg hn;split at h
    ·rename_i x y hcx hcy;split at h
     ·rename_i b1 b2 hb1 hb2;simp only [Q9] at h;subst h;obtain ⟨u,p1,r1⟩:=df hcx hx hg hn X.w;obtain ⟨v,p2,r2⟩:=df hcy hy hg hn X.w;have e1:=BH d hb1 r1 r2 (by omega);have e2:=lO d hb2 hx hy (by omega);simp only [Op.eqFields,hname,ne_eq,not_false_eq_true,if_true,Sem.run_bind,p1,p2,e1,Result.andThen_ok,Sem.run_ite];cases b1
      ·simp
      ·simpa using e2
     ·cases h
    ·cases h
   ·cases h
  ·cases h
end
theorem km {w:World} {t e:TypeId} (hu:P.underlying t=some (.pointer e)) (x:Option Addr):(Op.equal t (.pointer x) (.pointer none)).run P w= .ok x.isNone w:=by
 show (Op.equalIn (9999+1) t (.pointer x) (.pointer none)).run P w=_;generalize 9999=d;cases x<;>simp [Op.equalIn,run_underlying hu]
theorem vi {w:World} {t:TypeId} {a b:Array TypeId} {c:Bool} (hu:P.underlying t=some (.func a b c)) (f:Fn) (us vs:Array Value):(Op.equal t (.func f us vs) .nilFunc).run P w= .ok false w:=by
 show (Op.equalIn (9999+1) t (.func f us vs) .nilFunc).run P w=_;generalize 9999=d;simp [Op.equalIn,run_underlying hu]
theorem yw {w:World} {t:TypeId} {a b:Array TypeId} {c:Bool} (hu:P.underlying t=some (.func a b c)):(Op.equal t .nilFunc .nilFunc).run P w= .ok true w:=by
 show (Op.equalIn (9999+1) t .nilFunc .nilFunc).run P w=_;generalize 9999=d;simp [Op.equalIn,run_underlying hu]
theorem oJ {w:World} {t e:TypeId} (hu:P.underlying t=some (.slice e)) (A:Option Addr) (n c:Nat):(Op.equal t (.slice A n c) (.slice none 0 0)).run P w= .ok A.isNone w:=by
 show (Op.equalIn (9999+1) t (.slice A n c) (.slice none 0 0)).run P w=_;generalize 9999=d;cases A<;>simp [Op.equalIn,run_underlying hu]
theorem Oi {P:Program} {t:TypeId} {σ:Store} {x y:V} {p:Bool->Prop} {c:Bool} (h:KU P t σ x y=some p) (hc:Qd σ x=some c): ∀b,p b->b=c:=by
 unfold KU at h;unfold Qd at hc;split at hc
 ·split at hc
  ·rename_i k d hg;cases hc;split at h
   ·cases h
   ·simp only [hg] at h;split at h
    ·cases h;exact fun b hb=>hb
    ·cases h
   ·cases h
  ·cases hc
 ·cases hc;split at h
  ·cases h
  ·simp only at h;split at h
   ·cases h;exact fun b hb=>hb
   ·cases h
  ·cases h
 ·cases hc
theorem vk {X:Ctx} {t:TypeId} {x y:V} {p:Bool->Prop} {u v:Value} (hI: ∃B,Inv B X) (h:KU P t X.σ x y=some p) (hx:Rep X x u) (hy:Rep X y v) (a b:Operand):
 ∃c,p c/\(do eqGuard .eql t a b u v;binOp .eql t u v).run P X.w= .ok (.bool c) X.w/\(do eqGuard .neq t a b u v;binOp .neq t u v).run P X.w= .ok (.bool (!c)) X.w:=by
 have key: ∀(A:Option Addr) n c e,P.underlying t=some (.slice e)->(do eqGuard .eql t a b (.slice A n c) (.slice none 0 0);binOp .eql t (.slice A n c) (.slice none 0 0)).run P X.w= .ok (.bool A.isNone) X.w/\
  (do eqGuard .neq t a b (.slice A n c) (.slice none 0 0);binOp .neq t (.slice A n c) (.slice none 0 0)).run P X.w= .ok (.bool (!A.isNone)) X.w:=by
  intro A n c e hu;constructor<;>simp only [eqGuard,binOp,Sem.run_bind]<;>simp [oJ hu]
 unfold KU at h;split at h
 ·rename_i e hu;rw [hy.nils_inv];split at h
  ·cases h;rw [hx.nils_inv];exact ⟨true,rfl,key _ _ _ _ hu⟩
  ·cases h;obtain ⟨A,cap,rfl,hc,_⟩:=hx.list_inv;refine ⟨A.isNone,fun hA=> ?_,key _ _ _ _ hu⟩;rename_i l;apply Classical.byContradiction;intro hne;obtain ⟨b0,o0,hA2,_⟩:=hc.2.2 (by omega);rw [hA2] at hA;cases hA
  ·rename_i id ep;split at h
   ·rename_i ep' t' l hg;split at h
    ·rename_i hep;cases h;obtain ⟨A,len,cap,ep2,t2,l2,rfl,hg',hle,hcur⟩:=hx.slc_inv;rw [hg] at hg';cases hg';refine ⟨A.isNone,fun hA=> ?_,key _ _ _ _ hu⟩;have hh:=hcur hep;cases hm:X.μ id with
     |none=>rw [hm] at hh;exact hh.2.2
     |some q=>
      obtain ⟨b0,base,C⟩:=q;rw [hm] at hh;obtain ⟨_,_,_,a0,rfl,_⟩:=hh;cases hA
    ·cases h
   ·cases h
  ·cases h
 ·rename_i e hu;rw [hy.nilp_inv];have keyp: ∀(x:Option Addr),(do eqGuard .eql t a b (.pointer x) (.pointer none);binOp .eql t (.pointer x) (.pointer none)).run P X.w= .ok (.bool x.isNone) X.w/\
   (do eqGuard .neq t a b (.pointer x) (.pointer none);binOp .neq t (.pointer x) (.pointer none)).run P X.w= .ok (.bool (!x.isNone)) X.w:=by
   intro x;constructor<;>simp only [eqGuard,binOp,Sem.run_bind]<;>simp [km hu]
  split at h
  ·rename_i id;split at h
   ·rename_i k d hg;split at h
    ·rename_i hk;cases h;obtain ⟨k',d',rfl,hg'⟩:=hx.oref_inv;rw [hg] at hg';cases hg';rw [OK.val_ptr hk];refine ⟨_, ?_,keyp _⟩;obtain ⟨B,hI⟩:=hI;rcases hI.objs id _ hg with ⟨h1,h2⟩|⟨b,base,C,h1,h2,_⟩
     ·rw [h1,h2];rfl
     ·rw [h1,h2];rfl
    ·cases h
   ·cases h
  ·rename_i k d;split at h
   ·rename_i hk;cases h;obtain ⟨o,S,rfl,h1,h2⟩:=hx.fopq_inv;rw [OK.val_ptr hk];refine ⟨_, ?_,keyp _⟩;cases o with
    |none=>rw [h1 rfl];rfl
    |some b=>rw [(h2 b rfl).1];rfl
   ·cases h
  ·cases h
 ·cases h
theorem K0 {X:Ctx} {t:TypeId} {x y:V} {c:Bool} {u v:Value} (h:KS P t x y=some c) (hx:Rep X x u) (hy:Rep X y v) (a b:Operand):
 (do eqGuard .eql t a b u v;binOp .eql t u v).run P X.w= .ok (.bool c) X.w/\(do eqGuard .neq t a b u v;binOp .neq t u v).run P X.w= .ok (.bool (!c)) X.w:=by
 have ptr: ∀(x:Option Addr) e,P.underlying t=some (.pointer e)->(do eqGuard .eql t a b (.pointer x) (.pointer none);binOp .eql t (.pointer x) (.pointer none)).run P X.w= .ok (.bool x.isNone) X.w/\
  (do eqGuard .neq t a b (.pointer x) (.pointer none);binOp .neq t (.pointer x) (.pointer none)).run P X.w= .ok (.bool (!x.isNone)) X.w:=by
  intro x e hu;constructor<;>simp only [eqGuard,binOp,Sem.run_bind]<;>simp [km hu]
 have fnn: ∀(f:Fn) (us vs:Array Value) p q r,P.underlying t=some (.func p q r)->(do eqGuard .eql t a b (.func f us vs) .nilFunc;binOp .eql t (.func f us vs) .nilFunc).run P X.w= .ok (.bool false) X.w/\
  (do eqGuard .neq t a b (.func f us vs) .nilFunc;binOp .neq t (.func f us vs) .nilFunc).run P X.w= .ok (.bool true) X.w:=by
  intro f us vs p q r hu;constructor<;>simp only [eqGuard,binOp,Sem.run_bind]<;>simp [vi hu]
 unfold KS at h;split at h;case h_7=>cases h
 all_goals
  split at h<;>simp at h
  subst h
  rename_i hu
 ·rw [hx.nilp_inv,hy.nilp_inv];exact ptr none _ hu
 ·rw [hx.nilf_inv,hy.nilf_inv];constructor<;>simp only [eqGuard,binOp,Sem.run_bind]<;>simp [yw hu]
 ·obtain ⟨_,_,_,_,rfl,_⟩:=hx.ptr_inv;rw [hy.nilp_inv];exact ptr (some _) _ hu
 ·obtain ⟨_,_,_,rfl,_⟩:=hx.fptr_inv;rw [hy.nilp_inv];exact ptr (some _) _ hu
 ·obtain ⟨_,_,_,_,rfl,_⟩:=hx.eptr_inv;rw [hy.nilp_inv];exact ptr (some _) _ hu
 ·obtain ⟨_,_,rfl,_⟩:=hx.fn_inv;rw [hy.nilf_inv];exact fnn _ _ _ _ _ _ hu
theorem dR {op:BinOp} {c:Option Bool} {kn:Bool} (h:jg op c kn σ k): ∃b v,c=some b/\k v σ/\
 ((op= .eql/\∀X,Rep X v (.bool b))∨(op= .neq/\∀X,Rep X v (.bool (!b)))):=by
 unfold jg at h;split at h
 ·exact ⟨_,_,rfl,h, .inl ⟨rfl,fun X=> .kb⟩⟩
 ·exact ⟨_,_,rfl,h, .inr ⟨rfl,fun X=> .kb⟩⟩
 ·exact ⟨_,_,rfl,h, .inl ⟨rfl,fun X=> .bool⟩⟩
 ·exact ⟨_,_,rfl,h, .inr ⟨rfl,fun X=> .bool⟩⟩
 ·exact h.elim
theorem Qj {E:Env} {op:BinOp} {t:TypeId} {a b:Operand} {t2:TypeId} (ho:o.op= .binOp op t a b t2) {dst:Nat} (h:Gs E op t (ρ a) (ρ b) dst σ k):
 ∃v σ',k v σ'/\OpOk E.P o ρ σ v σ':=by
 have hops:o.op.operands.toList=[a,b]:=by rw [ho];rfl
 have close: ∀{v:V},k v σ->(∀(X:Ctx) (u u':Value),Rep X (ρ a) u->Rep X (ρ b) u'->∃r,(do eqGuard op t a b u u';binOp op t u u').run E.P X.w= .ok r X.w/\Rep X v r)->∃v σ',k v σ'/\OpOk E.P o ρ σ v σ':=by
  intro v hk hc;refine ⟨v,σ,hk,aH fun X ρr _ _ hr=> ?_⟩;obtain ⟨r,h1,h2⟩:=hc X _ _ (hr a (ao hops (by simp))) (hr b (ao hops (by simp)));refine ⟨r, ?_,h2⟩;simp only [execOp,ho];simp only [Sem.run_bind] at h1⊢;rw [h1];rfl
 unfold Gs at h;split at h
 ·rename_i kx x ky y hx hy;split at h
  ·obtain ⟨⟨h0,h1⟩,h⟩:=h;refine close h fun X u u' r1 r2=> ?_;rw [hx] at r1;rw [hy] at r2;rw [r1.int_inv,r2.int_inv];refine ⟨_, ?_, .int⟩;have hg:eqGuard .shr t a b (.int kx x) (.int ky y)=pure ():=rfl;rw [hg];have hm:min y.toNat kx.bits=y.toNat:=by omega
   have hp:(0:Int)<=((2 ^ y.toNat:Nat):Int):=Int.natCast_nonneg _;simp only [binOp,Op.shift,hm,Sem.run_bind,Sem.run_pure,Result.andThen_ok];rw [Q8 (by omega)];rw [<-Int.fdiv_eq_ediv_of_nonneg x hp];simp
  ·obtain ⟨⟨h0,h1⟩,h⟩:=h;refine close h fun X u u' r1 r2=> ?_;rw [hx] at r1;rw [hy] at r2;rw [r1.int_inv,r2.int_inv];refine ⟨_, ?_, .int⟩;have hg:eqGuard .shl t a b (.int kx x) (.int ky y)=pure ():=rfl;rw [hg];have hm:min y.toNat kx.bits=y.toNat:=by omega
   simp only [binOp,Op.shift,hm,Sem.run_bind,Sem.run_pure,Result.andThen_ok];rw [Q8 (by omega)];simp
  split at h
  ·rename_i hk;subst hk;obtain ⟨v,h1,h2⟩:=Gz (P:=E.P) h;refine close h1 fun X u u' r1 r2=> ?_;rw [hx] at r1;rw [hy] at r2;rw [r1.int_inv,r2.int_inv];obtain ⟨r,h3,h4⟩:=h2 t X.w;refine ⟨r, ?_,h4 X⟩;have hg:eqGuard op t a b (.int kx x) (.int kx y)=pure ():=by cases op<;>rfl
   rw [hg];simpa using h3
  ·exact h.elim
 ·rename_i x y hx hy;obtain ⟨v,h1,h2⟩:=GA (P:=E.P) h;refine close h1 fun X u u' r1 r2=> ?_;rw [hx] at r1;rw [hy] at r2;obtain ⟨s,rfl,e1⟩:=r1.str_inv;obtain ⟨s',rfl,e2⟩:=r2.str_inv;obtain ⟨r,h3,h4⟩:=h2 t X.w s s' e1 e2;refine ⟨r, ?_,h4 X⟩;have hg:eqGuard op t a b (.string s) (.string s')=pure ():=by cases op<;>rfl
  rw [hg];simpa using h3
 ·rename_i xs ys hx hy;split at h
  ·rename_i hgt;obtain ⟨c,v,hc,h1,h2⟩:=dR h;refine close h1 fun X u u' r1 r2=> ?_;rw [hx] at r1;rw [hy] at r2;have he:=BH 10000 hc r1 r2 (by omega);obtain ⟨us,rfl,_⟩:=r1.agg_inv;obtain ⟨vs,rfl,_⟩:=r2.agg_inv;rcases h2 with ⟨rfl,h2⟩|⟨rfl,h2⟩
   ·exact ⟨.bool c,by simp only [Sem.run_bind,run_eqGuard_agg X.w .eql t a b us vs hgt,Result.andThen_ok,run_eql_struct,he],h2 X⟩
   ·exact ⟨.bool (!c),by simp only [Sem.run_bind,run_eqGuard_agg X.w .neq t a b us vs hgt,Result.andThen_ok,run_neq_struct,he],h2 X⟩
  ·exact h.elim
 ·rename_i x hx;split at h
  ·rename_i y hu hy;obtain ⟨c,v,hc,h1,h2⟩:=dR h;refine close h1 fun X u u' r1 r2=> ?_;rw [hx] at r1;rw [r1.kb_inv,eD hy r2];simp only [Q9] at hc;subst hc;rcases h2 with ⟨rfl,h2⟩|⟨rfl,h2⟩
   ·exact ⟨.bool (x==y),by simp [eqGuard,run_eql_bool X.w t x y hu],h2 X⟩
   ·exact ⟨.bool (!(x==y)),by simp [eqGuard,run_neq_bool X.w t x y hu],h2 X⟩
  ·exact h.elim
 ·rename_i x hx;split at h
  ·rename_i y hu hy;obtain ⟨c,v,hc,h1,h2⟩:=dR h;refine close h1 fun X u u' r1 r2=> ?_;rw [hx] at r1;rw [r1.bool_inv,eD hy r2];simp only [Q9] at hc;subst hc;rcases h2 with ⟨rfl,h2⟩|⟨rfl,h2⟩
   ·exact ⟨.bool (x==y),by simp [eqGuard,run_eql_bool X.w t x y hu],h2 X⟩
   ·exact ⟨.bool (!(x==y)),by simp [eqGuard,run_neq_bool X.w t x y hu],h2 X⟩
  ·exact h.elim
 ·split at h
  ·rename_i p hp;split at h
   ·rename_i c0 hc0;obtain ⟨c,v,hc,h1,h2⟩:=dR h;refine ⟨_,_,h1,aH fun X ρr hσ hI hr=> ?_⟩;obtain ⟨c1,hc1,e1,e2⟩:=vk (X:=X) hI (by rw [hσ];exact hp) (hr a (ao hops (by simp))) (hr b (ao hops (by simp))) a b;have hcc:=Oi hp hc0 c1 hc1;simp only [Q9] at hc;subst hc;subst hcc;rcases h2 with ⟨rfl,h2⟩|⟨rfl,h2⟩
    ·refine ⟨.bool c1, ?_,h2 X⟩;simp only [execOp,ho];simp only [Sem.run_bind] at e1⊢;rw [e1];rfl
    ·refine ⟨.bool (!c1), ?_,h2 X⟩;simp only [execOp,ho];simp only [Sem.run_bind] at e2⊢;rw [e2];rfl
   split at h
   ·refine ⟨_,_,h,aH fun X ρr hσ hI hr=> ?_⟩;obtain ⟨c,hc,e1,e2⟩:=vk (X:=X) hI (by rw [hσ];exact hp) (hr a (ao hops (by simp))) (hr b (ao hops (by simp))) a b;refine ⟨.bool c, ?_, .bq hc⟩;simp only [execOp,ho];simp only [Sem.run_bind] at e1⊢;rw [e1];rfl
   ·refine ⟨_,_,h,aH fun X ρr hσ hI hr=> ?_⟩;obtain ⟨c,hc,e1,e2⟩:=vk (X:=X) hI (by rw [hσ];exact hp) (hr a (ao hops (by simp))) (hr b (ao hops (by simp))) a b;refine ⟨.bool (!c), ?_, .bq (by simpa using hc)⟩;simp only [execOp,ho];simp only [Sem.run_bind] at e2⊢;rw [e2];rfl
   ·exact h.elim
  obtain ⟨c,v,hc,h1,h2⟩:=dR h;refine close h1 fun X u u' r1 r2=> ?_;obtain ⟨e1,e2⟩:=K0 hc r1 r2 a b;rcases h2 with ⟨rfl,h2⟩|⟨rfl,h2⟩
  ·exact ⟨_,e1,h2 X⟩
  ·exact ⟨_,e2,h2 X⟩
theorem GB {w:World} {t:TypeId} {ms:Array (String×TypeId)} (hu:P.underlying t=some (.interface ms)) (te:TypeId) (v:Value):(Op.equal t (.iface te v) .nilIface).run P w= .ok false w:=by
 show (Op.equalIn (9999+1) t (.iface te v) .nilIface).run P w=_;generalize 9999=d;simp [Op.equalIn,run_underlying hu]
theorem yx {w:World} {t:TypeId} {ms:Array (String×TypeId)} (hu:P.underlying t=some (.interface ms)):(Op.equal t .nilIface .nilIface).run P w= .ok true w:=by
 show (Op.equalIn (9999+1) t .nilIface .nilIface).run P w=_;generalize 9999=d;simp [Op.equalIn,run_underlying hu]
theorem Oj {E:Env} {op:BinOp} {t:TypeId} {a b:Operand} {t2:TypeId} (ho:o.op= .binOp op t a b t2) {dst:Nat} (h:Gt E op t b (ρ a) (ρ b) dst σ k):
 ∃v σ',k v σ'/\OpOk E.P o ρ σ v σ':=by
 unfold Gt at h;split at h;rotate_left
 ·exact Qj ho h
 rename_i c hq;have hops:o.op.operands.toList=[a,b]:=by rw [ho];rfl
 unfold QW at hq;split at hq;rotate_left
 ·cases hq
 rename_i c' ms hra hu' hu2;have hrb:ρ (.const .nilIface)= .nili:=by first|exact hu'|exact hu2
 have hu:E.P.underlying t=some (.interface ms):=by first|exact hu'|exact hu2
 cases hq;obtain ⟨d,v,hc,h1,h2⟩:=dR h;cases hc;have key: ∀(X:Ctx) (u:Value),Rep X (.err c) u->(do eqGuard .eql t a (.const .nilIface) u .nilIface;binOp .eql t u .nilIface).run E.P X.w= .ok (.bool (!c)) X.w/\
  (do eqGuard .neq t a (.const .nilIface) u .nilIface;binOp .neq t u .nilIface).run E.P X.w= .ok (.bool (!!c)) X.w:=by
  intro X u hr;cases hr with
  |errN=>constructor<;>simp only [eqGuard,binOp,Sem.run_bind]<;>simp [yx hu]
  |errS=>constructor<;>simp only [eqGuard,binOp,Sem.run_bind]<;>simp [GB hu]
 refine ⟨v,σ,h1,aH fun X ρr _ hn hr=> ?_⟩;have hra':=hr a (ao hops (by simp));rw [hra] at hra';have hrb':=hr (.const .nilIface) (ao hops (by simp));rw [hrb] at hrb';have hn':ρr (.const .nilIface)= .nilIface:=by generalize ρr (.const .nilIface)=q at hrb';cases hrb';rfl
 obtain ⟨e1,e2⟩:=key X _ hra';rcases h2 with ⟨rfl,h2⟩|⟨rfl,h2⟩
 ·refine ⟨_, ?_,h2 X⟩;simp only [execOp,ho,hn'];simp only [Sem.run_bind] at e1⊢;rw [e1];rfl
 ·refine ⟨_, ?_,h2 X⟩;simp only [execOp,ho,hn'];simp only [Sem.run_bind] at e2⊢;rw [e2];rfl
theorem QX {E:Env} {op:UnOp} {t:TypeId} {a:Operand} (ho:o.op= .unOp op t a) {dst:Nat} (h:unV E op (ρ a) dst σ k):
 ∃v σ',k v σ'/\OpOk E.P o ρ σ v σ':=by
 have hops:o.op.operands.toList=[a]:=by rw [ho];rfl
 unfold unV at h;split at h
 ·rename_i kd n ha;obtain ⟨m,h1,h2⟩:=nh h;refine ⟨_,_,h1,aH fun X ρr _ _ hr=>⟨.int kd m, ?_, .int⟩⟩;have hra:=hr a (ao hops (by simp));rw [ha] at hra;rw [execOp];simp only [ho,hra.int_inv,Op.unary,Op.intArith,h2];simp
 ·rename_i b ha;refine ⟨_,_,h,aH fun X ρr _ _ hr=>⟨.bool (!b), ?_, .kb⟩⟩;have hra:=hr a (ao hops (by simp));rw [ha] at hra;simp [execOp,ho,hra.kb_inv,Op.unary]
 ·rename_i b ha;refine ⟨_,_,h,aH fun X ρr _ _ hr=>⟨.bool (!b), ?_, .bool⟩⟩;have hra:=hr a (ao hops (by simp));rw [ha] at hra;simp [execOp,ho,hra.bool_inv,Op.unary]
 ·rename_i p ha;refine ⟨_,_,h,aH fun X ρr _ _ hr=> ?_⟩;have hra:=hr a (ao hops (by simp));rw [ha] at hra;generalize hu:ρr a=u at hra;cases hra with
  |bq hb=>exact ⟨.bool (!_),by simp [execOp,ho,hu,Op.unary];rfl, .bq (by simpa using hb)⟩
 ·exact h.elim
theorem GC {P:Program} {w:World} {H G:Nat->Prop} {s d e:TypeId} {l:List Int} {A:Option Addr} {cap:Nat} (hS:RepS w H G (.int .u8) l A l.length cap)
 (hs:P.underlying s=some (.slice e)) (he:P.underlying e=some (.int .u8)) (hd:P.underlying d=some .string):
 ∃st:ByteArray,(convert s d (.slice A l.length cap)).run P w= .ok (.string st) w/\st.data.toList=l.map fun n=>UInt8.ofNat n.toNat:=by
 obtain ⟨_,_,hc⟩:=hS;cases A with
 |none=>
  have h0:l=[]:=by
   cases l with
   |nil=>rfl
   |cons x r=>
    obtain ⟨b,o',q,_⟩:=hc (by simp);cases q
  subst h0;exact ⟨ByteArray.empty,run_convert_bytes_nil w s e hs he _ _ d hd,rfl⟩
 |some A=>
  have hl:(loadCells A l.length).run P w= .ok (l.map (Value.int .u8)).toArray w:=by
   have:=run_loadCells_list (P:=P) w A (l.map (Value.int .u8)) (fun j v hj=>by
    rw [List.getElem?_map] at hj;cases hx:l[j]? with
    |none=>rw [hx] at hj;cases hj
    |some x=>
     rw [hx] at hj;cases hj;have hjl:=(List.getElem?_eq_some_iff.1 hx).1;obtain ⟨b,o',q,_,q2⟩:=hc (by omega);cases q;obtain ⟨row,r1,r2⟩:=q2 j x hx;have r1:row=[.int .u8 x]:=r1;subst r1;have:=r2 0 _ rfl;have hplain:(⟨b,o',none⟩:Addr).add j=⟨b,o'+j,none⟩:=by unfold Addr.add;split<;>simp_all
     rw [hplain];simpa [Ty.cells] using this)
   simpa using this
  refine ⟨strOfNums l, ?_,strOfNums_data l⟩;rw [run_convert_bytes_string w s d e _ _ _ hs he hd,run_bytesToString w A _ cap l hl,foldl_push_bytes];simp [strOfNums,ByteArray.empty,ByteArray.emptyWithCapacity];rfl
theorem Ol {E:Env} {s d:TypeId} {a:Operand} (ho:o.op= .convert s d a) {dst:Nat} (h:td E s d (ρ a) dst σ k):
 ∃v σ',k v σ'/\OpOk E.P o ρ σ v σ':=by
 have hops:o.op.operands.toList=[a]:=by rw [ho];rfl
 unfold td at h;split at h
 ·rename_i k1 kd k2 n hs hd ha;obtain ⟨m,h1,h2⟩:=nh h;refine ⟨_,_,h1,aH fun X ρr _ _ hr=>⟨.int kd m, ?_, .int⟩⟩;have hra:=hr a (ao hops (by simp));rw [ha] at hra;simp [execOp,ho,hra.int_inv,convert,run_underlying hs,run_underlying hd,Conv.intToInt,h2]
 ·rename_i l hs hd ha;refine ⟨_,_,h,aH fun X ρr _ _ hr=> ?_⟩;have hra:=hr a (ao hops (by simp));rw [ha] at hra;obtain ⟨st,e,e1⟩:=hra.str_inv;exact ⟨.string st,by simp [execOp,ho,e,convert,run_underlying hs,run_underlying hd], .str e1⟩
 ·rename_i e kd l hs hd ha;split at h
  ·rename_i he;refine ⟨_,_,h,aH fun X ρr _ _ hr=> ?_⟩;have hra:=hr a (ao hops (by simp));rw [ha] at hra;obtain ⟨A,cap,hu,⟨_,hcap,hc⟩,_⟩:=hra.list_inv;obtain ⟨st,h1,h2⟩:=GC (s:=s) (d:=d) (l:=l) ⟨rfl,hcap,hc⟩ hs he hd;refine ⟨.string st, ?_, .str h2⟩;simp only [execOp,ho,hu];rw [Sem.run_bind];erw [h1];rfl
  ·exact h.elim
 ·exact h.elim
theorem yy {a:Operand} (ho:o.op= .nilCheck a) (h:fq (ρ a) σ k): ∃v σ',k v σ'/\OpOk P o ρ σ v σ':=by
 have hops:o.op.operands.toList=[a]:=by rw [ho];rfl
 unfold fq at h;split at h
 ·rename_i id off ha;refine ⟨_,_,h,aH fun X ρr _ _ hr=> ?_⟩;have hra:=hr a (ao hops (by simp));rw [ha] at hra;have h0:=hra;obtain ⟨_,_,_,_,e,_⟩:=hra.ptr_inv;exact ⟨ρr a,by simp [execOp,ho,e],h0⟩
 ·rename_i cells ha;refine ⟨_,_,h,aH fun X ρr _ _ hr=> ?_⟩;have hra:=hr a (ao hops (by simp));rw [ha] at hra;have h0:=hra;obtain ⟨_,_,_,e,_⟩:=hra.fptr_inv;exact ⟨ρr a,by simp [execOp,ho,e],h0⟩
 ·rename_i id ep i off ha;refine ⟨_,_,h,aH fun X ρr _ _ hr=> ?_⟩;have hra:=hr a (ao hops (by simp));rw [ha] at hra;have h0:=hra;obtain ⟨_,_,_,_,e,_⟩:=hra.eptr_inv;exact ⟨ρr a,by simp [execOp,ho,e],h0⟩
 ·rename_i id i off ha;refine ⟨_,_,h,aH fun X ρr _ _ hr=> ?_⟩;have hra:=hr a (ao hops (by simp));rw [ha] at hra;have h0:=hra;obtain ⟨_,_,_,_,_,_,_,_,e,_⟩:=hra.nptr_inv;exact ⟨ρr a,by simp [execOp,ho,e],h0⟩
 ·rename_i f c d ha;refine ⟨_,_,h,aH fun X ρr _ _ hr=> ?_⟩;have hra:=hr a (ao hops (by simp));rw [ha] at hra;have h0:=hra;obtain ⟨_,_,e,_⟩:=hra.fn_inv;exact ⟨ρr a,by simp [execOp,ho,e],h0⟩
 ·exact h.elim
end
end Go.Vm
namespace Go.Vm
section
variable {P:Program} {o:Oper} {ρ:Operand->V} {σ:Store} {k:K}
theorem vn {t:TypeId} {x:Operand} {f:Nat} (ho:o.op= .fieldAddr t x f) (h:eB P t (ρ x) f σ k): ∃v σ',k v σ'/\OpOk P o ρ σ v σ':=by
 have hops:o.op.operands.toList=[x]:=by rw [ho];rfl
 unfold eB at h;split at h
 ·rename_i fs hu;split at h
  ·rename_i fd hf;split at h
   ·rename_i n hn;have run: ∀(ρr:Operand->Value) (w:World) (b off:Nat),ρr x= .pointer (some ⟨b,off,none⟩)->(execOp ρr o).run P w= .ok (.value (.pointer (some ⟨b,off+fd.offset,none⟩))) w:=by
     intro ρr w b off e;simp [execOp,ho,e,Instr.fieldAt,run_underlying hu,hf,Instr.sureAddr,fieldPlace,cB hn,Addr.add_lit]
    split at h
    ·rename_i id off hx;refine ⟨_,_,h,aH fun X ρr _ _ hr=> ?_⟩;have hra:=hr x (ao hops (by simp));rw [hx] at hra;obtain ⟨cells,b,base,C,e,hg,hm⟩:=hra.ptr_inv;refine ⟨_,run ρr X.w _ _ e, ?_⟩;rw [RK];exact .ptr hg hm
    ·rename_i cells hx;refine ⟨_,_,h,aH fun X ρr _ _ hr=> ?_⟩;have hra:=hr x (ao hops (by simp));rw [hx] at hra;obtain ⟨b,o',g,e,hG,hc,hrc⟩:=hra.fptr_inv;refine ⟨_,run ρr X.w _ _ e, .fptr (fun j=>g (fd.offset+j)) (fun h0=>hG (by simp at h0;omega)) (fun j c hj=> ?_) (fun j c hj=> ?_)⟩
     ·rw [List.getElem?_drop] at hj;rw [RK];exact hc _ c hj
     ·rw [List.getElem?_drop] at hj;exact hrc _ c hj
    ·rename_i id ep i off hx;refine ⟨_,_,h,aH fun X ρr _ _ hr=> ?_⟩;have hra:=hr x (ao hops (by simp));rw [hx] at hra;obtain ⟨a,ep',t',l,e,hg,hle,hcur⟩:=hra.eptr_inv;refine ⟨.pointer (some (a.add fd.offset)), ?_, .eptr hg hle (fun he=> ?_)⟩
     ·simp [execOp,ho,e,Instr.fieldAt,run_underlying hu,hf,Instr.sureAddr,fieldPlace,cB hn]
     ·obtain ⟨b,base,C,hm,rfl⟩:=hcur he;exact ⟨b,base,C,hm,by rw [Addr.add_lit,RK]⟩
    ·rename_i id i off hx;refine ⟨_,_,h,aH fun X ρr _ _ hr=> ?_⟩;have hra:=hr x (ao hops (by simp));rw [hx] at hra;obtain ⟨iv,t',f',h',l,b,base,C,e,hg,hm⟩:=hra.nptr_inv;refine ⟨_,run ρr X.w _ _ e, ?_⟩;rw [RK];exact .nptr hg hm
    ·exact h.elim
   ·exact h.elim
  ·exact h.elim
 ·exact h.elim
theorem K3 {t:TypeId} {x:Operand} {f:Nat} (ho:o.op= .field t x f) (h:nb P t (ρ x) f σ k): ∃v σ',k v σ'/\OpOk P o ρ σ v σ':=by
 have hops:o.op.operands.toList=[x]:=by rw [ho];rfl
 unfold nb at h;split at h
 ·rename_i fs hu;split at h
  ·rename_i fd hf;split at h
   ·rename_i g n cs hg hn hx;split at h
    ·rename_i v hv;refine ⟨_,_,h,aH fun X ρr _ _ hr=> ?_⟩;have hra:=hr x (ao hops (by simp));rw [hx] at hra;obtain ⟨vs,e,hl⟩:=hra.agg_inv;obtain ⟨u,h1,h2⟩:=df hv hl hg hn X.w;exact ⟨u,by simp [execOp,ho,e,Instr.field,run_underlying hu,hf,asAgg,h1],h2⟩
    ·exact h.elim
   ·exact h.elim
  ·exact h.elim
 ·exact h.elim
theorem lP {E:Env} {t:TypeId} {x i:Operand} (ho:o.op= .indexAddr t x i) (h:de E t (ρ x) (ρ i) σ k): ∃v σ',k v σ'/\OpOk E.P o ρ σ v σ':=by
 have hops:o.op.operands.toList=[x,i]:=by rw [ho];rfl
 unfold de at h;split at h
 ·rename_i ki n hi;split at h
  ·rename_i e hu;split at h
   ·rename_i sz hsz;have run: ∀(ρr:Operand->Value) (w:World) (a:Addr) (len cap:Nat),ρr i= .int ki n->ρr x= .slice (some a) len cap->0<=n->n<len->
     (execOp ρr o).run E.P w= .ok (.value (.pointer (some (a.add (n.toNat*sz))))) w:=by
     intro ρr w a len cap e1 e2 h0 h1;simp [execOp,ho,e1,e2,Instr.indexAt,run_underlying hu,asIntOf,h0,h1,cB hsz]
    split at h
    ·rename_i kd t' l hx;split at h
     ·rename_i hsc;obtain ⟨⟨h0,h1⟩,h⟩:=h;have hlt:n.toNat<l.length:=by omega
      have hnx:nth l n.toNat=some (l[n.toNat]'hlt):=List.getElem?_eq_getElem hlt;have h:=h _ hnx;generalize l[n.toNat]'hlt=y at hnx h;refine ⟨_,_,h,aH fun X ρr _ _ hr=> ?_⟩;have hra:=hr x (ao hops (by simp));have hri:=hr i (ao hops (by simp));rw [hx] at hra;rw [hi] at hri;obtain ⟨A,cap,e2,hc,_⟩:=hra.list_inv;obtain ⟨_,_,bS⟩:=hc;obtain ⟨b,of,rfl,hG,hrow⟩:=bS (by omega);obtain ⟨row,r1,r2⟩:=hrow n.toNat y hnx;have hl:=ik (X:=X) r1;refine ⟨_,run ρr X.w _ _ _ hri.int_inv e2 h0 h1, ?_⟩;rw [Addr.add_lit,hsc];refine .fptr (fun j=>row.getD j undef) (fun _=>hG.1) (fun j c hj=> ?_) (fun j c hj=> ?_)
      ·have hlt:j<row.length:=by rw [hl.1];exact (List.getElem?_eq_some_iff.1 hj).1
       have:=r2 j _ (List.getElem?_eq_getElem hlt);simpa [hlt] using this
      ·have hlt:j<row.length:=by rw [hl.1];exact (List.getElem?_eq_some_iff.1 hj).1
       have:=hl.2 j c _ hj (List.getElem?_eq_getElem hlt);simpa [hlt] using this
     ·exact h.elim
    ·rename_i id ep hx;split at h
     ·rename_i ep' t' l hg;split at h
      ·rename_i hc;obtain ⟨hep,hsc⟩:=hc;obtain ⟨⟨h0,h1⟩,h⟩:=h;refine ⟨_,_,h,aH fun X ρr hσ _ hr=> ?_⟩;subst hσ;have hra:=hr x (ao hops (by simp));have hri:=hr i (ao hops (by simp));rw [hx] at hra;rw [hi] at hri;obtain ⟨A,len,cap,ep2,t2,l2,e2,hg',hle,hcur⟩:=hra.slc_inv;rw [hg] at hg';cases hg';have hh:=hcur hep;cases hm:X.μ id with
       |none=>
        rw [hm] at hh;simp only [Hdr] at hh;omega
       |some q=>
        obtain ⟨b,base,C⟩:=q;rw [hm] at hh;simp only [Hdr] at hh;obtain ⟨rfl,rfl,hC,a,rfl,ha⟩:=hh;have ha:=ha (by omega);subst ha;refine ⟨_,run ρr X.w _ _ _ hri.int_inv e2 h0 h1, .eptr hg hle (fun _=>⟨b,base,_,hm, ?_⟩)⟩;rw [Addr.add_lit,hsc];rfl
      ·exact h.elim
     ·exact h.elim
    ·rename_i id ep off m hx;split at h
     ·rename_i ep' t' l hg;split at h
      ·rename_i hc;obtain ⟨hep,hsc⟩:=hc;obtain ⟨⟨h0,h1⟩,h⟩:=h;refine ⟨_,_,h,aH fun X ρr hσ _ hr=> ?_⟩;subst hσ;have hra:=hr x (ao hops (by simp));have hri:=hr i (ao hops (by simp));rw [hx] at hra;rw [hi] at hri;obtain ⟨A,len,cap,ep2,t2,l2,e2,hg',hle,hcur⟩:=hra.slc_inv;rw [hg] at hg';cases hg';have hh:=hcur hep;cases hm:X.μ id with
       |none=>
        rw [hm] at hh;simp only [Hdr] at hh;omega
       |some q=>
        obtain ⟨b,base,C⟩:=q;rw [hm] at hh;simp only [Hdr] at hh;obtain ⟨rfl,hoff,hC,rfl,a,rfl,ha⟩:=hh;have ha:=ha (by omega);subst ha;refine ⟨_,run ρr X.w _ _ _ hri.int_inv e2 h0 h1, .eptr hg hle (fun _=>⟨b,base,C,hm, ?_⟩)⟩;rw [Addr.add_lit,hsc,RO,RR,RK]
      ·exact h.elim
     ·exact h.elim
    ·rename_i n' cells hx;split at h
     ·rename_i hc;obtain ⟨hsc,hpos⟩:=hc;subst hsc;obtain ⟨⟨h0,h1⟩,h⟩:=h;have pick: ∀(L:List Nat),(L.foldr (fun (i:Nat) (acc:Prop)=>(n=(i:Int)->k (.fptr (cells.drop (i*sz))) σ)/\acc) True)->∀i∈L,n=(i:Int)->k (.fptr (cells.drop (i*sz))) σ:=by
       intro L;induction L with
       |nil=>intro _ i hi;simp at hi
       |cons a r ih=>
        intro hL i hi;simp only [List.foldr_cons] at hL;rcases Rp.1 hi with rfl|hi
        ·exact hL.1
        ·exact ih hL.2 i hi
      have h:=pick _ h n.toNat (RX.2 (by omega)) (by omega);refine ⟨_,_,h,aH fun X ρr _ _ hr=> ?_⟩;have hra:=hr x (ao hops (by simp));have hri:=hr i (ao hops (by simp));rw [hx] at hra;rw [hi] at hri;obtain ⟨A,len,cap,g,e2,q1,q2,q3,q4⟩:=hra.rows_inv;have hlen:cells.length/sz=len:=by rw [<-q1];exact Nat.mul_div_cancel _ hpos
      have hlt:n.toNat<len:=by omega
      have hmul:(n.toNat+1)*sz<=len*sz:=RN _ hlt;have hmul2:(n.toNat+1)*sz=n.toNat*sz+sz:=by rw [RO,Sx]
      obtain ⟨b,o',rfl,hG,bS⟩:=q3 (by omega);refine ⟨_,run ρr X.w _ _ _ hri.int_inv e2 h0 (by omega), ?_⟩;rw [Addr.add_lit];refine .fptr (fun j=>g (n.toNat*sz+j)) (fun _=>hG.1) (fun j c hj=> ?_) (fun j c hj=> ?_)
      ·rw [List.getElem?_drop] at hj;rw [RK];exact bS _ c hj
      ·rw [List.getElem?_drop] at hj;exact q4 _ c hj
     ·exact h.elim
    ·exact h.elim
   ·exact h.elim
  ·rename_i len e hu;split at h
   ·rename_i sz m hsz;split at h
    ·rename_i hm;have run: ∀(ρr:Operand->Value) (w:World) (a:Addr),ρr i= .int ki (.ofNat m)->ρr x= .pointer (some a)->
      (execOp ρr o).run E.P w= .ok (.value (.pointer (some (a.add (m*sz))))) w:=by
      intro ρr w a e1 e2;have h0:(0:Int)<=Int.ofNat m:=Int.natCast_nonneg m;have h1:Int.ofNat m<(len:Int):=by simpa using hm
      have h2:(Int.ofNat m).toNat=m:=rfl;simp only [execOp,ho,e1,e2,Instr.indexAt,Sem.run_bind,run_underlying hu,asIntOf,Sem.run_pure,Result.andThen_ok,Instr.sureAddr];simp only [h0,h1,and_self,if_true,Sem.run_bind,cB hsz,Result.andThen_ok,h2,Sem.run_pure]
     split at h
     ·rename_i id off hx;refine ⟨_,_,h,aH fun X ρr _ _ hr=> ?_⟩;have hra:=hr x (ao hops (by simp));have hri:=hr i (ao hops (by simp));rw [hx] at hra;rw [hi] at hri;obtain ⟨cells,b,base,C,e2,hg,hm2⟩:=hra.ptr_inv;refine ⟨_,run ρr X.w _ hri.int_inv e2, ?_⟩;rw [Addr.add_lit,RK];exact .ptr hg hm2
     ·rename_i cells hx;refine ⟨_,_,h,aH fun X ρr _ _ hr=> ?_⟩;have hra:=hr x (ao hops (by simp));have hri:=hr i (ao hops (by simp));rw [hx] at hra;rw [hi] at hri;obtain ⟨b,o',g,e2,hG,hc,hrc⟩:=hra.fptr_inv;refine ⟨_,run ρr X.w _ hri.int_inv e2, ?_⟩;rw [Addr.add_lit];refine .fptr (fun j=>g (m*sz+j)) (fun h0=>hG (by simp at h0;omega)) (fun j c hj=> ?_) (fun j c hj=> ?_)
      ·rw [List.getElem?_drop] at hj;rw [RK];exact hc _ c hj
      ·rw [List.getElem?_drop] at hj;exact hrc _ c hj
     ·exact h.elim
    ·exact h.elim
   ·exact h.elim
  ·exact h.elim
 ·exact h.elim
theorem K4 {E:Env} {t:TypeId} {x i:Operand} (ho:o.op= .index t x i) (h:ne E t (ρ x) (ρ i) σ k): ∃v σ',k v σ'/\OpOk E.P o ρ σ v σ':=by
 have hops:o.op.operands.toList=[x,i]:=by rw [ho];rfl
 unfold ne at h;split at h
 ·rename_i ki n l hi hu hx;obtain ⟨⟨h0,h1⟩,h⟩:=h;have hlt:n.toNat<l.length:=by omega
  have h:=h _ (List.getElem?_eq_getElem hlt);refine ⟨_,_,h,aH fun X ρr _ _ hr=> ?_⟩;have hra:=hr x (ao hops (by simp));have hri:=hr i (ao hops (by simp));rw [hx] at hra;rw [hi] at hri;obtain ⟨s,e,e1⟩:=hra.str_inv;subst e1;have hsz:n.toNat<s.size:=by simpa using hlt
  have hs:s[n.toNat]? =some (s.data.toList[n.toNat]'hlt):=by
   rw [getElem?_pos s n.toNat hsz];rfl
  refine ⟨_, ?_, .int⟩;simp [execOp,ho,e,hri.int_inv,Instr.index,run_underlying hu,asIntOf,h0,hs]
 ·rename_i ki n len el cs hi hu hx;split at h
  ·rename_i sz g m hsz hg;split at h
   ·rename_i hm;split at h
    ·rename_i v hv;refine ⟨_,_,h,aH fun X ρr _ _ hr=> ?_⟩;have hra:=hr x (ao hops (by simp));have hri:=hr i (ao hops (by simp));rw [hx] at hra;rw [hi] at hri;obtain ⟨vs,e,hl⟩:=hra.agg_inv;obtain ⟨u,h1,h2⟩:=df hv hl hg hsz X.w;refine ⟨u, ?_,h2⟩;have h0:(0:Int)<=Int.ofNat m:=Int.natCast_nonneg m;have hlt:Int.ofNat m<(len:Int):=Int.ofNat_lt.2 hm;have ht:(Int.ofNat m).toNat=m:=rfl;simp only [execOp,ho,e,hri.int_inv];simp [Instr.index,run_underlying hu,asIntOf,cB hsz,h1,hm]
    ·exact h.elim
   ·exact h.elim
  ·exact h.elim
 ·exact h.elim
theorem K5 {c:Call} {x y:Operand} (h0:c.args[0]? =some x) (h1:c.args[1]? =some y) (hs:c.args.size=2):c.args= #[x,y]:=by
 apply Array.ext';match hl:c.args.toList with
 |[]=>have:=congrArg List.length hl;simp at this;simp [this] at hs
 |[_]=>have:=congrArg List.length hl;simp at this;omega
 |[a,b]=>
  have e0:c.args[0]? =some a:=by rw [<-Array.getElem?_toList,hl];rfl
  have e1:c.args[1]? =some b:=by rw [<-Array.getElem?_toList,hl];rfl
  rw [h0] at e0
  rw [h1] at e1
  cases e0
  cases e1
  rfl
 |_::_::_::_=>have:=congrArg List.length hl;simp at this;omega
theorem OU {E:Env} {mx:Bool} {x y:Operand} {c:Call} (ho:o.op= .call c) (hc:c.callee= .builtin (if mx then .max else .min)) (h0:c.args[0]? =some x) (h1:c.args[1]? =some y) (hs:c.args.size=2)
 (h:mmV mx (ρ x) (ρ y) σ k): ∃v σ',k v σ'/\OpOk E.P o ρ σ v σ':=by
 have hargs:=K5 h0 h1 hs;have hops:o.op.operands.toList=[x,y]:=by rw [ho];cases mx<;>simp [Op.operands,Call.operands,hc,hargs]
 unfold mmV at h;split at h
 ·rename_i ka a kb b hx hy;split at h
  ·rename_i e;refine ⟨_,_,h,aH fun X ρr _ _ hr=> ?_⟩;have h2:=hr x (ao hops (by simp));have h3:=hr y (ao hops (by simp));rw [hx] at h2;rw [hy] at h3;refine ⟨_, ?_, .int⟩;cases mx<;>simp [execOp,ho,resolve,hc,invoke,builtin,hargs,h2.int_inv,h3.int_inv,Builtin.min_,Builtin.max_,Builtin.min2,Builtin.max2,mmI]
  ·exact h.elim
 ·exact h.elim
theorem ra {f:Nat->Prop}: ∀{L:List Nat},L.foldr (fun (i:Nat) (acc:Prop)=>f i/\acc) True->∀i∈L,f i
 |[],_,i,hi=>by simp at hi
 |a::r,h,i,hi=>by
  rcases Rp.1 hi with rfl|h2
  ·exact h.1
  ·exact ra h.2 i h2
theorem yz {E:Env} {t:TypeId} {x i:V} {σ:Store} {k:K} (h:gS E t x i σ k):de E t x i σ k:=by
 unfold gS at h;split at h
 ·rename_i kd n len e hu;unfold de;simp only [hu];split at h
  ·rename_i sz hs;simp only [hs];split at h
   ·rename_i id off;obtain ⟨⟨h0,h1⟩,h2⟩:=h;obtain ⟨m,rfl⟩:=Sn h0;have hm:m<len:=by omega
    have:=ra h2 m (RX.2 hm) rfl;simp only [Int.ofNat_eq_natCast] at*;show (if m<len then _ else _)
    rw [Q_ hm];exact this
   ·rename_i cells;obtain ⟨⟨h0,h1⟩,h2⟩:=h;obtain ⟨m,rfl⟩:=Sn h0;have hm:m<len:=by omega
    have:=ra h2 m (RX.2 hm) rfl;show (if m<len then _ else _)
    rw [Q_ hm];exact this
   ·exact h.elim
  ·exact h.elim
 ·exact h.elim
theorem iw {α:Type} {f:Option V->Option α} {n:Nat}: ∀{m:Nat} {cs:List V} {l:List α},tf f n m cs=some l->∀j,j<m->∃a,l[j]? =some a/\f (cs[j*n]?)=some a
 |0,_,_,_,j,hj=>absurd hj (Nat.not_lt_zero _)
 |m+1,cs,l,h,j,hj=>by
  simp only [tf] at h;split at h
  ·rename_i a l2 ha hl;cases h;cases j with
   |zero=>exact ⟨a,rfl,by simpa [List.head?_eq_getElem?] using ha⟩
   |succ j=>
    obtain ⟨b,h1,h2⟩:=iw hl j (by omega);refine ⟨b,by simpa using h1, ?_⟩;rw [List.getElem?_drop] at h2;rw [RO,Sx,Nat.add_comm];exact h2
  ·cases h
theorem BJ {kd:IntKind} {v:Option V} {a:Int} (h:ofInt kd v=some a):v=some (.int kd a):=by
 unfold ofInt at h;split at h
 ·split at h
  ·rename_i e;cases h;rw [e]
  ·cases h
 ·cases h
theorem BK {v:Option V} {a:List UInt8} (h:KV v=some a):v=some (.str a):=by
 unfold KV at h;split at h
 ·cases h;rfl
 ·cases h
theorem yA {t:Ty} {v:Option V} {a:List t.den} (h:BB t v=some a):v=some (.list .full t a):=by
 unfold BB at h;split at h
 ·split at h
  ·rename_i e;subst e;cases h;rfl
  ·cases h
 ·cases h
theorem GD {n m:Nat} {x:Int} {cs:List V} {v:V} (h:Qe n m x cs=some v) (hx:x.toNat<m):cs[x.toNat*n]? =some v:=by
 unfold Qe at h;split at h
 ·obtain ⟨l,hl,rfl⟩:=Rc.1 h;obtain ⟨a,h1,h2⟩:=iw hl _ hx;rw [h1];exact BJ h2
 ·obtain ⟨l,hl,rfl⟩:=Rc.1 h;obtain ⟨a,h1,h2⟩:=iw hl _ hx;rw [h1];exact BK h2
 ·obtain ⟨l,hl,rfl⟩:=Rc.1 h;obtain ⟨a,h1,h2⟩:=iw hl _ hx;rw [h1];exact yA h2
 ·cases h
theorem jk {n m:Nat} {x:Int} (hx:x.toNat<m): ∀{c:Nat} {cs r:List V},nd n m x c cs=some r->r.length=c/\∀j,j<c->r[j]? =cs[x.toNat*n+j]?
 |0,_,_,h=>by
  cases h;exact ⟨rfl,fun j hj=>absurd hj (Nat.not_lt_zero _)⟩
 |c+1,cs,r,h=>by
  simp only [nd] at h;split at h
  ·rename_i v r2 hv hr;cases h;obtain ⟨h1,h2⟩:=jk hx hr;refine ⟨by simp [h1],fun j hj=> ?_⟩;cases j with
   |zero=>simpa using (GD hv hx).symm
   |succ j=>
    have:=h2 j (by omega);rw [List.getElem?_drop] at this;rw [List.getElem?_cons_succ,this];congr 1;omega
  ·cases h
theorem BL {n m:Nat} {x:Int} {cs r:List V} (hx:x.toNat<m) (hn:m*n=cs.length) (h:nd n m x n cs=some r):cut cs (x.toNat*n) n=some r:=by
 obtain ⟨h1,h2⟩:=jk hx h;have hmul:(x.toNat+1)*n<=m*n:=RN _ hx;rw [RO,Sx] at hmul;unfold cut;rw [Q_ (by omega)];congr 1;apply Sv;intro j;by_cases hj:j<n
 ·rw [List.getElem?_take,Q_ hj,List.getElem?_drop];exact (h2 j hj).symm
 ·rw [List.getElem?_eq_none (by rw [Rz];omega),List.getElem?_eq_none (by omega)]
theorem yB {E:Env} {t:TypeId} {x i:Operand} (ho:o.op= .indexAddr t x i) (h:gT E t (ρ x) (ρ i) σ k): ∃v σ',k v σ'/\OpOk E.P o ρ σ v σ':=by
 have hops:o.op.operands.toList=[x,i]:=by rw [ho];rfl
 unfold gT at h;split at h
 ·rename_i kd n e n' cells hi hu hx;split at h
  ·rename_i sz hsz;split at h
   ·rename_i hc;obtain ⟨hsc,hpos⟩:=hc;subst hsc;split at h
    ·rename_i r hr;obtain ⟨⟨h0,h1⟩,h⟩:=h;have hlt:n.toNat<cells.length/sz:=by omega
     obtain ⟨r1,r2⟩:=jk hlt hr;refine ⟨_,_,h,aH fun X ρr _ _ hr=> ?_⟩;have hra:=hr x (ao hops (by simp));have hri:=hr i (ao hops (by simp));rw [hx] at hra;rw [hi] at hri;obtain ⟨A,len,cap,g,e2,q1,q2,q3,q4⟩:=hra.rows_inv;have hlen:cells.length/sz=len:=by rw [<-q1];exact Nat.mul_div_cancel _ hpos
     have hmul:(n.toNat+1)*sz<=len*sz:=RN _ (by omega);rw [RO,Sx] at hmul;obtain ⟨b,o',rfl,hG,bS⟩:=q3 (by omega);have hget: ∀(j:Nat) c,r[j]? =some c->cells[n.toNat*sz+j]? =some c:=fun j c hj=>by
      have:=List.getElem?_eq_some_iff.1 hj;obtain ⟨hl,_⟩:=this;rw [<-r2 j (by omega)];exact hj
     have run: ∀(w:World) (a:Addr) (len cap:Nat),ρr i= .int kd n->ρr x= .slice (some a) len cap->n<len->
      (execOp ρr o).run E.P w= .ok (.value (.pointer (some (a.add (n.toNat*sz))))) w:=by
      intro w a len cap e1 e2 h1;simp [execOp,ho,e1,e2,Instr.indexAt,run_underlying hu,asIntOf,h0,h1,cB hsz]
     refine ⟨_,run X.w _ _ _ hri.int_inv e2 (by omega), ?_⟩;rw [Addr.add_lit];refine .fptr (fun j=>g (n.toNat*sz+j)) (fun _=>hG.1) (fun j c hj=> ?_) (fun j c hj=> ?_)
     ·rw [RK];exact bS _ c (hget j c hj)
     ·exact q4 _ c (hget j c hj)
    ·exact h.elim
   ·exact h.elim
  ·exact h.elim
 ·exact h.elim
theorem yC {E:Env} {t:TypeId} {x i:Operand} (ho:o.op= .index t x i) (h:gU E t (ρ x) (ρ i) σ k): ∃v σ',k v σ'/\OpOk E.P o ρ σ v σ':=by
 have hops:o.op.operands.toList=[x,i]:=by rw [ho];rfl
 unfold gU at h;split at h
 ·rename_i ki n len e cs hi hu hx;split at h
  ·rename_i sz g hsz hg;split at h
   ·rename_i hm;split at h
    ·rename_i v hv;obtain ⟨⟨h0,h1⟩,h⟩:=h;have hlt:n.toNat<len:=by omega
     have hv2:(cut cs (n.toNat*sz) sz).bind (cf g)=some v:=by
      obtain ⟨r,hr,hv⟩:=Ra.1 hv;rw [BL hlt hm hr];exact hv
     refine ⟨_,_,h,aH fun X ρr _ _ hr=> ?_⟩;have hra:=hr x (ao hops (by simp));have hri:=hr i (ao hops (by simp));rw [hx] at hra;rw [hi] at hri;obtain ⟨vs,e,hl⟩:=hra.agg_inv;obtain ⟨u,h5,h6⟩:=df hv2 hl hg hsz X.w;refine ⟨u, ?_,h6⟩;simp only [execOp,ho,e,hri.int_inv];simp [Instr.index,run_underlying hu,asIntOf,cB hsz,h5,h0,h1]
    ·exact h.elim
   ·exact h.elim
  ·exact h.elim
 ·exact h.elim
theorem Qk {E:Env} {t:TypeId} {x:Operand} {c:Call} (ho:o.op= .call c) (hc:c.callee= .builtin .len) (ha:c.args[0]? =some x) (hs:c.args.size=1) (ht:c.argTypes[0]? =some t)
 (h:Gu E t (ρ x) σ k): ∃v σ',k v σ'/\OpOk E.P o ρ σ v σ':=by
 have hargs:c.args= #[x]:=by
  apply Array.ext';match hl:c.args.toList with
  |[]=>have:=congrArg List.length hl;simp at this;simp [this] at hs
  |[y]=>
   have:c.args[0]? =some y:=by rw [<-Array.getElem?_toList,hl];rfl
   rw [ha] at this
   cases this
   rfl
  |_::_::_=>have:=congrArg List.length hl;simp at this;omega
 have hops:o.op.operands.toList=[x]:=by rw [ho];simp [Op.operands,Call.operands,hc,hargs]
 have run: ∀(ρr:Operand->Value) (w:World) (n:Int) (d:TypeDesc),E.P.underlying t=some d->(Builtin.len_ c.argTypes o.type #[ρr x]).run E.P w= .ok (.int .i64 n) w->(execOp ρr o).run E.P w= .ok (.value (.int .i64 n)) w:=by
  intro ρr w n d _ h1;simp [execOp,ho,resolve,hc,invoke,builtin,hargs,h1]
 unfold Gu at h;split at h
 ·rename_i l hu hx;refine ⟨_,_,h,aH fun X ρr _ _ hr=> ?_⟩;have hra:=hr x (ao hops (by simp));rw [hx] at hra;obtain ⟨s,e,e1⟩:=hra.str_inv;refine ⟨_,run ρr X.w l.length _ hu ?_, .int⟩;subst e1;simp [Builtin.len_,ht,e,run_underlying hu,goInt]
 ·rename_i d hu hx;refine ⟨_,_,h,aH fun X ρr _ _ hr=> ?_⟩;have hra:=hr x (ao hops (by simp));rw [hx] at hra;exact ⟨_,run ρr X.w 0 _ hu (by simp [Builtin.len_,ht,hra.nils_inv,run_underlying hu,goInt]), .int⟩
 ·rename_i d kd t' l hu hx;refine ⟨_,_,h,aH fun X ρr _ _ hr=> ?_⟩;have hra:=hr x (ao hops (by simp));rw [hx] at hra;obtain ⟨A,cap,e,_⟩:=hra.list_inv;exact ⟨_,run ρr X.w l.length _ hu (by simp [Builtin.len_,ht,e,run_underlying hu,goInt]), .int⟩
 ·rename_i d id ep hu hx;split at h
  ·rename_i ep' t' l hg;split at h
   ·rename_i hep;refine ⟨_,_,h,aH fun X ρr hσ _ hr=> ?_⟩;subst hσ;have hra:=hr x (ao hops (by simp));rw [hx] at hra;obtain ⟨A,len,cap,ep2,t2,l2,e2,hg',hle,hcur⟩:=hra.slc_inv;rw [hg] at hg';cases hg';have hh:=hcur hep;have hlen:len=l.length:=by
     cases hm:X.μ id with
     |none=>rw [hm] at hh;simp only [Hdr] at hh;omega
     |some q=>obtain ⟨b,base,C⟩:=q;rw [hm] at hh;simp only [Hdr] at hh;exact hh.1
    subst hlen;exact ⟨_,run ρr X.w l.length _ hu (by simp [Builtin.len_,ht,e2,run_underlying hu,goInt]), .int⟩
   ·exact h.elim
  ·exact h.elim
 ·rename_i d id ep off m hu hx;split at h
  ·rename_i ep' t' l hg;split at h
   ·rename_i hep;refine ⟨_,_,h,aH fun X ρr hσ _ hr=> ?_⟩;subst hσ;have hra:=hr x (ao hops (by simp));rw [hx] at hra;obtain ⟨A,len,cap,ep2,t2,l2,e2,hg',hle,hcur⟩:=hra.slc_inv;rw [hg] at hg';cases hg';have hh:=hcur hep;have hlen:len=m:=by
     cases hm:X.μ id with
     |none=>rw [hm] at hh;simp only [Hdr] at hh;omega
     |some q=>obtain ⟨b,base,C⟩:=q;rw [hm] at hh;simp only [Hdr] at hh;exact hh.1
    subst hlen;exact ⟨_,run ρr X.w len _ hu (by simp [Builtin.len_,ht,e2,run_underlying hu,goInt]), .int⟩
   ·exact h.elim
  ·exact h.elim
 ·rename_i d n cells hu hx;split at h
  ·rename_i hpos;refine ⟨_,_,h,aH fun X ρr _ _ hr=> ?_⟩;have hra:=hr x (ao hops (by simp));rw [hx] at hra;obtain ⟨A,len,cap,g,e2,q1,_⟩:=hra.rows_inv;have hlen:cells.length/n=len:=by rw [<-q1];exact Nat.mul_div_cancel _ hpos
   rw [hlen];exact ⟨_,run ρr X.w len _ hu (by simp [Builtin.len_,ht,e2,run_underlying hu,goInt]), .int⟩
  ·exact h.elim
 ·exact h.elim
theorem BM {x:Operand} {i:Nat} (ho:o.op= .extract x i) {vs:List V} {v:V} (hx:ρ x= .tuple vs) (hv:vs[i]? =some v) (h:k v σ): ∃v σ',k v σ'/\OpOk P o ρ σ v σ':=by
 have hops:o.op.operands.toList=[x]:=by rw [ho];rfl
 refine ⟨_,_,h,aH fun X ρr _ _ hr=> ?_⟩;have hra:=hr x (ao hops (by simp));rw [hx] at hra;obtain ⟨us,e,hl⟩:=hra.tuple_inv;have hlt:i<us.size:=by have:=(List.getElem?_eq_some_iff.1 hv).1;have:=hl.1;simp at this;omega
 refine ⟨us[i], ?_,hl.2 i v _ hv (by simp [hlt])⟩;simp [execOp,ho,e,Instr.extract,hlt]
theorem Om {c a b:Operand} (ho:o.op= .pick c a b) (h:match ρ c with
 | .kb true=>k (ρ a) σ
 | .kb false=>k (ρ b) σ
 | .bool c=>match bC (ρ a),bC (ρ b) with
  |some x,some y=>k (.bool (if c then x else y)) σ
  |_,_=>False
 |_=>False): ∃v σ',k v σ'/\OpOk P o ρ σ v σ':=by
 have hops:o.op.operands.toList=[c,a,b]:=by rw [ho];rfl
 split at h
 ·rename_i hc;refine ⟨_,_,h,aH fun X ρr _ _ hr=> ?_⟩;have hrc:=hr c (ao hops (by simp));rw [hc] at hrc;exact ⟨ρr a,by simp [execOp,ho,hrc.kb_inv,asBool],hr a (ao hops (by simp))⟩
 ·rename_i hc;refine ⟨_,_,h,aH fun X ρr _ _ hr=> ?_⟩;have hrc:=hr c (ao hops (by simp));rw [hc] at hrc;exact ⟨ρr b,by simp [execOp,ho,hrc.kb_inv,asBool],hr b (ao hops (by simp))⟩
 ·rename_i cb hc;split at h
  ·rename_i x y hx hy;refine ⟨_,_,h,aH fun X ρr _ _ hr=> ?_⟩;have hrc:=hr c (ao hops (by simp));rw [hc] at hrc;have ha:=eD hx (hr a (ao hops (by simp)));have hb:=eD hy (hr b (ao hops (by simp)));refine ⟨.bool (if cb then x else y), ?_, .bool⟩;cases cb<;>simp [execOp,ho,hrc.bool_inv,asBool,ha,hb]
  ·exact h.elim
 ·exact h.elim
theorem yD {fn:Fn} {a b:Array Operand} (ho:o.op= .makeFunc fn a b) (h:k (.fn fn (a.toList.map ρ) (b.toList.map ρ)) σ): ∃v σ',k v σ'/\OpOk P o ρ σ v σ':=by
 have hops:o.op.operands.toList=a.toList++b.toList:=by rw [ho];simp [Op.operands]
 refine ⟨_,_,h,aH fun X ρr _ _ hr=>⟨.func fn (a.map ρr) (b.map ρr),by simp [execOp,ho,Instr.makeFunc], .fn (by simp) (by simp) (fun j c u hc hu=> ?_) (fun j c u hc hu=> ?_)⟩⟩
 ·simp only [List.getElem?_map,Rc,Array.getElem?_toList] at hc;obtain ⟨x,hx,rfl⟩:=hc;simp only [Array.getElem?_map,hx,R8,Q9] at hu;subst hu;exact hr x (ao hops (Rn.2 (.inl (Array.mem_toList_iff.2 (Array.mem_of_getElem? hx)))))
 ·simp only [List.getElem?_map,Rc,Array.getElem?_toList] at hc;obtain ⟨x,hx,rfl⟩:=hc;simp only [Array.getElem?_map,hx,R8,Q9] at hu;subst hu;exact hr x (ao hops (Rn.2 (.inr (Array.mem_toList_iff.2 (Array.mem_of_getElem? hx)))))
end
end Go.Vm
namespace Go.Vm
section
variable {P:Program} {o:Oper} {ρ:Operand->V} {σ:Store} {k:K}
theorem tk {X:Ctx} {ρr:Operand->Value} {lo:Option Operand} {b:Option Int} (h:lK (lo.map ρ)=some b) (hr: ∀x,lo=some x->Rep X (ρ x) (ρr x)):
 (b=none/\lo.map ρr=none)∨∃n kd,b=some n/\lo.map ρr=some (.int kd n):=by
 cases lo with
 |none=>simp [lK] at h;exact .inl ⟨h.symm,rfl⟩
 |some x=>
  simp only [R8,lK] at h;split at h
  ·cases ‹some (ρ x)=none›
  ·rename_i kd n e;simp only [Q9] at h e;have hx:=hr x rfl;rw [e] at hx;exact .inr ⟨n,kd,h.symm,by simp [hx.int_inv]⟩
  ·cases h
def loN (lo:Option Int):Nat:=(lo.getD 0).toNat
def hiN (n:Nat) (hi:Option Int):Nat:=match hi with
 |none=>n
 |some h=>h.toNat
theorem fb {n:Nat} {lo hi:Option Int} (h:bI n lo hi):loN lo<=hiN n hi/\hiN n hi<=n:=by
 unfold bI at h;split at h<;>simp only [loN,hiN,Option.getD_none,R9]<;>omega
theorem yE {α:Type} (l:List α) {lo hi:Option Int}:Ds l lo hi=(l.take (hiN l.length hi)).drop (loN lo):=by
 unfold Ds;split<;>simp [loN,hiN]
theorem rb {isS:Bool} {n cap:Nat} {lo hi:Option Int} {lv hv:Option Value} (hl:(lo=none/\lv=none)∨∃m kd,lo=some m/\lv=some (.int kd m))
 (hh:(hi=none/\hv=none)∨∃m kd,hi=some m/\hv=some (.int kd m)) (hb:bI n lo hi) (hn:n<=cap) (w:World):
 (Instr.sliceBounds isS n cap lv hv none).run P w= .ok (loN lo,hiN n hi,cap) w:=by
 rcases hl with ⟨rfl,rfl⟩|⟨a,ka,rfl,rfl⟩<;>rcases hh with ⟨rfl,rfl⟩|⟨b,kb,rfl,rfl⟩<;>simp only [bI] at hb
 ·simp [Instr.sliceBounds,loN,hiN]
 ·have h1:0<=b/\b<=(cap:Int):=by omega
  simp [Instr.sliceBounds,Instr.sliceBound,asIntOf,loN,hiN,h1]
 ·have h1:0<=a/\a<=(n:Int):=by omega
  simp [Instr.sliceBounds,Instr.sliceBound,asIntOf,loN,hiN,h1]
 ·have h1:0<=b/\b<=(cap:Int):=by omega
  have h2:0<=a/\a<=(b.toNat:Int):=by omega
  simp only [Instr.sliceBounds,Instr.sliceBound,asIntOf,Sem.run_bind,Sem.run_pure,Result.andThen_ok,h1,and_self,if_true,h2,loN,hiN,R9]
theorem RepS.sub {w:World} {H G:Nat->Prop} {t:Ty} {l:List t.den} {A:Option Addr} {n cap:Nat} (h:RepS w H G t l A n cap) {a b:Nat} (hab:a<=b) (hb:b<=n):
 RepS w H G t ((l.take b).drop a) (if cap=a then A else A.map (·.add (a*t.cells))) (b-a) (cap-a):=by
 obtain ⟨rfl,hle,hc⟩:=h;have hlen:((l.take b).drop a).length=b-a:=by simp;omega
 refine ⟨hlen.symm,by omega,fun h0=> ?_⟩;obtain ⟨bl,of,rfl,hG,hi⟩:=hc (by omega);rw [Q8 (by omega)];refine ⟨bl,of+a*t.cells,by simp [Addr.add_lit],hG,fun i x hx=> ?_⟩;have hx':nth (α:=t.den) l (a+i)=some x:=by
  have h1:((l.take b).drop a)[i]? =some x:=hx;rw [List.getElem?_drop,List.getElem?_take] at h1;split at h1
  ·exact h1
  ·cases h1
 obtain ⟨row,r1,r2⟩:=hi (a+i) x hx';refine ⟨row,r1,fun j u hu=> ?_⟩;have:=r2 j u hu;rw [RO] at this;rw [show of+a*t.cells+i*t.cells+j=of+(a*t.cells+i*t.cells)+j by omega];exact this
theorem RepS.head {w:World} {H H' G:Nat->Prop} {t:Ty} {l:List t.den} {A:Option Addr} {n cap:Nat} (h:RepS w H G t l A n cap) (hH: ∀b,H b->H' b):RepS w H' G t l A n cap:=by
 obtain ⟨h1,h2,hc⟩:=h;refine ⟨h1,h2,fun h0=> ?_⟩;obtain ⟨b,o,e,hb,hr⟩:=hc h0;exact ⟨b,o,e,hH b hb,hr⟩
theorem K6 {E:Env} {t:TypeId} {x:Operand} {lo hi mx:Option Operand} (ho:o.op= .slice t x lo hi mx) (h:na E t (ρ x) (lo.map ρ) (hi.map ρ) (mx.map ρ) σ k):
 ∃v σ',k v σ'/\OpOk E.P o ρ σ v σ':=by
 unfold na at h;split at h
 ·rename_i lo' hi' hmx hlo hhi;have hmx0:mx=none:=by cases mx with
   |none=>rfl
   |some _=>cases hmx
  subst hmx0;have hops:o.op.operands.toList=x::(lo.toList++hi.toList):=by rw [ho];cases lo<;>cases hi<;>simp [Op.operands]
  have bnd: ∀(X:Ctx) (ρr:Operand->Value),(∀y,y∈o.op.operands.toList->Rep X (ρ y) (ρr y))->
   ((lo'=none/\lo.map ρr=none)∨∃m kd,lo'=some m/\lo.map ρr=some (.int kd m))/\((hi'=none/\hi.map ρr=none)∨∃m kd,hi'=some m/\hi.map ρr=some (.int kd m)):=
   fun X ρr hr=>⟨tk (X:=X) hlo (fun y hy=>hr y (ao hops (by simp [hy]))),tk (X:=X) hhi (fun y hy=>hr y (ao hops (by simp [hy])))⟩
  split at h
  ·rename_i hu;split at h
   ·rename_i l hx;obtain ⟨hb,h⟩:=h;refine ⟨_,_,h,aH fun X ρr _ _ hr=> ?_⟩;have hra:=hr x (ao hops (by simp));rw [hx] at hra;obtain ⟨s,e,e1⟩:=hra.str_inv;obtain ⟨b1,b2⟩:=bnd X ρr hr;have hsz:s.size=l.length:=by rw [<-e1];rfl
    have hrun:=rb (P:=E.P) (isS:=false) (n:=l.length) (cap:=l.length) b1 b2 hb (Rf _) X.w;obtain ⟨i1,i2⟩:=fb hb;refine ⟨.string (s.extract (loN lo') (hiN l.length hi')), ?_, .str ?_⟩
    ·simp only [execOp,ho,e,Instr.sliceAt,Sem.run_bind,run_underlying hu,Result.andThen_ok,Instr.slice,Option.map_none,Option.isSome_none,Rx,if_false,hsz,hrun,Sem.run_pure]
    ·rw [yE,<-e1];simp [ByteArray.data_extract,List.drop_take]
   ·exact h.elim
  ·rename_i el hu;split at h
   ·rename_i sz hsz;have run: ∀(ρr:Operand->Value) (w:World) (A:Option Addr) (n cap:Nat),ρr x= .slice A n cap->
     ((lo'=none/\lo.map ρr=none)∨∃m kd,lo'=some m/\lo.map ρr=some (.int kd m))->((hi'=none/\hi.map ρr=none)∨∃m kd,hi'=some m/\hi.map ρr=some (.int kd m))->
     bI n lo' hi'->n<=cap->
     (execOp ρr o).run E.P w= .ok (.value (.slice (if cap=loN lo' then A else A.map (·.add (loN lo'*sz))) (hiN n hi'-loN lo') (cap-loN lo'))) w:=by
     intro ρr w A n cap e b1 b2 hb hn;have hrun:=rb (P:=E.P) (isS:=true) (n:=n) (cap:=cap) b1 b2 hb hn w;simp only [execOp,ho,e,Instr.sliceAt,Sem.run_bind,run_underlying hu,Result.andThen_ok,Instr.slice,Option.map_none,hrun,cB hsz,Sem.run_pure]
    split at h
    ·rename_i kd t' l hx;split at h
     ·rename_i hsc;subst hsc;obtain ⟨hb,h⟩:=h;refine ⟨_,_,h,aH fun X ρr _ _ hr=> ?_⟩;have hra:=hr x (ao hops (by simp));rw [hx] at hra;obtain ⟨A,cap,e,hc,_⟩:=hra.list_inv;obtain ⟨b1,b2⟩:=bnd X ρr hr;have hle:l.length<=cap:=hc.2.1;obtain ⟨i1,i2⟩:=fb hb;refine ⟨_,run ρr X.w A l.length cap e b1 b2 hb hle, ?_⟩;rw [yE];refine .list ((hc.sub i1 i2).head fun b hb=>⟨hb.1,fun hk=>hb.2 fun e=>hk ?_⟩) (fun e=> ?_)
      ·rw [Q_ e]
      ·split at e<;>cases e
     ·exact h.elim
    ·rename_i hx;split at h
     ·refine ⟨_,_,h,aH fun X ρr _ _ hr=> ?_⟩;have hra:=hr x (ao hops (by simp));rw [hx] at hra;obtain ⟨b1,b2⟩:=bnd X ρr hr;refine ⟨_,run ρr X.w none 0 0 hra.nils_inv b1 b2 (by simp [bI]) (Rf _), ?_⟩;simp [loN,hiN];exact .nils
     ·exact h.elim
    ·rename_i id ep hx;split at h
     ·rename_i ep' t' l hg;split at h
      ·rename_i hc;obtain ⟨hep,hsc⟩:=hc;subst hsc;have core: ∀(rng:Option (Nat×Nat)),bI l.length lo' hi'->((lo'=none/\hi'=none/\rng=none)∨rng=some (loN lo',hiN l.length hi'-loN lo'))->
        OpOk E.P o ρ σ (.slc id ep rng) σ:=by
        intro rng hb hrng;refine aH fun X ρr hσ _ hr=> ?_;subst hσ;have hra:=hr x (ao hops (by simp));rw [hx] at hra;obtain ⟨b1,b2⟩:=bnd X ρr hr;obtain ⟨A,len,cap,ep2,t2,l2,e2,hg',hle,hcur⟩:=hra.slc_inv;rw [hg] at hg';cases hg';have hh:=hcur hep;obtain ⟨i1,i2⟩:=fb hb;have hlc:len=l.length/\len<=cap:=by
         cases hm:X.μ id with
         |none=>rw [hm] at hh;simp only [Hdr] at hh;omega
         |some q=>obtain ⟨b,base,C⟩:=q;rw [hm] at hh;simp only [Hdr] at hh;omega
        obtain ⟨rfl,hcap⟩:=hlc;refine ⟨_,run ρr X.w A _ cap e2 b1 b2 hb hcap, .slc hg hle (fun _=> ?_)⟩;cases hm:X.μ id with
        |none=>
         rw [hm] at hh;simp only [Hdr] at hh;rcases hrng with ⟨rfl,rfl,rfl⟩|rfl
         ·simp only [Hdr];refine ⟨?_, ?_, ?_⟩<;>(try simp only [loN,hiN,Option.getD_none,Int.toNat_zero])<;>omega
         ·simp only [Hdr];omega
        |some q=>
         obtain ⟨b,base,C⟩:=q;rw [hm] at hh;simp only [Hdr] at hh;obtain ⟨_,rfl,hC,a,rfl,ha⟩:=hh;rcases hrng with ⟨rfl,rfl,rfl⟩|rfl
         ·have e0:loN none=0:=rfl;refine ⟨by rw [e0];rfl,by rw [e0];rfl,hC,if cap=loN none then a else a.add (loN none*t'.cells),by split<;>rfl,fun h0=> ?_⟩;rw [e0,Q8 (by omega),ha h0];simp [Addr.add_lit]
         ·simp only [Hdr,true_and];refine ⟨by omega,hC,if cap=loN lo' then a else a.add (loN lo'*t'.cells),by split<;>rfl,fun h0=> ?_⟩;rw [Q8 (by omega),ha (by omega),Addr.add_lit]
       split at h
       ·exact ⟨_,_,h,core none (by simp [bI]) (.inl ⟨rfl,rfl,rfl⟩)⟩
       ·rename_i b;exact ⟨_,_,h.2,core _ (by simp only [bI];exact h.1) (.inr (by simp [loN,hiN]))⟩
       ·rename_i a;exact ⟨_,_,h.2,core _ (by simp only [bI];exact h.1) (.inr (by simp [loN,hiN]))⟩
       ·rename_i a b;exact ⟨_,_,h.2,core _ (by simp only [bI];exact h.1) (.inr (by simp [loN,hiN]))⟩
      ·exact h.elim
     ·exact h.elim
    ·rename_i id ep off m hx;split at h
     ·rename_i ep' t' l hg;split at h
      ·rename_i hc;obtain ⟨hep,hsc⟩:=hc;subst hsc;have core:bI m lo' hi'->OpOk E.P o ρ σ (.slc id ep (some (off+loN lo',hiN m hi'-loN lo'))) σ:=by
        intro hb;refine aH fun X ρr hσ _ hr=> ?_;subst hσ;have hra:=hr x (ao hops (by simp));rw [hx] at hra;obtain ⟨b1,b2⟩:=bnd X ρr hr;obtain ⟨A,len,cap,ep2,t2,l2,e2,hg',hle,hcur⟩:=hra.slc_inv;rw [hg] at hg';cases hg';have hh:=hcur hep;obtain ⟨i1,i2⟩:=fb hb;have hlc:len=m/\len<=cap:=by
         cases hm:X.μ id with
         |none=>rw [hm] at hh;simp only [Hdr] at hh;omega
         |some q=>obtain ⟨b,base,C⟩:=q;rw [hm] at hh;simp only [Hdr] at hh;omega
        obtain ⟨rfl,hcap⟩:=hlc;refine ⟨_,run ρr X.w A _ cap e2 b1 b2 hb hcap, .slc hg hle (fun _=> ?_)⟩;cases hm:X.μ id with
        |none=>
         rw [hm] at hh;simp only [Hdr] at hh;simp only [Hdr];omega
        |some q=>
         obtain ⟨b,base,C⟩:=q;rw [hm] at hh;simp only [Hdr] at hh;obtain ⟨_,h2,hC,rfl,a,rfl,ha⟩:=hh;simp only [Hdr,true_and];refine ⟨by omega,hC,by omega,if C-off=loN lo' then a else a.add (loN lo'*t'.cells),by split<;>rfl,fun h0=> ?_⟩;rw [Q8 (by omega),ha (by omega),Addr.add_lit,RO,RK]
       split at h
       ·exact ⟨_,_,h,by simpa [loN,hiN] using core (by simp [bI])⟩
       ·rename_i b;exact ⟨_,_,h.2,by simpa [loN,hiN] using core (by simp only [bI];exact h.1)⟩
       ·rename_i a;exact ⟨_,_,h.2,by simpa [loN,hiN] using core (by simp only [bI];exact h.1)⟩
       ·rename_i a b;exact ⟨_,_,h.2,by simpa [loN,hiN] using core (by simp only [bI];exact h.1)⟩
      ·exact h.elim
     ·exact h.elim
    ·exact h.elim
   ·exact h.elim
  ·exact h.elim
 ·exact h.elim
end
end Go.Vm
