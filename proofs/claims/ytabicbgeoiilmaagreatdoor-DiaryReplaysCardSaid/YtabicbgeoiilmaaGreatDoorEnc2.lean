import Derived.Test.YtabicbgeoiilmaaGreatDoorEnc1
noncomputable section
namespace Go.Proofs.YtabicbgeoiilmaaGreatDoor.Dry
open Go.Vm
def Jo (d:List Int):Env where
 P:=Tryz.prog
 ty:=aJ
 pins:=[9000]
abbrev Jp:Ann:={slots:=bB 0 [.int .i64],boxes:=[(9000,[.own 9000 62, .slc 9001 B8])],inv:=fun _ _=>True}
def mN (d:List Int):Prop:=
 True/\((↑d.length:Int),(),d,())=((↑d.length:Int),(),d,())
theorem Fk (d:List Int):dV (Jo d) Tryz.f23 [.ptr 9000 0] [(9000, .box [.own 9000 62, .slc 9001 0 none]),(9001, .arr 0 (.int .u8) d)] [none] Jp ((d.length:Int),(),d,())=mN d:=by kernel_rfl
theorem Fl (d:List Int):mN d:=by
 unfold mN;exact ⟨trivial,rfl⟩
set_option maxRecDepth 20000
theorem Jq (d:List Int):UpdC Tryz.prog 23 [.ptr 9000 0] [(9000, .box [.own 9000 62, .slc 9001 0 none]),(9001, .arr 0 (.int .u8) d)] (.int .i64 d.length) [(9001, .arr 0 B8 d),(9000, .box [.own 9000 62, .slc 9001 0 none])]:=
 by have k:=UpdC.of_cond (Fk d) (Fl d) (ab rfl [] [] rfl rfl) mixed Tryz.func23;exact k
abbrev sg (d:List Int):Store:=[(9000, .box [.own 9000 62, .slc 9001 0 none]),(9001, .arr 0 (.int .u8) d)]
def BI (F:Fr) (n1 b4:Nat) (d:List Int) (W:World):Prop:= ∃μ,Vm.Inv (fun b=>n1<=b) ⟨W,sg d,μ,F⟩/\μ 9000=some (b4,0,62)
theorem uC {d:List Int} {id:Nat} {o:Vm.Obj} (h:(sg d).get id=some o):(id=9000/\o= .box [.own 9000 62, .slc 9001 0 none])∨(id=9001/\o= .arr 0 (.int .u8) d):=by
 simp only [Store.get] at h;split at h
 ·rename_i e;cases h;exact .inl ⟨e.symm,rfl⟩
 ·split at h
  ·rename_i e;cases h;exact .inr ⟨e.symm,rfl⟩
  ·cases h
theorem PH {F F':Fr} {W W':World} {μ:Mu} {d:List Int} {cs:List Value} (h:RepL ⟨W,sg d,μ,F⟩ [.own 9000 62, .slc 9001 0 none] cs):RepL ⟨W',sg d,μ,F'⟩ [.own 9000 62, .slc 9001 0 none] cs:=by
 obtain ⟨v0,q0,rfl,b0,h⟩:=h.cons_inv;obtain ⟨v1,q1,rfl,b1,h⟩:=h.cons_inv;obtain rfl:=h.nil_inv;refine .cons ?_ (.cons ?_ .nil)
 ·cases b0 with
  |own hg hm hu=>exact .own hg hm hu
 ·cases b1 with
  |slc hg he hh=>exact .slc hg he hh
theorem BI.grown {F:Fr} {n1 b4:Nat} {d:List Int} {W W':World} (h:BI F n1 b4 d W) (hs:W.heap.size<=W'.heap.size) (hc: ∀(k:Nat) o,W.heap[k]? =some o->o.isCells=true->W'.heap[k]? =some o) (hl: ∀b,b<n1->W'.heap[b]? =W.heap[b]?):BI F n1 b4 d W':=by
 obtain ⟨μ,hI,hm⟩:=h;have di: ∀id o b,(sg d).get id=some o->Blk ⟨W',sg d,μ,F⟩ id o b->Blk ⟨W,sg d,μ,F⟩ id o b:=fun id o b hg ⟨p,hp,hb⟩=>by
  refine ⟨p,hp, ?_⟩;rcases uC hg with ⟨rfl,rfl⟩|⟨rfl,rfl⟩
  ·exact hb
  ·exact hb
 refine ⟨μ,⟨fun id o hg=> ?_,fun i j o o' b hi hj h1 h2=>hI.injB i j o o' b hi hj (di _ _ _ hi h1) (di _ _ _ hj h2),fun id o b hg hb=>hI.baseB id o b hg (di _ _ _ hg hb),fun b hb=>hI.out b (Ro hs hb),hI.vis, ?_⟩,hm⟩
 ·have h0:=hI.objs id o hg;rcases uC hg with ⟨rfl,rfl⟩|⟨rfl,rfl⟩
  ·obtain ⟨b,cs,ty,h1,h2,h3⟩:=h0;exact ⟨b,cs,ty,h1,hc _ _ h2 rfl,PH h3⟩
  ·rcases h0 with h0|⟨b,base,C,cs,ty,h1,h2,h3,h4,h5,h6⟩
   ·exact .inl h0
   ·refine .inr ⟨b,base,C,cs,ty,h1,hc _ _ h2 rfl,h3,h4,h5,fun i x hx=> ?_⟩;obtain ⟨row,r1,r2⟩:=h6 i x hx;exact ⟨row,r1,r2⟩
 ·refine ⟨fun e he=> ?_,fun e he=> ?_⟩
  ·obtain ⟨k1,k2⟩:Pn.at (sg d) μ e.1 e.2/\True:=⟨hI.marks.pin e he,trivial⟩
   exact k1
  ·obtain ⟨k1,k2⟩:=hI.marks.gnd e he;exact ⟨(hl e.1 (Nat.lt_of_not_le k2)).trans k1,k2⟩
theorem BI.lt {F:Fr} {n1 b4:Nat} {d:List Int} {W:World} (h:BI F n1 b4 d W):n1<=b4/\b4<W.heap.size:=by
 obtain ⟨μ,hI,hm⟩:=h;exact ⟨hI.base 9000 _ _ rfl hm,hI.lt (id:=9000) rfl hm⟩
theorem BI.lift {F:Fr} {n1 b4:Nat} {d:List Int} {W W':World} (h:BI F n1 b4 d W) (hb:RowKit.Below W.heap.size W W'):BI F n1 b4 d W':=by
 have:=h.lt;exact h.grown hb.size (fun k o ho _=>(hb.block k (Array.getElem?_eq_some_iff.1 ho).1).trans ho) (fun b h2=>hb.block b (by omega))
theorem ln {P:Program} {F:Fr} {n1:Nat} {W:World} {σ:Store} {μ:Mu} (hI:Vm.Inv (fun b=>n1<=b) ⟨W,σ,μ,F⟩) (h0: ∀id o,σ.get id=some o->(∃c,o= .box c)∨∃ep t l,o= .arr ep t l) (hp:F.pin=[]) (hn:n1<=W.heap.size) {f:FuncId} {args:List V} {r:V} {σ':Store} (hu:UpdC P f args σ r σ') {vs:List Value} (hr:RepL ⟨W,σ,μ,F⟩ args vs):
 Calls P f vs.toArray W fun e W'=> ∃u μ',e= .returned u/\Vm.Inv (fun b=>n1<=b) ⟨W',σ',μ',F⟩/\Rep ⟨W',σ',μ',F⟩ r u/\RowKit.Below n1 W W'/\KeepsOthers W W'/\∀c cells,σ.get c=some (.box cells)->μ' c=μ c:=by
 refine (hu _ F W μ vs hp hI (fun b hb=>Ro hn hb) hr).mono ?_;rintro e W' ⟨u,rfl,μ',hI',hru,hS,hbx, -⟩;refine ⟨u,μ',rfl,hI',hru,⟨hS.os,hS.tape,hS.output,hS.size,fun k hk=>(hS.still k ⟨by show k<W.heap.size;omega,fun id o hg hb=> ?_⟩).2⟩,⟨hS.size,fun k o ho hc=> ?_⟩,fun c cells hg=>(hbx c cells hg).2⟩
 ·have:=hI.baseB id o k hg hb;omega
 ·refine ((hS.still k ⟨(Array.getElem?_eq_some_iff.1 ho).1,fun id o' hg hb=> ?_⟩).2).trans ho;have h1:=hI.objs id o' hg;obtain ⟨q,hq,hb⟩:=hb;have bS: ∃cs ty,W.heap[k]? =some (.cells cs ty (0,0)):=by
   rcases h0 id o' hg with ⟨c,rfl⟩|⟨ep,t,l,rfl⟩
   ·obtain ⟨b,cs,ty,k1,k2,_⟩:=h1;rcases hb with hb|hb
    ·rw [k1] at hq;cases hq;subst hb;exact ⟨_,_,k2⟩
    ·exact hb.elim
   ·rcases h1 with ⟨k1,_⟩|⟨b,base,C,cs,ty,k1,k2,_⟩
    ·rw [k1] at hq;cases hq
    ·rcases hb with hb|hb
     ·rw [k1] at hq;cases hq;subst hb;exact ⟨_,_,k2⟩
     ·exact hb.elim
  obtain ⟨cs,ty,hk⟩:=bS;rw [hk] at ho;cases ho;cases hc
theorem qa (d:List Int): ∀id o,(sg d).get id=some o->(∃c,o= .box c)∨∃ep t l,o= .arr ep t l:=fun id o h=>by
 rcases uC h with ⟨_,rfl⟩|⟨_,rfl⟩
 ·exact .inl ⟨_,rfl⟩
 ·exact .inr ⟨_,_,_,rfl⟩
theorem qb {F:Fr} {B:Nat->Prop} {W:World} {d:List Int} {μ:Mu} (h:Vm.Inv B ⟨W,[(9001, .arr 0 B8 d),(9000, .box [.own 9000 62, .slc 9001 0 none])],μ,F⟩):Vm.Inv B ⟨W,sg d,μ,F⟩:=by
 have e: ∀k,Store.get [(9001, .arr 0 B8 d),(9000, .box [.own 9000 62, .slc 9001 0 none])] k=(sg d).get k:=fun k=>by
  simp only [Store.get];by_cases a:9000=k
  ·subst a;rfl
  ·simp [a]
 have di: ∀id o b,(sg d).get id=some o->Blk ⟨W,sg d,μ,F⟩ id o b->Blk ⟨W,[(9001, .arr 0 B8 d),(9000, .box [.own 9000 62, .slc 9001 0 none])],μ,F⟩ id o b:=fun id o b hg ⟨p,hp,hb⟩=>⟨p,hp,hb⟩
 refine ⟨fun id o hg=> ?_,fun i j o o' b hi hj h1 h2=>h.injB i j o o' b ((e i).trans hi) ((e j).trans hj) (di _ _ _ hi h1) (di _ _ _ hj h2),fun id o b hg hb=>h.baseB id o b ((e id).trans hg) (di _ _ _ hg hb),h.out,h.vis, ?_⟩
 ·have h0:=h.objs id o ((e id).trans hg);rcases uC hg with ⟨rfl,rfl⟩|⟨rfl,rfl⟩
  ·obtain ⟨b,cs,ty,h1,h2,h3⟩:=h0;refine ⟨b,cs,ty,h1,h2, ?_⟩;generalize cs.toList=L at h3;obtain ⟨v0,q0,rfl,b0,h3⟩:=h3.cons_inv;obtain ⟨v1,q1,rfl,b1,h3⟩:=h3.cons_inv;obtain rfl:=h3.nil_inv;refine .cons ?_ (.cons ?_ .nil)
   ·cases b0 with
    |own hg hm hu=>exact .own ((e _).symm.trans hg) hm hu
   ·cases b1 with
    |slc hg he hh=>exact .slc ((e _).symm.trans hg) he hh
  ·exact h0
 ·refine ⟨fun k he=> ?_,h.marks.gnd⟩;have:=h.marks.pin k he;revert this;cases k.2 with
  |box p=>exact fun ⟨⟨c,h1⟩,h2⟩=>⟨⟨c,(e _).symm.trans h1⟩,h2⟩
  |opq k b=>exact fun ⟨⟨c,h1⟩,h2⟩=>⟨⟨c,(e _).symm.trans h1⟩,h2⟩
abbrev pB (b:Nat):Value:= .pointer (some ⟨b,0,none⟩)
theorem C2 {X:Ctx} {b4:Nat} {T:TypeId} {c:List V} (h:X.σ.get 9000=some (.box c)) (hm:X.μ 9000=some (b4,0,T)):Rep X (.ptr 9000 0) (pB b4):=by
 have:=Rep.ptr (X:=X) (id:=9000) (off:=0) h hm;simpa using this
theorem BI.write {F:Fr} {n1 b4:Nat} {d s:List UInt8} {W:World} (h:BI F n1 b4 (byD d) W) (hp:F.pin=[]) (hl:s.length+d.length<=100000000):
 Calls Tryz.prog 20 #[pB b4, .string ⟨s.toArray⟩] W fun e W'=>(∃u,e= .returned u)/\BI F n1 b4 (byD (d++s)) W'/\RowKit.Below n1 W W'/\KeepsOthers W W':=by
 have hlt:=h.lt;obtain ⟨μ,hI,hm⟩:=h;refine (ln hI (qa _) hp (by omega) (px s (byD d) (by rw [eG];exact hl)) (vs:=[pB b4, .string ⟨s.toArray⟩]) (.cons (C2 rfl hm) (.cons (.str (by simp)) .nil))).mono ?_;rintro e W' ⟨u,μ',rfl,h1,_,h3,h4,h5⟩;rw [<-kY] at h1;exact ⟨⟨u,rfl⟩,⟨μ',qb h1,(h5 9000 _ rfl).trans hm⟩,h3,h4⟩
theorem BI.len {F:Fr} {n1 b4:Nat} {d:List UInt8} {W:World} (h:BI F n1 b4 (byD d) W) (hp:F.pin=[]):
 Calls Tryz.prog 23 #[pB b4] W fun e W'=>e= .returned (.int .i64 d.length)/\BI F n1 b4 (byD d) W'/\RowKit.Below n1 W W'/\KeepsOthers W W':=by
 have hlt:=h.lt;obtain ⟨μ,hI,hm⟩:=h;refine (ln hI (qa _) hp (by omega) (Jq (byD d)) (vs:=[pB b4]) (.cons (C2 rfl hm) .nil)).mono ?_;rintro e W' ⟨u,μ',rfl,h1,h2,h3,h4,h5⟩;rw [h2.int_inv,eG];exact ⟨rfl,⟨μ',qb h1,(h5 9000 _ rfl).trans hm⟩,h3,h4⟩
theorem BI.str {F:Fr} {n1 b4:Nat} {d:List UInt8} {W:World} (h:BI F n1 b4 (byD d) W) (hp:F.pin=[]) (h0:0<d.length):
 Calls Tryz.prog 24 #[pB b4] W fun e W'=>e= .returned (.string ⟨d.toArray⟩)/\RowKit.Below n1 W W'/\KeepsOthers W W':=by
 have hlt:=h.lt;obtain ⟨μ,hI,hm⟩:=h;refine (ln hI (qa _) hp (by omega) (wo (byD d) ⟨by rw [eG];exact h0,pu d⟩) (vs:=[pB b4]) (.cons (C2 rfl hm) .nil)).mono ?_;rintro e W' ⟨u,μ',rfl,h1,h2,h3,h4,h5⟩;rw [mq] at h2;obtain ⟨t,rfl,ht⟩:=h2.str_inv;rw [Jk t,ht];exact ⟨rfl,h3,h4⟩
theorem PI {F:Fr} {n1 b4:Nat} {s:List UInt8} {W:World} (hG:Vm.Ground F W) (hg: ∀e∈F.gnd.1,e.1<n1) (ho: ∀b,n1<=b->¬F.any b) (hn:n1<=b4) (hW:W.heap[b4]? =some (.cells #[.pointer none, .slice none 0 0] 62 (0,0))) (hl:s.length<=100000000):
 Calls Tryz.prog 20 #[pB b4, .string ⟨s.toArray⟩] W fun e W'=>(∃u,e= .returned u)/\BI F n1 b4 (byD s) W'/\RowKit.Below n1 W W'/\KeepsOthers W W':=by
 have hlt:b4<W.heap.size:=(Array.getElem?_eq_some_iff.1 hW).1;let μ:Mu:=fun k=>if k=9000 then some (b4,0,62) else none
 have hget: ∀id o,Store.get [(9000, .box [.own 9000 62, .nils])] id=some o->id=9000/\o= .box [.own 9000 62, .nils]:=fun id o h=>by
  simp only [Store.get] at h;split at h
  ·rename_i e;cases h;exact ⟨e.symm,rfl⟩
  ·cases h
 have hI:Vm.Inv (fun b=>n1<=b) ⟨W,[(9000, .box [.own 9000 62, .nils])],μ,F⟩:=by
  refine ⟨fun id o h=> ?_,fun i j o o' b hi hj _ _=> ?_,fun id o b h hb=> ?_,fun b hb=>hG.out b hb,fun b hb=>ho b hb,⟨fun e he=>by simp [hG.pin] at he,fun e he=>⟨hG.gnd e he,by have:=hg e he;omega⟩⟩⟩
  ·obtain ⟨rfl,rfl⟩:=hget id o h;exact ⟨b4,_,_,rfl,hW, .cons (.own rfl rfl (.inl rfl)) (.cons .nils .nil)⟩
  ·rw [(hget i o hi).1,(hget j o' hj).1]
  ·obtain ⟨rfl,rfl⟩:=hget id o h;obtain ⟨p,hp,hb⟩:=hb;have hp:some (b4,0,62)=some p:=hp;cases hp;rcases hb with rfl|hb
   ·exact hn
   ·exact hb.elim
 refine (ln hI (fun id o h=> .inl ⟨_,(hget id o h).2⟩) hG.pin (by omega) (pw s hl) (vs:=[pB b4, .string ⟨s.toArray⟩]) (.cons (C2 rfl rfl) (.cons (.str (by simp)) .nil))).mono ?_;rintro e W' ⟨u,μ',rfl,h1,_,h3,h4,h5⟩;exact ⟨⟨u,rfl⟩,⟨μ',qb h1,h5 9000 _ rfl⟩,h3,h4⟩
end Go.Proofs.YtabicbgeoiilmaaGreatDoor.Dry
