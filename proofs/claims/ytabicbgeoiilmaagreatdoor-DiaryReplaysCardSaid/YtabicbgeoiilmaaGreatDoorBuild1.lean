import Derived.Test.YtabicbgeoiilmaaGreatDoorScan5b
import Derived.Lib.Builder
noncomputable section
namespace Go.Proofs.YtabicbgeoiilmaaGreatDoor
open Go.Vm
open Go.Proofs
theorem nD:(Tryz.prog.info? 62).map (·.size)=some 2:=by kernel_rfl
theorem wj:liesAt Tryz.prog Tryz.prog.depth 62 (2/Tryz.prog.cellsOf 62) 0 62 1=true:=by kernel_rfl
set_option maxHeartbeats 1000000 in
set_option maxRecDepth 100000 in
theorem L6 (b:Nat) (w:World) (h0:w.cell? ⟨b,0,none⟩=some (.pointer (some ⟨b,0,none⟩))):
 Calls Tryz.prog 45 #[.pointer (some ⟨b,0,none⟩)] w fun e w'=>e= .returned (.tuple #[])/\w'=w:=by
 obtain ⟨j,hj,_⟩:=Rc.1 nD;go_enter Tryz.func45,Tryz.ntmps45;go_wp2;rw [Lib.run_neq_ptr_same w _ Tryz.underlying59 hj];go_wp2;go_end0;exact ⟨rfl,rfl⟩
set_option maxHeartbeats 1000000 in
set_option maxRecDepth 100000 in
theorem HD (b:Nat) (w:World) (h0:w.cell? ⟨b,0,none⟩=some (.pointer none)) (hsh:w.shape? b=some (62,2)) (hfz:w.frozen? ⟨b,0,none⟩=false):
 Calls Tryz.prog 45 #[.pointer (some ⟨b,0,none⟩)] w fun e w'=>e= .returned (.tuple #[])/\w'=w.setCell ⟨b,0,none⟩ (.pointer (some ⟨b,0,none⟩)):=by
 obtain ⟨j,hj,hjs⟩:=Rc.1 nD;go_enter Tryz.func45,Tryz.ntmps45;go_wp2;rw [Lib.run_to_unsafe w ⟨b,0,none⟩ Tryz.underlying59 Tryz.underlying161 hj (by rw [hjs];decide) hsh (Nat.zero_lt_succ 1)];simp only [Result.andThen];rw [Oper.upon_value];go_wp2;rw [run_callFunc_extern Tryz.func80 (by kernel_rfl) (by kernel_rfl) (by kernel_rfl) (e:=Extern.AbiNoEscape.same) (by kernel_rfl)];rw [Lib.run_noEscape];simp only [Result.andThen];rw [Oper.upon_value];go_wp2;rw [Lib.run_from_unsafe w ⟨b,0,none⟩ Tryz.underlying161 Tryz.underlying59 hj hsh wj];simp only [Result.andThen];rw [Oper.upon_value];go_wp2;go_end0;exact ⟨rfl,rfl⟩
theorem O9 (σ:Store) (c:V) (hg:σ.get 9000=some (.box [.own 9000 62,c])):
 UpdC Tryz.prog 45 [.ptr 9000 0] σ (.tuple []) ((9000, .box [.own 9000 62,c])::σ):=by
 intro B F w μ vs hF hI hB hr;obtain ⟨u,rfl⟩: ∃u,vs=[u]:=by
  have:=hr.1;match vs,this with
  |[u],_=>exact ⟨u,rfl⟩
 have hu:Rep ⟨w,σ,μ,F⟩ (.ptr 9000 0) u:=hr.2 0 _ _ rfl rfl;obtain ⟨cells,b,base,C,rfl,hg',hm⟩:=hu.ptr_inv;have hg2:σ.get 9000=some (.box cells):=hg';rw [hg] at hg2;cases hg2;obtain ⟨b',cs,ty,k1,k2,k3⟩:=hI.objs 9000 _ hg;have k1:μ 9000=some (b',0,ty):=k1;have hm:μ 9000=some (b,base,C):=hm;rw [hm] at k1;cases k1;have k2:w.heap[b]? =some (.cells cs C (0,0)):=k2;have hsz:cs.size=2:=by have:=k3.1;simpa using this
 have h00:cs[0]? =some (cs[0]'(by omega)):=Array.getElem?_eq_getElem (by omega);have hown:Rep ⟨w,σ,μ,F⟩ (.own 9000 62) (cs[0]'(by omega)):=k3.2 0 _ _ rfl (by simp [h00]);generalize cs[0]'(by omega)=u0 at h00 hown;have hE: ∀(w':World) (cs':Array Value),w'.os=w.os->w'.tape=w.tape->w'.output=w.output->w'.heap.size=w.heap.size->(∀k,k≠b->w'.heap[k]? =w.heap[k]?)->w'.heap[b]? =some (.cells cs' C (0,0))->
  (∀X':Ctx,Evo ⟨w,σ,μ,F⟩ X'->X'.μ=(fun i=>if i=9000 then μ 9000 else μ i)->X'.σ=(9000, .box [.own 9000 62,c])::σ->RepL X' [.own 9000 62,c] cs'.toList)->
  ∃u,Ending.returned (.tuple #[])=Ending.returned u/\∃μ',Inv B ⟨w',(9000, .box [.own 9000 62,c])::σ,μ',F⟩/\Rep ⟨w',(9000, .box [.own 9000 62,c])::σ,μ',F⟩ (.tuple []) u/\Since ⟨w,σ,μ,F⟩ ⟨w',(9000, .box [.own 9000 62,c])::σ,μ',F⟩/\
   (∀k cells,σ.get k=some (.box cells)->(∃cells',Store.get ((9000, .box [.own 9000 62,c])::σ) k=some (.box cells'))/\μ' k=μ k)/\
   ∀k q d,σ.get k=some (.opq q d)->(∃d',Store.get ((9000, .box [.own 9000 62,c])::σ) k=some (.opq q d'))/\(μ' k).map (·.1)=(μ k).map (·.1):=by
  intro w' cs' e1 e2 e3 e4 e5 e6 e7;have key:=dE hI hB (id:=9000) (o':= .box [.own 9000 62,c]) (p':=μ 9000) (w':=w') e1 e2 e3 (by show w.heap.size<=w'.heap.size;omega)
   (fun b2 _ hne=>e5 b2 (fun e=>hne _ _ hg hm e.symm))
   (fun q hq=> .inr ⟨_,_,hg,hm,by rw [hm] at hq;cases hq;rfl⟩)
   (fun c _=>⟨⟨_,rfl⟩,rfl⟩)
   (fun ep t l hg3=>by have hg3:σ.get 9000=some (.arr ep t l):=hg3;rw [hg] at hg3;cases hg3)
   (fun hE=>⟨b,cs',C,by simpa using hm,e6,e7 _ hE rfl rfl⟩) rfl (by show cU (σ.get 9000)=false;rw [hg];rfl)
  refine ⟨_,rfl,_,key.2, .tuple rfl (fun j c u hc=>by simp at hc), ?_,fun k cells hk=>key.1.box k cells hk,fun k q d hk=>key.1.opq k q d hk⟩;exact ⟨key.1.os,key.1.tape,key.1.output,key.1.size,key.1.outer,fun b hb=>key.1.still b hb⟩
 cases hown with
 | @own _ _ cells1 b1 _ g1 m1 hu0=>
  have m1:μ 9000=some (b1,0,62):=m1;rw [hm] at m1;cases m1;have hc0:w.cell? ⟨b,0,none⟩=some u0:=by simp [World.cell?,k2,h00]
  rcases hu0 with rfl|rfl
  ·refine (HD b w hc0 (by simp [World.shape?,k2,hsz]) (by simp [World.frozen?,k2])).mono fun e w' ⟨he,hw⟩=> ?_;subst he hw;refine hE _ (cs.setIfInBounds 0 (.pointer (some ⟨b,0,none⟩))) rfl rfl rfl (by simp [World.setCell]) (fun k hk=>Go.RowKit.Below.heap_setCell w _ _ k hk) (by simp only [World.setCell,Array.getElem?_modify,if_true,k2,R8];rfl) (fun X' hX hmu hs=> ?_);have k3':=k3.evo hX;refine ⟨by simpa using k3'.1,fun j v x hv hx=> ?_⟩;match j with
   |0=>
    simp at hv
    subst hv
    have hx0:x= .pointer (some ⟨b,0,none⟩):=by
     simp [Array.getElem?_setIfInBounds,hsz] at hx;exact hx.symm
    subst hx0
    exact .own (cells:=[.own 9000 62,c]) (by rw [hs];simp [a7]) (by rw [hmu];simpa using hm) (.inr rfl)
   |j+1=>
    refine k3'.2 (j+1) v x hv ?_
    simpa [Array.getElem?_setIfInBounds] using hx
  ·refine (L6 b w hc0).mono fun e w' ⟨he,hw⟩=> ?_;subst he hw;exact hE _ cs rfl rfl rfl rfl (fun _ _=>rfl) k2 (fun X' hX _ _=>k3.evo hX)
def Cy:OSpec Tryz.prog where
 f:=45
 run:=fun args σ=>match args with
  |[.ptr k 0]=>if k=9000 then match σ.get 9000 with
   |some (.box [.own i T,c])=>if i=9000/\T=62 then some (True, .tuple [],(9000, .box [.own 9000 62,c])::σ) else none
   |_=>none
   else none
  |_=>none
 ok:=fun args σ pre r σ' h _=>by
  split at h
  ·split at h
   ·rename_i hk;subst hk;split at h
    ·rename_i hg;split at h
     ·rename_i hc;obtain ⟨rfl,rfl⟩:=hc;cases h;exact O9 _ _ hg
     ·cases h
    ·cases h
   ·cases h
  ·cases h
end Go.Proofs.YtabicbgeoiilmaaGreatDoor
