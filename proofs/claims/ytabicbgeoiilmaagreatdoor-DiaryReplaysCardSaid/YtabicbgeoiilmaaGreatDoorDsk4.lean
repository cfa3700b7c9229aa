import Derived.RangeFuncBound
import Derived.RangeFuncCalls
import Derived.Shelf.Abstract
import Derived.Shelf.RegionOpen
import Derived.WalkKit
import Derived.OwnWalkIn
import Derived.TacticsInMore
import Derived.Test.YtabicbgeoiilmaaGreatDoorDsk3
noncomputable section
namespace Go.Proofs.YtabicbgeoiilmaaGreatDoor.Dsk
open Go Go.RowKit Go.Shelf Go.Proofs
open Go.Vm (FunAt uz eg IE fY Ar P0)
attribute [local go_sem] Oper.semAt_some
theorem QO {t:TypeId} {L:List (Int×Nat)} {w:World} {b n₀:Nat} {n:Int} {f:Nat} (h:FunAt L w b) (ht:P0.underlying t=some (.map fY Ar)) (hn:uz L n=none) (hb:n₀<=b):
 ∃w',(Instr.mapUpdate t (.map (some b)) (.int .i64 n) (.func (.func f) #[] #[])).run P0 w= .ok () w'/\FunAt (L++[(n,f)]) w' b/\Below n₀ w w':=by
 have hb0:w.heap[b]? =some (.map (eg L 0).toArray L.length):=h;obtain ⟨q,h1,h2⟩:=Go.Vm.mL n L 0 0;rw [hn] at h2;cases q with
 |some q=>cases h2
 |none=>
  have hk:=MapKept.run_findKey (P:=P0) (w:=w) (kt:=fY) Go.Vm.eY h1;have hc:(Instr.checkKey false 10000 fY (.int .i64 n)).run P0 w= .ok () w:=MapKept.run_checkKey (n:=9999) Go.Vm.eY (by simp [MapKept.IsKey]) false;obtain ⟨e1,e2⟩:=MapKept.heap_set (o':= .map (eg (L++[(n,f)]) 0).toArray (L++[(n,f)]).length) hb0;refine ⟨{w with heap:=w.heap.setIfInBounds b (.map (eg (L++[(n,f)]) 0).toArray (L++[(n,f)]).length)}, ?_,e1,⟨rfl,rfl,rfl,by simp,fun k hk2=>e2 k (by omega)⟩⟩;unfold Instr.mapUpdate;simp only [Sem.run_bind,run_underlying ht,Result.andThen,MapKept.run_getObj_map hb0,hc,hk,MapKept.run_setObj_map _ hb0];have e:eg (L++[(n,f)]) 0=eg L 0++[IE (n,f) L.length]:=by
   rw [Go.Vm.su,RQ];rfl
  rw [e,<-Sa,Re];rfl
theorem cm {F:Fence} {nF:Nat} {w:World} {ops:Array Oper} {rest:List Oper} {o:Oper} {a:Act} {Q:Exit->Act->World->Prop} (hgd:o.guard=none) (t:TypeId) (m x y:Operand) (ho:o.op= .insert t m x y)
 {L:List (Int×Nat)} {b:Nat} {n:Int} {f:Nat} (n₀:Nat) (h:FunAt L w b) (ht:P0.underlying t=some (.map fY Ar)) (hn:uz L n=none) (hb:n₀<=b)
 (hm:a.eval m= .map (some b)) (hx:a.eval x= .int .i64 n) (hy:a.eval y= .func (.func f) #[] #[])
 (hK: ∀w',FunAt (L++[(n,f)]) w' b->Below n₀ w w'->wpListIn F nF P0 ops Q rest (a.put o.dst undef) w'):wpListIn F nF P0 ops Q (o::rest) a w:=by
 obtain ⟨w',h1,h2,h3⟩:=QO h ht hn hb;refine wpListIn_plain hgd fun K' hK'=> ?_;unfold Oper.wpIn;refine ⟨by simp [Oper.about,ho], ?_⟩;rw [Oper.semAt_plain F _ _ (by rw [ho];intro c hc';cases hc')];simp only [execOp,ho,hm,hx,hy,Sem.run_bind,Sem.run_pure];rw [h1];exact hK' _ _ (hK w' h2 h3)
def doL:List (Int×Nat):=[(1,97),(2,98),(3,99),(4,100),(5,101),(6,102),(7,103),(8,104)]
def Stp (p:Prop):Prop:=p
theorem stp {F:Fence} {nF:Nat} {P:Program} {w:World} {ops:Array Oper} {rest:List Oper} {d:Option Tmp} {ty t:TypeId} {m x y:Operand} {ps:String} {af:Array Edge} {a:Act} {Q:Exit->Act->World->Prop} (h:Stp (wpListIn F nF P ops Q (⟨d, .insert ty m x y,t,ps,af,none⟩::rest) a w)):wpListIn F nF P ops Q (⟨d, .insert ty m x y,t,ps,af,none⟩::rest) a w:=h
set_option maxHeartbeats 1000000 in
theorem IF (F:Fence) (n:Nat) (hf:F.fn 79) (hro:F.round=none) (w:World):
 CallsIn F n Tryz.prog 79 #[] w fun e w'=>e= .returned (.map (some w.heap.size))/\FunAt doL w' w.heap.size/\Below w.heap.size w w':=by
 have hmm:= @run_makeMap Tryz.prog;refine callsIn_of_wp Tryz.func79 rfl hf ?_ hro;simp only [Tryz.ntmps79,R4,Rj,RJ,Nat.reduceAdd,Nat.reduceSub,R5,R6,Sa,R_,RM,RP];gi_wp2_with (with_reducible refine stp ?_);unfold Stp;have h0:FunAt [] (w.alloc (.map #[] 0)) w.heap.size:=World.alloc_heap_new _ _;have hB0:Below w.heap.size w (w.alloc (.map #[] 0)):=(Below.refl _ w).alloc (Rf _) _;have hu:P0.underlying 159=some (.map fY Ar):=by kernel_rfl
 refine cm rfl _ _ _ _ rfl w.heap.size h0 hu rfl (Rf _) rfl rfl rfl fun w1 h1 b1=> ?_;refine cm rfl _ _ _ _ rfl w.heap.size h1 hu rfl (Rf _) rfl rfl rfl fun w2 h2 b2=> ?_;refine cm rfl _ _ _ _ rfl w.heap.size h2 hu rfl (Rf _) rfl rfl rfl fun w3 h3 b3=> ?_;refine cm rfl _ _ _ _ rfl w.heap.size h3 hu rfl (Rf _) rfl rfl rfl fun w4 h4 b4=> ?_;refine cm rfl _ _ _ _ rfl w.heap.size h4 hu rfl (Rf _) rfl rfl rfl fun w5 h5 b5=> ?_;refine cm rfl _ _ _ _ rfl w.heap.size h5 hu rfl (Rf _) rfl rfl rfl fun w6 h6 b6=> ?_;refine cm rfl _ _ _ _ rfl w.heap.size h6 hu rfl (Rf _) rfl rfl rfl fun w7 h7 b7=> ?_;refine cm rfl _ _ _ _ rfl w.heap.size h7 hu rfl (Rf _) rfl rfl rfl fun w8 h8 b8=> ?_;have hB:=((((((((hB0.trans b1).trans b2).trans b3).trans b4).trans b5).trans b6).trans b7).trans b8)
 gi_wp2;go_ret;exact ⟨rfl,h8,hB⟩
open Go.Vm
theorem Fb:UpdC Tryz.prog 79 [] [] (.oref 1) [(1, .opq .fmi doL)]:=by
 intro B F w μ vs hF hI hB hr;obtain rfl:=hr.nil_inv;refine ((callsIn_wide (n:=9)).1 (IF Fence.wide 9 trivial rfl w)).mono ?_;rintro e w' ⟨rfl,hT,hb⟩;have hcase: ∀{id:Nat} {o:Vm.Obj},Store.get [(1,Vm.Obj.opq .fmi doL)] id=some o->id=1/\o= .opq .fmi doL:=by
  intro id o h;simp only [Store.get] at h;split at h
  ·rename_i e;cases h;exact ⟨e.symm,rfl⟩
  ·cases h
 have di: ∀{id:Nat} {o:Vm.Obj} {c:Nat},Store.get [(1,Vm.Obj.opq .fmi doL)] id=some o->Blk ⟨w',[(1, .opq .fmi doL)],fun i=>if i=1 then some (w.heap.size,0,0) else none,F⟩ id o c->c=w.heap.size:=by
  intro id o c hg hk;obtain ⟨p,hm,hk⟩:=hk;obtain ⟨rfl,rfl⟩:=hcase hg;cases hm;rcases hk with hk|hk
  ·exact hk.symm
  ·simp [Obj.inn] at hk
 refine ⟨_,rfl,fun i=>if i=1 then some (w.heap.size,0,0) else none,⟨fun id o hg=> ?_,fun i j o o' c hi hj hki hkj=> ?_,fun id o c hg hk=>hB _ (by rw [di hg hk];exact Rf _),fun c hc=>hI.out c (Ro hb.size hc),hI.vis,⟨fun e he=>by simp [hF] at he,fun e he=> ?_⟩⟩,
  Rep.oref (X:=⟨w',[(1, .opq .fmi doL)],fun i=>if i=1 then some (w.heap.size,0,0) else none,F⟩) (id:=1) (k:= .fmi) (d:=doL) rfl,
  ⟨hb.os,hb.tape,hb.output,hb.size,rfl,fun c hc=>⟨⟨SD hc.1 hb.size,fun id o hg hk=>by have h3:=di hg hk;have h4:c<w.heap.size:=hc.1;omega⟩,hb.block c hc.1⟩⟩,fun c cells h=>by simp [Store.get] at h,fun c k d h=>by simp [Store.get] at h⟩
 ·obtain ⟨rfl,rfl⟩:=hcase hg;exact .inr ⟨w.heap.size,0,0,rfl,rfl,hT,fun c hc=>by simp at hc⟩
 ·obtain ⟨rfl,rfl⟩:=hcase hi;obtain ⟨rfl,rfl⟩:=hcase hj;rfl
 ·obtain ⟨h1,h2⟩:=hI.marks.gnd e he;exact ⟨(hb.block _ (Array.getElem?_eq_some_iff.1 h1).1).trans h1,h2⟩
def xg:List V->Store->Option (Prop×V×Store)
 |[],[]=>some (True, .oref 1,[(1, .opq .fmi doL)])
 |_,_=>none
def bX:OSpec Tryz.prog where
 f:=79
 run:=xg
 ok:=fun args σ pre r σ' h hp=>by
  unfold xg at h;split at h
  ·cases h;exact Fb
  ·cases h
end Go.Proofs.YtabicbgeoiilmaaGreatDoor.Dsk
