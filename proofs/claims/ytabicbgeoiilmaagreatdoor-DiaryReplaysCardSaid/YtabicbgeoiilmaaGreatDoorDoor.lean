import Derived.Test.YtabicbgeoiilmaaGreatDoorRows
import Derived.Test.YtabicbgeoiilmaaGreatDoorSeat
import Derived.Test.YtabicbgeoiilmaaGreatDoorVmI
import Derived.WalkKit
import Derived.ProofKit
import Derived.LaidMore
import Derived.OpenShut
import Derived.LaidHandle
import Derived.Lib.LaidTab
import Derived.HandedShaped
import Derived.Stop.Joined
import Derived.Shelf.Vars
namespace Go.Proofs.YtabicbgeoiilmaaGreatDoor
open Go.Vm Go.ChangeShapes Go.WideShapes Go.ChangeAt
theorem own:ownKnob Tryz.prog.godebug=none:=by kernel_rfl
theorem Q2:laidOutB Tryz.prog=true:=by kernel_rfl
def wP:List (String×DataW Unit):=[("math/bits.deBruijn32tab",Rows.laid_math_bits_deBruijn32tab),("math/bits.deBruijn64tab",Rows.laid_math_bits_deBruijn64tab),("internal/strconv.uint64pow10",Rows.laid_internal_strconv_uint64pow10),("strconv.ErrRange",Rows.laid_strconv_ErrRange),("strconv.ErrSyntax",Rows.laid_strconv_ErrSyntax)]
theorem ug {H:Type} {enc:TypeId×Value->H} {a:Assume} {C:Checked} {os:Os} {f:FuncId} {fn:Func} {s:ChangeSpec} {conds:List PathCond} {apart fresh handsOn again:Bool} {X:World->Array Value->Prop}
 (hX: ∀(w w':World) (args:Array Value),w.heap=w'.heap->X w args->X w' args)
 (own:ownKnob C.prog.godebug=none) (started:os.Started) (noInit:C.prog.inits.idxOf? f=none) (hfn:C.prog.funcs[f]? =some fn)
 (witness: ∃(w:World) (tape:Tape) (i:Input),w.os=os/\(w.forCall tape i).Shaped C.prog/\i.vars=[]/\Input.okWide C.prog (w.forCall tape i) .any w.heap.size f i/\
  ((s.pre enc C.prog fn conds apart (w.forCall tape i).memory i.args/\X (w.forCall tape i).memory i.args)/\sizedMet enc C.prog fn (OpenSpec.ofChange s) apart (w.forCall tape i).memory i.args)/\a.holds C.prog (lone (Frame.enter C.prog f i.args .normal) [] (w.forCall tape i)))
 (contract: ∀(W:World) (base:Nat) (args:Array Value) (ds gs:List (DataW H)) (before:List MemPlace),
  (∀(j:Nat) t v,fn.params[j]? =some t->args[j]? =some v->Value.okWide C.prog W .any base t v)->
  DataW.Whole enc C.prog fn.params.toList s.vars apart W args.toList ds gs before->X W args->W.ShapedOpen C.prog->
  Calls C.prog f args W fun e W'=> ∃v,e= .returned v/\s.post enc C.prog fn apart fresh handsOn again W args v W'):
 ReturnsInHanded a C os f .any (fun w args=>(s.pre enc C.prog fn conds apart w args/\X w args)/\sizedMet enc C.prog fn (OpenSpec.ofChange s) apart w args) (s.post enc C.prog fn apart fresh handsOn again):=by
 refine returnsInHanded_of_calls own started noInit witness ?_;intro w tape i _ hsh _ hok hpre _;obtain ⟨_,_,_,fn',hfn',_,_,_,_,hval⟩:=hok;have e:fn'=fn:=Option.some.inj (hfn'.symm.trans hfn);subst e;obtain ⟨⟨⟨ds,gs,before,hw,hc⟩,hx⟩,hz⟩:=hpre;have hw':=DataW.Whole.of_heap (w':=w.forCall tape i) (by rfl) hw;refine (contract (w.forCall tape i) w.heap.size i.args ds gs before hval hw' (hX _ _ _ (by rfl) hx) hsh).mono fun e W' ⟨v,he,hp⟩=> ?_;subst he;exact ChangeSpec.post_blind hp
theorem QC:Tryz.prog.globalNamed "strconv.ErrSyntax" =some 2:=by kernel_rfl
theorem QD:Tryz.prog.globalNamed "strconv.ErrRange" =some 3:=by kernel_rfl
theorem QE:Tryz.prog.globalNamed "internal/strconv.uint64pow10" =some 1:=by kernel_rfl
theorem lg {W:World} (h:W.ShapedOpen Tryz.prog) {g:Nat} (hg:g<Tryz.prog.globals.size) (h0:(((begin Tryz.prog (fun _ _=>0) default).world.heap[g]?).bind Obj.row?).isSome=true): ∃cs t,W.heap[g]? =some (.cells cs t (0,0)):=by
 obtain ⟨⟨zero,t⟩,hz⟩:=RG.1 h0;obtain ⟨cs,hh,_⟩:=h.1 g zero t hg hz;exact ⟨cs,t,hh⟩
theorem mD {W:World} {n:String} {g:Nat} {cs cs':Array Value} {t:TypeId} (hg:Tryz.prog.globalNamed n=some g) (hv:W.var? Tryz.prog n=some cs) (hb:W.heap[g]? =some (.cells cs' t (0,0))):cs'=cs:=by
 unfold World.var? at hv;rw [hg] at hv;simp only [Sy,hb,Q9] at hv;exact hv
theorem gty (g t:Nat) (h:(match Tryz.prog.globals[g]? with|some x=>Nat.beq x.type t|none=>false)=true) {u:TypeId} (hu:(Tryz.prog.globals[g]?).map (·.type)=some u):u=t:=by
 cases hg:Tryz.prog.globals[g]? with
 |none=>rw [hg] at hu;cases hu
 |some x=>
  rw [hg] at h hu;simp only [R8,Q9] at hu;subst hu;exact Sb h
theorem CI {P:Program} {H:Type} {enc:TypeId×Value->H} {w:World} {base:Nat} {sp:Nat->Bool} {fuel:Nat} {ti:TypeId} {cs:Array Value} {d:DataW H} {name:String} {p:List MemPlace}
 (hi: ∃ms,P.underlying ti=some (.interface ms)) (h:DataW.trod enc P w base sp false fuel ti cs.toList=some (.iface name d,p)): ∃t v,cs[0]? =some (.iface t v):=by
 obtain ⟨ms,hi⟩:=hi;obtain ⟨_,u,v,hc,_,_⟩:=iface_of_trod hi h;refine ⟨u,v, ?_⟩;rw [<-Array.getElem?_toList,hc];rfl
theorem Mo {W:World} {cs:Array Value} {t:TypeId} {g:Nat} {m:Int} (hb:W.heap[g]? =some (.cells cs t (0,0))) (h:W.cell? ⟨g,0,none⟩=some (.int .i64 m)):cs[0]? =some (.int .i64 m):=by
 simpa [World.cell?,hb] using h
theorem Mp {W:World} (hL:laidMetH Tryz.prog wP W) (hS:W.ShapedOpen Tryz.prog): ∃g,wQ g/\∀e∈g,W.heap[e.1]? =some e.2:=by
 rw [MakeChecks.laidMetH_plain _ _ _ (by kernel_rfl)] at hL;obtain ⟨ps,⟨g0,t0,cs0,f0,p0,q0,hg0,ht0,hv0,hd0,⟨g1,t1,cs1,f1,p1,q1,hg1,ht1,hv1,hd1,⟨g2,t2,cs2,f2,p2,q2,hg2,ht2,hv2,hd2,⟨g3,t3,cs3,f3,p3,q3,hg3,ht3,hv3,hd3,⟨g4,t4,cs4,f4,p4,q4,hg4,ht4,hv4,hd4,_,_⟩,_⟩,_⟩,_⟩,_⟩,_,_⟩:=hL;obtain rfl:=Option.some.inj (QE.symm.trans hg2);obtain rfl:=Option.some.inj (QD.symm.trans hg3);obtain rfl:=Option.some.inj (QC.symm.trans hg4);obtain ⟨c0,ty0,b0⟩:=lg hS (g:=2) (Se (by kernel_rfl)) (by kernel_rfl);obtain ⟨c1,ty1,b1⟩:=lg hS (g:=3) (Se (by kernel_rfl)) (by kernel_rfl);obtain ⟨c2,ty2,b2⟩:=lg hS (g:=0) (Se (by kernel_rfl)) (by kernel_rfl);obtain ⟨c3,ty3,b3⟩:=lg hS (g:=1) (Se (by kernel_rfl)) (by kernel_rfl);have e0:=mD QC hv4 b0;have e1:=mD QD hv3 b1;have e3:=mD QE hv2 b3;refine ⟨[(2, .cells c0 ty0 (0,0)),(3, .cells c1 ty1 (0,0)),(0, .cells c2 ty2 (0,0)),(1, .cells c3 ty3 (0,0))],⟨⟨c0,ty0,by simp, ?_⟩,⟨c1,ty1,by simp, ?_⟩,⟨c2,ty2,by simp, ?_⟩,⟨c3,ty3,by simp, ?_⟩⟩, ?_⟩
 ·rw [e0];obtain rfl:=gty 2 64 (by kernel_rfl) ht4;exact CI ⟨#[("Error",72)],by kernel_rfl⟩ hd4
 ·rw [e1];obtain rfl:=gty 3 64 (by kernel_rfl) ht3;exact CI ⟨#[("Error",72)],by kernel_rfl⟩ hd3
 ·obtain ⟨m,hm⟩:=cell_of_shapedOpen_int (g:=0) (t:=3) (zero:= #[.int .i64 0]) (k:= .i64) hS (Se (by kernel_rfl)) (by kernel_rfl) rfl (by kernel_rfl) (by kernel_rfl) (by kernel_rfl);exact ⟨m,Mo b2 hm⟩
 ·rw [e3];obtain rfl:=gty 1 270 (by kernel_rfl) ht2;have hc:=Lib.cells_of_tab (k:= .u64) (n:=20) (e:=222) (zs:=Lib.pow10Tab) (by kernel_rfl) (by kernel_rfl) (by kernel_rfl) (by kernel_rfl) hd2;rw [<-hc]
 ·intro e he;simp only [Rp,Sj,or_false] at he;rcases he with rfl|rfl|rfl|rfl
  ·exact b0
  ·exact b1
  ·exact b2
  ·exact b3
theorem H6 (os:Os) (args:Array Value):laidMetH Tryz.prog wP ((World.doorLaid Tryz.prog 65 os).forCall (fun _ _=>0) ⟨#[],args,[]⟩).memory:=
 laidMetH_of_parts3 (fuel:=8) (laidMet_of_run' 8 (by kernel_rfl) (by kernel_rfl)) (by kernel_rfl) (by kernel_rfl)
end Go.Proofs.YtabicbgeoiilmaaGreatDoor
