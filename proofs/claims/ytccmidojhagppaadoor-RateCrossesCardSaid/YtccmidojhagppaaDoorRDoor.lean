/-
  From what is listed to what stays: the door.
-/
import Derived.Test.YtccmidojhagppaaDoorRows
import Derived.Test.YtccmidojhagppaaDoorSeat
import Derived.Test.YtccmidojhagppaaDoorVmJ
import Derived.WalkKit
import Derived.ProofKit
import Derived.LaidMore
import Derived.OpenShut
import Derived.LaidHandle
import Derived.Lib.LaidTab
import Derived.HandedShaped
import Derived.Stop.Joined
import Derived.Shelf.Vars
namespace Go.Proofs.YtccmidojhagppaaDoor
open Go.Vm Go.ChangeShapes Go.WideShapes Go.ChangeAt

theorem own : ownKnob Tryd.prog.godebug = none := by kernel_rfl
theorem laid : laidOutB Tryd.prog = true := by kernel_rfl
def laidL : List (String × DataW Unit) := [("math/bits.deBruijn32tab", Rows.laid_math_bits_deBruijn32tab), ("math/bits.deBruijn64tab", Rows.laid_math_bits_deBruijn64tab)]

/-- The world's shape handed on, beside a condition. -/
theorem returns_door {H : Type} {enc : TypeId × Value → H} {a : Assume} {C : Checked} {os : Os} {f : FuncId} {fn : Func} {s : ChangeSpec} {conds : List PathCond} {apart fresh handsOn again : Bool} {X : World → Array Value → Prop}
    (hX : ∀ (w w' : World) (args : Array Value), w.heap = w'.heap → X w args → X w' args)
    (own : ownKnob C.prog.godebug = none) (started : os.Started) (noInit : C.prog.inits.idxOf? f = none) (hfn : C.prog.funcs[f]? = some fn)
    (witness : ∃ (w : World) (tape : Tape) (i : Input), w.os = os ∧ (w.forCall tape i).Shaped C.prog ∧ i.vars = [] ∧ Input.okWide C.prog (w.forCall tape i) .any w.heap.size f i ∧
      ((s.pre enc C.prog fn conds apart (w.forCall tape i).memory i.args ∧ X (w.forCall tape i).memory i.args) ∧ sizedMet enc C.prog fn (OpenSpec.ofChange s) apart (w.forCall tape i).memory i.args) ∧ a.holds C.prog (lone (Frame.enter C.prog f i.args .normal) [] (w.forCall tape i)))
    (contract : ∀ (W : World) (base : Nat) (args : Array Value) (ds gs : List (DataW H)) (before : List MemPlace),
      (∀ (j : Nat) t v, fn.params[j]? = some t → args[j]? = some v → Value.okWide C.prog W .any base t v) →
      DataW.Whole enc C.prog fn.params.toList s.vars apart W args.toList ds gs before → X W args → W.ShapedOpen C.prog →
      Calls C.prog f args W fun e W' => ∃ v, e = .returned v ∧ s.post enc C.prog fn apart fresh handsOn again W args v W') :
    ReturnsInHanded a C os f .any (fun w args => (s.pre enc C.prog fn conds apart w args ∧ X w args) ∧ sizedMet enc C.prog fn (OpenSpec.ofChange s) apart w args) (s.post enc C.prog fn apart fresh handsOn again) := by
  refine returnsInHanded_of_calls own started noInit witness ?_
  intro w tape i _ hsh _ hok hpre _
  obtain ⟨_, _, _, fn', hfn', _, _, _, _, hval⟩ := hok
  have e : fn' = fn := Option.some.inj (hfn'.symm.trans hfn)
  subst e
  obtain ⟨⟨⟨ds, gs, before, hw, hc⟩, hx⟩, hz⟩ := hpre
  have hw' := DataW.Whole.of_heap (w' := w.forCall tape i) (by rfl) hw
  refine (contract (w.forCall tape i) w.heap.size i.args ds gs before hval hw' (hX _ _ _ (by rfl) hx) hsh).mono fun e W' ⟨v, he, hp⟩ => ?_
  subst he
  exact ChangeSpec.post_blind hp

theorem gTab : Tryd.prog.globalNamed "math/bits.deBruijn64tab" = some 1 := by kernel_rfl
/-- The blocks of package-level variables are plain rows. -/
theorem block_of {W : World} (h : W.ShapedOpen Tryd.prog) {g : Nat} (hg : g < Tryd.prog.globals.size) (h0 : (((begin Tryd.prog (fun _ _ => 0) default).world.heap[g]?).bind Obj.row?).isSome = true) : ∃ cs t, W.heap[g]? = some (.cells cs t (0, 0)) := by
  obtain ⟨⟨zero, t⟩, hz⟩ := Option.isSome_iff_exists.1 h0
  obtain ⟨cs, hh, _⟩ := h.1 g zero t hg hz
  exact ⟨cs, t, hh⟩
theorem var_cells {W : World} {n : String} {g : Nat} {cs cs' : Array Value} {t : TypeId} (hg : Tryd.prog.globalNamed n = some g) (hv : W.var? Tryd.prog n = some cs) (hb : W.heap[g]? = some (.cells cs' t (0, 0))) : cs' = cs := by
  unfold World.var? at hv
  rw [hg] at hv
  simp only [Option.bind_some, hb, Option.some.injEq] at hv
  exact hv
theorem gty (g t : Nat) (h : (match Tryd.prog.globals[g]? with | some x => Nat.beq x.type t | none => false) = true) {u : TypeId} (hu : (Tryd.prog.globals[g]?).map (·.type) = some u) : u = t := by
  cases hg : Tryd.prog.globals[g]? with
  | none => rw [hg] at hu; cases hu
  | some x =>
    rw [hg] at h hu
    simp only [Option.map_some, Option.some.injEq] at hu
    subst hu
    exact Nat.eq_of_beq_eq_true h
theorem tabs_of {W : World} (hL : laidMetH Tryd.prog laidL W) (hS : W.ShapedOpen Tryd.prog) : ∃ g, Tabs g ∧ ∀ e ∈ g, W.heap[e.1]? = some e.2 := by
  rw [MakeChecks.laidMetH_plain _ _ _ (by kernel_rfl)] at hL
  obtain ⟨ps, ⟨g0, t0, cs0, f0, p0, q0, hg0, ht0, hv0, hd0, ⟨g1, t1, cs1, f1, p1, q1, hg1, ht1, hv1, hd1, _, _⟩, _⟩, _, _⟩ := hL
  obtain rfl := Option.some.inj (gTab.symm.trans hg1)
  obtain ⟨c1, ty1, b1⟩ := block_of hS (g := 1) (of_decide_eq_true (by kernel_rfl)) (by kernel_rfl)
  have e1 := var_cells gTab hv1 b1
  refine ⟨[(1, .cells c1 ty1 (0, 0))], ⟨c1, ty1, by simp, ?_⟩, ?_⟩
  · rw [e1]
    obtain rfl := gty 1 98 (by kernel_rfl) ht1
    have hc := Lib.cells_of_tab (k := .u8) (n := 64) (e := 5) (zs := Lib.deBruijn64tab.map fun (z : Nat) => (z : Int)) (by kernel_rfl) (by kernel_rfl) (by kernel_rfl) (by kernel_rfl) hd1
    rw [List.map_map] at hc
    have : cs1 = (Lib.deBruijn64tab.map fun (z : Nat) => Value.int .u8 (z : Int)).toArray := by
      rw [← Array.toArray_toList (xs := cs1), hc]
      rfl
    exact this
  · intro e he
    rw [List.mem_singleton.1 he]
    exact b1
/-- The door's own heap meets the condition. -/
theorem door_met (os : Os) (args : Array Value) : laidMetH Tryd.prog laidL ((World.doorLaid Tryd.prog 65 os).forCall (fun _ _ => 0) ⟨#[], args, []⟩).memory :=
  laidMetH_of_parts3 (fuel := 8) (laidMet_of_run' 8 (by kernel_rfl) (by kernel_rfl)) (by kernel_rfl) (by kernel_rfl)

end Go.Proofs.YtccmidojhagppaaDoor
