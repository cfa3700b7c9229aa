/-
  The engine, part 29: functions with results of parts.
-/
import Derived.Test.YtdplodofdfkndaaDoorVm28
namespace Go.Vm
open Go.RowKit (Below)

theorem setAll_numP : ∀ {ps : List Pat} {k : Nat} {s cs : List V}, s.length = k + ps.length → ps.length ≤ cs.length → setAll s (numP k ps) cs = s.take k ++ cs.take ps.length
  | [], k, s, cs, h, _ => by
    simp only [numP, setAll, List.length_nil, List.take_zero, List.append_nil]
    rw [List.take_of_length_le (by simp at h; omega)]
  | p :: r, k, s, [], h, h2 => by simp at h2
  | p :: r, k, s, c :: cs, h, h2 => by
    simp only [List.length_cons] at h h2
    simp only [numP, setAll]
    rw [setAll_numP (k := k + 1) (by simp; omega) (by omega)]
    simp only [List.length_cons, List.take_succ_cons]
    have : (s.set k c).take (k + 1) = s.take k ++ [c] := by
      rw [List.take_add_one]
      simp [List.take_set, show k < s.length by omega]
      rw [List.set_eq_of_length_le (by simp; omega)]
    rw [this]
    simp

theorem numP_len : ∀ (ps : List Pat) (k : Nat), (numP k ps).length = ps.length
  | [], _ => rfl
  | _ :: r, k => by simp [numP, numP_len r]

/-- What the end comes to. -/
theorem endG_ok {P : Program} {B : Nat → Prop} {fn : Func} {sh : List (Option Nat)} {pins : List Nat} {ann : Ann} {x : Xs ann.pats} {st : St} {w : World} {μ : Mu} {F : Fr} {tmps : Array Value}
    (hk : ann.keep = []) (hsl : ann.slots = numP 0 (ann.slots.map (·.2))) (hp : ∀ e ∈ F.pin, e.1 ∈ pins) (h : endG P fn.results.toList sh pins ann x st) (hI : Inv B ⟨w, st.σ, μ, F⟩) (hr : RepL ⟨w, st.σ, μ, F⟩ st.s tmps.toList) :
    ∃ u μ', (results fn tmps).run P w = .ok u w ∧ Inv B ⟨w, outC ann x, μ', F⟩ ∧ Rep ⟨w, outC ann x, μ', F⟩ (retG sh ann x) u ∧ ∀ b, Ctx.T0 ⟨w, st.σ, μ, F⟩ b → Ctx.T0 ⟨w, outC ann x, μ', F⟩ b := by
  unfold endG at h
  split at h
  · rename_i fs hfs
    split at h
    · rename_i hlen
      simp only [Option.bind_eq_some_iff] at hfs
      obtain ⟨vs, hv, hfl⟩ := hfs
      obtain ⟨us, h1, h2⟩ := resultsG_run (B := B) hI hr hv
      obtain ⟨gs, h3, h4⟩ := flat_rep hfl h2
      obtain ⟨y, μ2, rfl, k1, k2, k3⟩ := back_ok (st' := ⟨fs, st.σ⟩) hp h rfl hI h3
      have hσ : (head ann [] ⟨fs, st.σ⟩ y).σ = outC ann y := by
        simp only [head, outC, hk, keptEnts, bare, List.append_nil]
      rw [hσ] at k1 k2 k3
      have hs : (head ann [] ⟨fs, st.σ⟩ y).s = (concL ann.pats y).take ann.slots.length := by
        have hl : (ann.slots.map (·.2)).length = ann.slots.length := by simp
        have hc : ann.slots.length ≤ (concL ann.pats y).length := by rw [concL_len]; simp [Ann.pats]
        have := setAll_numP (ps := ann.slots.map (·.2)) (k := 0) (s := maskFrom (ann.m []) 0 fs) (cs := concL ann.pats y) (by rw [maskFrom_len, hl]; omega) (by rw [hl]; exact hc)
        rw [← hsl, hl] at this
        simpa [head] using this
      rw [hs] at k2
      exact ⟨_, μ2, h1, k1, concL_rep (h4 k2), k3⟩
    · exact h.elim
  · exact h.elim

/-- **A function that writes nothing that was there, with results of parts.** -/
theorem Pure.of_vcG {E : Env} (hS : SpecsOk E) (hm : E.P.follows .mixedOrders = true) {f : FuncId} {fn : Func} {c : Code} {args : List V} {sh : List (Option Nat)} {ann : Ann} {x : Xs ann.pats} {r : V} (hf : E.P.funcs[f]? = some fn) (hb : fn.body = some c)
    (hk : ann.keep = []) (hsl : ann.slots = numP 0 (ann.slots.map (·.2))) (hown : own (outC ann x) 60 (retG sh ann x) = some r) (hids : nodupB (ids (outC ann x) 60 (retG sh ann x)) = true)
    (h : vc E c ⟨args ++ List.replicate (fn.ntmps - args.length) (.tuple []), []⟩ (exitG E.P fn.results.toList sh E.pins ann x)) : Pure E.P f args r := by
  intro F w vs hF hr
  have hend : ∀ (st : St) (a : Act) (w' : World) (μ' : Mu), endG E.P fn.results.toList sh E.pins ann x st → Good (Start.bare F w) F st a w' μ' →
      a.defers = [] ∧ ∃ v, (results fn a.tmps).run E.P w' = .ok v w' ∧ Below w.heap.size w w' ∧ Handed w.heap.size F w' r v := by
    intro st a w' μ' he hg
    obtain ⟨u, μ2, h1, h2, h3, _⟩ := endG_ok hk hsl (fun e he => by simp [hF.pin] at he) he hg.inv hg.slots
    exact ⟨hg.defers, u, h1, hg.below.below, _, μ2, _, h2, h3, hown, nodupB_nodup hids⟩
  refine calls_of_wp hf hb (vc_sound (w0 := Start.bare F w) (F := F) (fun e he => by simp [hF.pin] at he) hS hm _ _ _ _ (fun e st a w' μ hK _ hg => ?_) h _ w (fun _ => none) ⟨?_, ?_, .refl _, rfl⟩)
  · cases e with
    | normal =>
      obtain ⟨h1, v, h2, h3, h4⟩ := hend st a w' μ hK hg
      exact ⟨h1, v, h2, v, rfl, h3, h4⟩
    | ret =>
      obtain ⟨h1, v, h2, h3, h4⟩ := hend st a w' μ hK hg
      exact ⟨h1, v, h2, v, rfl, h3, h4⟩
    | exit id => exact hK.elim
    | goto l => exact hK.elim
  · exact ⟨fun id o h => by simp [Store.get] at h, fun i j o o' p q h => by simp [Store.get] at h, fun id o p h => by simp [Store.get] at h, hF.out, fun b hb => hF.out b hb, ⟨fun e he => by simp [hF.pin] at he, fun e he => ⟨hF.gnd e he, fun h => by have := hF.lt he; simp only [Start.bare] at h; omega⟩⟩⟩
  · have hl : vs.length = args.length := hr.1
    have := hr.append (ds := List.replicate (fn.ntmps - args.length) (.tuple [])) (us := List.replicate (fn.ntmps - args.length) undef) ⟨by simp, fun j c u hc hu => by
      have e1 := (List.getElem?_eq_some_iff.1 hc).2
      have e2 := (List.getElem?_eq_some_iff.1 hu).2
      simp only [List.getElem_replicate] at e1 e2
      subst e1; subst e2
      exact .tuple rfl (fun j c u hc => by simp at hc)⟩
    simpa [hl] using this

/-- **A function that turns what it is given, with results of parts.** -/
theorem UpdC.of_vcG {E : Env} (hS : SpecsOk E) (hm : E.P.follows .mixedOrders = true) {f : FuncId} {fn : Func} {c : Code} {args : List V} {σ : Store} {sh : List (Option Nat)} {ann : Ann} {x : Xs ann.pats} (hf : E.P.funcs[f]? = some fn) (hb : fn.body = some c)
    (hk : ann.keep = []) (hsl : ann.slots = numP 0 (ann.slots.map (·.2))) (hpins : pinsB E.pins σ = true)
    (h : vc E c ⟨args ++ List.replicate (fn.ntmps - args.length) (.tuple []), σ⟩ (exitG E.P fn.results.toList sh E.pins ann x)) : UpdC E.P f args σ (retG sh ann x) (outC ann x) := by
  intro B F w μ vs hFp hI hB hr
  obtain ⟨o, hh, p, g⟩ := F
  simp only at hFp
  subst hFp
  simp only [pinsB, Bool.and_eq_true] at hpins
  have pin1 : ∀ c ∈ E.pins, ∃ cells, σ.get c = some (.box cells) := fun c hc => isBox_spec (List.all_eq_true.1 hpins.1 c hc)
  have pin2 : ∀ c cells, σ.get c = some (.box cells) → c ∈ E.pins := fun c cells hg => by
    have := List.all_eq_true.1 hpins.2 _ (stget_mem hg)
    simpa [isBox] using this
  let pn : List (Nat × (Nat × Nat × Nat)) := E.pins.filterMap fun c => (μ c).map fun q => (c, q)
  have hpn : ∀ e ∈ pn, e.1 ∈ E.pins ∧ μ e.1 = some e.2 := by
    intro e he
    simp only [pn, List.mem_filterMap, Option.map_eq_some_iff] at he
    obtain ⟨c, hc, q, hq, rfl⟩ := he
    exact ⟨hc, hq⟩
  have hI1 : Inv B ⟨w, σ, μ, ⟨o, hh, pn, g⟩⟩ := hI.pin fun e he => ⟨pin1 _ (hpn e he).1, (hpn e he).2⟩
  have hend : ∀ (st : St) (a : Act) (w' : World) (μ' : Mu), endG E.P fn.results.toList sh E.pins ann x st → Good ⟨⟨w, σ, μ, ⟨o, hh, pn, g⟩⟩, B, hB⟩ ⟨o, hh, pn, g⟩ st a w' μ' →
      a.defers = [] ∧ ∃ v, (results fn a.tmps).run E.P w' = .ok v w' ∧ ∃ μ2, Inv B ⟨w', outC ann x, μ2, ⟨o, hh, [], g⟩⟩ ∧ Rep ⟨w', outC ann x, μ2, ⟨o, hh, [], g⟩⟩ (retG sh ann x) v ∧
        Since ⟨w, σ, μ, ⟨o, hh, [], g⟩⟩ ⟨w', outC ann x, μ2, ⟨o, hh, [], g⟩⟩ ∧ ∀ c cells, σ.get c = some (.box cells) → (∃ cells', (outC ann x).get c = some (.box cells')) ∧ μ2 c = μ c := by
    intro st a w' μ' he hg
    obtain ⟨u, μ2, h1, k1, k2, k3⟩ := endG_ok hk hsl (fun e he => (hpn e he).1) he hg.inv hg.slots
    refine ⟨hg.defers, u, h1, μ2, k1.pin (fun e he => by simp at he), k2.pin, ?_, fun c cells hc => ?_⟩
    · exact ⟨hg.below.os, hg.below.tape, hg.below.output, hg.below.size, rfl, fun b hb => by
        obtain ⟨q1, q2⟩ := hg.below.still b hb
        exact ⟨k3 b q1, q2⟩⟩
    · obtain ⟨b, cs, ty, h1, _⟩ := hI.objs c _ hc
      have hme : (c, (b, 0, 1)) ∈ pn := by
        simp only [pn, List.mem_filterMap, Option.map_eq_some_iff]
        exact ⟨c, pin2 c cells hc, _, h1, rfl⟩
      obtain ⟨q1, q2⟩ := k1.marks.pin _ hme
      exact ⟨q1, q2.trans h1.symm⟩
  refine calls_of_wp hf hb (vc_sound (w0 := ⟨⟨w, σ, μ, ⟨o, hh, pn, g⟩⟩, B, hB⟩) (F := ⟨o, hh, pn, g⟩) (fun e he => (hpn e he).1) hS hm _ _ _ _ (fun e st a w' μ' hK _ hg => ?_) h _ w μ ⟨hI1, ?_, .refl _, rfl⟩)
  · cases e with
    | normal =>
      obtain ⟨h1, v, h2, h4⟩ := hend st a w' μ' hK hg
      exact ⟨h1, v, h2, v, rfl, h4⟩
    | ret =>
      obtain ⟨h1, v, h2, h4⟩ := hend st a w' μ' hK hg
      exact ⟨h1, v, h2, v, rfl, h4⟩
    | exit id => exact hK.elim
    | goto l => exact hK.elim
  · have hl : vs.length = args.length := hr.1
    have := (hr.pin (p' := pn) (g' := g)).append (ds := List.replicate (fn.ntmps - args.length) (.tuple [])) (us := List.replicate (fn.ntmps - args.length) undef) ⟨by simp, fun j c u hc hu => by
      have e1 := (List.getElem?_eq_some_iff.1 hc).2
      have e2 := (List.getElem?_eq_some_iff.1 hu).2
      simp only [List.getElem_replicate] at e1 e2
      subst e1; subst e2
      exact .tuple rfl (fun j c u hc => by simp at hc)⟩
    simpa [hl] using this


theorem Weak.agg {cs cs' : List V} (h : WeakL cs cs') : Weak (.agg cs) (.agg cs') := fun X u hr => by
  obtain ⟨vs, rfl, h1⟩ := hr.agg_inv
  exact (h.rep h1).agg


theorem RepL.tuple2 {X : Ctx} {cs : List V} {vs : List Value} (h : RepL X cs vs) : Rep X (.tuple cs) (.tuple vs.toArray) :=
  .tuple (by simpa using h.1) (fun j c u hc hu => h.2 j c u hc (by simpa using hu))


theorem UpdC.weak {P : Program} {f : FuncId} {args args' : List V} {σ σ' : Store} {r : V} (h : UpdC P f args' σ r σ') (hw : WeakL args args') : UpdC P f args σ r σ' :=
  fun B F w μ vs hp hI hB hr => h B F w μ vs hp hI hB (hw.rep hr)

theorem Pure.of_gG {E : Env} (hS : SpecsOk E) (hm : E.P.follows .mixedOrders = true) {f : FuncId} {fn : Func} {c : Code} {args : List V} {sh : List (Option Nat)} {ann : Ann} {x : Xs ann.pats} {r : V} (hf : E.P.funcs[f]? = some fn) (hb : fn.body = some c)
    (hk : ann.keep = []) (hsl : ann.slots = numP 0 (ann.slots.map (·.2))) (hown : own (outC ann x) 60 (retG sh ann x) = some r) (hids : nodupB (ids (outC ann x) 60 (retG sh ann x)) = true)
    {g : Prop} (hg : g = vc E c ⟨args ++ List.replicate (fn.ntmps - args.length) (.tuple []), []⟩ (exitG E.P fn.results.toList sh E.pins ann x)) (h : g) : Pure E.P f args r :=
  Pure.of_vcG hS hm hf hb hk hsl hown hids (Eq.mp hg h)

theorem UpdC.of_gG {E : Env} (hS : SpecsOk E) (hm : E.P.follows .mixedOrders = true) {f : FuncId} {fn : Func} {c : Code} {args : List V} {σ : Store} {sh : List (Option Nat)} {ann : Ann} {x : Xs ann.pats} (hf : E.P.funcs[f]? = some fn) (hb : fn.body = some c)
    (hk : ann.keep = []) (hsl : ann.slots = numP 0 (ann.slots.map (·.2))) (hpins : pinsB E.pins σ = true)
    {g : Prop} (hg : g = vc E c ⟨args ++ List.replicate (fn.ntmps - args.length) (.tuple []), σ⟩ (exitG E.P fn.results.toList sh E.pins ann x)) (h : g) : UpdC E.P f args σ (retG sh ann x) (outC ann x) :=
  UpdC.of_vcG hS hm hf hb hk hsl hpins (Eq.mp hg h)

end Go.Vm
