/-
  The engine, part 27: functions that turn what they are given, from what their code must show.
-/
import Derived.Test.YtdplodofdfkndaaDoorVm26
namespace Go.Vm
open Go.RowKit (Below)

theorem Rep.pin {w : World} {σ : Store} {μ : Mu} {o h : Nat → Prop} {p p' : List (Nat × (Nat × Nat × Nat))} {g g' : { l : List (Nat × _root_.Go.Obj) // Tabs l }} {c : V} {v : Value} (hr : Rep ⟨w, σ, μ, ⟨o, h, p, g⟩⟩ c v) : Rep ⟨w, σ, μ, ⟨o, h, p', g'⟩⟩ c v := by
  induction hr with
  | any => exact .any
  | kb => exact .kb
  | bool => exact .bool
  | bq h => exact .bq h
  | int => exact .int
  | str h => exact .str h
  | nilp => exact .nilp
  | nils => exact .nils
  | nilm => exact .nilm
  | nilf => exact .nilf
  | nili => exact .nili
  | errN => exact .errN
  | errS => exact .errS
  | list h1 h2 => exact .list h1 h2
  | slc h1 h2 h3 => exact .slc h1 h2 h3
  | fptr f h1 h2 _ ih => exact .fptr f h1 h2 ih
  | ptr h1 h2 => exact .ptr h1 h2
  | eptr h1 h2 h3 => exact .eptr h1 h2 h3
  | rows f h1 h2 h3 _ ih => exact .rows f h1 h2 h3 ih
  | nslc h1 h2 => exact .nslc h1 h2
  | nptr h1 h2 => exact .nptr h1 h2
  | nin h1 h2 h3 => exact .nin h1 h2 h3
  | fn h1 h2 _ _ ih1 ih2 => exact .fn h1 h2 ih1 ih2
  | agg h1 _ ih => exact .agg h1 ih
  | tuple h1 _ ih => exact .tuple h1 ih
  | iface _ ih => exact .iface ih

theorem RepL.pin {w : World} {σ : Store} {μ : Mu} {o h : Nat → Prop} {p p' : List (Nat × (Nat × Nat × Nat))} {g g' : { l : List (Nat × _root_.Go.Obj) // Tabs l }} {cs : List V} {vs : List Value} (hr : RepL ⟨w, σ, μ, ⟨o, h, p, g⟩⟩ cs vs) : RepL ⟨w, σ, μ, ⟨o, h, p', g'⟩⟩ cs vs :=
  ⟨hr.1, fun j c u hc hu => (hr.2 j c u hc hu).pin⟩

theorem Inv.pin {B : Nat → Prop} {w : World} {σ : Store} {μ : Mu} {o h : Nat → Prop} {p p' : List (Nat × (Nat × Nat × Nat))} {g : { l : List (Nat × _root_.Go.Obj) // Tabs l }} (hI : Inv B ⟨w, σ, μ, ⟨o, h, p, g⟩⟩)
    (hp : ∀ e ∈ p', (∃ cells, σ.get e.1 = some (.box cells)) ∧ μ e.1 = some e.2) : Inv B ⟨w, σ, μ, ⟨o, h, p', g⟩⟩ := by
  exact ⟨fun id ob hg => ObjOk.move (X := ⟨w, σ, μ, ⟨o, h, p, g⟩⟩) rfl (fun _ _ => rfl) (fun _ hb => ⟨hb, rfl⟩) (fun _ _ _ h => h.pin) (hI.objs id ob hg), hI.injB, hI.baseB, hI.out, hI.vis, ⟨hp, hI.marks.gnd⟩⟩

theorem stget_mem : ∀ {σ : Store} {k : Nat} {o : Obj}, σ.get k = some o → (k, o) ∈ σ
  | (i, o') :: r, k, o, h => by
    simp only [Store.get] at h
    split at h
    · rename_i e; subst e; cases h; simp
    · exact List.mem_cons_of_mem _ (stget_mem h)

def isBox : Option Obj → Bool
  | some (.box _) => true
  | _ => false

theorem isBox_spec {o : Option Obj} (h : isBox o = true) : ∃ cells, o = some (.box cells) := by
  unfold isBox at h
  split at h
  · exact ⟨_, rfl⟩
  · cases h

/-- The variables that are handed in. -/
def pinsB (pins : List Nat) (σ : Store) : Bool :=
  pins.all (fun c => isBox (σ.get c)) && σ.all fun e => !isBox (some e.2) || pins.contains e.1

/-- At the end of a function that turns what it was given. -/
def exitC (pins : List Nat) (ann : Ann) (x : Xs ann.pats) : Leaf → St → Prop
  | .normal, st => back pins ann (List.range st.s.length) st st fun y => y = x
  | .ret, st => back pins ann (List.range st.s.length) st st fun y => y = x
  | .exit _, _ => False
  | .goto _, _ => False

/-- What it hands back. -/
def retC (ann : Ann) (x : Xs ann.pats) : V := pack ((concL ann.pats x).take ann.slots.length)

/-- What it leaves. -/
def outC (ann : Ann) (x : Xs ann.pats) : Store := objL ann.pats x ++ bare (boxEnts ann.boxes ((concL ann.pats x).drop ann.slots.length))

theorem vals_setAll : ∀ {ps : List (Nat × Pat)} {s cs : List V}, nodupB (ps.map (·.1)) = true → (∀ i ∈ ps.map (·.1), i < s.length) → ps.length ≤ cs.length →
    vals (setAll s ps cs) (ps.map (·.1)) = some (cs.take ps.length)
  | [], s, cs, _, _, _ => by simp [vals]
  | (i, p) :: r, s, [], _, _, h => by simp at h
  | (i, p) :: r, s, c :: cs, hn, hi, hl => by
    simp only [List.map_cons, nodupB, Bool.and_eq_true, Bool.not_eq_true'] at hn
    have hni : i ∉ r.map (·.1) := fun hm => by
      have := List.contains_iff_mem.2 hm
      rw [this] at hn; cases hn.1
    have hlt : i < s.length := hi i (by simp)
    have ih := vals_setAll (ps := r) (s := s.set i c) (cs := cs) hn.2 (fun j hj => by simpa using hi j (by simp at hj ⊢; exact .inr hj)) (by simpa using hl)
    simp only [List.map_cons, setAll, vals, List.length_cons, List.take_succ_cons]
    rw [ih]
    have : nth (setAll (s.set i c) r cs) i = some c := by
      show (setAll (s.set i c) r cs)[i]? = some c
      rw [setAll_off hni]
      simp [hlt]
    rw [this]

theorem UpdC.of_vc {E : Env} (hS : SpecsOk E) (hm : E.P.follows .mixedOrders = true) {f : FuncId} {fn : Func} {c : Code} {args : List V} {σ : Store} {ann : Ann} {x : Xs ann.pats} (hf : E.P.funcs[f]? = some fn) (hb : fn.body = some c)
    (hts : rslots fn.results.toList = some (ann.slots.map (·.1))) (hk : ann.keep = []) (hpins : pinsB E.pins σ = true) (hnd : nodupB (ann.slots.map (·.1)) = true)
    (h : vc E c ⟨args ++ List.replicate (fn.ntmps - args.length) (.tuple []), σ⟩ (exitC E.pins ann x)) : UpdC E.P f args σ (retC ann x) (outC ann x) := by
  intro B F w μ vs hFp hI hB hr
  obtain ⟨o, hh, p, g⟩ := F
  simp only at hFp
  subst hFp
  simp only [pinsB, Bool.and_eq_true] at hpins
  have pin1 : ∀ c ∈ E.pins, ∃ cells, σ.get c = some (.box cells) := fun c hc => isBox_spec (List.all_eq_true.1 hpins.1 c hc)
  have pin2 : ∀ c cells, σ.get c = some (.box cells) → c ∈ E.pins := fun c cells hg => by
    have := List.all_eq_true.1 hpins.2 _ (stget_mem hg)
    simpa [isBox] using this
  let pn : List (Nat × (Nat × Nat × Nat)) := E.pins.filterMap fun c => (μ c).map fun q => (c, q)
  have hpn : ∀ e ∈ pn, e.1 ∈ E.pins ∧ μ e.1 = some e.2 := by
    intro e he
    simp only [pn, List.mem_filterMap, Option.map_eq_some_iff] at he
    obtain ⟨c, hc, q, hq, rfl⟩ := he
    exact ⟨hc, hq⟩
  have hI1 : Inv B ⟨w, σ, μ, ⟨o, hh, pn, g⟩⟩ := hI.pin fun e he => ⟨pin1 _ (hpn e he).1, (hpn e he).2⟩
  have hend : ∀ (st : St) (a : Act) (w' : World) (μ' : Mu), back E.pins ann (List.range st.s.length) st st (fun y => y = x) → Good ⟨⟨w, σ, μ, ⟨o, hh, pn, g⟩⟩, B, hB⟩ ⟨o, hh, pn, g⟩ st a w' μ' →
      a.defers = [] ∧ ∃ v, (results fn a.tmps).run E.P w' = .ok v w' ∧ ∃ u, (Exit.ret, v) = (Exit.ret, u) ∧ ∃ μ2, Inv B ⟨w', outC ann x, μ2, ⟨o, hh, [], g⟩⟩ ∧ Rep ⟨w', outC ann x, μ2, ⟨o, hh, [], g⟩⟩ (retC ann x) u ∧
        Since ⟨w, σ, μ, ⟨o, hh, [], g⟩⟩ ⟨w', outC ann x, μ2, ⟨o, hh, [], g⟩⟩ ∧ ∀ c cells, σ.get c = some (.box cells) → (∃ cells', (outC ann x).get c = some (.box cells')) ∧ μ2 c = μ c := by
    intro st a w' μ' hbk hg
    obtain ⟨y, μ2, rfl, k1, k2, k3⟩ := back_ok (fun e he => (hpn e he).1) hbk rfl hg.inv hg.slots
    have hσ : (head ann (List.range st.s.length) st y).σ = outC ann y := by
      simp only [head, outC, hk, keptEnts, bare, List.append_nil]
    rw [hσ] at k1 k2 k3
    refine ⟨hg.defers, _, results_run hts _ _, _, rfl, μ2, k1.pin (fun e he => by simp at he), ?_, ?_, fun c cells hc => ?_⟩
    · have hlt : ∀ i ∈ ann.slots.map (·.1), i < st.s.length := by
        intro i hi
        unfold back at hbk
        split at hbk
        · rename_i vs' us' h1 h2
          simp only [List.mem_map] at hi
          obtain ⟨q, hq, rfl⟩ := hi
          obtain ⟨kk, hkk⟩ := List.getElem?_of_mem hq
          obtain ⟨v, _, h3⟩ := (slotVals_get h1).2 (k := kk) (i := q.1) (p := q.2) hkk
          exact (List.getElem?_eq_some_iff.1 h3).1
        · exact hbk.elim
      have hv := vals_setAll (ps := ann.slots) (s := maskFrom (ann.m (List.range st.s.length)) 0 st.s) (cs := concL ann.pats y) hnd (fun i hi => by rw [maskFrom_len]; exact hlt i hi) (by rw [concL_len]; simp [Ann.pats])
      exact concL_rep (vals_rep k2 hv).pin
    · exact ⟨hg.below.os, hg.below.tape, hg.below.output, hg.below.size, rfl, fun b hb => by
        obtain ⟨q1, q2⟩ := hg.below.still b hb
        exact ⟨k3 b q1, q2⟩⟩
    · obtain ⟨b, cs, ty, h1, _⟩ := hI.objs c _ hc
      have hme : (c, (b, 0, 1)) ∈ pn := by
        simp only [pn, List.mem_filterMap, Option.map_eq_some_iff]
        exact ⟨c, pin2 c cells hc, _, h1, rfl⟩
      obtain ⟨q1, q2⟩ := k1.marks.pin _ hme
      exact ⟨q1, q2.trans h1.symm⟩
  refine calls_of_wp hf hb (vc_sound (w0 := ⟨⟨w, σ, μ, ⟨o, hh, pn, g⟩⟩, B, hB⟩) (F := ⟨o, hh, pn, g⟩) (fun e he => (hpn e he).1) hS hm _ _ _ _ (fun e st a w' μ' hK _ hg => ?_) h _ w μ ⟨hI1, ?_, .refl _, rfl⟩)
  · cases e with
    | normal =>
      obtain ⟨h1, v, h2, u, h3, h4⟩ := hend st a w' μ' hK hg
      cases h3
      exact ⟨h1, v, h2, v, rfl, h4⟩
    | ret =>
      obtain ⟨h1, v, h2, u, h3, h4⟩ := hend st a w' μ' hK hg
      cases h3
      exact ⟨h1, v, h2, v, rfl, h4⟩
    | exit id => exact hK.elim
    | goto l => exact hK.elim
  · have hl : vs.length = args.length := hr.1
    have := (hr.pin (p' := pn) (g' := g)).append (ds := List.replicate (fn.ntmps - args.length) (.tuple [])) (us := List.replicate (fn.ntmps - args.length) undef) ⟨by simp, fun j c u hc hu => by
      have e1 := (List.getElem?_eq_some_iff.1 hc).2
      have e2 := (List.getElem?_eq_some_iff.1 hu).2
      simp only [List.getElem_replicate] at e1 e2
      subst e1; subst e2
      exact .tuple rfl (fun j c u hc => by simp at hc)⟩
    simpa [hl] using this

/-- What is known of a function of one's own that turns what it is given, over numbers of its own. -/
structure OSpec (P : Program) where
  f : FuncId
  run : List V → Store → Option (Prop × V × Store)
  ok : ∀ args σ pre r σ', run args σ = some (pre, r, σ') → pre → UpdC P f args σ r σ'

def OSpec.upd {P : Program} (o : OSpec P) : UFSpec P := ⟨o.f, ownRun o.run, fun _ _ _ _ _ h hp => own_ok o.ok h hp⟩

end Go.Vm
