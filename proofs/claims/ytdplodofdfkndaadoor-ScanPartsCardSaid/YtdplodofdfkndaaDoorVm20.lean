/-
  The engine, part 20: functions.
-/
import Derived.Test.YtdplodofdfkndaaDoorVm19
namespace Go.Vm
open Go.RowKit (Below)

/-- The slots of a function's results. -/
def rslots : List ResultVar → Option (List Nat)
  | [] => some []
  | .tmp t :: r => (rslots r).map (t :: ·)
  | .cell _ _ :: _ => none

def vals (s : List V) : List Nat → Option (List V)
  | [] => some []
  | i :: r => match nth s i, vals s r with
    | some v, some vs => some (v :: vs)
    | _, _ => none

/-- What is handed back, read by a pattern. -/
def outV : (p : Pat) → p.den → V
  | .slc _ t, l => .olist t l
  | p, x => concP p x

def outL : (ps : List Pat) → Xs ps → List V
  | [], _ => []
  | p :: r, x => outV p x.1 :: outL r x.2

def pack : List V → V
  | [v] => v
  | vs => .tuple vs

def retV (ps : List Pat) (x : Xs ps) : V := pack (outL ps x)

def noTmp : List Pat → Bool
  | [] => true
  | .list .tmp _ :: _ => false
  | .nst _ _ _ :: _ => false
  | _ :: r => noTmp r

/-- At a function's end. -/
def atEnd (ts : List Nat) (ps : List Pat) (r : Xs ps) (st : St) : Prop :=
  match vals st.s ts with
  | some vs => match absL st.σ ps vs with
    | some x => if nodupB (keysOf (entL ps vs x)) && nodupB (srcsOf (entL ps vs x)) && offB (srcsOf (entL ps vs x)) (frzAll ps vs) && noTmp ps && decide (ps.length < 50) then x = r else False
    | none => False
  | none => False

def exitK (ts : List Nat) (ps : List Pat) (r : Xs ps) : Leaf → St → Prop
  | .normal, st => atEnd ts ps r st
  | .ret, st => atEnd ts ps r st
  | .exit _, _ => False
  | .goto _, _ => False

def packU : List Value → Value
  | [v] => v
  | vs => .tuple vs.toArray

theorem results_list {P : Program} {tmps : Array Value} {w : World} (f : ResultVar → Sem Value) (hf : ∀ t, f (.tmp t) = pure (tmps.getD t undef)) (ts : List Tmp) :
    ((ts.map ResultVar.tmp).mapM f).run P w = .ok (ts.map fun t => tmps.getD t undef) w := by
  induction ts with
  | nil => simp
  | cons t r ih =>
    rw [List.map_cons, List.mapM_cons]
    simp only [Sem.run_bind, Sem.run_pure, Result.andThen_ok, ih, List.map_cons, hf]

theorem rslots_spec : ∀ {l : List ResultVar} {ts : List Nat}, rslots l = some ts → l = ts.map ResultVar.tmp
  | [], ts, h => by simp only [rslots, Option.some.injEq] at h; subst h; rfl
  | .tmp t :: r, ts, h => by
    simp only [rslots, Option.map_eq_some_iff] at h
    obtain ⟨ts', h1, rfl⟩ := h
    simp [rslots_spec h1]
  | .cell _ _ :: _, ts, h => by simp [rslots] at h

theorem results_run {P : Program} {fn : Func} {ts : List Nat} (h : rslots fn.results.toList = some ts) (tmps : Array Value) (w : World) :
    (results fn tmps).run P w = .ok (packU (ts.map fun t => tmps.getD t undef)) w := by
  have h1 := rslots_spec h
  have h2 : fn.results = (ts.map ResultVar.tmp).toArray := by rw [← h1]
  unfold results
  rw [h2]
  rw [List.mapM_toArray]
  simp only [Sem.run_bind]
  rw [map_eq_pure_bind]
  simp only [Sem.run_bind]
  rw [results_list (P := P) (tmps := tmps) (w := w) _ (fun t => rfl) ts]
  simp only [Result.andThen_ok, Sem.run_pure]
  congr 1
  match ts with
  | [] => simp [packU]
  | [t] => simp [packU]
  | t :: t2 :: r => simp [packU]

theorem vals_rep {X : Ctx} {s : List V} {tmps : Array Value} (h : RepL X s tmps.toList) : ∀ {ts : List Nat} {vs : List V}, vals s ts = some vs → RepL X vs (ts.map fun t => tmps.getD t undef) := by
  intro ts
  induction ts with
  | nil => intro vs hv; simp only [vals, Option.some.injEq] at hv; subst hv; exact .nil
  | cons t r ih =>
    intro vs hv
    simp only [vals] at hv
    split at hv
    · rename_i v vs' h1 h2
      cases hv
      obtain ⟨u, hu, hr⟩ := h.get h1
      simp only [Array.getElem?_toList] at hu
      refine .cons ?_ (ih h2)
      simp [Array.getD_eq_getD_getElem?, hu, hr]
    · cases hv

theorem own_pat {σ : Store} {n : Nat} {p : Pat} {x : p.den} (h : ∀ e ∈ objP p x, σ.get e.1 = some e.2) (hk : noTmp [p] = true) : own σ (n + 1) (concP p x) = some (outV p x) := by
  cases p with
  | slc id t =>
    have := h (id, .arr 0 t x) (by simp [objP])
    simp only at this
    simp [concP, own, this, outV]
  | list kd t =>
    cases kd with
    | tmp => simp [noTmp] at hk
    | full => simp [concP, own, outV]
    | part => simp [concP, own, outV]
  | nst id t f => simp [noTmp] at hk
  | _ => rfl

theorem ids_pat {σ : Store} {n : Nat} {p : Pat} {x : p.den} : ids σ (n + 1) (concP p x) = (objP p x).map (·.1) := by
  cases p <;> rfl

theorem noTmp_cons {p : Pat} {r : List Pat} (h : noTmp (p :: r) = true) : noTmp [p] = true ∧ noTmp r = true := by
  cases p with
  | list kd t => cases kd <;> simp_all [noTmp]
  | _ => simp_all [noTmp]

theorem own_patL {σ : Store} : ∀ {ps : List Pat} {n : Nat} {x : Xs ps}, ps.length < n → (∀ e ∈ objL ps x, σ.get e.1 = some e.2) → noTmp ps = true → ownL σ (n + 1) (concL ps x) = some (outL ps x)
  | [], n, x, _, _, _ => by simp [concL, ownL, outL]
  | p :: r, 0, x, h, _, _ => by simp at h
  | p :: r, n + 1, x, h, ho, hk => by
    obtain ⟨k1, k2⟩ := noTmp_cons hk
    simp only [concL, ownL, outL]
    rw [own_pat (fun e he => ho e (by simp [objL, he])) k1, own_patL (by simpa using h) (fun e he => ho e (by simp [objL, he])) k2]

theorem ids_patL {σ : Store} : ∀ {ps : List Pat} {n : Nat} {x : Xs ps}, ps.length < n → idsL σ (n + 1) (concL ps x) = (objL ps x).map (·.1)
  | [], n, x, _ => by simp [concL, idsL, objL]
  | p :: r, 0, x, h => by simp at h
  | p :: r, n + 1, x, h => by
    simp only [concL, idsL, objL, List.map_append]
    rw [ids_pat, ids_patL (by simpa using h)]

theorem keys_bare (L : Ent) : (bare L).map (·.1) = keysOf L := by
  induction L with
  | nil => rfl
  | cons e r ih => obtain ⟨i, s, o⟩ := e; simp [bare, keysOf, ih]

theorem nodupB_nodup : ∀ {l : List Nat}, nodupB l = true → l.Nodup
  | [], _ => .nil
  | x :: r, h => by
    simp only [nodupB, Bool.and_eq_true, Bool.not_eq_true'] at h
    refine List.nodup_cons.2 ⟨fun hm => ?_, nodupB_nodup h.2⟩
    have := List.contains_iff_mem.2 hm
    rw [this] at h
    cases h.1

theorem concL_rep {X : Ctx} : ∀ {cs : List V} {us : List Value}, RepL X cs us → Rep X (pack cs) (packU us) := by
  intro cs us h
  match cs, us, h with
  | [], [], _ => exact .tuple rfl (fun j c u hc => by simp at hc)
  | [c], [u], h => exact h.2 0 c u rfl rfl
  | c :: c2 :: r, u :: u2 :: s, h => exact .tuple (by simpa using h.1) (fun j c u hc hu => h.2 j c u hc (by simpa using hu))
  | [], _ :: _, h => have := h.1; simp at this
  | _ :: _, [], h => have := h.1; simp at this
  | [c], u :: u2 :: s, h => have := h.1; simp at this
  | c :: c2 :: r, [u], h => have := h.1; simp at this

theorem own_pack {σ : Store} {ps : List Pat} {x : Xs ps} (hl : ps.length < 50) (h : ∀ e ∈ objL ps x, σ.get e.1 = some e.2) (hk : noTmp ps = true) :
    own σ 60 (pack (concL ps x)) = some (pack (outL ps x)) ∧ ids σ 60 (pack (concL ps x)) = (objL ps x).map (·.1) := by
  match ps, x, hl, h, hk with
  | [], x, _, _, _ => exact ⟨rfl, rfl⟩
  | [p], x, _, h, hk =>
    refine ⟨own_pat (fun e he => h e (by simp [objL, he])) hk, ?_⟩
    simp only [concL, pack, objL, List.append_nil]
    exact ids_pat
  | p :: q :: r, x, hl, h, hk =>
    have e1 := own_patL (n := 58) (x := x) (by omega) h hk
    have e2 := ids_patL (σ := σ) (n := 58) (x := x) (by omega)
    constructor
    · show own σ (59 + 1) (.tuple (concL (p :: q :: r) x)) = some (.tuple (outL (p :: q :: r) x))
      simp only [own, e1, Option.map_some]
    · show ids σ (59 + 1) (.tuple (concL (p :: q :: r) x)) = _
      simp only [ids, e2]

/-- A function that is given nothing to write. -/
def Start.bare (F : Fr) (w : World) : Start := ⟨⟨w, [], fun _ => none, F⟩, fun b => w.heap.size ≤ b, fun _ h => h⟩

theorem Since.below {F : Fr} {w0 w : World} {σ : Store} {μ : Mu} (h : Since (Start.bare F w0).X ⟨w, σ, μ, F⟩) : Below w0.heap.size w0 w :=
  ⟨h.os, h.tape, h.output, h.size, fun b hb => (h.still b ⟨hb, fun id o hg => by simp [Start.bare, Store.get] at hg⟩).2⟩

theorem atEnd_ok {w0 : World} {F : Fr} (hF : F.pin = []) {fn : Func} {ts : List Nat} (hts : rslots fn.results.toList = some ts) {P : Program} {ps : List Pat} {r : Xs ps} {st : St} {a : Act} {w : World} {μ : Mu}
    (h : atEnd ts ps r st) (hg : Good (Start.bare F w0) F st a w μ) :
    a.defers = [] ∧ ∃ v, (results fn a.tmps).run P w = .ok v w ∧ Below w0.heap.size w0 w ∧ Handed w0.heap.size F w (retV ps r) v := by
  refine ⟨hg.defers, _, results_run hts _ _, hg.below.below, ?_⟩
  unfold atEnd at h
  split at h
  · rename_i vs hvs
    split at h
    · rename_i x hx
      split at h
      · rename_i hok
        subst h
        simp only [Bool.and_eq_true, decide_eq_true_eq] at hok
        obtain ⟨⟨⟨⟨n1, n2⟩, n3⟩, n4⟩, n5⟩ := hok
        have hr := vals_rep hg.slots hvs
        generalize hL : entL ps vs x = L at n1 n2 n3
        have hb : bare L = objL ps x := by rw [← hL]; exact entL_bare hx
        have hfrom : FromOk ⟨w, st.σ, μ, F⟩ L := by
          intro i s o hm
          rw [← hL] at hm
          obtain ⟨kk, p, v, y, k1, k2, k3, k4⟩ := entL_mem hx hm
          cases p with
          | slc id t =>
            simp only [absP] at k3
            split at k3
            · cases k3
              simp only [entP, List.mem_singleton, Prod.mk.injEq] at k4
              obtain ⟨rfl, rfl, rfl⟩ := k4
              exact ⟨0, t, rfl⟩
            · rename_i src ep
              split at k3
              · rename_i ep' t' l hg
                split at k3
                · split at k3
                  · rename_i e
                    subst e
                    cases k3
                    simp only [entP, List.mem_singleton, Prod.mk.injEq] at k4
                    obtain ⟨rfl, rfl, rfl⟩ := k4
                    exact ⟨_, hg, .inl ⟨_, _, _, _, rfl, rfl⟩⟩
                  · cases k3
                · cases k3
              · cases k3
            · cases k3
          | nst id t f =>
            simp only [absP] at k3
            split at k3
            · rename_i src
              split at k3
              · rename_i iv t' f' l hg
                split at k3
                · rename_i e1
                  subst e1
                  split at k3
                  · rename_i e
                    subst e
                    cases k3
                    simp only [entP, List.mem_singleton, Prod.mk.injEq] at k4
                    obtain ⟨rfl, rfl, rfl⟩ := k4
                    exact ⟨_, hg, .inr (.inr ⟨_, _, _, _, _, _, rfl, rfl⟩)⟩
                  · cases k3
                · cases k3
              · cases k3
            · cases k3
          | _ => simp [entP] at k4
        have hout : RepL (Ctx.to ⟨w, st.σ, μ, F⟩ L) (concL ps x) (ts.map fun t => a.tmps.getD t undef) := by
          refine ⟨?_, fun j c u hc hu => ?_⟩
          · rw [concL_len, ← absL_len hx]; exact hr.1
          · have hj : j < ps.length := by
              have := (List.getElem?_eq_some_iff.1 hc).1
              rwa [concL_len] at this
            obtain ⟨p, hp⟩ : ∃ p, ps[j]? = some p := ⟨_, List.getElem?_eq_getElem hj⟩
            obtain ⟨v, hv⟩ : ∃ v, vs[j]? = some v := ⟨_, List.getElem?_eq_getElem (by rw [absL_len hx]; exact hj)⟩
            obtain ⟨y, k1, k2, k3, k4⟩ := absL_get hx hp hv
            rw [k2] at hc
            cases hc
            exact pat_rep hg.inv hfrom k1 (hr.2 j v u hv hu) (fun e he => mem_get n1 (by rw [← hL]; exact k3 e he)) (fun i hi => offB_spec n3 i (k4 i hi))
        have hget : ∀ e ∈ objL ps x, (bare L).get e.1 = some e.2 := by
          intro e he
          rw [← hb] at he
          have : ∀ (L : Ent), nodupB (keysOf L) = true → e ∈ bare L → (bare L).get e.1 = some e.2 := by
            intro L hn he
            have : ∀ (M : Ent), e ∈ bare M → ∃ s, (e.1, s, e.2) ∈ M := by
              intro M
              induction M with
              | nil => intro h; simp [bare] at h
              | cons m r ih =>
                obtain ⟨i, s, o⟩ := m
                intro h
                simp only [bare, List.mem_cons] at h
                rcases h with rfl | h
                · exact ⟨s, by simp⟩
                · obtain ⟨s', h'⟩ := ih h
                  exact ⟨s', by simp [h']⟩
            obtain ⟨s, hs⟩ := this L he
            exact (mem_get hn hs).1
          exact this L n1 he
        obtain ⟨o1, o2⟩ := own_pack n5 hget n4
        refine ⟨bare L, muOf L μ, pack (concL ps x), to_inv hg.inv hfrom n2 (fun e he => by simp [hF] at he) (fun i src cells cells' hm => ?_), concL_rep hout, o1, ?_⟩
        · rw [← hL] at hm
          obtain ⟨kk, p, v, y, k1, k2, k3, k4⟩ := entL_mem hx hm
          cases p with
          | slc id t =>
            simp only [entP] at k4
            split at k4 <;> simp at k4
          | nst id t f =>
            simp only [entP] at k4
            split at k4 <;> simp at k4
          | _ => simp [entP] at k4
        · rw [o2, ← hb, keys_bare]
          exact nodupB_nodup n1
      · exact h.elim
    · exact h.elim
  · exact h.elim

/-- **A function, from what its code must show.** -/
theorem Pure.of_vc {E : Env} (hS : SpecsOk E) (hm : E.P.follows .mixedOrders = true) {f : FuncId} {fn : Func} {c : Code} {ts : List Nat} {args : List V} {ps : List Pat} {r : Xs ps} (hf : E.P.funcs[f]? = some fn) (hb : fn.body = some c)
    (hts : rslots fn.results.toList = some ts) (h : vc E c ⟨args ++ List.replicate (fn.ntmps - args.length) (.tuple []), []⟩ (exitK ts ps r)) : Pure E.P f args (retV ps r) := by
  intro F w vs hF hr
  refine calls_of_wp hf hb (vc_sound (w0 := Start.bare F w) (F := F) (fun e he => by simp [hF.pin] at he) hS hm _ _ _ _ (fun e st a w' μ hK _ hg => ?_) h _ w (fun _ => none) ⟨?_, ?_, .refl _, rfl⟩)
  · cases e with
    | normal =>
      obtain ⟨h1, v, h2, h3, h4⟩ := atEnd_ok (P := E.P) hF.pin hts hK hg
      exact ⟨h1, v, h2, v, rfl, h3, h4⟩
    | ret =>
      obtain ⟨h1, v, h2, h3, h4⟩ := atEnd_ok (P := E.P) hF.pin hts hK hg
      exact ⟨h1, v, h2, v, rfl, h3, h4⟩
    | exit id => exact hK.elim
    | goto l => exact hK.elim
  · exact ⟨fun id o h => by simp [Store.get] at h, fun i j o o' p q h => by simp [Store.get] at h, fun id o p h => by simp [Store.get] at h, hF.out, fun b hb => hF.out b hb, ⟨fun e he => by simp [hF.pin] at he, fun e he => ⟨hF.gnd e he, fun h => by have := hF.lt he; simp only [Start.bare] at h; omega⟩⟩⟩
  · have hl : vs.length = args.length := hr.1
    have := hr.append (ds := List.replicate (fn.ntmps - args.length) (.tuple [])) (us := List.replicate (fn.ntmps - args.length) undef) ⟨by simp, fun j c u hc hu => by
      have e1 := (List.getElem?_eq_some_iff.1 hc).2
      have e2 := (List.getElem?_eq_some_iff.1 hu).2
      simp only [List.getElem_replicate] at e1 e2
      subst e1; subst e2
      exact .tuple rfl (fun j c u hc => by simp at hc)⟩
    simpa [hl] using this

/-- The same, the condition by its name. -/
theorem Pure.of_g {E : Env} (hS : SpecsOk E) (hm : E.P.follows .mixedOrders = true) {f : FuncId} {fn : Func} {c : Code} {ts : List Nat} {args : List V} {ps : List Pat} {r : Xs ps} (hf : E.P.funcs[f]? = some fn) (hb : fn.body = some c)
    (hts : rslots fn.results.toList = some ts) {g : Prop} (hg : g = vc E c ⟨args ++ List.replicate (fn.ntmps - args.length) (.tuple []), []⟩ (exitK ts ps r)) (h : g) : Pure E.P f args (retV ps r) :=
  Pure.of_vc hS hm hf hb hts (Eq.mp hg h)

/-- At the end of a function whose result nobody writes. -/
def endZ (ts : List Nat) (r : V) (st : St) : Prop :=
  match vals st.s ts with
  | some vs => own st.σ 60 (pack vs) = some r
  | none => False

def exitZ (ts : List Nat) (r : V) : Leaf → St → Prop
  | .normal, st => endZ ts r st
  | .ret, st => endZ ts r st
  | .exit _, _ => False
  | .goto _, _ => False

theorem PureZ.of_g {E : Env} (hS : SpecsOk E) (hm : E.P.follows .mixedOrders = true) {f : FuncId} {fn : Func} {c : Code} {ts : List Nat} {args : List V} {r : V} (hf : E.P.funcs[f]? = some fn) (hb : fn.body = some c)
    (hts : rslots fn.results.toList = some ts) {g : Prop} (hg : g = vc E c ⟨args ++ List.replicate (fn.ntmps - args.length) (.tuple []), []⟩ (exitZ ts r)) (h : g) : PureZ E.P f args r := by
  subst hg
  intro F w vs hF hr
  have hend : ∀ (st : St) (a : Act) (w' : World) (μ' : Mu), endZ ts r st → Good (Start.bare F w) F st a w' μ' →
      a.defers = [] ∧ ∃ v, (results fn a.tmps).run E.P w' = .ok v w' ∧ Below w.heap.size w w' ∧ HandedZ w.heap.size F w' r v := by
    intro st a w' μ' he hg
    unfold endZ at he
    split at he
    · rename_i vs hvs
      exact ⟨hg.defers, _, results_run hts _ _, hg.below.below, st.σ, μ', _, hg.inv, concL_rep (vals_rep hg.slots hvs), he⟩
    · exact he.elim
  refine calls_of_wp hf hb (vc_sound (w0 := Start.bare F w) (F := F) (fun e he => by simp [hF.pin] at he) hS hm _ _ _ _ (fun e st a w' μ hK _ hg => ?_) h _ w (fun _ => none) ⟨?_, ?_, .refl _, rfl⟩)
  · cases e with
    | normal =>
      obtain ⟨h1, v, h2, h3, h4⟩ := hend st a w' μ hK hg
      exact ⟨h1, v, h2, v, rfl, h3, h4⟩
    | ret =>
      obtain ⟨h1, v, h2, h3, h4⟩ := hend st a w' μ hK hg
      exact ⟨h1, v, h2, v, rfl, h3, h4⟩
    | exit id => exact hK.elim
    | goto l => exact hK.elim
  · exact ⟨fun id o h => by simp [Store.get] at h, fun i j o o' b h => by simp [Store.get] at h, fun id o b h => by simp [Store.get] at h, hF.out, fun b hb => hF.out b hb, ⟨fun e he => by simp [hF.pin] at he, fun e he => ⟨hF.gnd e he, fun h => by have := hF.lt he; simp only [Start.bare] at h; omega⟩⟩⟩
  · have hl : vs.length = args.length := hr.1
    have := hr.append (ds := List.replicate (fn.ntmps - args.length) (.tuple [])) (us := List.replicate (fn.ntmps - args.length) undef) ⟨by simp, fun j c u hc hu => by
      have e1 := (List.getElem?_eq_some_iff.1 hc).2
      have e2 := (List.getElem?_eq_some_iff.1 hu).2
      simp only [List.getElem_replicate] at e1 e2
      subst e1; subst e2
      exact .tuple rfl (fun j c u hc => by simp at hc)⟩
    simpa [hl] using this

end Go.Vm
