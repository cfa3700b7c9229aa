/-
  The engine, part 28: results that are variables, results of parts.
-/
import Derived.Test.YtdplodofdfkndaaDoorVm27
namespace Go.Vm
open Go.RowKit (Below)

/-- What is read of a variable at the end. -/
def cellV (P : Program) (σ : Store) (T : TypeId) (v : V) : Option V :=
  match isAgg? P T, size? P T with
  | some g, some n => match v with
    | .ptr id off => match σ.get id with
      | some (.box cells) => (cut cells off n).bind (ofCells g)
      | _ => none
    | .fptr cells => (cut cells 0 n).bind (ofCells g)
    | _ => none
  | _, _ => none

def valsG (P : Program) (st : St) : List ResultVar → Option (List V)
  | [] => some []
  | .tmp t :: r => match nth st.s t, valsG P st r with
    | some v, some vs => some (v :: vs)
    | _, _ => none
  | .cell a T :: r => match (nth st.s a).bind (cellV P st.σ T), valsG P st r with
    | some v, some vs => some (v :: vs)
    | _, _ => none

/-- Parts, laid side by side. -/
def flatG : List V → List (Option Nat) → Option (List V)
  | [], [] => some []
  | v :: r, none :: sh => (flatG r sh).map (v :: ·)
  | .agg cs :: r, some n :: sh => if cs.length = n then (flatG r sh).map (cs ++ ·) else none
  | _, _ => none

def groupG : List (Option Nat) → List V → List V
  | [], _ => []
  | none :: sh, cs => cs.take 1 ++ groupG sh (cs.drop 1)
  | some n :: sh, cs => .agg (cs.take n) :: groupG sh (cs.drop n)

theorem flat_rep {X : Ctx} : ∀ {vs : List V} {sh : List (Option Nat)} {fs : List V} {us : List Value}, flatG vs sh = some fs → RepL X vs us →
    ∃ gs, RepL X fs gs ∧ ∀ {X' : Ctx} {fs' : List V}, RepL X' fs' gs → RepL X' (groupG sh fs') us := by
  intro vs
  induction vs with
  | nil =>
    intro sh fs us h hr
    cases sh with
    | nil =>
      simp only [flatG, Option.some.injEq] at h
      subst h
      rw [hr.nil_inv]
      exact ⟨[], .nil, fun _ => .nil⟩
    | cons a r => cases a <;> simp [flatG] at h
  | cons v r ih =>
    intro sh fs us h hr
    obtain ⟨u, us', rfl, h1, h2⟩ := hr.cons_inv
    cases sh with
    | nil => simp [flatG] at h
    | cons a sh =>
      cases a with
      | none =>
        simp only [flatG, Option.map_eq_some_iff] at h
        obtain ⟨fs0, h3, rfl⟩ := h
        obtain ⟨gs, k1, k2⟩ := ih h3 h2
        refine ⟨u :: gs, .cons h1 k1, fun hx => ?_⟩
        simp only [groupG]
        exact (hx.take 1).append (k2 (hx.drop 1))
      | some n =>
        cases v with
        | agg cs =>
          simp only [flatG] at h
          split at h
          · rename_i hn
            simp only [Option.map_eq_some_iff] at h
            obtain ⟨fs0, h3, rfl⟩ := h
            obtain ⟨gs, k1, k2⟩ := ih h3 h2
            obtain ⟨ws, rfl, h4⟩ := h1.agg_inv
            refine ⟨ws.toList ++ gs, h4.append k1, fun {X' fs'} hx => ?_⟩
            have hl : ws.toList.length = n := by rw [h4.1]; exact hn
            simp only [groupG]
            have t1 := hx.take n
            have t2 := hx.drop n
            rw [show (ws.toList ++ gs).take n = ws.toList by rw [← hl]; simp] at t1
            rw [show (ws.toList ++ gs).drop n = gs by rw [← hl]; simp] at t2
            exact .cons t1.agg (k2 t2)
          · cases h
        | _ => simp [flatG] at h

theorem cellV_ok {P : Program} {B : Nat → Prop} {X : Ctx} (hI : Inv B X) {T : TypeId} {v c : V} {u : Value} (h : cellV P X.σ T v = some c) (hr : Rep X v u) :
    ∃ ad u', u = .pointer (some ad) ∧ (loadVar T ad).run P X.w = .ok u' X.w ∧ Rep X c u' := by
  unfold cellV at h
  split at h
  · rename_i g n hg hn
    split at h
    · rename_i id off
      split at h
      · rename_i cells hget
        obtain ⟨cells', b, base, C, e, hg', hm⟩ := hr.ptr_inv
        rw [hget] at hg'
        cases hg'
        obtain ⟨b', cs, ty, k1, k2, k3⟩ := hI.objs id _ hget
        rw [hm] at k1
        cases k1
        obtain ⟨u', h1, h2⟩ := load_core (X := X) hg hn h (b := b) (o := 0) (fun j => cs.getD j undef)
          (fun j c hj => by
            have hlt : j < cs.toList.length := by rw [k3.1]; exact (List.getElem?_eq_some_iff.1 hj).1
            simp at hlt
            simp [World.cell?, k2, hlt])
          (fun j c hj => by
            have hlt : j < cs.toList.length := by rw [k3.1]; exact (List.getElem?_eq_some_iff.1 hj).1
            have := k3.2 j c _ hj (List.getElem?_eq_getElem hlt)
            simp at hlt
            simpa [hlt] using this)
        exact ⟨_, u', e, h1, h2⟩
      · cases h
    · rename_i cells
      obtain ⟨b, o', f, e, _, hc, hrc⟩ := hr.fptr_inv
      obtain ⟨u', h1, h2⟩ := load_core (X := X) hg hn h (b := b) (o := o') f hc hrc
      exact ⟨_, u', e, h1, h2⟩
    · cases h
  · cases h

theorem valsG_run {P : Program} {B : Nat → Prop} {w : World} {μ : Mu} {F : Fr} {st : St} {tmps : Array Value} (hI : Inv B ⟨w, st.σ, μ, F⟩) (hr : RepL ⟨w, st.σ, μ, F⟩ st.s tmps.toList) (f : ResultVar → Sem Value)
    (f1 : ∀ t, f (.tmp t) = pure (tmps.getD t undef)) (f2 : ∀ a T, f (.cell a T) = (do loadVar T (← asAddr (tmps.getD a undef)))) : ∀ {rs : List ResultVar} {vs : List V}, valsG P st rs = some vs →
    ∃ us, (rs.mapM f).run P w = .ok us w ∧ RepL ⟨w, st.σ, μ, F⟩ vs us
  | [], vs, h => by
    simp only [valsG, Option.some.injEq] at h
    subst h
    exact ⟨[], by simp, .nil⟩
  | .tmp t :: r, vs, h => by
    simp only [valsG] at h
    split at h
    · rename_i v vs' h1 h2
      cases h
      obtain ⟨us, k1, k2⟩ := valsG_run hI hr f f1 f2 h2
      obtain ⟨u, hu, hru⟩ := hr.get h1
      simp only [Array.getElem?_toList] at hu
      have hu' : tmps.getD t undef = u := by simp [Array.getD_eq_getD_getElem?, hu]
      refine ⟨u :: us, ?_, .cons hru k2⟩
      rw [List.mapM_cons]
      simp only [Sem.run_bind, Sem.run_pure, Result.andThen_ok, k1, f1, hu']
    · cases h
  | .cell a T :: r, vs, h => by
    simp only [valsG] at h
    split at h
    · rename_i v vs' h1 h2
      cases h
      obtain ⟨us, k1, k2⟩ := valsG_run hI hr f f1 f2 h2
      simp only [Option.bind_eq_some_iff] at h1
      obtain ⟨v0, h3, h4⟩ := h1
      obtain ⟨u, hu, hru⟩ := hr.get h3
      simp only [Array.getElem?_toList] at hu
      have hu' : tmps.getD a undef = u := by simp [Array.getD_eq_getD_getElem?, hu]
      obtain ⟨ad, u', e, h5, h6⟩ := cellV_ok hI h4 hru
      refine ⟨u' :: us, ?_, .cons h6 k2⟩
      rw [List.mapM_cons]
      rw [e] at hu'
      have h5' : (loadVar T ad).run P w = .ok u' w := h5
      have hfa : (f (.cell a T)).run P w = .ok u' w := by
        rw [f2, hu']
        simp only [asAddr, Sem.run_bind, Sem.run_pure, Result.andThen_ok]
        exact h5'
      simp only [Sem.run_bind, hfa, Sem.run_pure, Result.andThen_ok, k1]
    · cases h

theorem resultsG_run {P : Program} {B : Nat → Prop} {fn : Func} {w : World} {μ : Mu} {F : Fr} {st : St} {tmps : Array Value} (hI : Inv B ⟨w, st.σ, μ, F⟩) (hr : RepL ⟨w, st.σ, μ, F⟩ st.s tmps.toList) {vs : List V}
    (h : valsG P st fn.results.toList = some vs) : ∃ us, (results fn tmps).run P w = .ok (packU us) w ∧ RepL ⟨w, st.σ, μ, F⟩ vs us := by
  unfold results
  have h0 : fn.results = fn.results.toList.toArray := by simp
  obtain ⟨us, h1, h2⟩ := valsG_run hI hr (fun | .tmp t => pure (tmps.getD t undef) | .cell a t => do loadVar t (← asAddr (tmps.getD a undef))) (fun t => rfl) (fun a T => rfl) h
  refine ⟨us, ?_, h2⟩
  rw [h0, List.mapM_toArray]
  simp only [Sem.run_bind]
  rw [map_eq_pure_bind]
  simp only [Sem.run_bind]
  erw [h1]
  simp only [Result.andThen_ok, Sem.run_pure]
  congr 1
  match us with
  | [] => simp [packU]
  | [t] => simp [packU]
  | t :: t2 :: r => simp [packU]

/-- At the end of a function: what it hands back, laid flat, and what is left, read anew. -/
def endG (P : Program) (rs : List ResultVar) (sh : List (Option Nat)) (pins : List Nat) (ann : Ann) (x : Xs ann.pats) (st : St) : Prop :=
  match (valsG P st rs).bind fun vs => flatG vs sh with
  | some fs => if fs.length = ann.slots.length then back pins ann [] ⟨fs, st.σ⟩ ⟨fs, st.σ⟩ fun y => y = x else False
  | none => False

def exitG (P : Program) (rs : List ResultVar) (sh : List (Option Nat)) (pins : List Nat) (ann : Ann) (x : Xs ann.pats) : Leaf → St → Prop
  | .normal, st => endG P rs sh pins ann x st
  | .ret, st => endG P rs sh pins ann x st
  | .exit _, _ => False
  | .goto _, _ => False

/-- Patterns of results, one after the other. -/
def numP : Nat → List Pat → List (Nat × Pat)
  | _, [] => []
  | n, p :: r => (n, p) :: numP (n + 1) r

/-- What is handed back. -/
def retG (sh : List (Option Nat)) (ann : Ann) (x : Xs ann.pats) : V := pack (groupG sh ((concL ann.pats x).take ann.slots.length))

end Go.Vm
