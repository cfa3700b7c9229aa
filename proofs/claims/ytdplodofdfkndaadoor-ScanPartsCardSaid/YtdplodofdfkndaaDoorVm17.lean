/-
  The engine, part 17: the operations of a region.
-/
import Derived.Test.YtdplodofdfkndaaDoorVm16
import Derived.Tactics
import Derived.Deep.LoopGhost
import Derived.StillTail
namespace Go.Vm
open Go.RowKit (Below)

def evalV (s : List V) : Operand → V
  | .tmp t => (nth s t).getD (.tuple [])
  | .const v => cv v
  | .global _ => .any
  | .func f => .fn (.func f) [] []

def putV (s : List V) (d : Option Nat) (v : V) : List V := match d with
  | some d => s.set d v
  | none => s

/-- One operation of a region. -/
def opGo (E : Env) (all : Array Oper) (o : Oper) (st : St) (next : St → Prop) : Prop :=
  match o.guard with
  | none => vcOp E o (evalV st.s) st.σ fun v σ' => next ⟨putV st.s o.dst v, σ'⟩
  | some (g, want) => match (all[g]?).bind (·.dst) with
    | some d => match nth st.s d with
      | some (.kb b) => if b = want then vcOp E o (evalV st.s) st.σ fun v σ' => next ⟨putV st.s o.dst v, σ'⟩
        else next ⟨putV st.s o.dst (.tuple []), st.σ⟩
      | some (.bool b) => (b = want → vcOp E o (evalV (st.s.set d (.kb want))) st.σ fun v σ' => next ⟨putV (st.s.set d (.kb want)) o.dst v, σ'⟩) ∧
        (b = !want → next ⟨putV (st.s.set d (.kb !want)) o.dst (.tuple []), st.σ⟩)
      | some (.bq p) => (p want → vcOp E o (evalV (st.s.set d (.kb want))) st.σ fun v σ' => next ⟨putV (st.s.set d (.kb want)) o.dst v, σ'⟩) ∧
        (p (!want) → next ⟨putV (st.s.set d (.kb !want)) o.dst (.tuple []), st.σ⟩)
      | some (.tuple []) => next ⟨putV st.s o.dst (.tuple []), st.σ⟩
      | _ => False
    | none => False

/-- The operations of a region, one after the other. -/
def vcOps (E : Env) (all : Array Oper) : List Oper → St → (St → Prop) → Prop
  | [], st, k => k st
  | o :: rest, st, k => opGo E all o st fun st' => vcOps E all rest st' k

def opsW : List Oper → List Nat
  | [] => []
  | o :: r => match o.dst with
    | some d => d :: opsW r
    | none => opsW r

/-- A step of memory that keeps what is none of the store's. -/
structure Since (X X' : Ctx) : Prop where
  os : X'.w.os = X.w.os
  tape : X'.w.tape = X.w.tape
  output : X'.w.output = X.w.output
  size : X.w.heap.size ≤ X'.w.heap.size
  outer : X'.F = X.F
  still : ∀ b, X.T0 b → X'.T0 b ∧ X'.w.heap[b]? = X.w.heap[b]?

theorem Since.refl (X : Ctx) : Since X X := ⟨rfl, rfl, rfl, Nat.le_refl _, rfl, fun _ h => ⟨h, rfl⟩⟩
theorem Since.trans {X Y Z : Ctx} (h : Since X Y) (k : Since Y Z) : Since X Z :=
  ⟨k.os.trans h.os, k.tape.trans h.tape, k.output.trans h.output, Nat.le_trans h.size k.size, k.outer.trans h.outer, fun b hb => by
    obtain ⟨h1, h2⟩ := h.still b hb
    obtain ⟨k1, k2⟩ := k.still b h1
    exact ⟨k1, k2.trans h2⟩⟩
theorem Since.evo {X Y Z : Ctx} (h : Since X Y) (k : Evo Y Z) : Since X Z := h.trans ⟨k.os, k.tape, k.output, k.size, k.outer, k.still⟩
theorem Since.anew {X : Ctx} {w : World} {σ σ' : Store} {μ μ' : Mu} {F : Fr} (h : Since X ⟨w, σ, μ, F⟩) (k : ∀ b, Ctx.T0 ⟨w, σ, μ, F⟩ b → Ctx.T0 ⟨w, σ', μ', F⟩ b) : Since X ⟨w, σ', μ', F⟩ :=
  h.trans ⟨rfl, rfl, rfl, Nat.le_refl _, rfl, fun b hb => ⟨k b hb, rfl⟩⟩

/-- Where a function starts: its memory, and the blocks that it may write. -/
structure Start where
  X : Ctx
  B : Nat → Prop
  top : ∀ b, X.w.heap.size ≤ b → B b

/-- A state stands for what is there. -/
structure Good (w0 : Start) (F : Fr) (st : St) (a : Act) (w : World) (μ : Mu) : Prop where
  inv : Inv w0.B ⟨w, st.σ, μ, F⟩
  slots : RepL ⟨w, st.σ, μ, F⟩ st.s a.tmps.toList
  below : Since w0.X ⟨w, st.σ, μ, F⟩
  defers : a.defers = []

section
variable {w0 : Start} {F : Fr} {st : St} {a : Act} {w : World} {μ : Mu}

theorem Good.eval (h : Good w0 F st a w μ) (x : Operand) : Rep ⟨w, st.σ, μ, F⟩ (evalV st.s x) (a.eval x) := by
  cases x with
  | tmp t =>
    simp only [evalV, Act.eval]
    cases hs : nth st.s t with
    | none =>
      have h1 : st.s.length ≤ t := by simpa using hs
      have h2 := h.slots.1
      simp only [Array.length_toList] at h2
      have : a.tmps.getD t undef = undef := by simp [Array.getD_eq_getD_getElem?, show a.tmps.size ≤ t by omega]
      rw [this]
      exact .tuple rfl (fun j c u hc => by simp at hc)
    | some v =>
      obtain ⟨u, hu, hr⟩ := h.slots.get hs
      simp only [Array.getElem?_toList] at hu
      have : a.tmps.getD t undef = u := by simp [Array.getD_eq_getD_getElem?, hu]
      rw [this]
      exact hr
  | const v => exact cv_rep _ _
  | global g => exact .any
  | func f => exact .fn rfl rfl (fun j c u hc => by simp at hc) (fun j c u hc => by simp at hc)

theorem put_rep {X : Ctx} {s : List V} {a : Act} {d : Option Nat} {v : V} {u : Value} (h : RepL X s a.tmps.toList) (hv : Rep X v u) : RepL X (putV s d v) (a.put d u).tmps.toList := by
  cases d with
  | none => exact h
  | some d =>
    refine ⟨by simpa [putV, Act.put] using h.1, fun j c x hc hx => ?_⟩
    simp only [putV, Act.put, List.getElem?_set, Array.toList_setIfInBounds] at hc hx
    split at hc
    · rename_i e
      subst e
      split at hc
      · cases hc
        rw [if_pos rfl] at hx
        split at hx
        · cases hx; exact hv
        · cases hx
      · cases hc
    · rename_i e
      rw [if_neg e] at hx
      exact h.2 j c x hc hx

theorem Good.put (h : Good w0 F st a w μ) {d : Option Nat} {v : V} {u : Value} (hv : Rep ⟨w, st.σ, μ, F⟩ v u) : Good w0 F ⟨putV st.s d v, st.σ⟩ (a.put d u) w μ :=
  ⟨h.inv, put_rep h.slots hv, h.below, by cases d <;> exact h.defers⟩

/-- A truth that is known. -/
theorem Good.learn (h : Good w0 F st a w μ) {d : Nat} {c : Bool} (hu : a.tmps[d]? = some (.bool c)) : Good w0 F ⟨st.s.set d (.kb c), st.σ⟩ a w μ := by
  refine ⟨h.inv, ⟨by simpa using h.slots.1, fun j v u hv hu2 => ?_⟩, h.below, h.defers⟩
  rw [List.getElem?_set] at hv
  simp only [Array.getElem?_toList] at hu2
  split at hv
  · rename_i e'
    subst e'
    split at hv
    · cases hv
      rw [hu] at hu2
      cases hu2
      exact .kb
    · cases hv
  · exact h.slots.2 j v u hv (by simpa using hu2)

/-- A truth that is known. -/
theorem Good.know (h : Good w0 F st a w μ) {d : Nat} {b : Bool} (hd : nth st.s d = some (.bool b)) {c : Bool} (e : b = c) : Good w0 F ⟨st.s.set d (.kb c), st.σ⟩ a w μ := by
  refine ⟨h.inv, ⟨by simpa using h.slots.1, fun j v u hv hu => ?_⟩, h.below, h.defers⟩
  rw [List.getElem?_set] at hv
  split at hv
  · rename_i e'
    subst e'
    split at hv
    · cases hv
      have := h.slots.2 _ _ _ hd hu
      rw [this.bool_inv, e]
      exact .kb
    · cases hv
  · exact h.slots.2 j v u hv hu

theorem Good.step (h : Good w0 F st a w μ) {σ' : Store} {w' : World} {μ' : Mu} {d : Option Nat} {v : V} {u : Value}
    (hI : Inv w0.B ⟨w', σ', μ', F⟩) (hv : Rep ⟨w', σ', μ', F⟩ v u) (hE : Evo ⟨w, st.σ, μ, F⟩ ⟨w', σ', μ', F⟩) : Good w0 F ⟨putV st.s d v, σ'⟩ (a.put d u) w' μ' := by
  refine ⟨hI, put_rep (h.slots.evo hE) hv, h.below.evo hE, by cases d <;> exact h.defers⟩

theorem put_agree {wr : List Nat} {s0 s : List V} (h : Agree wr s0 s) {d : Option Nat} (hd : ∀ i, d = some i → i ∈ wr) {v : V} : Agree wr s0 (putV s d v) := by
  cases d with
  | none => exact h
  | some d =>
    refine ⟨by simpa [putV] using h.1, fun i hi => ?_⟩
    simp only [putV]
    rw [List.getElem?_set_ne (fun e => by subst e; exact hi (hd _ rfl))]
    exact h.2 i hi

theorem wp_of_runs {P : Program} {o : Oper} {a : Act} {w : World} {K : Act → World → Prop} {Q : Exit → Act → World → Prop} {Post : Value → World → Prop} (h : OpRuns P o a.eval w Post)
    (hK : ∀ u w', Post u w' → K (a.put o.dst u) w') : o.wp P a w K Q := by
  unfold Oper.wp
  unfold OpRuns at h
  cases hr : (execOp a.eval o).run P w with
  | ok x w' =>
    rw [hr] at h
    cases x with
    | value u => exact hK u w' h
    | skip => exact hK undef w' h
    | enter f args =>
      rw [Oper.upon_enter]
      refine Calls.mono (R := fun e w'' => ∃ u, e = .returned u ∧ Post u w'') h ?_
      intro e w'' he
      obtain ⟨u, e1, h1⟩ := he
      subst e1
      exact hK u w'' h1
    | defer _ => exact h.elim
    | row _ _ => exact h.elim
    | _ => exact h.elim
  | halt x w' => rw [hr] at h; exact h.elim

theorem evals_rep {E : Env} {all : Array Oper} {Q : Exit → Act → World → Prop} {o : Oper} {rest : List Oper} {next : St → Prop} (hS : SpecsOk E)
    (hw : Region.wanted o (yielded all a.tmps) = true) (h : Good w0 F st a w μ)
    (hk : vcOp E o (evalV st.s) st.σ fun v σ' => next ⟨putV st.s o.dst v, σ'⟩) {wr : List Nat} {s0 : List V} (hag : Agree wr s0 st.s) (hdst : ∀ d, o.dst = some d → d ∈ wr)
    (ih : ∀ st a w μ, next st → Agree wr s0 st.s → Good w0 F st a w μ → wpList E.P all Q rest a w) : wpList E.P all Q (o :: rest) a w := by
  obtain ⟨v, σ', hv, hok⟩ := op_ok hS hk
  have hrun := hok _ F a.eval w μ h.inv (fun b hb => w0.top b (Nat.le_trans h.below.size hb)) (fun x _ => h.eval x)
  unfold wpList
  rw [if_pos hw]
  refine .inl (wp_of_runs hrun ?_)
  rintro u w' ⟨μ', h1, h2, h3⟩
  exact ih _ _ _ _ hv (put_agree hag hdst) (h.step h1 h2 h3)

theorem yielded_of (h : Good w0 F st a w μ) {all : Array Oper} {g d : Nat} (hd : (all[g]?).bind (·.dst) = some d) {v : V} (hv : nth st.s d = some v) :
    ∃ u, a.tmps[d]? = some u ∧ Rep ⟨w, st.σ, μ, F⟩ v u ∧ yielded all a.tmps g = (match u with
      | .bool b => some b
      | _ => none) := by
  obtain ⟨u, hu, hr⟩ := h.slots.get hv
  simp only [Array.getElem?_toList] at hu
  refine ⟨u, hu, hr, ?_⟩
  unfold yielded
  rw [hd]
  simp only [Option.bind_some, hu]
  cases u <;> rfl

theorem opsW_mem {l : List Oper} {o : Oper} {d : Nat} (h : o ∈ l) (hd : o.dst = some d) : d ∈ opsW l := by
  induction l with
  | nil => simp at h
  | cons x r ih =>
    have h1 : o = x ∨ o ∈ r := by simpa using h
    have h2 : opsW (x :: r) = match x.dst with
      | some d => d :: opsW r
      | none => opsW r := rfl
    rw [h2]
    cases h1 with
    | inl e =>
      rw [← e, hd]
      exact List.mem_cons_self
    | inr hr =>
      have := ih hr
      cases x.dst with
      | none => exact this
      | some d' => exact List.mem_cons_of_mem _ this

theorem opGo_sound {E : Env} (hS : SpecsOk E) {all : Array Oper} {Q : Exit → Act → World → Prop} {s0 : List V} {o : Oper} {rest : List Oper} {next : St → Prop}
    (hmem : o ∈ all.toList) (ih : ∀ st a w μ, next st → Agree (opsW all.toList) s0 st.s → Good w0 F st a w μ → wpList E.P all Q rest a w)
    (h : opGo E all o st next) (hag : Agree (opsW all.toList) s0 st.s) (hg : Good w0 F st a w μ) : wpList E.P all Q (o :: rest) a w := by
  have hdst : ∀ d, o.dst = some d → d ∈ opsW all.toList := fun d hd => opsW_mem hmem hd
  unfold opGo at h
  split at h
  · rename_i hgd
    exact evals_rep hS (by simp [Region.wanted, hgd]) hg h hag hdst ih
  · rename_i g want hgd
    split at h
    · rename_i d hd
      have hdW : d ∈ opsW all.toList := by
        simp only [Option.bind_eq_some_iff] at hd
        obtain ⟨x, hx, hxd⟩ := hd
        exact opsW_mem (List.mem_of_getElem? (by simpa using hx)) hxd
      have hset : ∀ v, Agree (opsW all.toList) s0 (st.s.set d v) := fun v => put_agree (d := some d) hag (fun i e => by cases e; exact hdW)
      have skip : ∀ {st : St}, Agree (opsW all.toList) s0 st.s → Good w0 F st a w μ → yielded all a.tmps g ≠ some want → next ⟨putV st.s o.dst (.tuple []), st.σ⟩ → wpList E.P all Q (o :: rest) a w := by
        intro st hag hg hy hv
        unfold wpList
        rw [if_neg (by simpa [Region.wanted, hgd] using hy)]
        exact ih _ _ _ _ hv (put_agree hag hdst) (hg.put (.tuple rfl (fun j c u hc => by simp at hc)))
      split at h
      · rename_i b hb
        obtain ⟨u, hu, hr, hy⟩ := yielded_of hg hd hb
        rw [hr.kb_inv] at hy
        simp only at hy
        split at h
        · rename_i e
          subst e
          exact evals_rep hS (by simp [Region.wanted, hgd, hy]) hg h hag hdst ih
        · rename_i e
          exact skip hag hg (by rw [hy]; simpa using e) h
      · rename_i b hb
        obtain ⟨u, hu, hr, hy⟩ := yielded_of hg hd hb
        rw [hr.bool_inv] at hy
        simp only at hy
        by_cases e : b = want
        · have hg2 := hg.know hb e
          exact evals_rep hS (by simp [Region.wanted, hgd, hy, e]) hg2 (h.1 e) (hset _) hdst ih
        · have e2 : b = !want := by cases b <;> cases want <;> simp_all
          have hg2 := hg.know hb e2
          exact skip (hset _) hg2 (by rw [hy]; simpa using e) (h.2 e2)
      · rename_i p hb
        obtain ⟨u, hu, hr, hy⟩ := yielded_of hg hd hb
        cases hr with
        | @bq _ b hp =>
          simp only at hy
          have hg2 := hg.learn hu
          by_cases e : b = want
          · subst e
            exact evals_rep hS (by simp [Region.wanted, hgd, hy]) hg2 (h.1 hp) (hset _) hdst ih
          · have e2 : b = !want := by cases b <;> cases want <;> simp_all
            subst e2
            exact skip (hset _) hg2 (by rw [hy]; simp) (h.2 hp)
      · rename_i hb
        obtain ⟨u, hu, hr, hy⟩ := yielded_of hg hd hb
        obtain ⟨vs, rfl, _⟩ := hr.tuple_inv
        exact skip hag hg (by rw [hy]; simp) h
      · exact h.elim
    · exact h.elim

theorem vcOps_sound {E : Env} (hS : SpecsOk E) {all : Array Oper} {k : St → Prop} {Q : Exit → Act → World → Prop} {s0 : List V}
    (hQ : ∀ st a w μ, k st → Agree (opsW all.toList) s0 st.s → Good w0 F st a w μ → Q .normal a w) : ∀ (l : List Oper) st a w μ, (∀ o ∈ l, o ∈ all.toList) → vcOps E all l st k → Agree (opsW all.toList) s0 st.s → Good w0 F st a w μ → wpList E.P all Q l a w := by
  intro l
  induction l with
  | nil => intro st a w μ _ h hag hg; exact hQ _ _ _ _ h hag hg
  | cons o rest ih =>
    intro st a w μ hsub h hag hg
    exact opGo_sound hS (hsub o List.mem_cons_self) (fun st a w μ => ih st a w μ (fun x hx => hsub x (List.mem_cons_of_mem _ hx))) h hag hg

end

end Go.Vm
