/-
  The engine, part 14: a head: a state read anew by patterns.
-/
import Derived.Test.YtdplodofdfkndaaDoorVm13
namespace Go.Vm
open Go.RowKit (Below)

/-- A piece of an array that is never written again. -/
def froz {α : Type} (l : List α) : Option (Nat × Nat) → List α
  | none => l
  | some (off, m) => (l.drop off).take m

/-- A pattern's datum of a value. -/
def absP (σ : Store) : (p : Pat) → V → Option p.den
  | .any, _ => some ()
  | .bool, v => boolOf v
  | .str, v => match v with
    | .str l => some l
    | _ => none
  | .int k, v => match v with
    | .int k' n => if k' = k then some n else none
    | _ => none
  | .list kd t, v => match v with
    | .list kd' t' l => if kd' = kd ∨ (kd = .part ∧ kd' = .full) then (if h : t' = t then some (h ▸ l : List t.den) else none) else none
    | .nils => some ([] : List t.den)
    | .slc id ep rng => if kd = .part then match σ.get id with
        | some (.arr ep' t' l) => if ep = ep' then (if h : t' = t then some (froz (h ▸ l : List t.den) rng) else none) else none
        | _ => none
      else none
    | .nslc id => if kd = .part then match σ.get id with
        | some (.nest _ t' _ none l) => if h : t' = t then some (h ▸ l : List t.den) else none
        | _ => none
      else none
    | _ => none
  | .nst _ t f, v => match v with
    | .nslc id => match σ.get id with
      | some (.nest _ t' f' none l) => if f' = f then (if h : t' = t then some (h ▸ l : List t.den) else none) else none
      | _ => none
    | _ => none
  | .slc _ t, v => match v with
    | .nils => some ([] : List t.den)
    | .slc id ep none => match σ.get id with
      | some (.arr ep' t' l) => if ep = ep' then (if h : t' = t then some (h ▸ l : List t.den) else none) else none
      | _ => none
    | _ => none

/-- The value that a pattern's datum is. -/
def concP : (p : Pat) → p.den → V
  | .any, _ => .any
  | .bool, b => .bool b
  | .str, l => .str l
  | .int k, n => .int k n
  | .list kd t, l => .list kd t l
  | .slc id _, _ => .slc id 0 none
  | .nst id _ _, _ => .nslc id

/-- Things of a head: the number, where it was, what it is. -/
abbrev Ent := List (Nat × Option Nat × Obj)

/-- The thing that a pattern names: and where it was. -/
def entP : (p : Pat) → V → p.den → Ent
  | .slc id t, v, l => match v with
    | .slc src _ _ => [(id, some src, .arr 0 t l)]
    | _ => [(id, none, .arr 0 t l)]
  | .nst id t f, v, l => match v with
    | .nslc src => [(id, some src, .nest 0 t f none l)]
    | _ => [(id, none, .nest 0 t f none l)]
  | _, _, _ => []

def objP : (p : Pat) → p.den → Store
  | .slc id t, l => [(id, .arr 0 t l)]
  | .nst id t f, l => [(id, .nest 0 t f none l)]
  | _, _ => []

/-- What is never written again. -/
def frzP : Pat → V → List Nat
  | .list _ _, v => match v with
    | .slc src _ _ => [src]
    | .nslc src => [src]
    | _ => []
  | _, _ => []

/-- Rows of patterns and values. -/
def absL (σ : Store) : (ps : List Pat) → List V → Option (Xs ps)
  | [], [] => some ()
  | p :: r, v :: vs => match absP σ p v, absL σ r vs with
    | some x, some xs => some (x, xs)
    | _, _ => none
  | _, _ => none

def concL : (ps : List Pat) → Xs ps → List V
  | [], _ => []
  | p :: r, x => concP p x.1 :: concL r x.2

def objL : (ps : List Pat) → Xs ps → Store
  | [], _ => []
  | p :: r, x => objP p x.1 ++ objL r x.2

def entL : (ps : List Pat) → List V → Xs ps → Ent
  | p :: r, v :: vs, x => entP p v x.1 ++ entL r vs x.2
  | _, _, _ => []

def frzAll : List Pat → List V → List Nat
  | p :: r, v :: vs => frzP p v ++ frzAll r vs
  | _, _ => []

def bare : Ent → Store
  | [] => []
  | (i, _, o) :: r => (i, o) :: bare r

theorem bare_append (a b : Ent) : bare (a ++ b) = bare a ++ bare b := by
  induction a with
  | nil => rfl
  | cons x r ih => obtain ⟨i, s, o⟩ := x; simp [bare, ih]

theorem entP_bare (p : Pat) (v : V) (x : p.den) : bare (entP p v x) = objP p x := by
  cases p with
  | slc id t =>
    simp only [entP, objP]
    split <;> rfl
  | nst id t f =>
    simp only [entP, objP]
    split <;> rfl
  | _ => rfl

theorem absL_cons {σ : Store} {p : Pat} {r : List Pat} {vs : List V} {x : Xs (p :: r)} (h : absL σ (p :: r) vs = some x) :
    ∃ v us, vs = v :: us ∧ absP σ p v = some x.1 ∧ absL σ r us = some x.2 := by
  cases vs with
  | nil => simp [absL] at h
  | cons v us =>
    simp only [absL] at h
    split at h
    · rename_i y ys hy hys
      cases h
      exact ⟨v, us, rfl, hy, hys⟩
    · cases h

theorem absL_len {σ : Store} : ∀ {ps : List Pat} {vs : List V} {x : Xs ps}, absL σ ps vs = some x → vs.length = ps.length := by
  intro ps
  induction ps with
  | nil => intro vs x h; cases vs <;> simp [absL] at h ⊢
  | cons p r ih =>
    intro vs x h
    obtain ⟨v, us, rfl, _, h2⟩ := absL_cons h
    simp [ih h2]

theorem concL_len : ∀ (ps : List Pat) (x : Xs ps), (concL ps x).length = ps.length
  | [], _ => rfl
  | p :: r, x => by simp only [concL, List.length_cons, concL_len r x.2]

theorem entL_bare {σ : Store} : ∀ {ps : List Pat} {vs : List V} {x : Xs ps}, absL σ ps vs = some x → bare (entL ps vs x) = objL ps x := by
  intro ps
  induction ps with
  | nil => intro vs x h; cases vs <;> simp [entL, objL, bare]
  | cons p r ih =>
    intro vs x h
    obtain ⟨v, us, rfl, _, h2⟩ := absL_cons h
    simp only [entL, objL, bare_append, entP_bare, ih h2]

/-- The k-th of rows. -/
theorem absL_get {σ : Store} : ∀ {ps : List Pat} {vs : List V} {x : Xs ps}, absL σ ps vs = some x → ∀ {k : Nat} {p : Pat} {v : V}, ps[k]? = some p → vs[k]? = some v →
    ∃ y, absP σ p v = some y ∧ (concL ps x)[k]? = some (concP p y) ∧ (∀ e ∈ entP p v y, e ∈ entL ps vs x) ∧ (∀ i ∈ frzP p v, i ∈ frzAll ps vs) := by
  intro ps
  induction ps with
  | nil => intro vs x h k p v hp; simp at hp
  | cons q r ih =>
    intro vs x h k p v hp hv
    obtain ⟨u, us, rfl, h1, h2⟩ := absL_cons h
    match k with
    | 0 =>
      simp only [List.getElem?_cons_zero, Option.some.injEq] at hp hv
      subst hp; subst hv
      exact ⟨x.1, h1, rfl, fun e he => by simp [entL, he], fun i hi => by simp [frzAll, hi]⟩
    | k + 1 =>
      obtain ⟨z, k1, k2, k3, k4⟩ := ih h2 (k := k) (p := p) (v := v) (by simpa using hp) (by simpa using hv)
      refine ⟨z, k1, by simpa [concL] using k2, fun e he => ?_, fun i hi => ?_⟩
      · have := k3 e he; simp [entL, this]
      · have := k4 i hi; simp [frzAll, this]

/-- An entry of a row comes of one of its places. -/
theorem entL_mem {σ : Store} : ∀ {ps : List Pat} {vs : List V} {x : Xs ps}, absL σ ps vs = some x → ∀ {e : Nat × Option Nat × Obj}, e ∈ entL ps vs x →
    ∃ (k : Nat) (p : Pat) (v : V) (y : p.den), ps[k]? = some p ∧ vs[k]? = some v ∧ absP σ p v = some y ∧ e ∈ entP p v y := by
  intro ps
  induction ps with
  | nil => intro vs x h e he; cases vs <;> simp [entL] at he
  | cons q r ih =>
    intro vs x h e he
    obtain ⟨u, us, rfl, h1, h2⟩ := absL_cons h
    simp only [entL, List.mem_append] at he
    rcases he with he | he
    · exact ⟨0, q, u, x.1, rfl, rfl, h1, he⟩
    · obtain ⟨k, p, v, z, k1, k2, k3, k4⟩ := ih h2 he
      exact ⟨k + 1, p, v, z, by simpa using k1, by simpa using k2, k3, k4⟩

mutual
/-- The things that a value names are all among these. -/
def refsIn (ks : List Nat) : Nat → V → Bool
  | 0, _ => false
  | n + 1, v => match v with
    | .slc id _ _ => ks.contains id
    | .ptr id _ => ks.contains id
    | .eptr id _ _ _ => ks.contains id
    | .rows _ cells => refsInL ks n cells
    | .nslc id => ks.contains id
    | .nptr id _ _ => ks.contains id
    | .nin id _ _ => ks.contains id
    | .fptr cells => refsInL ks n cells
    | .agg cells => refsInL ks n cells
    | .tuple cells => refsInL ks n cells
    | .fn _ a b => refsInL ks n a && refsInL ks n b
    | .iface _ x => refsIn ks n x
    | _ => true
def refsInL (ks : List Nat) : Nat → List V → Bool
  | 0, _ => false
  | _ + 1, [] => true
  | n + 1, v :: r => refsIn ks n v && refsInL ks n r
end

theorem refsInL_get {ks : List Nat} : ∀ {n : Nat} {cs : List V}, refsInL ks n cs = true → ∀ {j : Nat} {c : V}, cs[j]? = some c → ∃ m, refsIn ks m c = true
  | 0, cs, h, j, c, hj => by simp [refsInL] at h
  | n + 1, [], h, j, c, hj => by simp at hj
  | n + 1, v :: r, h, j, c, hj => by
    simp only [refsInL, Bool.and_eq_true] at h
    match j with
    | 0 => simp at hj; subst hj; exact ⟨n, h.1⟩
    | j + 1 => exact refsInL_get h.2 (j := j) (by simpa using hj)

/-- A store read anew: what is kept of it. -/
structure Anew (ks : List Nat) (X X' : Ctx) : Prop where
  w : X'.w = X.w
  F : X'.F = X.F
  T : ∀ b, X.T b → X'.T b
  box : ∀ id ∈ ks, ∀ cells, X.σ.get id = some (.box cells) → (∃ cells', X'.σ.get id = some (.box cells')) ∧ X'.μ id = X.μ id
  arr : ∀ id ∈ ks, ∀ ep t l, X.σ.get id = some (.arr ep t l) → X'.σ.get id = some (.arr ep t l) ∧ X'.μ id = X.μ id
  nest : ∀ id ∈ ks, ∀ iv t f h l, X.σ.get id = some (.nest iv t f h l) → X'.σ.get id = some (.nest iv t f h l) ∧ X'.μ id = X.μ id

theorem Anew.good {ks : List Nat} {X X' : Ctx} (h : Anew ks X X') (b : Nat) (hb : X.G b) : X'.G b ∧ X'.w.heap[b]? = X.w.heap[b]? :=
  ⟨⟨h.T b hb.1, by rw [h.F]; exact hb.2⟩, by rw [h.w]⟩
theorem Anew.head {ks : List Nat} {X X' : Ctx} (h : Anew ks X X') (kd : LK) (b : Nat) (hb : X.H kd b) : X'.H kd b ∧ X'.w.heap[b]? = X.w.heap[b]? :=
  ⟨⟨h.T b hb.1, fun hk => by rw [h.F]; exact hb.2 hk⟩, by rw [h.w]⟩

theorem Rep.anew {ks : List Nat} {X X' : Ctx} (hA : Anew ks X X') {c : V} {v : Value} (h : Rep X c v) : ∀ {n : Nat}, refsIn ks n c = true → Rep X' c v := by
  induction h with
  | any => intro n _; exact .any
  | kb => intro n _; exact .kb
  | bool => intro n _; exact .bool
  | bq h => intro n _; exact .bq h
  | int => intro n _; exact .int
  | str h => intro n _; exact .str h
  | nilp => intro n _; exact .nilp
  | nils => intro n _; exact .nils
  | nilm => intro n _; exact .nilm
  | nilf => intro n _; exact .nilf
  | nili => intro n _; exact .nili
  | errN => intro n _; exact .errN
  | errS => intro n _; exact .errS
  | list h hf => intro n _; exact .list (h.keep hA.good (hA.head _)) hf
  | slc hg he hh =>
    intro n hn
    cases n with
    | zero => simp [refsIn] at hn
    | succ n =>
      simp only [refsIn, List.contains_iff_mem] at hn
      obtain ⟨h1, h2⟩ := hA.arr _ hn _ _ _ hg
      exact .slc h1 he (fun e => by rw [h2]; exact hh e)
  | fptr f hG hc _ ih =>
    intro n hn
    cases n with
    | zero => simp [refsIn] at hn
    | succ n =>
      simp only [refsIn] at hn
      refine .fptr f (fun h0 => hA.T _ (hG h0)) (fun j c hj => by rw [hA.w]; exact hc j c hj) (fun j c hj => ?_)
      obtain ⟨m, hm⟩ := refsInL_get hn hj
      exact ih j c hj hm
  | ptr hg hm =>
    intro n hn
    cases n with
    | zero => simp [refsIn] at hn
    | succ n =>
      simp only [refsIn, List.contains_iff_mem] at hn
      obtain ⟨⟨cells', h1⟩, h2⟩ := hA.box _ hn _ hg
      exact .ptr h1 (h2.trans hm)
  | eptr hg he hh =>
    intro n hn
    cases n with
    | zero => simp [refsIn] at hn
    | succ n =>
      simp only [refsIn, List.contains_iff_mem] at hn
      obtain ⟨h1, h2⟩ := hA.arr _ hn _ _ _ hg
      exact .eptr h1 he (fun e => by rw [h2]; exact hh e)
  | rows f h1 h2 h3 _ ih =>
    intro n hn
    cases n with
    | zero => simp [refsIn] at hn
    | succ n =>
      simp only [refsIn] at hn
      refine .rows f h1 h2 (fun h0 => ?_) (fun j c hj => ?_)
      · obtain ⟨b, o, e, hb, hc⟩ := h3 h0
        exact ⟨b, o, e, (hA.good b hb).1, fun j c hj => by rw [hA.w]; exact hc j c hj⟩
      · obtain ⟨m, hm⟩ := refsInL_get hn hj
        exact ih j c hj hm
  | nslc hg hh =>
    intro n hn
    cases n with
    | zero => simp [refsIn] at hn
    | succ n =>
      simp only [refsIn, List.contains_iff_mem] at hn
      obtain ⟨h1, h2⟩ := hA.nest _ hn _ _ _ _ _ hg
      exact .nslc h1 (by rw [h2]; exact hh)
  | nptr hg hm =>
    intro n hn
    cases n with
    | zero => simp [refsIn] at hn
    | succ n =>
      simp only [refsIn, List.contains_iff_mem] at hn
      obtain ⟨h1, h2⟩ := hA.nest _ hn _ _ _ _ _ hg
      exact .nptr h1 (h2.trans hm)
  | nin hg hle hc =>
    intro n hn
    cases n with
    | zero => simp [refsIn] at hn
    | succ n =>
      simp only [refsIn, List.contains_iff_mem] at hn
      obtain ⟨h1, h2⟩ := hA.nest _ hn _ _ _ _ _ hg
      exact .nin h1 hle (fun e => by
        obtain ⟨q1, q2, p, q3, q4⟩ := hc e
        exact ⟨q1, q2, p, h2.trans q3, by rw [hA.w]; exact q4⟩)
  | fn h1 h2 _ _ ih1 ih2 =>
    intro n hn
    cases n with
    | zero => simp [refsIn] at hn
    | succ n =>
      simp only [refsIn, Bool.and_eq_true] at hn
      refine .fn h1 h2 (fun j c u hj hu => ?_) (fun j c u hj hu => ?_)
      · obtain ⟨m, hm⟩ := refsInL_get hn.1 hj
        exact ih1 j c u hj hu hm
      · obtain ⟨m, hm⟩ := refsInL_get hn.2 hj
        exact ih2 j c u hj hu hm
  | agg h1 _ ih =>
    intro n hn
    cases n with
    | zero => simp [refsIn] at hn
    | succ n =>
      simp only [refsIn] at hn
      refine .agg h1 (fun j c u hj hu => ?_)
      obtain ⟨m, hm⟩ := refsInL_get hn hj
      exact ih j c u hj hu hm
  | tuple h1 _ ih =>
    intro n hn
    cases n with
    | zero => simp [refsIn] at hn
    | succ n =>
      simp only [refsIn] at hn
      refine .tuple h1 (fun j c u hj hu => ?_)
      obtain ⟨m, hm⟩ := refsInL_get hn hj
      exact ih j c u hj hu hm
  | iface _ ih =>
    intro n hn
    cases n with
    | zero => simp [refsIn] at hn
    | succ n =>
      simp only [refsIn] at hn
      exact .iface (ih hn)

theorem RepL.anew {ks : List Nat} {X X' : Ctx} (hA : Anew ks X X') {cs : List V} {vs : List Value} (h : RepL X cs vs) {n : Nat} (hn : refsInL ks n cs = true) : RepL X' cs vs :=
  ⟨h.1, fun j c u hc hu => by
    obtain ⟨m, hm⟩ := refsInL_get hn hc
    exact (h.2 j c u hc hu).anew hA hm⟩

end Go.Vm
