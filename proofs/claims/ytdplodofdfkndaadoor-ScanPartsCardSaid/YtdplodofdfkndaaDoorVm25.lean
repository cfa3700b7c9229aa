/-
  The engine, part 25: things of the store named anew; functions of one's own that turn what they are given.
-/
import Derived.Test.YtdplodofdfkndaaDoorVm21
namespace Go.Vm
open Go.RowKit (Below)

def look : List (Nat × Nat) → Nat → Option Nat
  | [], _ => none
  | (i, j) :: r, k => if i = k then some j else look r k

theorem look_mem : ∀ {N : List (Nat × Nat)} {i j : Nat}, look N i = some j → (i, j) ∈ N
  | (a, b) :: r, i, j, h => by
    simp only [look] at h
    split at h
    · rename_i e; subst e; cases h; simp
    · exact List.mem_cons_of_mem _ (look_mem h)

mutual
/-- A value whose things are named anew. -/
def renV (N : List (Nat × Nat)) (e : Nat → Nat) (τ : Store) : Nat → V → Option V
  | 0, _ => none
  | n + 1, v => match v with
    | .slc id ep rng => match τ.get id, look N id with
      | some (.arr ep' _ _), some j => if ep = ep' then some (.slc j (e j) rng) else none
      | _, _ => none
    | .ptr id off => match look N id with
      | some j => some (.ptr j off)
      | none => none
    | .eptr id ep i off => match τ.get id, look N id with
      | some (.arr ep' _ _), some j => if ep = ep' then some (.eptr j (e j) i off) else none
      | _, _ => none
    | .fptr cells => (renL N e τ n cells).map .fptr
    | .agg cells => (renL N e τ n cells).map .agg
    | .tuple cells => (renL N e τ n cells).map .tuple
    | .fn f a b => match renL N e τ n a, renL N e τ n b with
      | some a', some b' => some (.fn f a' b')
      | _, _ => none
    | .iface t x => (renV N e τ n x).map (.iface t)
    | .olist _ _ => none
    | .optr _ => none
    | .rows m cells => (renL N e τ n cells).map (.rows m)
    | .nslc _ => none
    | .nptr _ _ _ => none
    | .nin _ _ _ => none
    | v => some v
def renL (N : List (Nat × Nat)) (e : Nat → Nat) (τ : Store) : Nat → List V → Option (List V)
  | 0, _ => none
  | _ + 1, [] => some []
  | n + 1, v :: r => match renV N e τ n v, renL N e τ n r with
    | some v', some r' => some (v' :: r')
    | _, _ => none
end

/-- A thing, and what it is named anew. -/
def Named (X : Ctx) (L : Ent) (e : Nat → Nat) (i j : Nat) : Prop :=
  Ent.find L j = some i ∧ ((∃ cells cells', X.σ.get i = some (.box cells) ∧ (bare L).get j = some (.box cells')) ∨
    ∃ ep t l, X.σ.get i = some (.arr ep t l) ∧ (bare L).get j = some (.arr (e j) t l))

section
variable {X : Ctx} {L : Ent} {N : List (Nat × Nat)} {e : Nat → Nat}

theorem Named.mu {i j : Nat} (h : Named X L e i j) : (X.to L).μ j = X.μ i := by
  show muOf L X.μ j = X.μ i
  simp [muOf, h.1]

mutual
theorem ren_ok (hF : FromOk X L) (hN : ∀ i j, look N i = some j → Named X L e i j) : ∀ {n : Nat} {v v' : V} {u : Value}, renV N e X.σ n v = some v' → Rep X v u → Rep (X.to L) v' u
  | 0, v, v', u, h, _ => by simp [renV] at h
  | n + 1, v, v', u, h, hr => by
    unfold renV at h
    cases hr with
    | any => cases h; exact .any
    | kb => cases h; exact .kb
    | bool => cases h; exact .bool
    | bq hp => cases h; exact .bq hp
    | int => cases h; exact .int
    | str hs => cases h; exact .str hs
    | nilp => cases h; exact .nilp
    | nils => cases h; exact .nils
    | nilm => cases h; exact .nilm
    | nilf => cases h; exact .nilf
    | nili => cases h; exact .nili
    | errN => cases h; exact .errN
    | errS => cases h; exact .errS
    | list h1 h2 => cases h; exact .list (h1.keep (fun b hb => ⟨⟨to_T hF hb.1, hb.2⟩, rfl⟩) (fun b hb => ⟨⟨to_T hF hb.1, hb.2⟩, rfl⟩)) h2
    | slc hg he hh =>
      simp only [hg] at h
      split at h
      · rename_i ep' t' l' j h1 h2
        cases h1
        split at h
        · rename_i e1
          cases h
          have hj := hN _ _ h2
          rcases hj.2 with ⟨c, c', k1, _⟩ | ⟨ep2, t2, l2, k1, k2⟩
          · rw [hg] at k1; cases k1
          · rw [hg] at k1; cases k1
            exact .slc k2 (Nat.le_refl _) (fun _ => by rw [hj.mu]; exact hh e1)
        · cases h
      · cases h
    | @fptr cells b o f h1 h2 h3 =>
      simp only [Option.map_eq_some_iff] at h
      obtain ⟨cs, h4, rfl⟩ := h
      have h5 := renL_ok hF hN (vs := (List.range cells.length).map f) h4 ⟨by simp, fun j c u hc hu => by
        have hj := (List.getElem?_eq_some_iff.1 hc).1
        simp only [List.getElem?_map, List.getElem?_range hj, Option.map_some, Option.some.injEq] at hu
        subst hu
        exact h3 j c hc⟩
      have hl : cs.length = cells.length := by have := h5.1; simp only [List.length_map, List.length_range] at this; exact this.symm
      refine .fptr f (fun h0 => to_T hF (h1 (by omega))) (fun j c hj => ?_) (fun j c hj => ?_)
      · have hj' := (List.getElem?_eq_some_iff.1 hj).1
        exact h2 j _ (List.getElem?_eq_getElem (by omega))
      · have hj' := (List.getElem?_eq_some_iff.1 hj).1
        exact h5.2 j c (f j) hj (by simp [List.getElem?_range (show j < cells.length by rw [← hl]; exact hj')])
    | ptr hg hm =>
      simp only at h
      split at h
      · rename_i j h2
        cases h
        have hj := hN _ _ h2
        rcases hj.2 with ⟨c, c', k1, k2⟩ | ⟨ep2, t2, l2, k1, k2⟩
        · exact .ptr k2 (hj.mu.trans hm)
        · rw [hg] at k1; cases k1
      · cases h
    | eptr hg he hh =>
      simp only [hg] at h
      split at h
      · rename_i ep' t' l' j h1 h2
        cases h1
        split at h
        · rename_i e1
          cases h
          have hj := hN _ _ h2
          rcases hj.2 with ⟨c, c', k1, _⟩ | ⟨ep2, t2, l2, k1, k2⟩
          · rw [hg] at k1; cases k1
          · rw [hg] at k1; cases k1
            exact .eptr k2 (Nat.le_refl _) (fun _ => by rw [hj.mu]; exact hh e1)
        · cases h
      · cases h
    | rows f h1 h2 h3 h4 =>
      simp only [Option.map_eq_some_iff] at h
      obtain ⟨cs, hs, rfl⟩ := h
      exact (Rep.rows f h1 h2 h3 h4).rows_re (fun us hl => renL_ok hF hN hs hl) (fun b hb => ⟨⟨to_T hF hb.1, hb.2⟩, rfl⟩)
    | nslc _ _ => cases h
    | nptr _ _ => cases h
    | nin _ _ _ => cases h
    | fn h1 h2 h3 h4 =>
      simp only at h
      split at h
      · rename_i a' b' ha hb
        cases h
        have l1 := renL_ok hF hN ha (RepL.ofArr h1 h3)
        have l2 := renL_ok hF hN hb (RepL.ofArr h2 h4)
        exact .fn (by simpa using l1.1) (by simpa using l2.1) (fun j c x hc hx => l1.2 j c x hc (by simpa using hx)) (fun j c x hc hx => l2.2 j c x hc (by simpa using hx))
      · cases h
    | agg h1 h2 =>
      simp only [Option.map_eq_some_iff] at h
      obtain ⟨cs, h4, rfl⟩ := h
      have l1 := renL_ok hF hN h4 (RepL.ofArr h1 h2)
      exact .agg (by simpa using l1.1) (fun j c x hc hx => l1.2 j c x hc (by simpa using hx))
    | tuple h1 h2 =>
      simp only [Option.map_eq_some_iff] at h
      obtain ⟨cs, h4, rfl⟩ := h
      have l1 := renL_ok hF hN h4 (RepL.ofArr h1 h2)
      exact .tuple (by simpa using l1.1) (fun j c x hc hx => l1.2 j c x hc (by simpa using hx))
    | iface h1 =>
      simp only [Option.map_eq_some_iff] at h
      obtain ⟨cs, h4, rfl⟩ := h
      exact .iface (ren_ok hF hN h4 h1)
theorem renL_ok (hF : FromOk X L) (hN : ∀ i j, look N i = some j → Named X L e i j) : ∀ {n : Nat} {cs cs' : List V} {vs : List Value}, renL N e X.σ n cs = some cs' → RepL X cs vs → RepL (X.to L) cs' vs
  | 0, cs, cs', vs, h, _ => by simp [renL] at h
  | n + 1, [], cs', vs, h, hr => by
    simp only [renL, Option.some.injEq] at h
    subst h
    rw [hr.nil_inv]
    exact .nil
  | n + 1, c :: cs, cs', vs, h, hr => by
    unfold renL at h
    split at h
    · rename_i v1 r1 h1 h2
      cases h
      obtain ⟨u, us, rfl, k1, k2⟩ := hr.cons_inv
      exact .cons (ren_ok hF hN h1 k1) (renL_ok hF hN h2 k2)
    · cases h
end

end

def objRen (N : List (Nat × Nat)) (e : Nat → Nat) (τ : Store) (i j : Nat) : Option Obj :=
  match τ.get i with
  | some (.box cells) => (renL N e τ 60 cells).map .box
  | some (.arr _ t l) => some (.arr (e j) t l)
  | some (.nest ..) => none
  | none => none

def entsRen (N : List (Nat × Nat)) (e : Nat → Nat) (τ : Store) : List (Nat × Nat) → Option Ent
  | [] => some []
  | (i, j) :: r => match objRen N e τ i j, entsRen N e τ r with
    | some o, some L => some ((j, some i, o) :: L)
    | _, _ => none

theorem entsRen_of {N : List (Nat × Nat)} {e : Nat → Nat} {τ : Store} : ∀ {M : List (Nat × Nat)} {L : Ent}, entsRen N e τ M = some L →
    (∀ i j, (i, j) ∈ M → ∃ o, objRen N e τ i j = some o ∧ (j, some i, o) ∈ L) ∧ ∀ x, x ∈ L → ∃ i j o, x = (j, some i, o) ∧ (i, j) ∈ M ∧ objRen N e τ i j = some o
  | [], L, h => by simp only [entsRen, Option.some.injEq] at h; subst h; simp
  | (a, b) :: r, L, h => by
    simp only [entsRen] at h
    split at h
    · rename_i o L' h1 h2
      cases h
      obtain ⟨k1, k2⟩ := entsRen_of h2
      refine ⟨fun i j hm => ?_, fun x hx => ?_⟩
      · simp only [List.mem_cons, Prod.mk.injEq] at hm
        rcases hm with ⟨rfl, rfl⟩ | hm
        · exact ⟨o, h1, by simp⟩
        · obtain ⟨o', k3, k4⟩ := k1 i j hm
          exact ⟨o', k3, List.mem_cons_of_mem _ k4⟩
      · simp only [List.mem_cons] at hx
        rcases hx with rfl | hx
        · exact ⟨a, b, o, rfl, by simp, h1⟩
        · obtain ⟨i, j, o', k3, k4, k5⟩ := k2 x hx
          exact ⟨i, j, o', k3, List.mem_cons_of_mem _ k4, k5⟩
    · cases h

def deadEnts : List (Nat × Nat × Ty) → Ent
  | [] => []
  | (i, ep, t) :: r => (i, none, .arr ep t []) :: deadEnts r

theorem dead_mem : ∀ {D : List (Nat × Nat × Ty)} {i : Nat} {s : Option Nat} {o : Obj}, (i, s, o) ∈ deadEnts D → s = none ∧ ∃ ep t, o = .arr ep t []
  | (a, ep, t) :: r, i, s, o, h => by
    simp only [deadEnts, List.mem_cons, Prod.mk.injEq] at h
    rcases h with ⟨rfl, rfl, rfl⟩ | h
    · exact ⟨rfl, ep, t, rfl⟩
    · exact dead_mem h

/-- **Things named anew.** -/
theorem ren_ctx {B : Nat → Prop} {X : Ctx} (hI : Inv B X) (hp : X.F.pin = []) {N : List (Nat × Nat)} {e : Nat → Nat} {D : List (Nat × Nat × Ty)} {M : Ent} (h : entsRen N e X.σ N = some M)
    (n1 : nodupB (keysOf (M ++ deadEnts D)) = true) (n2 : nodupB (srcsOf (M ++ deadEnts D)) = true) :
    Inv B (X.to (M ++ deadEnts D)) ∧ (∀ {n : Nat} {v v' : V} {u : Value}, renV N e X.σ n v = some v' → Rep X v u → Rep (X.to (M ++ deadEnts D)) v' u) ∧
      (∀ {n : Nat} {cs cs' : List V} {us : List Value}, renL N e X.σ n cs = some cs' → RepL X cs us → RepL (X.to (M ++ deadEnts D)) cs' us) ∧ (∀ b, X.T0 b → (X.to (M ++ deadEnts D)).T0 b) ∧
      ∀ i j, (i, j) ∈ N → Named X (M ++ deadEnts D) e i j := by
  obtain ⟨m1, m2⟩ := entsRen_of h
  have hN : ∀ i j, (i, j) ∈ N → Named X (M ++ deadEnts D) e i j := by
    intro i j hm
    obtain ⟨o, h1, h2⟩ := m1 i j hm
    obtain ⟨k1, k2⟩ := mem_get n1 (List.mem_append_left _ h2)
    refine ⟨k2, ?_⟩
    unfold objRen at h1
    split at h1
    · rename_i cells hg
      simp only [Option.map_eq_some_iff] at h1
      obtain ⟨cs, _, rfl⟩ := h1
      exact .inl ⟨cells, cs, hg, k1⟩
    · rename_i ep t l hg
      cases h1
      exact .inr ⟨ep, t, l, hg, k1⟩
    · cases h1
    · cases h1
  have hF : FromOk X (M ++ deadEnts D) := by
    intro i s o hm
    rcases List.mem_append.1 hm with hm | hm
    · obtain ⟨a, b, o', h1, h2, h3⟩ := m2 _ hm
      cases h1
      unfold objRen at h3
      split at h3
      · rename_i cells hg
        simp only [Option.map_eq_some_iff] at h3
        obtain ⟨cs, _, rfl⟩ := h3
        exact ⟨_, hg, .inr (.inl ⟨_, _, rfl, rfl⟩)⟩
      · rename_i ep t l hg
        cases h3
        exact ⟨_, hg, .inl ⟨_, _, _, _, rfl, rfl⟩⟩
      · cases h3
      · cases h3
    · obtain ⟨rfl, ep, t, rfl⟩ := dead_mem hm
      exact ⟨ep, t, rfl⟩
  have hN' : ∀ i j, look N i = some j → Named X (M ++ deadEnts D) e i j := fun i j hl => hN i j (look_mem hl)
  refine ⟨to_inv hI hF n2 (fun e he => by simp [hp] at he) (fun i src cells cells' hm hg vs hv => ?_), fun h1 h2 => ren_ok hF hN' h1 h2, fun h1 h2 => renL_ok hF hN' h1 h2, fun b hb => to_T0 hF hb, hN⟩
  rcases List.mem_append.1 hm with hm | hm
  · obtain ⟨a, b, o', h1, h2, h3⟩ := m2 _ hm
    cases h1
    unfold objRen at h3
    rw [hg] at h3
    simp only [Option.map_eq_some_iff] at h3
    obtain ⟨cs, h4, h5⟩ := h3
    cases h5
    exact renL_ok hF hN' h4 hv
  · obtain ⟨h1, _⟩ := dead_mem hm
    cases h1

end Go.Vm
