/-
  The engine, part 13b: what is seen of a part of the store, and brought back to the whole.
-/
import Derived.Test.YtdplodofdfkndaaDoorVm13
namespace Go.Vm

mutual
/-- All things that a value names are in the store. -/
def inV (τ : Store) : Nat → V → Bool
  | 0, _ => false
  | n + 1, v => match v with
    | .slc id _ _ => (τ.get id).isSome
    | .ptr id _ => (τ.get id).isSome
    | .eptr id _ _ _ => (τ.get id).isSome
    | .rows _ cells => inVL τ n cells
    | .nslc id => (τ.get id).isSome
    | .nptr id _ _ => (τ.get id).isSome
    | .nin id _ _ => (τ.get id).isSome
    | .fptr cells => inVL τ n cells
    | .fn _ a b => inVL τ n a && inVL τ n b
    | .agg cells => inVL τ n cells
    | .tuple cells => inVL τ n cells
    | .iface _ x => inV τ n x
    | _ => true
def inVL (τ : Store) : Nat → List V → Bool
  | 0, _ => false
  | _ + 1, [] => true
  | n + 1, v :: r => inV τ n v && inVL τ n r
end

/-- A part of a store that stands by itself. -/
structure Part (σ τ : Store) : Prop where
  sub : ∀ k o, τ.get k = some o → σ.get k = some o
  closed : ∀ k cells, τ.get k = some (.box cells) → inVL τ 60 cells = true

/-- The rest. -/
def Rest (σ τ : Store) (k : Nat) : Prop := (∃ o, σ.get k = some o) ∧ τ.get k = none

def Ctx.restB (X : Ctx) (τ : Store) (b : Nat) : Prop := ∃ k o, Rest X.σ τ k ∧ X.σ.get k = some o ∧ Blk X k o b
def Ctx.cutF (X : Ctx) (τ : Store) : Fr := ⟨X.F.out, fun b => X.F.hid b ∨ X.restB τ b, [], X.F.gnd⟩
def Ctx.cut (X : Ctx) (τ : Store) : Ctx := ⟨X.w, τ, X.μ, X.cutF τ⟩

section
variable {X : Ctx} {τ : Store} {B : Nat → Prop}

theorem cut_T0 (h : Part X.σ τ) {b : Nat} (hb : X.T0 b) : (X.cut τ).T0 b :=
  ⟨hb.1, fun id o hg hm => hb.2 id o (h.sub id o hg) hm⟩
theorem cut_T (h : Part X.σ τ) {b : Nat} (hb : X.T b) : (X.cut τ).T b := by
  refine ⟨cut_T0 h hb.1, ?_⟩
  rintro (h1 | ⟨k, o, _, h2, h3⟩)
  · exact hb.2 h1
  · exact hb.1.2 k o h2 h3

theorem RepL.ofArr {X : Ctx} {cs : List V} {vs : Array Value} (h : vs.size = cs.length) (hr : ∀ (j : Nat) c u, cs[j]? = some c → vs[j]? = some u → Rep X c u) : RepL X cs vs.toList :=
  ⟨by simpa using h, fun j c u hc hu => hr j c u hc (by simpa using hu)⟩

mutual
theorem Rep.cut (h : Part X.σ τ) : ∀ {n : Nat} {v : V} {u : Value}, inV τ n v = true → Rep X v u → Rep (X.cut τ) v u
  | 0, v, u, hi, _ => by simp [inV] at hi
  | n + 1, v, u, hi, hr => by
    unfold inV at hi
    cases hr with
    | any => exact .any
    | kb => exact .kb
    | bool => exact .bool
    | bq h => exact .bq h
    | int => exact .int
    | str h => exact .str h
    | nilp => exact .nilp
    | nils => exact .nils
    | nilm => exact .nilm
    | nilf => exact .nilf
    | nili => exact .nili
    | errN => exact .errN
    | errS => exact .errS
    | list h1 h2 => exact .list (h1.keep (fun b hb => ⟨⟨cut_T h hb.1, hb.2⟩, rfl⟩) (fun b hb => ⟨⟨cut_T h hb.1, hb.2⟩, rfl⟩)) h2
    | slc h1 h2 h3 =>
      obtain ⟨o, ho⟩ := Option.isSome_iff_exists.1 hi
      have := h.sub _ _ ho
      rw [h1] at this
      cases this
      exact .slc ho h2 h3
    | @fptr cells b o f h1 h2 h3 =>
      have hl := RepL.cutA h (vs := (List.range cells.length).map f) hi ⟨by simp, fun j c x hj hx => by
        simp only [List.getElem?_map, Option.map_eq_some_iff] at hx
        obtain ⟨a, ha, rfl⟩ := hx
        obtain ⟨q1, q2⟩ := List.getElem?_eq_some_iff.1 ha
        simp at q2
        subst q2
        exact h3 _ c hj⟩
      refine .fptr f (fun h0 => cut_T h (h1 h0)) h2 (fun j c hj => ?_)
      obtain ⟨x, hx, hrx⟩ := hl.get hj
      simp only [List.getElem?_map, Option.map_eq_some_iff] at hx
      obtain ⟨a, ha, rfl⟩ := hx
      obtain ⟨q1, q2⟩ := List.getElem?_eq_some_iff.1 ha
      simp at q2
      subst q2
      exact hrx
    | ptr h1 h2 =>
      obtain ⟨o, ho⟩ := Option.isSome_iff_exists.1 hi
      have := h.sub _ _ ho
      rw [h1] at this
      cases this
      exact .ptr ho h2
    | eptr h1 h2 h3 =>
      obtain ⟨o, ho⟩ := Option.isSome_iff_exists.1 hi
      have := h.sub _ _ ho
      rw [h1] at this
      cases this
      exact .eptr ho h2 h3
    | rows f h1 h2 h3 h4 => exact (Rep.rows f h1 h2 h3 h4).rows_re (fun us hl => RepL.cutA h hi hl) (fun b hb => ⟨⟨cut_T h hb.1, hb.2⟩, rfl⟩)
    | nslc h1 h2 =>
      obtain ⟨o, ho⟩ := Option.isSome_iff_exists.1 hi
      have := h.sub _ _ ho
      rw [h1] at this
      cases this
      exact .nslc ho h2
    | nptr h1 h2 =>
      obtain ⟨o, ho⟩ := Option.isSome_iff_exists.1 hi
      have := h.sub _ _ ho
      rw [h1] at this
      cases this
      exact .nptr ho h2
    | nin h1 h2 h3 =>
      obtain ⟨o, ho⟩ := Option.isSome_iff_exists.1 hi
      have := h.sub _ _ ho
      rw [h1] at this
      cases this
      exact .nin ho h2 h3
    | fn h1 h2 h3 h4 =>
      simp only [Bool.and_eq_true] at hi
      have l1 := RepL.cutA h hi.1 (RepL.ofArr h1 h3)
      have l2 := RepL.cutA h hi.2 (RepL.ofArr h2 h4)
      exact .fn h1 h2 (fun j c x hc hx => l1.2 j c x hc (by simpa using hx)) (fun j c x hc hx => l2.2 j c x hc (by simpa using hx))
    | agg h1 h2 =>
      have l1 := RepL.cutA h hi (RepL.ofArr h1 h2)
      exact .agg h1 (fun j c x hc hx => l1.2 j c x hc (by simpa using hx))
    | tuple h1 h2 =>
      have l1 := RepL.cutA h hi (RepL.ofArr h1 h2)
      exact .tuple h1 (fun j c x hc hx => l1.2 j c x hc (by simpa using hx))
    | iface h1 => exact .iface (Rep.cut h hi h1)
theorem RepL.cutA (h : Part X.σ τ) : ∀ {n : Nat} {cs : List V} {vs : List Value}, inVL τ n cs = true → RepL X cs vs → RepL (X.cut τ) cs vs
  | 0, cs, vs, hi, _ => by simp [inVL] at hi
  | n + 1, [], vs, hi, hr => by rw [hr.nil_inv]; exact .nil
  | n + 1, c :: cs, vs, hi, hr => by
    unfold inVL at hi
    simp only [Bool.and_eq_true] at hi
    obtain ⟨v, us, rfl, r1, r2⟩ := hr.cons_inv
    exact .cons (Rep.cut h hi.1 r1) (RepL.cutA h hi.2 r2)
end

theorem Inv.cut (hI : Inv B X) (h : Part X.σ τ) : Inv (fun b => B b ∧ ¬ X.restB τ b) (X.cut τ) := by
  refine ⟨fun id o hg => ?_, fun i j o o' b hi hj => hI.injB i j o o' b (h.sub _ _ hi) (h.sub _ _ hj), fun id o b hg hm => ⟨hI.baseB id o b (h.sub _ _ hg) hm, ?_⟩, fun b hb => ?_, fun b hb => ?_, ⟨fun e he => by simp [Ctx.cut, Ctx.cutF] at he, fun e he => ⟨(hI.marks.gnd e he).1, fun h => (hI.marks.gnd e he).2 h.1⟩⟩⟩
  · exact ObjOk.move (X := X) rfl (fun _ _ => rfl) (fun b hb => ⟨⟨cut_T h hb.1, hb.2⟩, rfl⟩) (fun cells vs e h3 => by subst e; exact RepL.cutA h (h.closed _ _ hg) h3) (hI.objs id o (h.sub _ _ hg))
  · rintro ⟨k, o', ⟨_, h2⟩, h3, h4⟩
    have := hI.injB _ _ _ _ _ h3 (h.sub _ _ hg) h4 hm
    subst this
    have hg2 : τ.get k = some o := hg
    rw [hg2] at h2
    cases h2
  · rintro (h1 | h1 | ⟨k, o, _, h2, h3⟩)
    · exact hI.out b hb (.inl h1)
    · exact hI.out b hb (.inr h1)
    · have h4 := hI.ltB h2 h3
      have h5 : X.w.heap.size ≤ b := hb
      omega
  · rintro (h1 | h1 | h1)
    · exact hI.vis b hb.1 (.inl h1)
    · exact hI.vis b hb.1 (.inr h1)
    · exact hb.2 h1

/-- **What was done to a part is done to the whole.** -/
theorem frame_back (hI : Inv B X) (h : Part X.σ τ) {w' : World} {τ' σ' : Store} {μ' : Mu} (hI' : Inv (fun b => B b ∧ ¬ X.restB τ b) ⟨w', τ', μ', X.cutF τ⟩) (hE : Evo (X.cut τ) ⟨w', τ', μ', X.cutF τ⟩)
    (h1 : ∀ k, Rest X.σ τ k → σ'.get k = X.σ.get k ∧ τ'.get k = none) (h2 : ∀ k, ¬ Rest X.σ τ k → σ'.get k = τ'.get k) :
    ∃ μ2, Inv B ⟨w', σ', μ2, X.F⟩ ∧ Evo X ⟨w', σ', μ2, X.F⟩ ∧ ∀ v u, Rep ⟨w', τ', μ', X.cutF τ⟩ v u → Rep ⟨w', σ', μ2, X.F⟩ v u := by
  classical
  let μ2 : Mu := fun k => if Rest X.σ τ k then X.μ k else μ' k
  have m1 : ∀ k, Rest X.σ τ k → μ2 k = X.μ k := fun k hk => if_pos hk
  have m2 : ∀ k, ¬ Rest X.σ τ k → μ2 k = μ' k := fun k hk => if_neg hk
  have nr : ∀ k o, τ'.get k = some o → ¬ Rest X.σ τ k := fun k o hk hr => by have := (h1 k hr).2; rw [hk] at this; cases this
  have same : ∀ k o b, Rest X.σ τ k → X.σ.get k = some o → Blk X k o b → w'.heap[b]? = X.w.heap[b]? := by
    intro k o b hk hg hm
    refine (hE.still b ⟨hI.ltB hg hm, fun id o' hg' hm' => ?_⟩).2
    have := hI.injB _ _ _ _ _ (h.sub _ _ hg') hg hm' hm
    subst this
    have h0 := hk.2
    have hg2 : τ.get id = some o' := hg'
    rw [hg2] at h0
    cases h0
  have b1 : ∀ {k o b}, Rest X.σ τ k → X.σ.get k = some o → Blk ⟨w', σ', μ2, X.F⟩ k o b → Blk X k o b := fun {k o b} hk hg hm =>
    Blk.move (X := X) (m1 k hk) (fun p hp => same k o _ hk hg (.top hp)) hm
  have b2 : ∀ {k o b}, ¬ Rest X.σ τ k → Blk ⟨w', σ', μ2, X.F⟩ k o b → Blk ⟨w', τ', μ', X.cutF τ⟩ k o b := fun {k o b} hk hm =>
    Blk.move (X := ⟨w', τ', μ', X.cutF τ⟩) (X' := ⟨w', σ', μ2, X.F⟩) (m2 k hk) (fun _ _ => rfl) hm
  have upT : ∀ b, Ctx.T ⟨w', τ', μ', X.cutF τ⟩ b → Ctx.T ⟨w', σ', μ2, X.F⟩ b := by
    intro b hb
    refine ⟨⟨hb.1.1, fun k o hg hm => ?_⟩, fun hh => hb.2 (.inl hh)⟩
    by_cases hk : Rest X.σ τ k
    · have hg : σ'.get k = some o := hg
      rw [(h1 k hk).1] at hg
      exact hb.2 (.inr ⟨k, o, hk, hg, b1 hk hg hm⟩)
    · have hg : σ'.get k = some o := hg
      rw [h2 k hk] at hg
      exact hb.1.2 k o hg (b2 hk hm)
  have upR : ∀ {v u}, Rep ⟨w', τ', μ', X.cutF τ⟩ v u → Rep ⟨w', σ', μ2, X.F⟩ v u := by
    intro v u hr
    induction hr with
    | any => exact .any
    | kb => exact .kb
    | bool => exact .bool
    | bq h => exact .bq h
    | int => exact .int
    | str h => exact .str h
    | nilp => exact .nilp
    | nils => exact .nils
    | nilm => exact .nilm
    | nilf => exact .nilf
    | nili => exact .nili
    | errN => exact .errN
    | errS => exact .errS
    | list g1 g2 => exact .list (g1.keep (fun b hb => ⟨⟨upT b hb.1, hb.2⟩, rfl⟩) (fun b hb => ⟨⟨upT b hb.1, hb.2⟩, rfl⟩)) g2
    | slc g1 g2 g3 =>
      have hk := nr _ _ g1
      exact .slc ((h2 _ hk).trans g1) g2 (fun e => by have := g3 e; simp only at this ⊢; rw [m2 _ hk]; exact this)
    | fptr f g1 g2 g3 ih => exact .fptr f (fun h0 => upT _ (g1 h0)) g2 ih
    | ptr g1 g2 =>
      have hk := nr _ _ g1
      exact .ptr ((h2 _ hk).trans g1) ((m2 _ hk).trans g2)
    | eptr g1 g2 g3 =>
      have hk := nr _ _ g1
      exact .eptr ((h2 _ hk).trans g1) g2 (fun e => by have := g3 e; simp only at this ⊢; rw [m2 _ hk]; exact this)
    | rows f g1 g2 g3 _ ih =>
      refine .rows f g1 g2 (fun h0 => ?_) ih
      obtain ⟨b, o, e, hb, hc⟩ := g3 h0
      exact ⟨b, o, e, ⟨upT b hb.1, hb.2⟩, hc⟩
    | nslc g1 g2 =>
      have hk := nr _ _ g1
      exact .nslc ((h2 _ hk).trans g1) (by simp only at g2 ⊢; rw [m2 _ hk]; exact g2)
    | nptr g1 g2 =>
      have hk := nr _ _ g1
      exact .nptr ((h2 _ hk).trans g1) ((m2 _ hk).trans g2)
    | nin g1 g2 g3 =>
      have hk := nr _ _ g1
      exact .nin ((h2 _ hk).trans g1) g2 (fun e => by
        obtain ⟨q1, q2, p, q3, q4⟩ := g3 e
        exact ⟨q1, q2, p, (m2 _ hk).trans q3, q4⟩)
    | fn g1 g2 _ _ ih1 ih2 => exact .fn g1 g2 ih1 ih2
    | agg g1 _ ih => exact .agg g1 ih
    | tuple g1 _ ih => exact .tuple g1 ih
    | iface _ ih => exact .iface ih
  have hE2 : Evo X ⟨w', σ', μ2, X.F⟩ := by
    refine ⟨hE.os, hE.tape, hE.output, hE.size, rfl, fun b hb => ?_, fun id cells hg => ?_, fun id ep t l hg => ?_, fun id iv t f hh l hg => ?_⟩
    · obtain ⟨k1, k2⟩ := hE.still b (cut_T0 h hb)
      refine ⟨⟨k1.1, fun k o hg hm => ?_⟩, k2⟩
      by_cases hk : Rest X.σ τ k
      · have hg : σ'.get k = some o := hg
        rw [(h1 k hk).1] at hg
        exact hb.2 k o hg (b1 hk hg hm)
      · have hg : σ'.get k = some o := hg
        rw [h2 k hk] at hg
        exact k1.2 k o hg (b2 hk hm)
    · by_cases hk : Rest X.σ τ id
      · exact ⟨⟨cells, (h1 id hk).1.trans hg⟩, m1 id hk⟩
      · have ht : τ.get id = some (.box cells) := by
          cases ht : τ.get id with
          | none => exact absurd ⟨⟨_, hg⟩, ht⟩ hk
          | some o => have := h.sub _ _ ht; rw [hg] at this; cases this; rfl
        obtain ⟨⟨c', k1⟩, k2⟩ := hE.box id cells ht
        exact ⟨⟨c', (h2 id hk).trans k1⟩, (m2 id hk).trans k2⟩
    · by_cases hk : Rest X.σ τ id
      · exact ⟨ep, l, (h1 id hk).1.trans hg, Nat.le_refl _, fun _ => ⟨m1 id hk, rfl⟩⟩
      · have ht : τ.get id = some (.arr ep t l) := by
          cases ht : τ.get id with
          | none => exact absurd ⟨⟨_, hg⟩, ht⟩ hk
          | some o => have := h.sub _ _ ht; rw [hg] at this; cases this; rfl
        obtain ⟨ep', l', k1, k2, k3⟩ := hE.arr id ep t l ht
        exact ⟨ep', l', (h2 id hk).trans k1, k2, fun e => ⟨(m2 id hk).trans (k3 e).1, (k3 e).2⟩⟩
    · by_cases hk : Rest X.σ τ id
      · exact ⟨iv, hh, l, (h1 id hk).1.trans hg, Nat.le_refl _, m1 id hk, rfl, fun _ => ⟨rfl, rfl, fun p hp => same id _ _ hk hg (.top hp)⟩⟩
      · have ht : τ.get id = some (.nest iv t f hh l) := by
          cases ht : τ.get id with
          | none => exact absurd ⟨⟨_, hg⟩, ht⟩ hk
          | some o => have := h.sub _ _ ht; rw [hg] at this; cases this; rfl
        obtain ⟨iv', h', l', k1, k2, k3, k4, k5⟩ := hE.nest id iv t f hh l ht
        exact ⟨iv', h', l', (h2 id hk).trans k1, k2, (m2 id hk).trans k3, k4, k5⟩
  refine ⟨μ2, ⟨fun id o hg => ?_, fun i j o o' b hi hj hp hq => ?_, fun id o b hg hm => ?_, fun b hb => hI.out b (Nat.le_trans hE.size hb), hI.vis, .evo hI hE2⟩, hE2, fun v u => upR⟩
  · by_cases hk : Rest X.σ τ id
    · have hg0 : X.σ.get id = some o := (h1 id hk).1.symm.trans hg
      exact ObjOk.move (X := X) (m1 id hk) (fun b hb => same id o b hk hg0 hb) hE2.good (fun _ _ _ h => h.evo hE2) (hI.objs id o hg0)
    · have hg0 : τ'.get id = some o := (h2 id hk).symm.trans hg
      exact ObjOk.move (X := ⟨w', τ', μ', X.cutF τ⟩) (m2 id hk) (fun _ _ => rfl) (fun b hb => ⟨⟨upT b hb.1, hb.2⟩, rfl⟩) (fun cells vs _ k3 => ⟨k3.1, fun j c u hc hu => upR (k3.2 j c u hc hu)⟩) (hI'.objs id o hg0)
  · have hi : σ'.get i = some o := hi
    have hj : σ'.get j = some o' := hj
    by_cases hk : Rest X.σ τ i
    · rw [(h1 i hk).1] at hi
      have hp := b1 hk hi hp
      by_cases hl : Rest X.σ τ j
      · rw [(h1 j hl).1] at hj
        exact hI.injB i j o o' b hi hj hp (b1 hl hj hq)
      · rw [h2 j hl] at hj
        exact absurd ⟨i, o, hk, hi, hp⟩ (hI'.baseB j o' b hj (b2 hl hq)).2
    · rw [h2 i hk] at hi
      have hp := b2 hk hp
      by_cases hl : Rest X.σ τ j
      · rw [(h1 j hl).1] at hj
        exact absurd ⟨j, o', hl, hj, b1 hl hj hq⟩ (hI'.baseB i o b hi hp).2
      · rw [h2 j hl] at hj
        exact hI'.injB i j o o' b hi hj hp (b2 hl hq)
  · have hg : σ'.get id = some o := hg
    by_cases hk : Rest X.σ τ id
    · rw [(h1 id hk).1] at hg
      exact hI.baseB id o b hg (b1 hk hg hm)
    · rw [h2 id hk] at hg
      exact (hI'.baseB id o b hg (b2 hk hm)).1

end
end Go.Vm
