/-
  The engine, part 15: from a state to a head.
-/
import Derived.Test.YtdplodofdfkndaaDoorVm14
namespace Go.Vm
open Go.RowKit (Below)

def Ent.find : Ent → Nat → Option Nat
  | [], _ => none
  | (i, s, _) :: r, id => if i = id then s else Ent.find r id

def muOf (L : Ent) (μ : Mu) : Mu := fun id => (Ent.find L id).bind μ

def nodupB : List Nat → Bool
  | [] => true
  | x :: r => !r.contains x && nodupB r

def keysOf : Ent → List Nat
  | [] => []
  | (i, _, _) :: r => i :: keysOf r

def srcsOf : Ent → List Nat
  | [] => []
  | (_, some s, _) :: r => s :: srcsOf r
  | (_, none, _) :: r => srcsOf r

theorem bare_get : ∀ {L : Ent} {id : Nat} {o : Obj}, (bare L).get id = some o → (id, Ent.find L id, o) ∈ L
  | [], id, o, h => by simp [bare, Store.get] at h
  | (i, s, o') :: r, id, o, h => by
    simp only [bare, Store.get] at h
    simp only [Ent.find]
    split at h
    · rename_i e
      subst e
      cases h
      simp
    · rename_i e
      rw [if_neg e]
      exact List.mem_cons_of_mem _ (bare_get h)

theorem key_mem : ∀ {L : Ent} {e : Nat × Option Nat × Obj}, e ∈ L → e.1 ∈ keysOf L
  | (i, s, o) :: r, e, h => by
    simp only [List.mem_cons] at h
    rcases h with rfl | h
    · simp [keysOf]
    · simp [keysOf, key_mem h]

theorem src_mem : ∀ {L : Ent} {i s : Nat} {o : Obj}, (i, some s, o) ∈ L → s ∈ srcsOf L
  | (j, none, o') :: r, i, s, o, h => by
    simp only [List.mem_cons, Prod.mk.injEq, reduceCtorEq, false_and, and_false, false_or] at h
    simp [srcsOf, src_mem h]
  | (j, some s', o') :: r, i, s, o, h => by
    simp only [List.mem_cons] at h
    rcases h with h | h
    · cases h; simp [srcsOf]
    · simp [srcsOf, src_mem h]

theorem mem_get : ∀ {L : Ent}, nodupB (keysOf L) = true → ∀ {i : Nat} {s : Option Nat} {o : Obj}, (i, s, o) ∈ L → (bare L).get i = some o ∧ Ent.find L i = s
  | (j, s', o') :: r, hn, i, s, o, h => by
    simp only [keysOf, nodupB, Bool.and_eq_true, Bool.not_eq_true'] at hn
    obtain ⟨h1, h2⟩ := hn
    simp only [List.mem_cons] at h
    rcases h with h | h
    · cases h; simp [bare, Store.get, Ent.find]
    · have hk := key_mem h
      have hne : j ≠ i := by
        rintro rfl
        have := List.contains_iff_mem.2 hk
        rw [this] at h1
        cases h1
      obtain ⟨k1, k2⟩ := mem_get h2 h
      simp [bare, Store.get, Ent.find, hne, k1, k2]

theorem src_inj : ∀ {L : Ent}, nodupB (srcsOf L) = true → ∀ {i j s : Nat} {o o' : Obj}, (i, some s, o) ∈ L → (j, some s, o') ∈ L → i = j
  | (k, none, o2) :: r, hn, i, j, s, o, o', hi, hj => by
    simp only [List.mem_cons, Prod.mk.injEq, reduceCtorEq, false_and, and_false, false_or] at hi hj
    exact src_inj (by simpa [srcsOf] using hn) hi hj
  | (k, some s2, o2) :: r, hn, i, j, s, o, o', hi, hj => by
    simp only [srcsOf, nodupB, Bool.and_eq_true, Bool.not_eq_true'] at hn
    obtain ⟨h1, h2⟩ := hn
    have no : ∀ {i : Nat} {o : Obj}, (i, some s2, o) ∈ r → False := by
      intro i o h
      have := List.contains_iff_mem.2 (src_mem h)
      rw [this] at h1
      cases h1
    simp only [List.mem_cons] at hi hj
    rcases hi with hi | hi <;> rcases hj with hj | hj
    · cases hi; cases hj; rfl
    · cases hi; exact (no hj).elim
    · cases hj; exact (no hi).elim
    · exact src_inj h2 hi hj

/-- Where the things of a head come from. -/
def FromOk (X : Ctx) (L : Ent) : Prop := ∀ i s o, (i, s, o) ∈ L →
  match s with
  | none => ∃ ep t, o = .arr ep t []
  | some src => ∃ o', X.σ.get src = some o' ∧ ((∃ ep ep' t l, o = .arr ep t l ∧ o' = .arr ep' t l) ∨ (∃ cells cells', o = .box cells ∧ o' = .box cells') ∨ ∃ iv iv' t f h l, o = .nest iv t f h l ∧ o' = .nest iv' t f h l)

/-- A context with the things of a head. -/
abbrev Ctx.to (X : Ctx) (L : Ent) : Ctx := ⟨X.w, bare L, muOf L X.μ, X.F⟩

section
variable {X : Ctx} {L : Ent} {B : Nat → Prop}

theorem to_src (hF : FromOk X L) {id : Nat} {o : Obj} {b : Nat} (hg : (X.to L).σ.get id = some o) (hk : Blk (X.to L) id o b) :
    ∃ src o', (id, some src, o) ∈ L ∧ X.σ.get src = some o' ∧ Blk X src o' b := by
  have h1 := bare_get hg
  obtain ⟨p, hm, hk⟩ := hk
  simp only [muOf] at hm
  cases hs : Ent.find L id with
  | none => rw [hs] at hm; simp at hm
  | some src =>
    rw [hs] at hm h1
    obtain ⟨o', h2, h3⟩ := hF _ _ _ h1
    refine ⟨src, o', h1, h2, p, hm, ?_⟩
    rcases hk with hk | hk
    · exact .inl hk
    · refine .inr ?_
      rcases h3 with ⟨ep, ep', t, l, rfl, rfl⟩ | ⟨cells, cells', rfl, rfl⟩ | ⟨iv, iv', t, f, h, l, rfl, rfl⟩
      · exact hk
      · exact hk
      · exact hk

theorem to_T0 (hF : FromOk X L) {b : Nat} (hb : X.T0 b) : (X.to L).T0 b := by
  refine ⟨hb.1, fun id o hg hm => ?_⟩
  obtain ⟨src, o', _, h2, h3⟩ := to_src hF hg hm
  exact hb.2 src o' h2 h3

theorem to_T (hF : FromOk X L) {b : Nat} (hb : X.T b) : (X.to L).T b := ⟨to_T0 hF hb.1, hb.2⟩

theorem to_inv (hI : Inv B X) (hF : FromOk X L) (hs : nodupB (srcsOf L) = true) (hpin : ∀ e ∈ X.F.pin, (∃ cells, (bare L).get e.1 = some (.box cells)) ∧ Ent.find L e.1 = some e.1)
    (hbox : ∀ i src cells cells', (i, some src, Obj.box cells) ∈ L → X.σ.get src = some (.box cells') → ∀ vs, RepL X cells' vs → RepL (X.to L) cells vs) : Inv B (X.to L) := by
  refine ⟨fun id o hg => ?_, fun i j o o' b hi hj hp hq => ?_, fun id o b hg hm => ?_, hI.out, hI.vis, ⟨fun e he => ?_, hI.marks.gnd⟩⟩
  · have h1 := bare_get hg
    cases hs : Ent.find L id with
    | none =>
      rw [hs] at h1
      obtain ⟨ep, t, rfl⟩ := hF _ _ _ h1
      exact .inl ⟨by simp [muOf, hs], rfl⟩
    | some src =>
      rw [hs] at h1
      have hmu : (X.to L).μ id = X.μ src := by simp [muOf, hs]
      obtain ⟨o', h2, h3⟩ := hF _ _ _ h1
      have h4 := hI.objs src o' h2
      rcases h3 with ⟨ep, ep', t, l, rfl, rfl⟩ | ⟨cells, cells', rfl, rfl⟩ | ⟨iv, iv', t, f, h, l, rfl, rfl⟩
      · exact ObjOk.move (X := X) (id := src) (o := .arr ep t l) hmu (fun _ _ => rfl) (fun b hb => ⟨⟨to_T hF hb.1, hb.2⟩, rfl⟩) (fun _ _ e => by cases e) h4
      · obtain ⟨b, cs, ty, k1, k2, k3⟩ := h4
        exact ⟨b, cs, ty, hmu.trans k1, k2, hbox _ _ _ _ h1 h2 _ k3⟩
      · exact ObjOk.move (X := X) (id := src) (o := .nest iv t f h l) hmu (fun _ _ => rfl) (fun b hb => ⟨⟨to_T hF hb.1, hb.2⟩, rfl⟩) (fun _ _ e => by cases e) h4
  · obtain ⟨s1, o1, a1, a2, a3⟩ := to_src hF hi hp
    obtain ⟨s2, o2, b1, b2, b3⟩ := to_src hF hj hq
    have := hI.injB _ _ _ _ _ a2 b2 a3 b3
    subst this
    exact src_inj hs a1 b1
  · obtain ⟨s1, o1, a1, a2, a3⟩ := to_src hF hg hm
    exact hI.baseB _ _ _ a2 a3
  · obtain ⟨h1, h2⟩ := hpin e he
    exact ⟨h1, by show muOf L X.μ e.1 = some e.2; simp only [muOf, h2]; exact (hI.marks.pin e he).2⟩

/-- The blocks of what is not kept. -/
theorem lost_G (hI : Inv B X) (hF : FromOk X L) {id : Nat} {o : Obj} {b : Nat} (hg : X.σ.get id = some o) (hk : Blk X id o b) (hid : id ∉ srcsOf L) : (X.to L).G b := by
  refine ⟨⟨⟨hI.ltB hg hk, fun id2 o2 hg2 hm2 => ?_⟩, hI.hid _ (hI.baseB _ _ _ hg hk)⟩, hI.own _ (hI.baseB _ _ _ hg hk)⟩
  obtain ⟨s1, o1, a1, a2, a3⟩ := to_src hF hg2 hm2
  have := hI.injB _ _ _ _ _ a2 hg a3 hk
  subst this
  exact hid (src_mem a1)

/-- A nest that is never written again. -/
theorem froz_nest (hI : Inv B X) (hF : FromOk X L) {id iv f : Nat} {t : Ty} {l : List t.den} {u : Value}
    (hg : X.σ.get id = some (.nest iv t f none l)) (hr : Rep X (.nslc id) u) (hid : id ∉ srcsOf L) : Rep (X.to L) (.list .part t l) u := by
  have hO := hI.objs id _ hg
  have hgood : ∀ b, X.G b → (X.to L).G b ∧ (X.to L).w.heap[b]? = X.w.heap[b]? := fun b hb => ⟨⟨to_T hF hb.1, hb.2⟩, rfl⟩
  cases hr with
  | @nslc _ A len cap iv' t' f' h' l' hg' hh =>
    rw [hg] at hg'
    cases hg'
    obtain ⟨b, base, C, cs, ty, k1, k2, k3, k4, k5, kf, k6, k7, k8⟩ := hO
    rw [k1] at hh
    simp only [Hdr] at hh
    obtain ⟨rfl, rfl, hC, a, rfl, ha⟩ := hh
    have hb := lost_G hI hF hg (.top k1) hid
    refine .list ⟨rfl, hC, fun h0 => ⟨b, base, by rw [ha (by omega)], ⟨hb.1, fun _ => hb.2⟩, fun i x hx => ?_⟩⟩ (fun e => by cases e)
    have hlt := (List.getElem?_eq_some_iff.1 hx).1
    have cell : ∀ (j : Nat), j < t.cells → ∃ c u, (enc t x)[j]? = some c ∧ cs[base + i * t.cells + j]? = some u ∧ Rep (X.to L) c u := by
      intro j hj
      obtain ⟨c, hc⟩ := enc_get (x := x) hj
      obtain ⟨u, q1, q2, q3⟩ := k6 i x hx j c hc
      refine ⟨c, u, hc, q1, ?_⟩
      by_cases hjf : j = f
      · obtain ⟨tin, li, A2, cap2, rfl, rfl, hq⟩ := q3 hjf (by simp)
        refine .list ⟨rfl, ?_, fun h1 => ?_⟩ (fun e => by cases e)
        · rcases hq with ⟨_, h0⟩ | ⟨_, _, _, _, _, _, _, _, h0, _⟩
          · omega
          · exact h0
        · rcases hq with ⟨_, h0⟩ | ⟨b2, base2, cs2, ty2, rfl, p1, p2, p3, p4, p5, p6⟩
          · omega
          · subst hjf
            have hb2 : (X.to L).G b2 := lost_G hI hF hg ⟨_, k1, .inr ⟨i, _, hlt, by simp, hcell_of k2 q1, by simp [hblk, p1]⟩⟩ hid
            refine ⟨b2, base2, rfl, ⟨hb2.1, fun _ => hb2.2⟩, fun i2 x2 hx2 => ?_⟩
            obtain ⟨row, r1, r2⟩ := p6 i2 x2 hx2
            refine ⟨row, r1.keep hgood, fun j2 v hv => ?_⟩
            have := r2 j2 v hv
            simp [World.cell?, p2, this]
      · exact (q2 hjf).dat hgood (enc_dat (List.mem_of_getElem? hc))
    refine ⟨(List.range t.cells).map fun j => cs.getD (base + i * t.cells + j) undef, encC (X := X.to L) ⟨by simp [enc_len], fun j c u hc hu => ?_⟩, fun j u hu => ?_⟩
    · have hj : j < t.cells := by rw [← enc_len t x]; exact (List.getElem?_eq_some_iff.1 hc).1
      obtain ⟨c', u', q1, q2, q3⟩ := cell j hj
      rw [hc] at q1
      cases q1
      simp only [List.getElem?_map, List.getElem?_range hj, Option.map_some, Option.some.injEq] at hu
      subst hu
      rw [show cs.getD (base + i * t.cells + j) undef = u' by simp [Array.getD_eq_getD_getElem?, q2]]
      exact q3
    · have hj : j < t.cells := by have := (List.getElem?_eq_some_iff.1 hu).1; simpa using this
      obtain ⟨c', u', q1, q2, q3⟩ := cell j hj
      simp only [List.getElem?_map, List.getElem?_range hj, Option.map_some, Option.some.injEq] at hu
      subst hu
      rw [show cs.getD (base + i * t.cells + j) undef = u' by simp [Array.getD_eq_getD_getElem?, q2]]
      simp [World.cell?, k2, q2]

/-- What is never written again. -/
theorem froz_rep (hI : Inv B X) (hF : FromOk X L) {id ep ep' : Nat} {rng : Option (Nat × Nat)} {t : Ty} {l : List t.den} {A : Option Addr} {len cap : Nat}
    (hg : X.σ.get id = some (.arr ep' t l)) (hep : ep = ep') (hr : Rep X (.slc id ep rng) (.slice A len cap)) (hid : id ∉ srcsOf L) : Rep (X.to L) (.list .part t (froz l rng)) (.slice A len cap) := by
  obtain ⟨A2, len2, cap2, ep2, t2, l2, e, hg', hle, hcur⟩ := hr.slc_inv
  cases e
  rw [hg] at hg'
  cases hg'
  have hh := hcur hep
  refine .list ?_ (fun e => by cases e)
  cases hm : X.μ id with
  | none =>
    rw [hm] at hh
    cases rng with
    | none =>
      simp only [Hdr] at hh
      obtain ⟨rfl, rfl, h0⟩ := hh
      exact ⟨h0.symm, Nat.le_refl _, fun h => absurd h (Nat.lt_irrefl _)⟩
    | some q =>
      obtain ⟨off, m⟩ := q
      simp only [Hdr] at hh
      obtain ⟨rfl, rfl, rfl, rfl, h0⟩ := hh
      exact ⟨by simp [froz], Nat.le_refl _, fun h => absurd h (Nat.lt_irrefl _)⟩
  | some q =>
    obtain ⟨b, base, C⟩ := q
    rw [hm] at hh
    obtain ⟨cs, ty, k2, k3, k4, k5, k6⟩ := arr_rows hI hg hm
    have hlt := hI.lt hg hm
    have hT : (X.to L).T b := (lost_G hI hF hg (.top hm) hid).1
    have hnF : ¬ X.F b := hI.own _ (hI.base _ _ _ hg hm)
    have rows : ∀ {off m : Nat}, off + m ≤ l.length → m ≤ cap → (∃ a, A = some a ∧ (0 < m → a = ⟨b, base + off * t.cells, none⟩)) →
        RepS X.w (Ctx.H (X.to L) .part) (Ctx.G (X.to L)) t ((l.drop off).take m) A m cap := by
      intro off m hle hcap hA
      obtain ⟨a, rfl, ha⟩ := hA
      refine ⟨by simp; omega, hcap, fun h0 => ⟨b, base + off * t.cells, by rw [ha h0], ⟨hT, fun _ => hnF⟩, fun i x hx => ?_⟩⟩
      obtain ⟨row, r1, r2⟩ := (k6.drop off m) i x hx
      refine ⟨row, r1.keep (fun b hb => ⟨⟨to_T hF hb.1, hb.2⟩, rfl⟩), fun j v hv => ?_⟩
      have := r2 j v hv
      unfold World.cell?
      simp only [k2]
      simp only at this
      rw [← this]
      simp only [Option.isSome_none, Bool.false_eq_true, if_false]
      congr 1
      omega
    cases rng with
    | none =>
      simp only [Hdr] at hh
      obtain ⟨rfl, rfl, hC, a, rfl, ha⟩ := hh
      have := rows (off := 0) (m := l.length) (by omega) hC ⟨a, rfl, fun h0 => by rw [ha (by omega)]; simp⟩
      simpa [froz] using this
    | some q =>
      obtain ⟨off, m⟩ := q
      simp only [Hdr] at hh
      obtain ⟨rfl, h2, hC, rfl, a, rfl, ha⟩ := hh
      exact rows h2 (by omega) ⟨a, rfl, fun h0 => ha (by omega)⟩

/-- A value read by a pattern. -/
theorem pat_rep (hI : Inv B X) (hF : FromOk X L) {p : Pat} {v : V} {y : p.den} {u : Value} (h : absP X.σ p v = some y) (hr : Rep X v u)
    (he : ∀ e ∈ entP p v y, (bare L).get e.1 = some e.2.2 ∧ Ent.find L e.1 = e.2.1) (hz : ∀ i ∈ frzP p v, i ∉ srcsOf L) : Rep (X.to L) (concP p y) u := by
  cases p with
  | any => exact .any
  | bool =>
    simp only [absP] at h
    unfold boolOf at h
    split at h
    · cases h; cases hr; exact .bool
    · cases h; cases hr; exact .bool
    · cases h
  | str =>
    simp only [absP] at h
    split at h
    · cases h
      cases hr with
      | str h => exact .str h
    · cases h
  | int k =>
    simp only [absP] at h
    split at h
    · split at h
      · rename_i e
        subst e
        cases h; cases hr; exact .int
      · cases h
    · cases h
  | list kd t =>
    simp only [absP] at h
    split at h
    · rename_i kd' t' l
      split at h
      · rename_i hk
        split at h
        · rename_i e
          subst e
          cases h
          obtain ⟨A, cap, rfl, hc, hfull⟩ := hr.list_inv
          have hc' : RepS X.w ((X.to L).H kd) (X.to L).G t' l A l.length cap :=
            hc.keep (fun b hb => ⟨⟨to_T hF hb.1, hb.2⟩, rfl⟩) (fun b hb => ⟨⟨to_T hF hb.1, fun hne => hb.2 (by
              rcases hk with rfl | ⟨_, rfl⟩
              · exact hne
              · intro e; cases e)⟩, rfl⟩)
          refine .list hc' (fun e => ?_)
          subst e
          rcases hk with rfl | ⟨e, _⟩
          · exact hfull rfl
          · cases e
        · cases h
      · cases h
    · cases h
      cases hr
      exact .list ⟨rfl, Nat.le_refl _, fun h => absurd h (Nat.lt_irrefl _)⟩ (fun _ => rfl)
    · rename_i id ep rng
      split at h
      · rename_i hkd
        subst hkd
        split at h
        · rename_i ep' t' l hg
          split at h
          · rename_i hep
            split at h
            · rename_i e
              subst e
              cases h
              obtain ⟨A, len, cap, ep2, t2, l2, rfl, _⟩ := hr.slc_inv
              exact froz_rep hI hF hg hep hr (hz id (by simp [frzP]))
            · cases h
          · cases h
        · cases h
      · cases h
    · rename_i id
      split at h
      · rename_i hkd
        subst hkd
        split at h
        · rename_i iv t' f l hg
          split at h
          · rename_i e
            subst e
            cases h
            exact froz_nest hI hF hg hr (hz id (by simp [frzP]))
          · cases h
        · cases h
      · cases h
    · cases h
  | nst id t f =>
    simp only [absP] at h
    split at h
    · rename_i src
      split at h
      · rename_i iv t' f' l hg
        split at h
        · rename_i e1
          subst e1
          split at h
          · rename_i e
            subst e
            cases h
            obtain ⟨h1, h2⟩ := he (id, some src, .nest 0 t' f' none l) (by simp [entP])
            simp only at h1 h2
            cases hr with
            | nslc hg' hh =>
              rw [hg] at hg'
              cases hg'
              exact .nslc h1 (by simp only [muOf]; rw [h2]; exact hh)
          · cases h
        · cases h
      · cases h
    · cases h
  | slc id t =>
    simp only [absP] at h
    split at h
    · cases h
      cases hr
      obtain ⟨h1, h2⟩ := he (id, none, .arr 0 t ([] : List t.den)) (by simp [entP])
      simp only at h1 h2
      exact .slc h1 (Nat.le_refl _) (fun _ => by simp only [muOf]; rw [h2]; exact ⟨rfl, rfl, rfl⟩)
    · rename_i src ep
      split at h
      · rename_i ep' t' l hg
        split at h
        · rename_i hep
          split at h
          · rename_i e
            subst e
            cases h
            obtain ⟨A, len, cap, ep2, t2, l2, rfl, hg', hle, hcur⟩ := hr.slc_inv
            rw [hg] at hg'
            cases hg'
            obtain ⟨h1, h2⟩ := he (id, some src, .arr 0 t' l) (by simp [entP])
            simp only at h1 h2
            exact .slc h1 (Nat.le_refl _) (fun _ => by simp only [muOf]; rw [h2]; exact hcur hep)
          · cases h
        · cases h
      · cases h
    · cases h

end
end Go.Vm
