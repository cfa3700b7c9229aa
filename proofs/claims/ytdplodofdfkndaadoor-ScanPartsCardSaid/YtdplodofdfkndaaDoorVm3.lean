/-
  The engine, part 3: data and cells; a thing of the store that is put; loads and stores.
-/
import Derived.Test.YtdplodofdfkndaaDoorVm2
namespace Go.Vm

theorem RepL.nil {X : Ctx} : RepL X [] [] := ⟨rfl, fun _ _ _ h => by simp at h⟩
theorem RepL.single {X : Ctx} {c : V} {v : Value} (h : Rep X c v) : RepL X [c] [v] :=
  ⟨rfl, fun j c' u hc hu => by
    cases j with
    | zero => simp at hc hu; subst hc; subst hu; exact h
    | succ j => simp at hc⟩
theorem RepL.append {X : Ctx} {cs ds : List V} {vs us : List Value} (h : RepL X cs vs) (k : RepL X ds us) : RepL X (cs ++ ds) (vs ++ us) := by
  refine ⟨by simp [h.1, k.1], fun j c u hc hu => ?_⟩
  rcases Nat.lt_or_ge j cs.length with hl | hl
  · rw [List.getElem?_append_left hl] at hc
    rw [List.getElem?_append_left (by rw [h.1]; exact hl)] at hu
    exact h.2 j c u hc hu
  · rw [List.getElem?_append_right hl] at hc
    rw [List.getElem?_append_right (by rw [h.1]; exact hl), h.1] at hu
    exact k.2 _ c u hc hu
theorem RepL.drop {X : Ctx} {cs : List V} {vs : List Value} (h : RepL X cs vs) (n : Nat) : RepL X (cs.drop n) (vs.drop n) :=
  ⟨by simp [h.1], fun j c u hc hu => h.2 (n + j) c u (by simpa using hc) (by simpa using hu)⟩
theorem RepL.take {X : Ctx} {cs : List V} {vs : List Value} (h : RepL X cs vs) (n : Nat) : RepL X (cs.take n) (vs.take n) :=
  ⟨by simp [h.1], fun j c u hc hu => by
    rw [List.getElem?_take] at hc hu
    split at hc
    · rename_i hj; simp only [hj, if_true] at hu; exact h.2 j c u hc hu
    · cases hc⟩
theorem RepL.cons_inv {X : Ctx} {c : V} {cs : List V} {vs : List Value} (h : RepL X (c :: cs) vs) : ∃ v us, vs = v :: us ∧ Rep X c v ∧ RepL X cs us := by
  cases vs with
  | nil => simp [RepL] at h
  | cons v us =>
    refine ⟨v, us, rfl, h.2 0 c v (by simp) (by simp), by simpa using h.1, fun j c u hc hu => h.2 (j + 1) c u (by simpa using hc) (by simpa using hu)⟩
theorem RepL.cons {X : Ctx} {c : V} {v : Value} {cs : List V} {vs : List Value} (h : Rep X c v) (k : RepL X cs vs) : RepL X (c :: cs) (v :: vs) :=
  (RepL.single h).append k
theorem RepL.nil_inv {X : Ctx} {vs : List Value} (h : RepL X [] vs) : vs = [] := List.eq_nil_of_length_eq_zero h.1

/-- A datum's cells are its abstract cells'. -/
theorem enc_rep {X : Ctx} : ∀ {t : Ty} {x : t.den} {cs : List Value}, RepC X.w X.G t x cs → RepL X (enc t x) cs
  | .bool, x, _, h => by simp only [RepC] at h; subst h; exact .single .bool
  | .int k, x, _, h => by simp only [RepC] at h; subst h; exact .single .int
  | .str, x, _, h => by obtain ⟨s, rfl, hs⟩ := h; exact .single (.str hs)
  | .slice t, x, _, h => by
    have h0 := h
    obtain ⟨A, cap, rfl, _⟩ := h
    have h1 := RepC.toS (l := x) h0
    exact .single (.list (l := x) (h1.keep (fun b hb => ⟨hb, rfl⟩) (fun b hb => ⟨⟨hb.1, fun _ => hb.2⟩, rfl⟩)) (fun e => by cases e))
  | .pair a b, x, _, h => by
    obtain ⟨c1, c2, rfl, h1, h2⟩ := h
    exact (enc_rep h1).append (enc_rep h2)

theorem enc_len : ∀ (t : Ty) (x : t.den), (enc t x).length = t.cells
  | .bool, _ | .int _, _ | .str, _ | .slice _, _ => rfl
  | .pair a b, x => by simp only [enc, List.length_append, Ty.cells, enc_len a, enc_len b]

theorem decBool_rep {X : Ctx} {cs : List V} {x : Bool} {r : List V} {vs : List Value} (h : decBool cs = some (x, r)) (hr : RepL X cs vs) :
    ∃ v1 v2, vs = v1 ++ v2 ∧ RepC X.w X.G .bool x v1 ∧ RepL X r v2 := by
  unfold decBool at h
  split at h <;> simp at h
  all_goals
    obtain ⟨rfl, rfl⟩ := h
    obtain ⟨v, us, rfl, h1, h2⟩ := hr.cons_inv
    cases h1
    exact ⟨[_], us, rfl, rfl, h2⟩
theorem decStr_rep {X : Ctx} {cs : List V} {x : List UInt8} {r : List V} {vs : List Value} (h : decStr cs = some (x, r)) (hr : RepL X cs vs) :
    ∃ v1 v2, vs = v1 ++ v2 ∧ RepC X.w X.G .str x v1 ∧ RepL X r v2 := by
  unfold decStr at h
  split at h <;> simp at h
  obtain ⟨rfl, rfl⟩ := h
  obtain ⟨v, us, rfl, h1, h2⟩ := hr.cons_inv
  cases h1 with
  | str hs => exact ⟨[_], us, rfl, ⟨_, rfl, hs⟩, h2⟩
theorem decInt_rep {X : Ctx} {k : IntKind} {cs : List V} {x : Int} {r : List V} {vs : List Value} (h : decInt k cs = some (x, r)) (hr : RepL X cs vs) :
    ∃ v1 v2, vs = v1 ++ v2 ∧ RepC X.w X.G (.int k) x v1 ∧ RepL X r v2 := by
  unfold decInt at h
  split at h <;> simp at h
  obtain ⟨rfl, rfl, rfl⟩ := h
  obtain ⟨v, us, rfl, h1, h2⟩ := hr.cons_inv
  cases h1
  exact ⟨[_], us, rfl, rfl, h2⟩
theorem decSlice_rep {X : Ctx} {t : Ty} {cs : List V} {x : List t.den} {r : List V} {vs : List Value} (h : decSlice t cs = some (x, r)) (hr : RepL X cs vs) :
    ∃ v1 v2, vs = v1 ++ v2 ∧ RepC X.w X.G (.slice t) x v1 ∧ RepL X r v2 := by
  unfold decSlice at h
  split at h
  · simp at h
    obtain ⟨rfl, rfl⟩ := h
    obtain ⟨v, us, rfl, h1, h2⟩ := hr.cons_inv
    cases h1
    refine ⟨[_], us, rfl, ⟨none, 0, rfl, Nat.le_refl _, fun h0 => ?_⟩, h2⟩
    simp at h0
  · rename_i kd t' l r'
    split at h
    · cases h
    · rename_i hkd
      split at h
      · rename_i hk
        subst hk
        simp only [Option.some.injEq, Prod.mk.injEq] at h
        obtain ⟨rfl, rfl⟩ := h
        obtain ⟨v, us, rfl, h1, h2⟩ := hr.cons_inv
        cases h1 with
        | list h3 _ =>
          obtain rfl := h3.1
          exact ⟨[_], us, rfl, h3.toC (fun b hb => ⟨hb.1, hb.2 hkd⟩), h2⟩
      · cases h
  · cases h

theorem dec_rep {X : Ctx} : ∀ {t : Ty} {cs : List V} {x : t.den} {r : List V} {vs : List Value}, dec t cs = some (x, r) → RepL X cs vs →
    ∃ v1 v2, vs = v1 ++ v2 ∧ RepC X.w X.G t x v1 ∧ RepL X r v2
  | .pair a b, cs, x, r, vs, h, hr => by
    unfold dec at h
    cases h1 : dec a cs with
    | none => simp [h1] at h
    | some p =>
      obtain ⟨x1, r1⟩ := p
      simp only [h1] at h
      cases h2 : dec b r1 with
      | none => simp [h2] at h
      | some q =>
        obtain ⟨x2, r2⟩ := q
        simp only [h2, Option.some.injEq] at h
        cases h
        obtain ⟨v1, v2, rfl, k1, k2⟩ := dec_rep h1 hr
        obtain ⟨v3, v4, rfl, k3, k4⟩ := dec_rep h2 k2
        exact ⟨v1 ++ v3, v4, by simp, ⟨v1, v3, rfl, k1, k3⟩, k4⟩
  | .bool, _, _, _, _, h, hr => decBool_rep h hr
  | .str, _, _, _, _, h, hr => decStr_rep h hr
  | .int _, _, _, _, _, h, hr => decInt_rep h hr
  | .slice _, _, _, _, _, h, hr => decSlice_rep h hr

theorem decAll_rep {X : Ctx} {t : Ty} {cs : List V} {x : t.den} {vs : List Value} (h : decAll t cs = some x) (hr : RepL X cs vs) : RepC X.w X.G t x vs := by
  unfold decAll at h
  split at h
  · rename_i y hd
    simp only [Option.some.injEq] at h
    subst h
    obtain ⟨v1, v2, rfl, h1, h2⟩ := dec_rep hd hr
    rw [h2.nil_inv, List.append_nil]
    exact h1
  · cases h

/-- The cells of a datum are one cell each. -/
theorem dec_enc : ∀ (t : Ty) (x : t.den) (r : List V), dec t (enc t x ++ r) = some (x, r)
  | .bool, _, _ => rfl
  | .str, _, _ => rfl
  | .int k, _, _ => by simp [dec, enc, decInt]; rfl
  | .slice t, _, _ => by simp [dec, enc, decSlice]; rfl
  | .pair a b, x, r => by
    simp only [dec, enc, List.append_assoc, dec_enc a x.1, dec_enc b x.2]
    rfl

theorem decAll_enc (t : Ty) (x : t.den) : decAll t (enc t x) = some x := by
  have := dec_enc t x []
  rw [List.append_nil] at this
  simp [decAll, this]

theorem encC {X : Ctx} {t : Ty} {x : t.den} {row : List Value} (h : RepL X (enc t x) row) : RepC X.w X.G t x row := decAll_rep (decAll_enc t x) h

/-- A datum's cells say no more than those that it was read of. -/
theorem dec_cell : ∀ {t : Ty} {cs : List V} {x : t.den} {r : List V}, dec t cs = some (x, r) → ∃ pre, cs = pre ++ r ∧ pre.length = t.cells ∧ ∀ (j : Nat) c, pre[j]? = some c → ∃ c', (enc t x)[j]? = some c' ∧ (∀ X u, Rep X c u → Rep X c' u) ∧
    (∀ tin l, c = .list .part tin l → c' = c) ∧ (c = .nils → ∃ tin, c' = .list .part tin [])
  | .bool, cs, x, r, h => by
    simp only [dec] at h
    unfold decBool at h
    split at h
    · cases h
      refine ⟨[_], rfl, rfl, fun j c hj => ?_⟩
      match j with
      | 0 => simp at hj; subst hj; exact ⟨_, rfl, fun _ _ h => h, fun _ _ e => (by cases e), fun e => (by cases e)⟩
      | j + 1 => simp at hj
    · cases h
      refine ⟨[_], rfl, rfl, fun j c hj => ?_⟩
      match j with
      | 0 => simp at hj; subst hj; exact ⟨_, rfl, fun _ _ h => (by cases h; exact .bool), fun _ _ e => (by cases e), fun e => (by cases e)⟩
      | j + 1 => simp at hj
    · cases h
  | .str, cs, x, r, h => by
    simp only [dec] at h
    unfold decStr at h
    split at h
    · cases h
      refine ⟨[_], rfl, rfl, fun j c hj => ?_⟩
      match j with
      | 0 => simp at hj; subst hj; exact ⟨_, rfl, fun _ _ h => h, fun _ _ e => (by cases e), fun e => (by cases e)⟩
      | j + 1 => simp at hj
    · cases h
  | .int k, cs, x, r, h => by
    simp only [dec] at h
    unfold decInt at h
    split at h
    · split at h
      · rename_i e
        subst e
        cases h
        refine ⟨[_], rfl, rfl, fun j c hj => ?_⟩
        match j with
        | 0 => simp at hj; subst hj; exact ⟨_, rfl, fun _ _ h => h, fun _ _ e => (by cases e), fun e => (by cases e)⟩
        | j + 1 => simp at hj
      · cases h
    · cases h
  | .slice t, cs, x, r, h => by
    simp only [dec] at h
    unfold decSlice at h
    split at h
    · cases h
      refine ⟨[_], rfl, rfl, fun j c hj => ?_⟩
      match j with
      | 0 =>
        simp at hj
        subst hj
        exact ⟨_, rfl, fun _ _ h => (by cases h; exact .list ⟨rfl, Nat.le_refl _, fun h => absurd h (Nat.lt_irrefl _)⟩ (fun e => by cases e)), fun _ _ e => (by cases e), fun _ => ⟨t, rfl⟩⟩
      | j + 1 => simp at hj
    · split at h
      · cases h
      · rename_i kd t' l r' hkd
        split at h
        · rename_i e
          subst e
          cases h
          refine ⟨[_], rfl, rfl, fun j c hj => ?_⟩
          match j with
          | 0 =>
            simp at hj
            subst hj
            refine ⟨_, rfl, fun X u h => ?_, fun _ _ e => (by cases e; rfl), fun e => (by cases e)⟩
            cases h with
            | list h1 h2 => exact .list (h1.keep (fun b hb => ⟨hb, rfl⟩) (fun b hb => ⟨⟨hb.1, fun _ => hb.2 hkd⟩, rfl⟩)) (fun e => by cases e)
          | j + 1 => simp at hj
        · cases h
    · cases h
  | .pair a b, cs, x, r, h => by
    simp only [dec] at h
    split at h
    · rename_i y r1 h1
      split at h
      · rename_i z r2 h2
        cases h
        obtain ⟨p1, rfl, l1, q1⟩ := dec_cell h1
        obtain ⟨p2, rfl, l2, q2⟩ := dec_cell h2
        refine ⟨p1 ++ p2, by simp, by simp [l1, l2, Ty.cells], fun j c hj => ?_⟩
        by_cases hlt : j < p1.length
        · rw [List.getElem?_append_left hlt] at hj
          obtain ⟨c', k1, k2⟩ := q1 j c hj
          exact ⟨c', by simp only [enc]; rw [List.getElem?_append_left (by rw [enc_len]; omega)]; exact k1, k2⟩
        · rw [List.getElem?_append_right (by omega)] at hj
          obtain ⟨c', k1, k2⟩ := q2 _ c hj
          exact ⟨c', by simp only [enc]; rw [List.getElem?_append_right (by rw [enc_len]; omega), enc_len, ← l1]; exact k1, k2⟩
      · cases h
    · cases h

theorem decAll_cell {t : Ty} {cs : List V} {x : t.den} (h : decAll t cs = some x) : cs.length = t.cells ∧ ∀ (j : Nat) c, cs[j]? = some c → ∃ c', (enc t x)[j]? = some c' ∧ (∀ X u, Rep X c u → Rep X c' u) ∧
    (∀ tin l, c = .list .part tin l → c' = c) ∧ (c = .nils → ∃ tin, c' = .list .part tin []) := by
  unfold decAll at h
  split at h
  · rename_i y hy
    cases h
    obtain ⟨pre, rfl, l1, q1⟩ := dec_cell hy
    simpa using ⟨l1, q1⟩
  · cases h

theorem RepC.one {w : World} {G : Nat → Prop} : ∀ {t : Ty} {x : t.den} {cs : List Value}, RepC w G t x cs → ∀ u ∈ cs, u.oneCell' = true
  | .bool, _, _, h => by simp only [RepC] at h; subst h; intro u hu; simp at hu; subst hu; rfl
  | .int _, _, _, h => by simp only [RepC] at h; subst h; intro u hu; simp at hu; subst hu; rfl
  | .str, _, _, h => by obtain ⟨s, rfl, _⟩ := h; intro u hu; simp at hu; subst hu; rfl
  | .slice _, _, _, h => by obtain ⟨A, cap, rfl, _⟩ := h; intro u hu; simp at hu; subst hu; rfl
  | .pair _ _, _, _, h => by
    obtain ⟨c1, c2, rfl, h1, h2⟩ := h
    intro u hu
    rcases List.mem_append.1 hu with hu | hu
    · exact h1.one u hu
    · exact h2.one u hu

theorem Rep.one {X : Ctx} {c : V} {v : Value} (h : Rep X c v) (hc : oneV c = true) : v.oneCell' = true := by
  cases h <;> first | rfl | (simp [oneV] at hc)

theorem get_cons (σ : Store) (id k : Nat) (o : Obj) : Store.get ((id, o) :: σ) k = if id = k then some o else σ.get k := rfl

/-- A thing is put into the store, new or in an elder one's place. -/
theorem put_evoG {B : Nat → Prop} {X : Ctx} (hI : Inv B X) (hB : ∀ b, X.w.heap.size ≤ b → B b) {id : Nat} {o' : Obj} {p' : Option (Nat × Nat × Nat)} {w' : World}
    (hos : w'.os = X.w.os) (ht : w'.tape = X.w.tape) (ho : w'.output = X.w.output) (hs : X.w.heap.size ≤ w'.heap.size)
    (hblk : ∀ b, b < X.w.heap.size → (∀ o, X.σ.get id = some o → ¬ Blk X id o b) → w'.heap[b]? = X.w.heap[b]?)
    (hp : ∀ b, Blk ⟨w', (id, o') :: X.σ, fun i => if i = id then p' else X.μ i, X.F⟩ id o' b → X.w.heap.size ≤ b ∨ ∃ o, X.σ.get id = some o ∧ Blk X id o b)
    (hbox : ∀ c, X.σ.get id = some (.box c) → (∃ c', o' = .box c') ∧ p' = X.μ id)
    (harr : ∀ ep t l, X.σ.get id = some (.arr ep t l) → ∃ ep' l', o' = .arr ep' t l' ∧ ep ≤ ep' ∧ (ep' = ep → p' = X.μ id ∧ l'.length = l.length))
    (hnest : ∀ iv t f h l, X.σ.get id = some (.nest iv t f h l) → ∃ iv' h' l', o' = .nest iv' t f h' l' ∧ iv ≤ iv' ∧ p' = X.μ id ∧ l'.length = l.length ∧ (iv' = iv → l' = l ∧ h' = h ∧ ∀ p, X.μ id = some p → w'.heap[p.1]? = X.w.heap[p.1]?))
    (hok : Evo X ⟨w', (id, o') :: X.σ, fun i => if i = id then p' else X.μ i, X.F⟩ → ObjOk ⟨w', (id, o') :: X.σ, fun i => if i = id then p' else X.μ i, X.F⟩ id o') :
    Evo X ⟨w', (id, o') :: X.σ, fun i => if i = id then p' else X.μ i, X.F⟩ ∧ Inv B ⟨w', (id, o') :: X.σ, fun i => if i = id then p' else X.μ i, X.F⟩ := by
  have hsame : ∀ {j o}, j ≠ id → X.σ.get j = some o → ∀ b, Blk X j o b → w'.heap[b]? = X.w.heap[b]? := fun {j o} hj hg b hk =>
    hblk b (hI.ltB hg hk) (fun o1 h1 h2 => hj (hI.injB id j o1 o b h1 hg h2 hk).symm)
  have hold : ∀ {j o b}, j ≠ id → X.σ.get j = some o → Blk ⟨w', (id, o') :: X.σ, fun i => if i = id then p' else X.μ i, X.F⟩ j o b → Blk X j o b := fun {j o b} hj hg hk =>
    Blk.move (X := X) (by show (if j = id then p' else X.μ j) = X.μ j; rw [if_neg hj]) (fun p hm => hsame hj hg _ (.top hm)) hk
  have hcase : ∀ {j o}, Store.get ((id, o') :: X.σ) j = some o → (j = id ∧ o = o') ∨ (j ≠ id ∧ X.σ.get j = some o) := fun {j o} hg => by
    simp only [get_cons] at hg
    by_cases hj : j = id
    · subst hj; simp at hg; exact .inl ⟨rfl, hg.symm⟩
    · rw [if_neg (fun e => hj e.symm)] at hg; exact .inr ⟨hj, hg⟩
  have hE : Evo X ⟨w', (id, o') :: X.σ, fun i => if i = id then p' else X.μ i, X.F⟩ := by
    refine ⟨hos, ht, ho, hs, rfl, fun b hb => ⟨⟨Nat.lt_of_lt_of_le hb.1 hs, fun j o hg hk => ?_⟩, hblk b hb.1 (fun o hg hk => hb.2 id o hg hk)⟩, fun j c hg => ?_, fun j ep t l hg => ?_, fun j iv t f h l hg => ?_⟩
    · rcases hcase hg with ⟨rfl, rfl⟩ | ⟨hj, hg'⟩
      · rcases hp b hk with h | ⟨o, h1, h2⟩
        · have := hb.1; omega
        · exact hb.2 _ o h1 h2
      · exact hb.2 j o hg' (hold hj hg' hk)
    · by_cases hj : j = id
      · subst hj
        obtain ⟨⟨c', h1⟩, h2⟩ := hbox c hg
        exact ⟨⟨c', by simp [get_cons, h1]⟩, by simp [h2]⟩
      · exact ⟨⟨c, by simp only [get_cons]; rw [if_neg (fun e => hj e.symm)]; exact hg⟩, by simp [hj]⟩
    · by_cases hj : j = id
      · subst hj
        obtain ⟨ep', l', h1, h2, h3⟩ := harr ep t l hg
        exact ⟨ep', l', by simp [get_cons, h1], h2, fun e => by simpa using h3 e⟩
      · exact ⟨ep, l, by simp only [get_cons]; rw [if_neg (fun e => hj e.symm)]; exact hg, Nat.le_refl _, fun _ => by simp [hj]⟩
    · by_cases hj : j = id
      · subst hj
        obtain ⟨iv', h', l', h1, h2, h3, h4, h5⟩ := hnest iv t f h l hg
        exact ⟨iv', h', l', by simp [get_cons, h1], h2, by simpa using h3, h4, h5⟩
      · exact ⟨iv, h, l, by simp only [get_cons]; rw [if_neg (fun e => hj e.symm)]; exact hg, Nat.le_refl _, by simp [hj], rfl, fun _ => ⟨rfl, rfl, fun p hm => hsame hj hg _ (.top hm)⟩⟩
  refine ⟨hE, ⟨fun j o hg => ?_, fun i j o1 o2 b hi hj hpi hpj => ?_, fun j o b hg hk => ?_, fun b hb => hI.out b (Nat.le_trans hs hb), hI.vis, .evo hI hE⟩⟩
  · rcases hcase hg with ⟨rfl, rfl⟩ | ⟨hj, hg'⟩
    · exact hok hE
    · exact ObjOk.move (X := X) (by show (if j = id then p' else X.μ j) = X.μ j; rw [if_neg hj]) (hsame hj hg') hE.good (fun _ _ _ h => h.evo hE) (hI.objs j o hg')
  · rcases hcase hi with ⟨rfl, rfl⟩ | ⟨hii, hi'⟩
    · rcases hcase hj with ⟨rfl, rfl⟩ | ⟨hjj, hj'⟩
      · rfl
      · have h2 := hold hjj hj' hpj
        rcases hp b hpi with h | ⟨o, h1, h3⟩
        · have := hI.ltB hj' h2; omega
        · exact hI.injB _ _ o o2 b h1 hj' h3 h2
    · have h2 := hold hii hi' hpi
      rcases hcase hj with ⟨rfl, rfl⟩ | ⟨hjj, hj'⟩
      · rcases hp b hpj with h | ⟨o, h1, h3⟩
        · have := hI.ltB hi' h2; omega
        · exact hI.injB _ _ o1 o b hi' h1 h2 h3
      · exact hI.injB i j o1 o2 b hi' hj' h2 (hold hjj hj' hpj)
  · rcases hcase hg with ⟨rfl, rfl⟩ | ⟨hj, hg'⟩
    · rcases hp b hk with h | ⟨o, h1, h2⟩
      · exact hB _ h
      · exact hI.baseB _ o b h1 h2
    · exact hI.baseB j o b hg' (hold hj hg' hk)

theorem blk_flat {X : Ctx} {id : Nat} {o : Obj} {b : Nat} (hn : isNest (some o) = false) (h : Blk X id o b) : ∃ p, X.μ id = some p ∧ p.1 = b := by
  obtain ⟨p, hm, h⟩ := h
  rcases h with h | h
  · exact ⟨p, hm, h⟩
  · cases o with
    | box _ => exact h.elim
    | arr _ _ _ => exact h.elim
    | nest => simp [isNest] at hn

/-- The same, for variables and arrays. -/
theorem put_evo {B : Nat → Prop} {X : Ctx} (hI : Inv B X) (hB : ∀ b, X.w.heap.size ≤ b → B b) {id : Nat} {o' : Obj} {p' : Option (Nat × Nat × Nat)} {w' : World}
    (hos : w'.os = X.w.os) (ht : w'.tape = X.w.tape) (ho : w'.output = X.w.output) (hs : X.w.heap.size ≤ w'.heap.size)
    (hblk : ∀ b, b < X.w.heap.size → (∀ o q, X.σ.get id = some o → X.μ id = some q → q.1 ≠ b) → w'.heap[b]? = X.w.heap[b]?)
    (hp : ∀ q, p' = some q → X.w.heap.size ≤ q.1 ∨ ∃ o q0, X.σ.get id = some o ∧ X.μ id = some q0 ∧ q0.1 = q.1)
    (hbox : ∀ c, X.σ.get id = some (.box c) → (∃ c', o' = .box c') ∧ p' = X.μ id)
    (harr : ∀ ep t l, X.σ.get id = some (.arr ep t l) → ∃ ep' l', o' = .arr ep' t l' ∧ ep ≤ ep' ∧ (ep' = ep → p' = X.μ id ∧ l'.length = l.length))
    (hok : Evo X ⟨w', (id, o') :: X.σ, fun i => if i = id then p' else X.μ i, X.F⟩ → ObjOk ⟨w', (id, o') :: X.σ, fun i => if i = id then p' else X.μ i, X.F⟩ id o')
    (hn1 : isNest (some o') = false := by rfl) (hn2 : isNest (X.σ.get id) = false := by simp_all [isNest]) :
    Evo X ⟨w', (id, o') :: X.σ, fun i => if i = id then p' else X.μ i, X.F⟩ ∧ Inv B ⟨w', (id, o') :: X.σ, fun i => if i = id then p' else X.μ i, X.F⟩ := by
  refine put_evoG hI hB hos ht ho hs (fun b hb hk => hblk b hb (fun o q hg hm e => hk o hg ⟨q, hm, .inl e⟩)) (fun b hk => ?_) hbox harr (fun iv t f h l hg => by rw [hg] at hn2; simp [isNest] at hn2) hok
  obtain ⟨p, hm, e⟩ := blk_flat hn1 hk
  rcases hp p (by simpa using hm) with h | ⟨o, q0, h1, h2, h3⟩
  · exact .inl (by omega)
  · exact .inr ⟨o, h1, q0, h2, .inl (by omega)⟩

/-- What an operation's run must come to. -/
def OpRuns (P : Program) (o : Oper) (ρr : Operand → Value) (w : World) (Q : Value → World → Prop) : Prop :=
  match (execOp ρr o).run P w with
  | .ok (.value u) w' => Q u w'
  | .ok .skip w' => Q undef w'
  | .ok (.enter f args) w' => Calls P f args w' fun e w'' => ∃ u, e = .returned u ∧ Q u w''
  | _ => False

/-- An operation does, in whatever memory, what abstract values say. -/
def OpOk (P : Program) (o : Oper) (ρ : Operand → V) (σ : Store) (v : V) (σ' : Store) : Prop :=
  ∀ B F ρr w μ, Inv B ⟨w, σ, μ, F⟩ → (∀ b, w.heap.size ≤ b → B b) → (∀ x, x ∈ o.op.operands.toList → Rep ⟨w, σ, μ, F⟩ (ρ x) (ρr x)) →
    OpRuns P o ρr w fun u w' => ∃ μ', Inv B ⟨w', σ', μ', F⟩ ∧ Rep ⟨w', σ', μ', F⟩ v u ∧ Evo ⟨w, σ, μ, F⟩ ⟨w', σ', μ', F⟩

/-- A value in the world as it is. -/
theorem OpRuns.val {P : Program} {o : Oper} {ρr : Operand → Value} {w : World} {Q : Value → World → Prop} {u : Value} {w' : World}
    (h : (execOp ρr o).run P w = .ok (.value u) w') (hQ : Q u w') : OpRuns P o ρr w Q := by
  unfold OpRuns; rw [h]; exact hQ
theorem OpRuns.skip {P : Program} {o : Oper} {ρr : Operand → Value} {w : World} {Q : Value → World → Prop} {w' : World}
    (h : (execOp ρr o).run P w = .ok .skip w') (hQ : Q undef w') : OpRuns P o ρr w Q := by
  unfold OpRuns; rw [h]; exact hQ

theorem size?_run {P : Program} {t : TypeId} {n : Nat} (h : size? P t = some n) (w : World) : (sizeOf t).run P w = .ok n w := by
  unfold size? at h
  cases hi : P.info? t with
  | none => simp [hi] at h
  | some i => simp [hi] at h; simp [sizeOf, typeInfo, hi, h]

theorem isAgg?_run {P : Program} {t : TypeId} {g : Bool} (h : isAgg? P t = some g) (w : World) : (isAgg t).run P w = .ok g w := by
  unfold isAgg? at h
  cases hu : P.underlying t with
  | none => simp [hu] at h
  | some d =>
    rw [hu] at h
    simp only [isAgg, Sem.run_bind, run_underlying hu, Result.andThen_ok]
    cases d <;> simp at h <;> subst h <;> rfl

/-- A variable is read off its cells. -/
theorem run_loadVar {P : Program} {t : TypeId} {g : Bool} {n : Nat} (hg : isAgg? P t = some g) (hn : size? P t = some n) (w : World) (b o : Nat) (vs : List Value) (hl : vs.length = n)
    (hc : ∀ j u, vs[j]? = some u → w.cell? ⟨b, o + j, none⟩ = some u) (h1 : g = false → n = 1) :
    (loadVar t ⟨b, o, none⟩).run P w = .ok (if g then .agg vs.toArray else vs.getD 0 undef) w := by
  cases g with
  | true =>
    have hcl := run_loadCells_list (P := P) w ⟨b, o, none⟩ vs (fun j v hv => by rw [Addr.add_lit]; exact hc j v hv)
    rw [hl] at hcl
    simp [loadVar, isAgg?_run hg, size?_run hn, hcl]
  | false =>
    obtain rfl := h1 rfl
    match vs, hl with
    | [u], _ =>
      have h0 := hc 0 u (by simp)
      simp only [Nat.add_zero] at h0
      simp [loadVar, isAgg?_run hg, h0]

theorem cut_some {cells : List V} {off n : Nat} {cs : List V} (h : cut cells off n = some cs) : off + n ≤ cells.length ∧ cs = (cells.drop off).take n := by
  unfold cut at h
  split at h
  · exact ⟨by assumption, by simpa using h.symm⟩
  · cases h

/-- Cells read as a value. -/
theorem load_core {P : Program} {t : TypeId} {g : Bool} {n : Nat} (hg : isAgg? P t = some g) (hn : size? P t = some n) {X : Ctx} {cells : List V} {off : Nat} {v : V}
    (hv : (cut cells off n).bind (ofCells g) = some v) {b o : Nat} (f : Nat → Value) (hc : ∀ (j : Nat) c, cells[j]? = some c → X.w.cell? ⟨b, o + j, none⟩ = some (f j))
    (hr : ∀ (j : Nat) c, cells[j]? = some c → Rep X c (f j)) : ∃ u, (loadVar t ⟨b, o + off, none⟩).run P X.w = .ok u X.w ∧ Rep X v u := by
  cases hcut : cut cells off n with
  | none => simp [hcut] at hv
  | some cs =>
    simp only [hcut, Option.bind_some] at hv
    obtain ⟨hle, rfl⟩ := cut_some hcut
    have hget : ∀ (j : Nat) u, ((List.range n).map fun j => f (off + j))[j]? = some u → j < n ∧ u = f (off + j) := by
      intro j u hu
      simp only [List.getElem?_map, Option.map_eq_some_iff] at hu
      obtain ⟨a, ha, rfl⟩ := hu
      have := List.getElem?_eq_some_iff.1 ha
      obtain ⟨hj, hja⟩ := this
      simp at hj hja
      subst hja
      exact ⟨hj, rfl⟩
    have hcell : ∀ (j : Nat), j < n → ∃ c, cells[off + j]? = some c := fun j hj => ⟨_, List.getElem?_eq_getElem (by omega)⟩
    have h1 : g = false → n = 1 := by
      intro e
      subst e
      unfold ofCells at hv
      simp only [Bool.false_eq_true, if_false] at hv
      split at hv
      · rename_i c hcs
        have := congrArg List.length hcs
        simp at this
        omega
      · cases hv
    refine ⟨_, run_loadVar hg hn X.w b (o + off) ((List.range n).map fun j => f (off + j)) (by simp) (fun j u hu => ?_) h1, ?_⟩
    · obtain ⟨hj, rfl⟩ := hget j u hu
      obtain ⟨c, hcc⟩ := hcell j hj
      rw [Nat.add_assoc]
      exact hc _ c hcc
    · unfold ofCells at hv
      cases g with
      | true =>
        simp only [if_true, Option.some.injEq] at hv
        subst hv
        refine .agg (by simp; omega) (fun j c u hc' hu => ?_)
        simp only [List.getElem?_toArray] at hu
        obtain ⟨hj, rfl⟩ := hget j u hu
        rw [List.getElem?_take, if_pos hj, List.getElem?_drop] at hc'
        exact hr _ c hc'
      | false =>
        obtain rfl := h1 rfl
        simp only [Bool.false_eq_true, if_false] at hv
        split at hv
        · rename_i c hcs
          simp only [Option.some.injEq] at hv
          subst hv
          have hc0 : cells[off]? = some c := by
            have := congrArg (fun l => l[0]?) hcs
            simpa [List.getElem?_take, List.getElem?_drop] using this
          simpa using hr off c hc0
        · cases hv

end Go.Vm
