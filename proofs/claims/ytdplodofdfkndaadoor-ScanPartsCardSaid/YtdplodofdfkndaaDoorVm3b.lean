/-
  The engine, part 3b: nests: a row's list is taken out, and put in.
-/
import Derived.Test.YtdplodofdfkndaaDoorVm3
namespace Go.Vm

/-- Two things of the store change at once, memory does not. -/
theorem two_evo {B : Nat → Prop} {X : Ctx} (hI : Inv B X) {k1 k2 : Nat} (hne : k2 ≠ k1) {o1 o2 : Obj} {p2 : Option (Nat × Nat × Nat)} {iv iv' : Nat} {t : Ty} {f : Nat} {h h' : Option Nat} {l l' : List t.den}
    (hg1 : X.σ.get k1 = some (.nest iv t f h l)) (ho1 : o1 = .nest iv' t f h' l') (hiv : iv < iv') (hl : l'.length = l.length)
    (hg2 : ∀ o, X.σ.get k2 = some o → ∃ ep ep' tin l0 l0', o = .arr ep tin l0 ∧ o2 = .arr ep' tin l0' ∧ ep < ep')
    (hb1 : ∀ b, Blk ⟨X.w, (k2, o2) :: (k1, o1) :: X.σ, fun i => if i = k2 then p2 else X.μ i, X.F⟩ k1 o1 b → Blk X k1 (.nest iv t f h l) b ∨ ∃ o, X.σ.get k2 = some o ∧ Blk X k2 o b)
    (hb2 : ∀ b, Blk ⟨X.w, (k2, o2) :: (k1, o1) :: X.σ, fun i => if i = k2 then p2 else X.μ i, X.F⟩ k2 o2 b → Blk X k1 (.nest iv t f h l) b ∨ ∃ o, X.σ.get k2 = some o ∧ Blk X k2 o b)
    (hdis : ∀ b, Blk ⟨X.w, (k2, o2) :: (k1, o1) :: X.σ, fun i => if i = k2 then p2 else X.μ i, X.F⟩ k1 o1 b → ¬ Blk ⟨X.w, (k2, o2) :: (k1, o1) :: X.σ, fun i => if i = k2 then p2 else X.μ i, X.F⟩ k2 o2 b)
    (hok1 : Evo X ⟨X.w, (k2, o2) :: (k1, o1) :: X.σ, fun i => if i = k2 then p2 else X.μ i, X.F⟩ → ObjOk ⟨X.w, (k2, o2) :: (k1, o1) :: X.σ, fun i => if i = k2 then p2 else X.μ i, X.F⟩ k1 o1)
    (hok2 : Evo X ⟨X.w, (k2, o2) :: (k1, o1) :: X.σ, fun i => if i = k2 then p2 else X.μ i, X.F⟩ → ObjOk ⟨X.w, (k2, o2) :: (k1, o1) :: X.σ, fun i => if i = k2 then p2 else X.μ i, X.F⟩ k2 o2) :
    Evo X ⟨X.w, (k2, o2) :: (k1, o1) :: X.σ, fun i => if i = k2 then p2 else X.μ i, X.F⟩ ∧ Inv B ⟨X.w, (k2, o2) :: (k1, o1) :: X.σ, fun i => if i = k2 then p2 else X.μ i, X.F⟩ := by
  have hcase : ∀ {j o}, Store.get ((k2, o2) :: (k1, o1) :: X.σ) j = some o → (j = k2 ∧ o = o2) ∨ (j = k1 ∧ o = o1) ∨ (j ≠ k1 ∧ j ≠ k2 ∧ X.σ.get j = some o) := fun {j o} hg => by
    simp only [get_cons] at hg
    by_cases hj : j = k2
    · subst hj; simp at hg; exact .inl ⟨rfl, hg.symm⟩
    · rw [if_neg (fun e => hj e.symm)] at hg
      by_cases hj1 : j = k1
      · subst hj1; simp at hg; exact .inr (.inl ⟨rfl, hg.symm⟩)
      · rw [if_neg (fun e => hj1 e.symm)] at hg; exact .inr (.inr ⟨hj1, hj, hg⟩)
  have hold : ∀ {j o b}, j ≠ k2 → Blk ⟨X.w, (k2, o2) :: (k1, o1) :: X.σ, fun i => if i = k2 then p2 else X.μ i, X.F⟩ j o b → Blk X j o b := fun {j o b} hj hk =>
    Blk.move (X := X) (X' := ⟨X.w, (k2, o2) :: (k1, o1) :: X.σ, fun i => if i = k2 then p2 else X.μ i, X.F⟩) (id := j) (id' := j) (by show (if j = k2 then p2 else X.μ j) = X.μ j; rw [if_neg hj]) (fun _ _ => rfl) hk
  have hsrc : ∀ {b}, (Blk X k1 (.nest iv t f h l) b ∨ ∃ o, X.σ.get k2 = some o ∧ Blk X k2 o b) → ∃ k o, (k = k1 ∨ k = k2) ∧ X.σ.get k = some o ∧ Blk X k o b := fun {b} hh => by
    rcases hh with hh | ⟨o, h1, h2⟩
    · exact ⟨k1, _, .inl rfl, hg1, hh⟩
    · exact ⟨k2, o, .inr rfl, h1, h2⟩
  have hE : Evo X ⟨X.w, (k2, o2) :: (k1, o1) :: X.σ, fun i => if i = k2 then p2 else X.μ i, X.F⟩ := by
    refine ⟨rfl, rfl, rfl, Nat.le_refl _, rfl, fun b hb => ⟨⟨hb.1, fun j o hg hk => ?_⟩, rfl⟩, fun j c hg => ?_, fun j ep t2 l2 hg => ?_, fun j iv2 t2 f2 h2 l2 hg => ?_⟩
    · rcases hcase hg with ⟨rfl, rfl⟩ | ⟨rfl, rfl⟩ | ⟨h1, h2, h3⟩
      · obtain ⟨k, o, _, q1, q2⟩ := hsrc (hb2 b hk); exact hb.2 k o q1 q2
      · obtain ⟨k, o, _, q1, q2⟩ := hsrc (hb1 b hk); exact hb.2 k o q1 q2
      · exact hb.2 j o h3 (hold h2 hk)
    · have h1 : j ≠ k1 := by rintro rfl; rw [hg1] at hg; cases hg
      have h2 : j ≠ k2 := by rintro rfl; obtain ⟨_, _, _, _, _, e, _⟩ := hg2 _ hg; cases e
      exact ⟨⟨c, by simp only [get_cons]; rw [if_neg (fun e => h2 e.symm), if_neg (fun e => h1 e.symm)]; exact hg⟩, by simp [h2]⟩
    · have h1 : j ≠ k1 := by rintro rfl; rw [hg1] at hg; cases hg
      by_cases h2 : j = k2
      · subst h2
        obtain ⟨ep1, ep', tin, l0, l0', e1, e2, hlt⟩ := hg2 _ hg
        cases e1
        exact ⟨ep', l0', by simp [get_cons, e2], Nat.le_of_lt hlt, fun e => by omega⟩
      · exact ⟨ep, l2, by simp only [get_cons]; rw [if_neg (fun e => h2 e.symm), if_neg (fun e => h1 e.symm)]; exact hg, Nat.le_refl _, fun _ => by simp [h2]⟩
    · have h2' : j ≠ k2 := by rintro rfl; obtain ⟨_, _, _, _, _, e, _⟩ := hg2 _ hg; cases e
      by_cases h1 : j = k1
      · subst h1
        rw [hg1] at hg
        cases hg
        exact ⟨iv', h', l', by simp [get_cons, hne, ho1], Nat.le_of_lt hiv, by simp [h2'], hl, fun e => by omega⟩
      · exact ⟨iv2, h2, l2, by simp only [get_cons]; rw [if_neg (fun e => h2' e.symm), if_neg (fun e => h1 e.symm)]; exact hg, Nat.le_refl _, by simp [h2'], rfl, fun _ => ⟨rfl, rfl, fun _ _ => rfl⟩⟩
  refine ⟨hE, ⟨fun j o hg => ?_, fun i j oi oj b hi hj hpi hpj => ?_, fun j o b hg hk => ?_, hI.out, hI.vis, .evo hI hE⟩⟩
  · rcases hcase hg with ⟨rfl, rfl⟩ | ⟨rfl, rfl⟩ | ⟨h1, h2, h3⟩
    · exact hok2 hE
    · exact hok1 hE
    · exact ObjOk.move (X := X) (by show (if j = k2 then p2 else X.μ j) = X.μ j; rw [if_neg h2]) (fun _ _ => rfl) hE.good (fun _ _ _ h => h.evo hE) (hI.objs j o h3)
  · have other : ∀ {j o}, j ≠ k1 → j ≠ k2 → X.σ.get j = some o → Blk X j o b → (Blk X k1 (.nest iv t f h l) b ∨ ∃ o, X.σ.get k2 = some o ∧ Blk X k2 o b) → False := fun {j o} h1 h2 h3 h4 h5 => by
      obtain ⟨k, o', q0, q1, q2⟩ := hsrc h5
      have := hI.injB _ _ _ _ _ h3 q1 h4 q2
      rcases q0 with rfl | rfl
      · exact h1 this
      · exact h2 this
    rcases hcase hi with ⟨rfl, rfl⟩ | ⟨rfl, rfl⟩ | ⟨i1, i2, i3⟩
    · rcases hcase hj with ⟨rfl, rfl⟩ | ⟨rfl, rfl⟩ | ⟨j1, j2, j3⟩
      · rfl
      · exact absurd hpi (hdis b hpj)
      · exact (other j1 j2 j3 (hold j2 hpj) (hb2 b hpi)).elim
    · rcases hcase hj with ⟨rfl, rfl⟩ | ⟨rfl, rfl⟩ | ⟨j1, j2, j3⟩
      · exact absurd hpj (hdis b hpi)
      · rfl
      · exact (other j1 j2 j3 (hold j2 hpj) (hb1 b hpi)).elim
    · rcases hcase hj with ⟨rfl, rfl⟩ | ⟨rfl, rfl⟩ | ⟨j1, j2, j3⟩
      · exact (other i1 i2 i3 (hold i2 hpi) (hb2 b hpj)).elim
      · exact (other i1 i2 i3 (hold i2 hpi) (hb1 b hpj)).elim
      · exact hI.injB i j oi oj b i3 j3 (hold i2 hpi) (hold j2 hpj)
  · rcases hcase hg with ⟨rfl, rfl⟩ | ⟨rfl, rfl⟩ | ⟨h1, h2, h3⟩
    · obtain ⟨k, o', _, q1, q2⟩ := hsrc (hb2 b hk); exact hI.baseB k o' b q1 q2
    · obtain ⟨k, o', _, q1, q2⟩ := hsrc (hb1 b hk); exact hI.baseB k o' b q1 q2
    · exact hI.baseB j o b h3 (hold h2 hk)

theorem RepH.slice {w : World} {G : Nat → Prop} {tin : Ty} {l : List tin.den} {u : Value} (h : RepH w G (.list .part tin l) u) : ∃ A cap, u = .slice A l.length cap ∧
    ((cap = 0 ∧ l.length = 0) ∨ ∃ b base cs ty, A = some ⟨b, base, none⟩ ∧ 0 < cap ∧ w.heap[b]? = some (.cells cs ty (0, 0)) ∧ base + cap * tin.cells = cs.size ∧ l.length ≤ cap ∧ cap ≤ maxLen ∧
      ∀ (i : Nat) (x : tin.den), l[i]? = some x → ∃ row, RepC w G tin x row ∧ ∀ (j : Nat) (u : Value), row[j]? = some u → cs[base + i * tin.cells + j]? = some u) := by
  obtain ⟨tin', l', A, cap, e, rfl, h⟩ := h
  cases e
  exact ⟨A, cap, rfl, h⟩

/-- **A row's list is taken out.** -/
theorem detach_evo {B : Nat → Prop} {X : Ctx} (hI : Inv B X) {id iv i dst : Nat} {t : Ty} {f : Nat} {l : List t.den} (hg : X.σ.get id = some (.nest iv t f none l)) {u : Value} (hr : Rep X (.nin id iv i) u) (hd : X.σ.get dst = none)
    {tin : Ty} {li : List tin.den} (hi : i < l.length) (he : (enc t l[i])[f]? = some (.list .part tin li)) :
    ∃ μ', Inv B ⟨X.w, (dst, .arr 0 tin li) :: (id, .nest (iv + 1) t f (some i) l) :: X.σ, μ', X.F⟩ ∧ Evo X ⟨X.w, (dst, .arr 0 tin li) :: (id, .nest (iv + 1) t f (some i) l) :: X.σ, μ', X.F⟩ ∧
      Rep ⟨X.w, (dst, .arr 0 tin li) :: (id, .nest (iv + 1) t f (some i) l) :: X.σ, μ', X.F⟩ (.slc dst 0 none) u := by
  have hne : dst ≠ id := by rintro rfl; rw [hg] at hd; cases hd
  have hO := hI.objs id _ hg
  cases hr with
  | @nin _ _ _ _ iv2 t2 f2 h2 l2 hg' hle hc =>
    rw [hg] at hg'
    cases hg'
    obtain ⟨_, _, p, hp, hcel⟩ := hc rfl
    obtain ⟨c, u', r1, r2, r3⟩ := nest_row hO hp hi (by simp)
    rw [he] at r1
    cases r1
    rw [hcel] at r2
    cases r2
    obtain ⟨A, cap, rfl, hcc⟩ := r3.slice
    obtain ⟨b, base, C, cs, ty, k1, k2, k3, k4, k5, kf, k6, k7, k8⟩ := hO
    rw [hp] at k1
    cases k1
    have key : ∀ (p2 : Option (Nat × Nat × Nat)), (∀ q, p2 = some q → hblk (.slice A li.length cap) = some q.1) →
        ((p2 = none ∧ li.length = 0) ∨ ∃ b base C cs ty, p2 = some (b, base, C) ∧ X.w.heap[b]? = some (.cells cs ty (0, 0)) ∧ base + C * tin.cells = cs.size ∧ li.length ≤ C ∧ C ≤ maxLen ∧
          ∀ (i : Nat) (x : tin.den), li[i]? = some x → ∃ row, RepC X.w X.G tin x row ∧ ∀ (j : Nat) (u : Value), row[j]? = some u → cs[base + i * tin.cells + j]? = some u) →
        Evo X ⟨X.w, (dst, .arr 0 tin li) :: (id, .nest (iv + 1) t f (some i) l) :: X.σ, fun k => if k = dst then p2 else X.μ k, X.F⟩ ∧
        Inv B ⟨X.w, (dst, .arr 0 tin li) :: (id, .nest (iv + 1) t f (some i) l) :: X.σ, fun k => if k = dst then p2 else X.μ k, X.F⟩ := by
      intro p2 hq hok
      have hbl : ∀ b', Blk ⟨X.w, (dst, .arr 0 tin li) :: (id, .nest (iv + 1) t f (some i) l) :: X.σ, fun k => if k = dst then p2 else X.μ k, X.F⟩ dst (.arr 0 tin li) b' → hblk (.slice A li.length cap) = some b' := by
        intro b' hk
        obtain ⟨q, hm, e⟩ := blk_flat rfl hk
        have hm : p2 = some q := by simpa using hm
        rw [← e]
        exact hq q hm
      have hbn : ∀ b', Blk ⟨X.w, (dst, .arr 0 tin li) :: (id, .nest (iv + 1) t f (some i) l) :: X.σ, fun k => if k = dst then p2 else X.μ k, X.F⟩ id (.nest (iv + 1) t f (some i) l) b' →
          b' = b ∨ ∃ j v, j < l.length ∧ j ≠ i ∧ hcell X.w (b, base, C) t f j = some v ∧ hblk v = some b' := by
        intro b' ⟨q, hm, hk⟩
        have hm : (if id = dst then p2 else X.μ id) = some q := hm
        rw [if_neg (fun e => hne e.symm), hp] at hm
        cases hm
        rcases hk with hk | ⟨j, v, q1, q2, q3, q4⟩
        · exact .inl hk.symm
        · exact .inr ⟨j, v, q1, fun e => q2 (by rw [e]), q3, q4⟩
      refine two_evo hI hne hg rfl (Nat.lt_succ_self _) rfl (fun o ho => by rw [hd] at ho; cases ho) (fun b' hk => ?_) (fun b' hk => ?_) (fun b' hk1 hk2 => ?_) (fun hE => ?_) (fun hE => ?_)
      · rcases hbn b' hk with rfl | ⟨j, v, q1, q2, q3, q4⟩
        · exact .inl ⟨_, hp, .inl rfl⟩
        · exact .inl ⟨_, hp, .inr ⟨j, v, q1, by simp, q3, q4⟩⟩
      · exact .inl ⟨_, hp, .inr ⟨i, _, hi, by simp, hcel, hbl b' hk⟩⟩
      · have h2 := hbl b' hk2
        rcases hbn b' hk1 with rfl | ⟨j, v, q1, q2, q3, q4⟩
        · exact k8 i _ hi (by simp) hcel h2
        · exact q2 (k7 j i v _ b' q1 hi (by simp) (by simp) q3 hcel q4 h2)
      · refine ⟨b, base, C, cs, ty, by show (if id = dst then p2 else X.μ id) = _; rw [if_neg (fun e => hne e.symm)]; exact hp, k2, k3, k4, k5, kf, fun j x hx jj c hc => ?_, fun a1 a2 v1 v2 b' q1 q2 q3 q4 q5 q6 => k7 a1 a2 v1 v2 b' q1 q2 (by simp) (by simp) q5 q6, fun a v q1 q2 q3 => k8 a v q1 (by simp) q3⟩
        obtain ⟨v, q1, q2, q3⟩ := k6 j x hx jj c hc
        exact ⟨v, q1, fun hj => (q2 hj).dat hE.good (enc_dat (List.mem_of_getElem? hc)), fun hj _ => (q3 hj (by simp)).keep hE.good (fun _ _ => rfl)⟩
      · rcases hok with ⟨rfl, h0⟩ | ⟨b2, base2, C2, cs2, ty2, rfl, q1, q2, q3, q4, q5⟩
        · exact .inl ⟨by simp, h0⟩
        · refine .inr ⟨b2, base2, C2, cs2, ty2, by simp, q1, q2, q3, q4, fun a x hx => ?_⟩
          obtain ⟨row, r1, r2⟩ := q5 a x hx
          exact ⟨row, r1.keep hE.good, r2⟩
    rcases hcc with ⟨rfl, h0⟩ | ⟨b2, base2, cs2, ty2, rfl, q1, q2, q3, q4, q5, q6⟩
    · obtain ⟨e1, e2⟩ := key none (fun q hq => by cases hq) (.inl ⟨rfl, h0⟩)
      exact ⟨_, e2, e1, .slc (ep' := 0) (t := tin) (l := li) (by simp [get_cons]) (Nat.le_refl _) (fun _ => by simp only [if_true, Hdr]; exact ⟨h0, trivial, h0⟩)⟩
    · obtain ⟨e1, e2⟩ := key (some (b2, base2, cap)) (fun q hq => by cases hq; simp [hblk, q1]) (.inr ⟨b2, base2, cap, cs2, ty2, rfl, q2, q3, q4, q5, q6⟩)
      exact ⟨_, e2, e1, .slc (ep' := 0) (t := tin) (l := li) (by simp [get_cons]) (Nat.le_refl _) (fun _ => by simp only [if_true, Hdr]; exact ⟨trivial, trivial, q4, _, rfl, fun _ => rfl⟩)⟩

/-- **An array becomes a row's list.** -/
theorem attach_evo {B : Nat → Prop} {X : Ctx} (hI : Inv B X) {id iv i id2 ep2 : Nat} {t : Ty} {f : Nat} {l : List t.den} (hg : X.σ.get id = some (.nest iv t f (some i) l)) {tin : Ty} {l2 : List tin.den} (hg2 : X.σ.get id2 = some (.arr ep2 tin l2))
    {p : Nat × Nat × Nat} (hp : X.μ id = some p) {u : Value} (hcel : hcell X.w p t f i = some u) (hr : Rep X (.slc id2 ep2 none) u) (hi : i < l.length) (he : (enc t l[i])[f]? = some (.list .part tin l2)) :
    Evo X ⟨X.w, (id2, .arr (ep2 + 1) tin []) :: (id, .nest (iv + 1) t f none l) :: X.σ, fun k => if k = id2 then none else X.μ k, X.F⟩ ∧
      Inv B ⟨X.w, (id2, .arr (ep2 + 1) tin []) :: (id, .nest (iv + 1) t f none l) :: X.σ, fun k => if k = id2 then none else X.μ k, X.F⟩ := by
  have hne : id2 ≠ id := by rintro rfl; rw [hg] at hg2; cases hg2
  have hO := hI.objs id _ hg
  have hO2 := hI.objs id2 _ hg2
  cases hr with
  | @slc _ _ _ A len cap ep' t' l' hg' hle hcur =>
    rw [hg2] at hg'
    cases hg'
    have hh := hcur rfl
    have hbl : ∀ b', hblk (.slice A len cap) = some b' → Blk X id2 (.arr ep2 tin l2) b' := by
      intro b' hb
      cases A with
      | none => simp [hblk] at hb
      | some a =>
        simp only [hblk] at hb
        split at hb
        · rename_i hc
          cases hb
          cases hm : X.μ id2 with
          | none =>
            rw [hm] at hh
            simp only [Hdr] at hh
            omega
          | some q =>
            obtain ⟨b2, base2, C2⟩ := q
            rw [hm] at hh
            simp only [Hdr] at hh
            obtain ⟨rfl, rfl, hC, a', e, ha⟩ := hh
            cases e
            exact ⟨_, hm, .inl (by rw [ha hc])⟩
        · cases hb
    have hH : RepH X.w X.G (.list .part tin l2) (.slice A len cap) := by
      rcases hO2 with ⟨hm, h0⟩ | ⟨b2, base2, C2, cs2, ty2, hm, q1, q2, q3, q4, q5⟩
      · rw [hm] at hh
        simp only [Hdr] at hh
        obtain ⟨rfl, rfl, _⟩ := hh
        exact ⟨tin, l2, A, 0, rfl, by rw [h0], .inl ⟨rfl, h0⟩⟩
      · rw [hm] at hh
        simp only [Hdr] at hh
        obtain ⟨rfl, rfl, hC, a, rfl, ha⟩ := hh
        refine ⟨tin, l2, some a, _, rfl, rfl, ?_⟩
        rcases Nat.eq_zero_or_pos cap with hc | hc
        · exact .inl ⟨hc, by omega⟩
        · exact .inr ⟨b2, base2, cs2, ty2, by rw [ha hc], hc, q1, q2, q3, q4, q5⟩
    obtain ⟨b, base, C, cs, ty, k1, k2, k3, k4, k5, kf, k6, k7, k8⟩ := hO
    rw [hp] at k1
    cases k1
    have hbn : ∀ b', Blk ⟨X.w, (id2, .arr (ep2 + 1) tin []) :: (id, .nest (iv + 1) t f none l) :: X.σ, fun k => if k = id2 then none else X.μ k, X.F⟩ id (.nest (iv + 1) t f none l) b' →
        Blk X id (.nest iv t f (some i) l) b' ∨ hblk (.slice A len cap) = some b' := by
      intro b' ⟨q, hm, hk⟩
      have hm : (if id = id2 then none else X.μ id) = some q := hm
      rw [if_neg (fun e => hne e.symm), hp] at hm
      cases hm
      rcases hk with hk | ⟨j, v, q1, q2, q3, q4⟩
      · exact .inl ⟨_, hp, .inl hk⟩
      · by_cases hj : j = i
        · subst hj
          have q3 : Vm.hcell X.w (b, base, C) t f j = some v := q3
          rw [hcel] at q3
          cases q3
          exact .inr q4
        · exact .inl ⟨_, hp, .inr ⟨j, v, q1, fun e => hj (Option.some.inj e).symm, q3, q4⟩⟩
    have sep : ∀ b', hblk (.slice A len cap) = some b' → ¬ Blk X id (.nest iv t f (some i) l) b' := fun b' h1 h2 => hne (hI.injB _ _ _ _ _ hg2 hg (hbl b' h1) h2)
    refine two_evo hI hne hg rfl (Nat.lt_succ_self _) rfl (fun o ho => by rw [hg2] at ho; cases ho; exact ⟨_, _, _, _, _, rfl, rfl, Nat.lt_succ_self _⟩) (fun b' hk => ?_) (fun b' hk => ?_) (fun b' hk1 hk2 => ?_) (fun hE => ?_) (fun hE => ?_)
    · rcases hbn b' hk with h1 | h1
      · exact .inl h1
      · exact .inr ⟨_, hg2, hbl b' h1⟩
    · obtain ⟨q, hm, _⟩ := hk
      have hm : (if id2 = id2 then none else X.μ id2) = some q := hm
      simp at hm
    · obtain ⟨q, hm, _⟩ := hk2
      have hm : (if id2 = id2 then none else X.μ id2) = some q := hm
      simp at hm
    · refine ⟨b, base, C, cs, ty, by show (if id = id2 then none else X.μ id) = _; rw [if_neg (fun e => hne e.symm)]; exact hp, k2, k3, k4, k5, kf, fun j x hx jj c hc => ?_, fun a1 a2 v1 v2 b' q1 q2 q3 q4 q5 q6 q7 q8 => ?_, fun a v q1 q2 q3 q4 => ?_⟩
      · obtain ⟨v, q1, q2, q3⟩ := k6 j x hx jj c hc
        refine ⟨v, q1, fun hj => (q2 hj).dat hE.good (enc_dat (List.mem_of_getElem? hc)), fun hj _ => ?_⟩
        subst hj
        by_cases hji : j = i
        · subst hji
          have hx' : x = l[j] := by
            have := List.getElem?_eq_getElem hi
            rw [hx] at this
            exact Option.some.inj this
          subst hx'
          rw [he] at hc
          cases hc
          have := hcell_of (C := C) k2 q1
          rw [hcel] at this
          cases this
          exact hH.keep hE.good (fun _ _ => rfl)
        · exact (q3 rfl (fun e => hji (Option.some.inj e).symm)).keep hE.good (fun _ _ => rfl)
      · by_cases h1 : a1 = i
        · by_cases h2 : a2 = i
          · rw [h1, h2]
          · subst h1
            have q5 : Vm.hcell X.w (b, base, C) t f a1 = some v1 := q5
            rw [hcel] at q5
            cases q5
            exact (sep b' q7 ⟨_, hp, .inr ⟨a2, v2, q2, fun e => h2 (Option.some.inj e).symm, q6, q8⟩⟩).elim
        · by_cases h2 : a2 = i
          · subst h2
            have q6 : Vm.hcell X.w (b, base, C) t f a2 = some v2 := q6
            rw [hcel] at q6
            cases q6
            exact (sep b' q8 ⟨_, hp, .inr ⟨a1, v1, q1, fun e => h1 (Option.some.inj e).symm, q5, q7⟩⟩).elim
          · exact k7 a1 a2 v1 v2 b' q1 q2 (fun e => h1 (Option.some.inj e).symm) (fun e => h2 (Option.some.inj e).symm) q5 q6 q7 q8
      · by_cases h1 : a = i
        · subst h1
          have q3 : Vm.hcell X.w (b, base, C) t f a = some v := q3
          rw [hcel] at q3
          cases q3
          exact sep b q4 ⟨_, hp, .inl rfl⟩
        · exact k8 a v q1 (fun e => h1 (Option.some.inj e).symm) q3 q4
    · exact .inl ⟨by simp, rfl⟩

end Go.Vm
