/-
  The engine, part 16: heads.
-/
import Derived.Test.YtdplodofdfkndaaDoorVm15
namespace Go.Vm
open Go.RowKit (Below)

def slotVals (s : List V) : List (Nat × Pat) → Option (List V)
  | [] => some []
  | (i, _) :: r => match nth s i, slotVals s r with
    | some v, some vs => some (v :: vs)
    | _, _ => none

def boxVals (σ : Store) : List (Nat × List Pat) → Option (List V)
  | [] => some []
  | (id, ps) :: r => match σ.get id, boxVals σ r with
    | some (.box cells), some vs => if cells.length = ps.length then some (cells ++ vs) else none
    | _, _ => none

def setAll (s : List V) : List (Nat × Pat) → List V → List V
  | (i, _) :: r, c :: cs => setAll (s.set i c) r cs
  | _, _ => s

def boxEnts : List (Nat × List Pat) → List V → Ent
  | [], _ => []
  | (id, ps) :: r, cs => (id, some id, .box (cs.take ps.length)) :: boxEnts r (cs.drop ps.length)

def keptEnts (σ : Store) : List Nat → Ent
  | [] => []
  | id :: r => match σ.get id with
    | some o => (id, some id, o) :: keptEnts σ r
    | none => keptEnts σ r

def maskFrom (m : Nat → Bool) : Nat → List V → List V
  | _, [] => []
  | i, v :: r => (if m i then .any else v) :: maskFrom m (i + 1) r

abbrev Ann.pats (a : Ann) : List Pat := a.slots.map (·.2) ++ a.boxes.flatMap (·.2)

/-- Slots that a head does not leave as they are. -/
def Ann.m (a : Ann) (wr : List Nat) (i : Nat) : Bool := wr.contains i || a.slots.any fun x => x.1 == i

/-- The state at a head, after 'st' came there. -/
def head (a : Ann) (wr : List Nat) (st : St) (x : Xs a.pats) : St :=
  ⟨setAll (maskFrom (a.m wr) 0 st.s) a.slots (concL a.pats x),
   objL a.pats x ++ (bare (boxEnts a.boxes ((concL a.pats x).drop a.slots.length)) ++ bare (keptEnts st.σ a.keep))⟩

def keptEq (σ σ' : Store) : List Nat → Prop
  | [] => True
  | id :: r => σ'.get id = σ.get id ∧ keptEq σ σ' r

def keptRefs (ks : List Nat) (σ : Store) : List Nat → Bool
  | [] => true
  | id :: r => (match σ.get id with
    | some (.box cells) => refsInL ks 60 cells
    | _ => true) && keptRefs ks σ r

def ents (a : Ann) (σ : Store) (vs : List V) (x : Xs a.pats) : Ent :=
  entL a.pats vs x ++ (boxEnts a.boxes ((concL a.pats x).drop a.slots.length) ++ keptEnts σ a.keep)

def Ann.ks (a : Ann) : List Nat := a.keep ++ a.boxes.map (·.1)

def offB (ss : List Nat) : List Nat → Bool
  | [] => true
  | i :: r => !ss.contains i && offB ss r

def backOk (a : Ann) (wr : List Nat) (st : St) (vs : List V) (x : Xs a.pats) : Bool :=
  nodupB (keysOf (ents a st.σ vs x)) && nodupB (srcsOf (ents a st.σ vs x)) && offB (srcsOf (ents a st.σ vs x)) (frzAll a.pats vs) &&
    refsInL a.ks 1000 (maskFrom (a.m wr) 0 st.s) && keptRefs a.ks st.σ a.keep

/-- To the head: 'st' came first, 'st'' is there now. -/
def back (pins : List Nat) (a : Ann) (wr : List Nat) (st st' : St) (k : Xs a.pats → Prop) : Prop :=
  match slotVals st'.s a.slots, boxVals st'.σ a.boxes with
  | some vs, some us => match absL st'.σ a.pats (vs ++ us) with
    | some x => if backOk a wr st' (vs ++ us) x && pins.all (fun i => a.ks.contains i) then
        keptEq st.σ st'.σ a.keep ∧ k x
      else False
    | none => False
  | _, _ => False

theorem slotVals_get {s : List V} : ∀ {ps : List (Nat × Pat)} {vs : List V}, slotVals s ps = some vs → vs.length = ps.length ∧ ∀ {k i : Nat} {p : Pat}, ps[k]? = some (i, p) → ∃ v, vs[k]? = some v ∧ s[i]? = some v := by
  intro ps
  induction ps with
  | nil =>
    intro vs h
    simp only [slotVals, Option.some.injEq] at h
    subst h
    exact ⟨rfl, fun h => by simp at h⟩
  | cons q r ih =>
    obtain ⟨j, q⟩ := q
    intro vs h
    simp only [slotVals] at h
    split at h
    · rename_i v vs' hv hvs
      cases h
      obtain ⟨h1, h2⟩ := ih hvs
      refine ⟨by simp [h1], fun {k i p} hk => ?_⟩
      match k with
      | 0 =>
        simp only [List.getElem?_cons_zero, Option.some.injEq, Prod.mk.injEq] at hk
        obtain ⟨rfl, rfl⟩ := hk
        exact ⟨v, rfl, hv⟩
      | k + 1 =>
        obtain ⟨v', k1, k2⟩ := h2 (k := k) (by simpa using hk)
        exact ⟨v', by simpa using k1, k2⟩
    · cases h

theorem setAll_rep {X : Ctx} {us : List Value} : ∀ {ps : List (Nat × Pat)} {s cs : List V}, RepL X s us →
    (∀ {k i : Nat} {p : Pat} {c : V}, ps[k]? = some (i, p) → cs[k]? = some c → ∀ u, us[i]? = some u → Rep X c u) → RepL X (setAll s ps cs) us := by
  intro ps
  induction ps with
  | nil => intro s cs h _; simpa [setAll] using h
  | cons q r ih =>
    obtain ⟨j, q⟩ := q
    intro s cs h hk
    cases cs with
    | nil => simpa [setAll] using h
    | cons c cs =>
      simp only [setAll]
      refine ih ⟨by simpa using h.1, fun i c' u hc hu => ?_⟩ (fun {k i p c'} h1 h2 => hk (k := k + 1) (by simpa using h1) (by simpa using h2))
      rw [List.getElem?_set] at hc
      split at hc
      · rename_i e
        subst e
        split at hc
        · cases hc
          exact hk (k := 0) (i := j) (p := q) rfl rfl u hu
        · cases hc
      · exact h.2 i c' u hc hu

theorem maskFrom_get (m : Nat → Bool) : ∀ (s : List V) (n j : Nat), (maskFrom m n s)[j]? = (s[j]?).map fun v => if m (n + j) then .any else v
  | [], n, j => by simp [maskFrom]
  | v :: r, n, 0 => by simp [maskFrom]
  | v :: r, n, j + 1 => by simp [maskFrom, maskFrom_get m r (n + 1) j, Nat.add_assoc, Nat.add_comm 1 j]

theorem mask_rep {X : Ctx} {m : Nat → Bool} {s : List V} {us : List Value} (h : RepL X s us) : RepL X (maskFrom m 0 s) us := by
  refine ⟨?_, fun j c u hc hu => ?_⟩
  · have : (maskFrom m 0 s).length = s.length := by
      have : ∀ (s : List V) (n : Nat), (maskFrom m n s).length = s.length := by
        intro s
        induction s with
        | nil => intro n; rfl
        | cons v r ih => intro n; simp [maskFrom, ih]
      exact this s 0
    rw [this]; exact h.1
  · rw [maskFrom_get] at hc
    simp only [Option.map_eq_some_iff] at hc
    obtain ⟨v, hv, rfl⟩ := hc
    split
    · exact .any
    · exact h.2 j v u hv hu

theorem offB_spec {ss : List Nat} : ∀ {l : List Nat}, offB ss l = true → ∀ i ∈ l, i ∉ ss
  | [], _, i, h => by simp at h
  | j :: r, hb, i, h => by
    simp only [offB, Bool.and_eq_true, Bool.not_eq_true'] at hb
    simp only [List.mem_cons] at h
    rcases h with rfl | h
    · intro hm
      have := List.contains_iff_mem.2 hm
      rw [this] at hb
      cases hb.1
    · exact offB_spec hb.2 i h

theorem boxVals_get {σ : Store} : ∀ {bs : List (Nat × List Pat)} {vs : List V}, boxVals σ bs = some vs → vs.length = (bs.flatMap (·.2)).length ∧
    ∀ {cs : List V} {e : Nat × Option Nat × Obj}, e ∈ boxEnts bs cs → ∃ id ps cells off, e = (id, some id, .box ((cs.drop off).take ps.length)) ∧ σ.get id = some (.box cells) ∧ cells.length = ps.length ∧
      (vs.drop off).take ps.length = cells ∧ ((bs.flatMap (·.2)).drop off).take ps.length = ps := by
  intro bs
  induction bs with
  | nil =>
    intro vs h
    simp only [boxVals, Option.some.injEq] at h
    subst h
    exact ⟨rfl, fun h => by simp [boxEnts] at h⟩
  | cons b r ih =>
    obtain ⟨id, ps⟩ := b
    intro vs h
    simp only [boxVals] at h
    split at h
    · rename_i cells vs' hg hvs
      split at h
      · rename_i hl
        cases h
        obtain ⟨h1, h2⟩ := ih hvs
        refine ⟨by simp only [List.length_append, List.flatMap_cons, h1, hl], fun {cs e} he => ?_⟩
        simp only [boxEnts, List.mem_cons] at he
        rcases he with rfl | he
        · refine ⟨id, ps, cells, 0, by simp, hg, hl, ?_, by simp⟩
          rw [← hl]; simp
        · obtain ⟨id', ps', cells', off, rfl, k2, k3, k4, k5⟩ := h2 he
          refine ⟨id', ps', cells', ps.length + off, ?_, k2, k3, ?_, ?_⟩
          · rw [List.drop_drop]
          · rw [← k4, ← hl, List.drop_append]
            simp only [Nat.le_add_right, List.drop_eq_nil_of_le, List.nil_append, Nat.add_sub_cancel_left]
          · simp only [List.flatMap_cons]
            rw [List.drop_append]
            simp only [Nat.le_add_right, List.drop_eq_nil_of_le, List.nil_append, Nat.add_sub_cancel_left]
            exact k5
      · cases h
    · cases h

theorem boxVals_key {σ : Store} : ∀ {bs : List (Nat × List Pat)} {vs : List V}, boxVals σ bs = some vs → ∀ {id : Nat}, id ∈ bs.map (·.1) → (∃ cells, σ.get id = some (.box cells)) ∧ ∀ cs, ∃ o, (id, some id, o) ∈ boxEnts bs cs ∧ ∃ cells, o = .box cells := by
  intro bs
  induction bs with
  | nil => intro vs h id hi; simp at hi
  | cons b r ih =>
    obtain ⟨j, ps⟩ := b
    intro vs h id hi
    simp only [boxVals] at h
    split at h
    · rename_i cells vs' hg hvs
      simp only [List.map_cons, List.mem_cons] at hi
      rcases hi with rfl | hi
      · exact ⟨⟨_, hg⟩, fun cs => ⟨_, List.mem_cons_self, _, rfl⟩⟩
      · obtain ⟨h1, h2⟩ := ih hvs hi
        refine ⟨h1, fun cs => ?_⟩
        obtain ⟨o, k1, k2⟩ := h2 (cs.drop ps.length)
        exact ⟨o, by simp [boxEnts, k1], k2⟩
    · cases h

theorem keptEnts_mem {σ : Store} : ∀ {ks : List Nat} {e : Nat × Option Nat × Obj}, e ∈ keptEnts σ ks → ∃ id o, e = (id, some id, o) ∧ id ∈ ks ∧ σ.get id = some o
  | [], e, h => by simp [keptEnts] at h
  | id :: r, e, h => by
    simp only [keptEnts] at h
    split at h
    · rename_i o hg
      simp only [List.mem_cons] at h
      rcases h with rfl | h
      · exact ⟨id, o, rfl, by simp, hg⟩
      · obtain ⟨i, o', h1, h2, h3⟩ := keptEnts_mem h
        exact ⟨i, o', h1, by simp [h2], h3⟩
    · obtain ⟨i, o', h1, h2, h3⟩ := keptEnts_mem h
      exact ⟨i, o', h1, by simp [h2], h3⟩

theorem keptEnts_key {σ : Store} : ∀ {ks : List Nat} {id : Nat} {o : Obj}, id ∈ ks → σ.get id = some o → (id, some id, o) ∈ keptEnts σ ks
  | [], id, o, h, _ => by simp at h
  | i :: r, id, o, h, hg => by
    simp only [List.mem_cons] at h
    simp only [keptEnts]
    rcases h with rfl | h
    · rw [hg]; simp
    · have := keptEnts_key h hg
      split <;> simp [this]

theorem keptRefs_get {ks : List Nat} {σ : Store} : ∀ {l : List Nat}, keptRefs ks σ l = true → ∀ {id : Nat} {cells : List V}, id ∈ l → σ.get id = some (.box cells) → refsInL ks 60 cells = true
  | [], _, id, cells, h, _ => by simp at h
  | i :: r, hk, id, cells, h, hg => by
    simp only [keptRefs, Bool.and_eq_true] at hk
    simp only [List.mem_cons] at h
    rcases h with rfl | h
    · have := hk.1
      rw [hg] at this
      exact this
    · exact keptRefs_get hk.2 h hg

theorem keptEq_ents {σ σ' : Store} : ∀ {l : List Nat}, keptEq σ σ' l → keptEnts σ' l = keptEnts σ l
  | [], _ => rfl
  | i :: r, h => by
    obtain ⟨h1, h2⟩ := h
    simp only [keptEnts, h1, keptEq_ents h2]

/-- Apart from some slots, the same. -/
def Agree (wr : List Nat) (s s' : List V) : Prop := s'.length = s.length ∧ ∀ i, i ∉ wr → s'[i]? = s[i]?

theorem Agree.refl (wr : List Nat) (s : List V) : Agree wr s s := ⟨rfl, fun _ _ => rfl⟩
theorem Agree.trans {wr : List Nat} {s t u : List V} (h : Agree wr s t) (k : Agree wr t u) : Agree wr s u := ⟨k.1.trans h.1, fun i hi => (k.2 i hi).trans (h.2 i hi)⟩
theorem Agree.sub {wr wr' : List Nat} {s t : List V} (h : Agree wr s t) (hs : ∀ i ∈ wr, i ∈ wr') : Agree wr' s t := ⟨h.1, fun i hi => h.2 i fun hm => hi (hs i hm)⟩

theorem maskFrom_len (m : Nat → Bool) : ∀ (s : List V) (n : Nat), (maskFrom m n s).length = s.length
  | [], _ => rfl
  | v :: r, n => by simp [maskFrom, maskFrom_len m r (n + 1)]

theorem mask_same {m : Nat → Bool} {s t : List V} (hl : t.length = s.length) (h : ∀ i, m i = false → t[i]? = s[i]?) : maskFrom m 0 t = maskFrom m 0 s := by
  apply List.ext_getElem?
  intro j
  rw [maskFrom_get, maskFrom_get, Nat.zero_add]
  cases hm : m j with
  | true =>
    simp only [if_true]
    by_cases hlt : j < s.length
    · rw [List.getElem?_eq_getElem hlt, List.getElem?_eq_getElem (hl ▸ hlt)]; rfl
    · rw [List.getElem?_eq_none (by omega), List.getElem?_eq_none (by omega)]
  | false => rw [h j hm]

theorem Ann.m_off {a : Ann} {wr : List Nat} {i : Nat} (h : a.m wr i = false) : i ∉ wr ∧ i ∉ a.slots.map (·.1) := by
  simp only [Ann.m, Bool.or_eq_false_iff, List.any_eq_false, beq_iff_eq] at h
  refine ⟨by simpa using h.1, fun hm => ?_⟩
  obtain ⟨x, hx, e⟩ := List.mem_map.1 hm
  exact h.2 x hx e

theorem setAll_off : ∀ {ps : List (Nat × Pat)} {s cs : List V} {i : Nat}, i ∉ ps.map (·.1) → (setAll s ps cs)[i]? = s[i]?
  | [], s, cs, i, _ => by simp [setAll]
  | (j, p) :: r, s, [], i, _ => by simp [setAll]
  | (j, p) :: r, s, c :: cs, i, h => by
    simp only [List.map_cons, List.mem_cons, not_or] at h
    simp only [setAll]
    rw [setAll_off h.2, List.getElem?_set_ne (fun e => h.1 e.symm)]

theorem setAll_len : ∀ {ps : List (Nat × Pat)} {s cs : List V}, (setAll s ps cs).length = s.length
  | [], s, cs => by simp [setAll]
  | (j, p) :: r, s, [] => by simp [setAll]
  | (j, p) :: r, s, c :: cs => by simp only [setAll]; rw [setAll_len]; simp

/-- A head is the state that came, apart from what turns. -/
theorem head_agree {a : Ann} {wr wr' : List Nat} (hs : ∀ i ∈ wr, i ∈ wr') (hs' : ∀ i ∈ a.slots.map (·.1), i ∈ wr') (st : St) (x : Xs a.pats) : Agree wr' st.s (head a wr st x).s := by
  refine ⟨by simp only [head]; rw [setAll_len, maskFrom_len], fun i hi => ?_⟩
  have h1 : i ∉ wr := fun h => hi (hs i h)
  have h2 : i ∉ a.slots.map (·.1) := fun h => hi (hs' i h)
  simp only [head]
  rw [setAll_off h2, maskFrom_get, Nat.zero_add]
  have : a.m wr i = false := by
    simp only [Ann.m, Bool.or_eq_false_iff, List.any_eq_false, beq_iff_eq]
    refine ⟨by simpa using h1, fun x hx e => h2 ?_⟩
    exact List.mem_map.2 ⟨x, hx, e⟩
  simp [this]

/-- **To a head.** -/
theorem back_ok {B : Nat → Prop} {a : Ann} {wr : List Nat} {st st' : St} {k : Xs a.pats → Prop} {w : World} {μ : Mu} {F : Fr} {us : List Value} {pins : List Nat} (hpins : ∀ e ∈ F.pin, e.1 ∈ pins) (h : back pins a wr st st' k)
    (hmask : maskFrom (a.m wr) 0 st'.s = maskFrom (a.m wr) 0 st.s) (hI : Inv B ⟨w, st'.σ, μ, F⟩) (hr : RepL ⟨w, st'.σ, μ, F⟩ st'.s us) :
    ∃ x μ', k x ∧ Inv B ⟨w, (head a wr st x).σ, μ', F⟩ ∧ RepL ⟨w, (head a wr st x).σ, μ', F⟩ (head a wr st x).s us ∧ ∀ b, Ctx.T0 ⟨w, st'.σ, μ, F⟩ b → Ctx.T0 ⟨w, (head a wr st x).σ, μ', F⟩ b := by
  unfold back at h
  split at h
  · rename_i vs bs hvs hbs
    split at h
    · rename_i x hx
      split at h
      · rename_i hok
        obtain ⟨hkept, hk⟩ := h
        unfold backOk at hok
        simp only [Bool.and_eq_true] at hok
        obtain ⟨⟨⟨⟨⟨n1, n2⟩, n3⟩, n4⟩, n5⟩, n6⟩ := hok
        obtain ⟨sl, sget⟩ := slotVals_get hvs
        obtain ⟨bl, bget⟩ := boxVals_get hbs
        have hσ : (head a wr st x).σ = bare (ents a st'.σ (vs ++ bs) x) := by
          simp only [head, ents, bare_append, entL_bare hx, keptEq_ents hkept]
        have hrs : (head a wr st x).s = setAll (maskFrom (a.m wr) 0 st'.s) a.slots (concL a.pats x) := by
          simp only [head, hmask]
        suffices hgoal : ∃ μ', Inv B ⟨w, bare (ents a st'.σ (vs ++ bs) x), μ', F⟩ ∧ RepL ⟨w, bare (ents a st'.σ (vs ++ bs) x), μ', F⟩ (setAll (maskFrom (a.m wr) 0 st'.s) a.slots (concL a.pats x)) us ∧ ∀ b, Ctx.T0 ⟨w, st'.σ, μ, F⟩ b → Ctx.T0 ⟨w, bare (ents a st'.σ (vs ++ bs) x), μ', F⟩ b by
          obtain ⟨μ', g1, g2, g3⟩ := hgoal
          exact ⟨x, μ', hk, by rw [hσ]; exact g1, by rw [hσ, hrs]; exact g2, by rw [hσ]; exact g3⟩
        generalize hL : ents a st'.σ (vs ++ bs) x = L at n1 n2 n3
        have hml : ∀ {e}, e ∈ L ↔ e ∈ entL a.pats (vs ++ bs) x ∨ e ∈ boxEnts a.boxes ((concL a.pats x).drop a.slots.length) ∨ e ∈ keptEnts st'.σ a.keep := by
          intro e; rw [← hL]; simp [ents]
        -- where things come from
        have hF : FromOk ⟨w, st'.σ, μ, F⟩ L := by
          intro i s o hm
          rcases hml.1 hm with hm | hm | hm
          · obtain ⟨kk, p, v, y, k1, k2, k3, k4⟩ := entL_mem hx hm
            cases p with
            | slc id t =>
              simp only [absP] at k3
              split at k3
              · cases k3
                simp only [entP, List.mem_singleton, Prod.mk.injEq] at k4
                obtain ⟨rfl, rfl, rfl⟩ := k4
                exact ⟨0, t, rfl⟩
              · rename_i src ep
                split at k3
                · rename_i ep' t' l hg
                  split at k3
                  · split at k3
                    · rename_i e
                      subst e
                      cases k3
                      simp only [entP, List.mem_singleton, Prod.mk.injEq] at k4
                      obtain ⟨rfl, rfl, rfl⟩ := k4
                      exact ⟨_, hg, .inl ⟨_, _, _, _, rfl, rfl⟩⟩
                    · cases k3
                  · cases k3
                · cases k3
              · cases k3
            | nst id t f =>
              simp only [absP] at k3
              split at k3
              · rename_i src
                split at k3
                · rename_i iv t' f' l hg
                  split at k3
                  · rename_i e1
                    subst e1
                    split at k3
                    · rename_i e
                      subst e
                      cases k3
                      simp only [entP, List.mem_singleton, Prod.mk.injEq] at k4
                      obtain ⟨rfl, rfl, rfl⟩ := k4
                      exact ⟨_, hg, .inr (.inr ⟨_, _, _, _, _, _, rfl, rfl⟩)⟩
                    · cases k3
                  · cases k3
                · cases k3
              · cases k3
            | _ => simp [entP] at k4
          · obtain ⟨id, ps, cells, off, e, k2, k3, k4, k5⟩ := bget hm
            cases e
            exact ⟨_, k2, .inr (.inl ⟨_, _, rfl, rfl⟩)⟩
          · obtain ⟨id, o', e, k2, k3⟩ := keptEnts_mem hm
            cases e
            refine ⟨_, k3, ?_⟩
            cases o with
            | box cells => exact .inr (.inl ⟨_, _, rfl, rfl⟩)
            | arr ep t l => exact .inl ⟨_, _, _, _, rfl, rfl⟩
            | nest iv t f h l => exact .inr (.inr ⟨_, _, _, _, _, _, rfl, rfl⟩)
        -- what is kept
        have hA : Anew a.ks ⟨w, st'.σ, μ, F⟩ (Ctx.to ⟨w, st'.σ, μ, F⟩ L) := by
          refine ⟨rfl, rfl, fun b hb => to_T hF hb, fun id hi cells hg => ?_, fun id hi ep t l hg => ?_, fun id hi iv t f h l hg => ?_⟩
          · simp only [Ann.ks, List.mem_append] at hi
            rcases hi with hi | hi
            · obtain ⟨k1, k2⟩ := mem_get n1 (hml.2 (.inr (.inr (keptEnts_key hi hg))))
              exact ⟨⟨_, k1⟩, by simp [muOf, k2]⟩
            · obtain ⟨_, hb⟩ := boxVals_key hbs hi
              obtain ⟨o, k1, cells', rfl⟩ := hb ((concL a.pats x).drop a.slots.length)
              obtain ⟨k1, k2⟩ := mem_get n1 (hml.2 (.inr (.inl k1)))
              exact ⟨⟨_, k1⟩, by simp [muOf, k2]⟩
          · simp only [Ann.ks, List.mem_append] at hi
            rcases hi with hi | hi
            · obtain ⟨k1, k2⟩ := mem_get n1 (hml.2 (.inr (.inr (keptEnts_key hi hg))))
              exact ⟨k1, by simp [muOf, k2]⟩
            · obtain ⟨⟨cells, hb⟩, _⟩ := boxVals_key hbs hi
              rw [show st'.σ.get id = _ from hg] at hb
              cases hb
          · simp only [Ann.ks, List.mem_append] at hi
            rcases hi with hi | hi
            · obtain ⟨k1, k2⟩ := mem_get n1 (hml.2 (.inr (.inr (keptEnts_key hi hg))))
              exact ⟨k1, by simp [muOf, k2]⟩
            · obtain ⟨⟨cells, hb⟩, _⟩ := boxVals_key hbs hi
              rw [show st'.σ.get id = _ from hg] at hb
              cases hb
        -- what patterns read
        have hpat : ∀ {kk : Nat} {p : Pat} {v : V} {c : V} {u : Value}, a.pats[kk]? = some p → (vs ++ bs)[kk]? = some v → (concL a.pats x)[kk]? = some c → Rep ⟨w, st'.σ, μ, F⟩ v u → Rep (Ctx.to ⟨w, st'.σ, μ, F⟩ L) c u := by
          intro kk p v c u hp hv hc hru
          obtain ⟨y, k1, k2, k3, k4⟩ := absL_get hx hp hv
          rw [k2] at hc
          cases hc
          exact pat_rep hI hF k1 hru (fun e he => mem_get n1 (hml.2 (.inl (k3 e he)))) (fun i hi => offB_spec n3 i (k4 i hi))
        refine ⟨muOf L μ, to_inv hI hF n2 (fun e he => ?_) (fun i src cells cells' hm hg ws hw => ?_), setAll_rep (RepL.anew hA (mask_rep hr) n4) (fun {kk i p c} hp hc u hu => ?_), fun b hb => to_T0 hF hb⟩
        · have hi : e.1 ∈ a.ks := List.contains_iff_mem.1 (List.all_eq_true.1 n6 _ (hpins e he))
          obtain ⟨⟨cells, hg⟩, hm⟩ := hI.marks.pin e he
          simp only [Ann.ks, List.mem_append] at hi
          rcases hi with hi | hi
          · obtain ⟨k1, k2⟩ := mem_get n1 (hml.2 (.inr (.inr (keptEnts_key hi hg))))
            exact ⟨⟨_, k1⟩, k2⟩
          · obtain ⟨_, hb⟩ := boxVals_key hbs hi
            obtain ⟨o, k1, cells', rfl⟩ := hb ((concL a.pats x).drop a.slots.length)
            obtain ⟨k1, k2⟩ := mem_get n1 (hml.2 (.inr (.inl k1)))
            exact ⟨⟨_, k1⟩, k2⟩
        · rcases hml.1 hm with hm | hm | hm
          · obtain ⟨kk, p, v, y, k1, k2, k3, k4⟩ := entL_mem hx hm
            cases p with
            | slc id t =>
              simp only [entP] at k4
              split at k4 <;> simp at k4
            | nst id t f =>
              simp only [entP] at k4
              split at k4 <;> simp at k4
            | _ => simp [entP] at k4
          · obtain ⟨id, ps, cells2, off, e, k2, k3, k4, k5⟩ := bget hm
            cases e
            simp only at hg; rw [hg] at k2
            cases k2
            have hlen := concL_len a.pats x
            have hbx : a.pats.length = a.slots.length + (a.boxes.flatMap (·.2)).length := by simp [Ann.pats]
            have hoff : off + ps.length ≤ (a.boxes.flatMap (·.2)).length ∨ ps.length = 0 := by
              have := congrArg List.length k5
              simp only [List.length_take, List.length_drop] at this
              omega
            refine ⟨?_, fun j c u hc hu => ?_⟩
            · rw [hw.1, k3]
              simp only [List.length_take, List.length_drop]
              omega
            · have hj : j < ps.length := by
                have := (List.getElem?_eq_some_iff.1 hc).1
                simp only [List.length_take] at this
                omega
              rw [List.getElem?_take, if_pos hj, List.getElem?_drop, List.getElem?_drop] at hc
              obtain ⟨v, hv⟩ : ∃ v, cells'[j]? = some v := ⟨_, List.getElem?_eq_getElem (by omega)⟩
              have hv2 := hv
              rw [← k4, List.getElem?_take, if_pos hj, List.getElem?_drop] at hv2
              obtain ⟨pj, hp⟩ : ∃ pj, ps[j]? = some pj := ⟨_, List.getElem?_eq_getElem hj⟩
              have hp2 : (a.boxes.flatMap (·.2))[off + j]? = some pj := by
                have := congrArg (·[j]?) k5
                simp only [List.getElem?_take, if_pos hj, List.getElem?_drop] at this
                rw [this]; exact hp
              refine hpat (kk := a.slots.length + (off + j)) (p := pj) (v := v) (c := c) ?_ ?_ hc (hw.2 j v u hv hu)
              · rw [List.getElem?_append_right (by simp)]
                simp only [List.length_map, Nat.add_sub_cancel_left]
                exact hp2
              · rw [List.getElem?_append_right (by omega), sl, Nat.add_sub_cancel_left]
                exact hv2
          · obtain ⟨id, o', e, k2, k3⟩ := keptEnts_mem hm
            cases e
            simp only at hg; rw [hg] at k3
            cases k3
            exact RepL.anew hA hw (keptRefs_get n5 k2 hg)
        · obtain ⟨v, k1, k2⟩ := sget hp
          have hkk : kk < a.slots.length := (List.getElem?_eq_some_iff.1 hp).1
          refine hpat (kk := kk) (p := p) (v := v) ?_ ?_ hc (hr.2 i v u k2 hu)
          · rw [List.getElem?_append_left (by simpa using hkk)]
            simp [hp]
          · rw [List.getElem?_append_left (by omega)]
            exact k1
      · exact h.elim
    · exact h.elim
  · exact h.elim

end Go.Vm
