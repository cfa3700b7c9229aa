/-
  The engine, part 12: what is handed back, taken into the caller's store; the call.
-/
import Derived.Test.YtdplodofdfkndaaDoorVm11
namespace Go.Vm
open Go.RowKit (Below)

section
variable {X' X : Ctx} {L : List Nat} {g : Nat → Nat}

/-- All of one store stands in another. -/
def Sub (s σ : Store) : Prop := ∀ p ∈ s, Store.get σ p.1 = some p.2

/-- How the callee's memory is seen by the caller. -/
structure Takes (X' X : Ctx) (L : List Nat) (g : Nat → Nat) : Prop where
  w : X.w = X'.w
  good : ∀ b, X'.G b → X.G b
  μ : ∀ (i : Nat) id, L[i]? = some id → X.μ (g i) = X'.μ id

theorem Takes.rows (h : Takes X' X L g) {t : Ty} {l : List t.den} {cell : Nat → Option Value} (hr : RowsAt X'.w X'.G t l cell) : RowsAt X.w X.G t l cell := by
  intro i x hx
  obtain ⟨row, r1, r2⟩ := hr i x hx
  exact ⟨row, r1.keep (fun b hb => ⟨h.good b hb, by rw [h.w]⟩), r2⟩

mutual
theorem expo_ok {B : Nat → Prop} (hI : Inv B X') (hT : Takes X' X L g) : ∀ {n j : Nat} {v r r' : V} {new : Store} {j' : Nat}, own X'.σ n v = some r → expo g n j r = some (r', new, j') →
    (∀ (i : Nat) id, (ids X'.σ n v)[i]? = some id → L[j + i]? = some id) → Sub new X.σ →
    (∀ u, Rep X' v u → Rep X r' u) ∧ (∀ p ∈ new, ObjOk X p.1 p.2) ∧ j' = j + (ids X'.σ n v).length ∧ new.map (·.1) = (List.range (ids X'.σ n v).length).map fun i => g (j + i)
  | 0, j, v, r, r', new, j', h, _, _, _ => by simp [own] at h
  | n + 1, j, v, r, r', new, j', h, he, hL, hS => by
    unfold own at h
    split at h
    · rename_i id ep
      split at h
      · rename_i ep' t l hg
        split at h
        · rename_i hep
          simp only [Option.some.injEq] at h
          subst h
          simp only [expo, Option.some.injEq, Prod.mk.injEq] at he
          obtain ⟨rfl, rfl, rfl⟩ := he
          have hid : L[j]? = some id := by have := hL 0 id (by simp [ids]); simpa using this
          have hmu := hT.μ j id hid
          have hget : X.σ.get (g j) = some (.arr 0 t l) := hS (g j, .arr 0 t l) (by simp)
          refine ⟨fun u hr => ?_, fun p hp => ?_, by simp [ids], by simp [ids]⟩
          · obtain ⟨A, len, cap, ep2, t2, l2, rfl, hg', hle, hcur⟩ := hr.slc_inv
            rw [hg] at hg'
            cases hg'
            refine .slc hget (Nat.le_refl _) (fun _ => ?_)
            rw [hmu]
            exact hcur hep
          · simp only [List.mem_singleton] at hp
            subst hp
            rcases hI.objs id _ hg with ⟨h1, h2⟩ | ⟨b, base, C, cs, ty, h1, h2, h3, h4, h5, h6⟩
            · exact .inl ⟨by simp only; rw [hmu]; exact h1, h2⟩
            · refine .inr ⟨b, base, C, cs, ty, by simp only; rw [hmu]; exact h1, by rw [hT.w]; exact h2, h3, h4, h5, fun i x hx => ?_⟩
              obtain ⟨row, r1, r2⟩ := h6 i x hx
              exact ⟨row, r1.keep (fun b hb => ⟨hT.good b hb, by rw [hT.w]⟩), r2⟩
        · cases h
      · cases h
    · rename_i id
      split at h
      · rename_i cells hg
        simp only [Option.map_eq_some_iff] at h
        obtain ⟨cs, ho, rfl⟩ := h
        simp only [expo] at he
        split at he
        · rename_i cs' s' j2 hex
          simp only [Option.some.injEq, Prod.mk.injEq] at he
          obtain ⟨rfl, rfl, rfl⟩ := he
          have hids : ids X'.σ (n + 1) (.ptr id 0) = id :: idsL X'.σ n cells := by simp [ids, hg]
          have hid : L[j]? = some id := by have := hL 0 id (by rw [hids]; simp); simpa using this
          have hmu := hT.μ j id hid
          have hget : X.σ.get (g j) = some (.box cs') := hS (g j, .box cs') (by simp)
          obtain ⟨c1, c2, c3, c4⟩ := expoL_ok hI hT ho hex (fun i id' hi => by have := hL (i + 1) id' (by rw [hids]; simpa using hi); rw [show j + 1 + i = j + (i + 1) by omega]; exact this) (fun p hp => hS p (by simp [hp]))
          refine ⟨fun u hr => ?_, fun p hp => ?_, by rw [hids]; simp; omega, ?_⟩
          · obtain ⟨cells', b, base, C, rfl, hg', hm⟩ := hr.ptr_inv
            exact .ptr hget (hmu.trans hm)
          · rcases List.mem_cons.1 hp with rfl | hp
            · obtain ⟨b, ws, ty, h1, h2, h3⟩ := hI.objs id _ hg
              exact ⟨b, ws, ty, hmu.trans h1, by rw [hT.w]; exact h2, c1 _ h3⟩
            · exact c2 p hp
          · rw [hids, List.map_cons, c4, List.length_cons, List.range_succ_eq_map, List.map_cons, List.map_map]
            simp only [Nat.add_zero, List.cons.injEq, true_and]
            apply List.map_congr_left
            intro i _
            simp only [Function.comp]
            congr 1
            omega
        · cases he
      · cases h
    · rename_i kd t l
      split at h
      · cases h
      · rename_i hk
        simp only [Option.some.injEq] at h
        subst h
        simp only [expo, if_neg hk, Option.some.injEq, Prod.mk.injEq] at he
        obtain ⟨rfl, rfl, rfl⟩ := he
        refine ⟨fun u hr => ?_, fun p hp => by simp at hp, by simp [ids], by simp [ids]⟩
        obtain ⟨A, cap, rfl, hc, hf⟩ := hr.list_inv
        have hG : ∀ b, X'.H kd b → X.H kd b ∧ X.w.heap[b]? = X'.w.heap[b]? := fun b hb => by
          have := hT.good b ⟨hb.1, hb.2 hk⟩
          exact ⟨⟨this.1, fun _ => this.2⟩, by rw [hT.w]⟩
        exact .list (hc.keep (fun b hb => ⟨hT.good b hb, by rw [hT.w]⟩) hG) hf
    · simp only [Option.map_eq_some_iff] at h
      obtain ⟨cs, ho, rfl⟩ := h
      simp [expo] at he
    · rename_i cells
      simp only [Option.map_eq_some_iff] at h
      obtain ⟨cs, ho, rfl⟩ := h
      simp only [expo] at he
      split at he
      · rename_i cs' s' j2 hex
        simp only [Option.some.injEq, Prod.mk.injEq] at he
        obtain ⟨rfl, rfl, rfl⟩ := he
        obtain ⟨c1, c2, c3, c4⟩ := expoL_ok hI hT ho hex (fun i id' hi => hL i id' (by simpa [ids] using hi)) hS
        refine ⟨fun u hr => ?_, c2, by simpa [ids] using c3, by simpa [ids] using c4⟩
        obtain ⟨vs, rfl, hl⟩ := hr.agg_inv
        exact (c1 _ hl).agg
      · cases he
    · rename_i cells
      simp only [Option.map_eq_some_iff] at h
      obtain ⟨cs, ho, rfl⟩ := h
      simp only [expo] at he
      split at he
      · rename_i cs' s' j2 hex
        simp only [Option.some.injEq, Prod.mk.injEq] at he
        obtain ⟨rfl, rfl, rfl⟩ := he
        obtain ⟨c1, c2, c3, c4⟩ := expoL_ok hI hT ho hex (fun i id' hi => hL i id' (by simpa [ids] using hi)) hS
        refine ⟨fun u hr => ?_, c2, by simpa [ids] using c3, by simpa [ids] using c4⟩
        obtain ⟨vs, rfl, hl⟩ := hr.tuple_inv
        have := c1 _ hl
        exact .tuple (by simpa using this.1) (fun j c x hc hx => this.2 j c x hc (by simpa using hx))
      · cases he
    · rename_i f a b
      split at h
      · rename_i a' b' ha hb
        simp only [Option.some.injEq] at h
        subst h
        simp only [expo] at he
        split at he
        · rename_i a2 s2 j2 hea
          split at he
          · rename_i b2 s3 j3 heb
            simp only [Option.some.injEq, Prod.mk.injEq] at he
            obtain ⟨rfl, rfl, rfl⟩ := he
            have hids : ids X'.σ (n + 1) (.fn f a b) = idsL X'.σ n a ++ idsL X'.σ n b := by simp [ids]
            rw [hids] at hL ⊢
            obtain ⟨c1, c2, c3, c4⟩ := expoL_ok hI hT ha hea (fun i id' hi => hL i id' (by rw [List.getElem?_append_left (List.getElem?_eq_some_iff.1 hi).1]; exact hi)) (fun p hp => hS p (by simp [hp]))
            obtain ⟨d1, d2, d3, d4⟩ := expoL_ok hI hT hb heb (fun i id' hi => by
              have := hL ((idsL X'.σ n a).length + i) id' (by rw [List.getElem?_append_right (by omega)]; simpa using hi)
              rw [c3, Nat.add_assoc]; exact this) (fun p hp => hS p (by simp [hp]))
            refine ⟨fun u hr => ?_, fun p hp => ?_, by rw [List.length_append]; omega, ?_⟩
            · obtain ⟨vs, ws, rfl, h1, h2⟩ := hr.fn_inv
              have l1 := c1 _ h1
              have l2 := d1 _ h2
              exact .fn (by simpa using l1.1) (by simpa using l2.1) (fun j c x hc hx => l1.2 j c x hc (by simpa using hx)) (fun j c x hc hx => l2.2 j c x hc (by simpa using hx))
            · rcases List.mem_append.1 hp with hp | hp
              · exact c2 p hp
              · exact d2 p hp
            · rw [List.map_append, c4, d4, List.length_append, List.range_add, List.map_append, List.map_map]
              congr 1
              apply List.map_congr_left
              intro i _
              simp only [Function.comp, c3]
              congr 1
              omega
          · cases he
        · cases he
      · cases h
    all_goals first
      | (cases h; done)
      | (simp only [Option.some.injEq] at h
         subst h
         simp only [expo, Option.some.injEq, Prod.mk.injEq] at he
         obtain ⟨rfl, rfl, rfl⟩ := he
         refine ⟨fun u hr => ?_, fun p hp => by simp at hp, by simp [ids], by simp [ids]⟩
         cases hr <;> first | exact .any | exact .kb | exact .bool | exact .int | (exact .str (by assumption)) | exact .nilp | exact .nils | exact .nilm | exact .nilf | exact .nili | exact .errN | exact .errS)
theorem expoL_ok {B : Nat → Prop} (hI : Inv B X') (hT : Takes X' X L g) : ∀ {n j : Nat} {vs rs rs' : List V} {new : Store} {j' : Nat}, ownL X'.σ n vs = some rs → expoL g n j rs = some (rs', new, j') →
    (∀ (i : Nat) id, (idsL X'.σ n vs)[i]? = some id → L[j + i]? = some id) → Sub new X.σ →
    (∀ us, RepL X' vs us → RepL X rs' us) ∧ (∀ p ∈ new, ObjOk X p.1 p.2) ∧ j' = j + (idsL X'.σ n vs).length ∧ new.map (·.1) = (List.range (idsL X'.σ n vs).length).map fun i => g (j + i)
  | 0, j, vs, rs, rs', new, j', h, _, _, _ => by simp [ownL] at h
  | n + 1, j, [], rs, rs', new, j', h, he, hL, hS => by
    simp only [ownL, Option.some.injEq] at h
    subst h
    simp only [expoL, Option.some.injEq, Prod.mk.injEq] at he
    obtain ⟨rfl, rfl, rfl⟩ := he
    exact ⟨fun us hr => by rw [hr.nil_inv]; exact .nil, fun p hp => by simp at hp, by simp [idsL], by simp [idsL]⟩
  | n + 1, j, v :: vs, rs, rs', new, j', h, he, hL, hS => by
    unfold ownL at h
    split at h
    · rename_i v1 r1 hv hr1
      simp only [Option.some.injEq] at h
      subst h
      simp only [expoL] at he
      split at he
      · rename_i a2 s2 j2 hea
        split at he
        · rename_i b2 s3 j3 heb
          simp only [Option.some.injEq, Prod.mk.injEq] at he
          obtain ⟨rfl, rfl, rfl⟩ := he
          have hids : idsL X'.σ (n + 1) (v :: vs) = ids X'.σ n v ++ idsL X'.σ n vs := by simp [idsL]
          rw [hids] at hL ⊢
          obtain ⟨c1, c2, c3, c4⟩ := expo_ok hI hT hv hea (fun i id' hi => hL i id' (by rw [List.getElem?_append_left (List.getElem?_eq_some_iff.1 hi).1]; exact hi)) (fun p hp => hS p (by simp [hp]))
          obtain ⟨d1, d2, d3, d4⟩ := expoL_ok hI hT hr1 heb (fun i id' hi => by
            have := hL ((ids X'.σ n v).length + i) id' (by rw [List.getElem?_append_right (by omega)]; simpa using hi)
            rw [c3, Nat.add_assoc]; exact this) (fun p hp => hS p (by simp [hp]))
          refine ⟨fun us hr => ?_, fun p hp => ?_, by rw [List.length_append]; omega, ?_⟩
          · obtain ⟨u, us', rfl, h1, h2⟩ := hr.cons_inv
            exact .cons (c1 _ h1) (d1 _ h2)
          · rcases List.mem_append.1 hp with hp | hp
            · exact c2 p hp
            · exact d2 p hp
          · rw [List.map_append, c4, d4, List.length_append, List.range_add, List.map_append, List.map_map]
            congr 1
            apply List.map_congr_left
            intro i _
            simp only [Function.comp, c3]
            congr 1
            omega
        · cases he
      · cases he
    · cases h
end

theorem allFresh_spec : ∀ {new σ : Store}, allFresh σ new = true → (∀ p ∈ new, σ.get p.1 = none) ∧ (new.map (·.1)).Nodup ∧ ∀ p ∈ new, isNest (some p.2) = false
  | [], σ, _ => ⟨fun p hp => by simp at hp, by simp, fun p hp => by simp at hp⟩
  | (i, o) :: r, σ, h => by
    simp only [allFresh, Bool.and_eq_true, Bool.not_eq_true'] at h
    obtain ⟨⟨h1, hfl⟩, h2⟩ := h
    have h0 := isFresh_none h1
    obtain ⟨k1, k2, k3⟩ := allFresh_spec h2
    have hne : ∀ p ∈ r, p.1 ≠ i ∧ σ.get p.1 = none := fun p hp => by
      have := k1 p hp
      rw [get_cons] at this
      split at this
      · cases this
      · rename_i hne
        exact ⟨fun e => hne e.symm, this⟩
    refine ⟨fun p hp => ?_, ?_, fun p hp => ?_⟩
    · rcases List.mem_cons.1 hp with rfl | hp
      · exact h0
      · exact (hne p hp).2
    · rw [List.map_cons, List.nodup_cons]
      refine ⟨fun hm => ?_, k2⟩
      obtain ⟨p, hp, e⟩ := List.mem_map.1 hm
      exact (hne p hp).1 e
    · rcases List.mem_cons.1 hp with rfl | hp
      · exact hfl
      · exact k3 p hp

theorem get_append_in : ∀ {new σ : Store}, (new.map (·.1)).Nodup → ∀ p ∈ new, Store.get (new ++ σ) p.1 = some p.2
  | [], _, _, p, hp => by simp at hp
  | (i, o) :: r, σ, h, p, hp => by
    rw [List.map_cons, List.nodup_cons] at h
    rw [List.cons_append, get_cons]
    rcases List.mem_cons.1 hp with rfl | hp
    · rw [if_pos rfl]
    · rw [if_neg (fun e => h.1 (List.mem_map.2 ⟨p, hp, e.symm⟩))]
      exact get_append_in h.2 p hp

theorem get_append_out : ∀ {new σ : Store} {k : Nat}, (∀ p ∈ new, p.1 ≠ k) → Store.get (new ++ σ) k = σ.get k
  | [], _, _, _ => rfl
  | (i, o) :: r, σ, k, h => by
    rw [List.cons_append, get_cons, if_neg (h (i, o) (by simp))]
    exact get_append_out fun p hp => h p (by simp [hp])

theorem get_append_cases {new σ : Store} {k : Nat} {o : Obj} (h : Store.get (new ++ σ) k = some o) : (∃ p ∈ new, p.1 = k) ∨ σ.get k = some o := by
  by_cases hk : ∃ p ∈ new, p.1 = k
  · exact .inl hk
  · refine .inr ?_
    rw [get_append_out (fun p hp e => hk ⟨p, hp, e⟩)] at h
    exact h

mutual
theorem ids_live {σ : Store} : ∀ {n : Nat} {v r : V}, own σ n v = some r → ∀ id ∈ ids σ n v, ∃ o, σ.get id = some o
  | 0, v, r, h, _, _ => by simp [own] at h
  | n + 1, v, r, h, id, hid => by
    unfold own at h
    split at h
    · rename_i id' ep
      simp only [ids, List.mem_singleton] at hid
      subst hid
      split at h
      · rename_i hg; exact ⟨_, hg⟩
      · cases h
    · rename_i id'
      split at h
      · rename_i cells hg
        simp only [Option.map_eq_some_iff] at h
        obtain ⟨cs, ho, rfl⟩ := h
        simp only [ids, hg, List.mem_cons] at hid
        rcases hid with rfl | hid
        · exact ⟨_, hg⟩
        · exact idsL_live ho id hid
      · cases h
    · simp [ids] at hid
    · simp [ids] at hid
    · simp only [Option.map_eq_some_iff] at h
      obtain ⟨cs, ho, rfl⟩ := h
      exact idsL_live ho id (by simpa [ids] using hid)
    · simp only [Option.map_eq_some_iff] at h
      obtain ⟨cs, ho, rfl⟩ := h
      exact idsL_live ho id (by simpa [ids] using hid)
    · split at h
      · rename_i a' b' ha hb
        simp only [ids, List.mem_append] at hid
        rcases hid with hid | hid
        · exact idsL_live ha id hid
        · exact idsL_live hb id hid
      · cases h
    all_goals first
      | (simp [ids] at hid; done)
      | (cases h; done)
theorem idsL_live {σ : Store} : ∀ {n : Nat} {vs rs : List V}, ownL σ n vs = some rs → ∀ id ∈ idsL σ n vs, ∃ o, σ.get id = some o
  | 0, vs, rs, h, _, _ => by simp [ownL] at h
  | n + 1, [], rs, h, id, hid => by simp [idsL] at hid
  | n + 1, v :: vs, rs, h, id, hid => by
    unfold ownL at h
    split at h
    · rename_i v1 r1 hv hr1
      simp only [idsL, List.mem_append] at hid
      rcases hid with hid | hid
      · exact ids_live hv id hid
      · exact idsL_live hr1 id hid
    · cases h
end

mutual
theorem expo_keys {σ : Store} {g : Nat → Nat} : ∀ {n j : Nat} {v r r' : V} {new : Store} {j' : Nat}, own σ n v = some r → expo g n j r = some (r', new, j') →
    j' = j + (ids σ n v).length ∧ new.map (·.1) = (List.range (ids σ n v).length).map fun i => g (j + i)
  | 0, j, v, r, r', new, j', h, _ => by simp [own] at h
  | n + 1, j, v, r, r', new, j', h, he => by
    unfold own at h
    split at h
    · rename_i id ep
      split at h
      · split at h
        · simp only [Option.some.injEq] at h
          subst h
          simp only [expo, Option.some.injEq, Prod.mk.injEq] at he
          obtain ⟨rfl, rfl, rfl⟩ := he
          exact ⟨by simp [ids], by simp [ids]⟩
        · cases h
      · cases h
    · rename_i id
      split at h
      · rename_i cells hg
        simp only [Option.map_eq_some_iff] at h
        obtain ⟨cs, ho, rfl⟩ := h
        simp only [expo] at he
        split at he
        · rename_i cs' s' j2 hex
          simp only [Option.some.injEq, Prod.mk.injEq] at he
          obtain ⟨rfl, rfl, rfl⟩ := he
          have hids : ids σ (n + 1) (.ptr id 0) = id :: idsL σ n cells := by simp [ids, hg]
          obtain ⟨c3, c4⟩ := expoL_keys ho hex
          refine ⟨by rw [hids]; simp; omega, ?_⟩
          rw [hids, List.map_cons, c4, List.length_cons, List.range_succ_eq_map, List.map_cons, List.map_map]
          simp only [Nat.add_zero, List.cons.injEq, true_and]
          apply List.map_congr_left
          intro i _
          simp only [Function.comp]
          congr 1
          omega
        · cases he
      · cases h
    · rename_i kd t l
      split at h
      · cases h
      · rename_i hk
        simp only [Option.some.injEq] at h
        subst h
        simp only [expo, if_neg hk, Option.some.injEq, Prod.mk.injEq] at he
        obtain ⟨rfl, rfl, rfl⟩ := he
        exact ⟨by simp [ids], by simp [ids]⟩
    · simp only [Option.map_eq_some_iff] at h
      obtain ⟨cs, ho, rfl⟩ := h
      simp [expo] at he
    · rename_i cells
      simp only [Option.map_eq_some_iff] at h
      obtain ⟨cs, ho, rfl⟩ := h
      simp only [expo] at he
      split at he
      · rename_i cs' s' j2 hex
        simp only [Option.some.injEq, Prod.mk.injEq] at he
        obtain ⟨rfl, rfl, rfl⟩ := he
        have := expoL_keys ho hex
        simpa [ids] using this
      · cases he
    · rename_i cells
      simp only [Option.map_eq_some_iff] at h
      obtain ⟨cs, ho, rfl⟩ := h
      simp only [expo] at he
      split at he
      · rename_i cs' s' j2 hex
        simp only [Option.some.injEq, Prod.mk.injEq] at he
        obtain ⟨rfl, rfl, rfl⟩ := he
        have := expoL_keys ho hex
        simpa [ids] using this
      · cases he
    · rename_i f a b
      split at h
      · rename_i a' b' ha hb
        simp only [Option.some.injEq] at h
        subst h
        simp only [expo] at he
        split at he
        · rename_i a2 s2 j2 hea
          split at he
          · rename_i b2 s3 j3 heb
            simp only [Option.some.injEq, Prod.mk.injEq] at he
            obtain ⟨rfl, rfl, rfl⟩ := he
            have hids : ids σ (n + 1) (.fn f a b) = idsL σ n a ++ idsL σ n b := by simp [ids]
            rw [hids]
            obtain ⟨c3, c4⟩ := expoL_keys ha hea
            obtain ⟨d3, d4⟩ := expoL_keys hb heb
            refine ⟨by rw [List.length_append]; omega, ?_⟩
            rw [List.map_append, c4, d4, List.length_append, List.range_add, List.map_append, List.map_map]
            congr 1
            apply List.map_congr_left
            intro i _
            simp only [Function.comp, c3]
            congr 1
            omega
          · cases he
        · cases he
      · cases h
    all_goals first
      | (cases h; done)
      | (simp only [Option.some.injEq] at h
         subst h
         simp only [expo, Option.some.injEq, Prod.mk.injEq] at he
         obtain ⟨rfl, rfl, rfl⟩ := he
         exact ⟨by simp [ids], by simp [ids]⟩)
theorem expoL_keys {σ : Store} {g : Nat → Nat} : ∀ {n j : Nat} {vs rs rs' : List V} {new : Store} {j' : Nat}, ownL σ n vs = some rs → expoL g n j rs = some (rs', new, j') →
    j' = j + (idsL σ n vs).length ∧ new.map (·.1) = (List.range (idsL σ n vs).length).map fun i => g (j + i)
  | 0, j, vs, rs, rs', new, j', h, _ => by simp [ownL] at h
  | n + 1, j, [], rs, rs', new, j', h, he => by
    simp only [ownL, Option.some.injEq] at h
    subst h
    simp only [expoL, Option.some.injEq, Prod.mk.injEq] at he
    obtain ⟨rfl, rfl, rfl⟩ := he
    exact ⟨by simp [idsL], by simp [idsL]⟩
  | n + 1, j, v :: vs, rs, rs', new, j', h, he => by
    unfold ownL at h
    split at h
    · rename_i v1 r1 hv hr1
      simp only [Option.some.injEq] at h
      subst h
      simp only [expoL] at he
      split at he
      · rename_i a2 s2 j2 hea
        split at he
        · rename_i b2 s3 j3 heb
          simp only [Option.some.injEq, Prod.mk.injEq] at he
          obtain ⟨rfl, rfl, rfl⟩ := he
          have hids : idsL σ (n + 1) (v :: vs) = ids σ n v ++ idsL σ n vs := by simp [idsL]
          rw [hids]
          obtain ⟨c3, c4⟩ := expo_keys hv hea
          obtain ⟨d3, d4⟩ := expoL_keys hr1 heb
          refine ⟨by rw [List.length_append]; omega, ?_⟩
          rw [List.map_append, c4, d4, List.length_append, List.range_add, List.map_append, List.map_map]
          congr 1
          apply List.map_congr_left
          intro i _
          simp only [Function.comp, c3]
          congr 1
          omega
        · cases he
      · cases he
    · cases h
end

/-- **What a call hands back is taken into the caller's store.** -/
theorem take_ok {B : Nat → Prop} {X : Ctx} (hI : Inv B X) (hB : ∀ b, X.w.heap.size ≤ b → B b) {w' : World} (hw : Below X.w.heap.size X.w w') {r r' : V} {u : Value} (hh : Handed X.w.heap.size X.outerF w' r u)
    {g : Nat → Nat} (hg : ∀ i j, g i = g j → i = j) {new : Store} {n : Nat} (he : expo g 60 0 r = some (r', new, n)) (hf : allFresh X.σ new = true) :
    ∃ μ2, Inv B ⟨w', new ++ X.σ, μ2, X.F⟩ ∧ Rep ⟨w', new ++ X.σ, μ2, X.F⟩ r' u ∧ Evo X ⟨w', new ++ X.σ, μ2, X.F⟩ := by
  obtain ⟨σ', μ', v', hI', hr, ho, hnd⟩ := hh
  obtain ⟨f1, f2, f3⟩ := allFresh_spec hf
  generalize hLdef : ids σ' 60 v' = L at hnd
  have hlive : ∀ id ∈ L, ∃ o, Store.get σ' id = some o := by rw [← hLdef]; exact ids_live ho
  let μ2 : Mu := fun k => match (List.range L.length).find? (fun i => g i == k) with
    | some i => μ' (L.getD i 0)
    | none => X.μ k
  have hμ : ∀ (i : Nat) id, L[i]? = some id → μ2 (g i) = μ' id := by
    intro i id hi
    have hlt := (List.getElem?_eq_some_iff.1 hi).1
    have hfind : (List.range L.length).find? (fun j => g j == g i) = some i := by
      cases hfd : (List.range L.length).find? (fun j => g j == g i) with
      | none =>
        have := List.find?_eq_none.1 hfd i (List.mem_range.2 hlt)
        simp at this
      | some j =>
        have := List.find?_some hfd
        simp only [beq_iff_eq] at this
        rw [hg _ _ this]
    show (match (List.range L.length).find? (fun j => g j == g i) with | some j => μ' (L.getD j 0) | none => X.μ (g i)) = μ' id
    rw [hfind]
    simp [List.getD, hi]
  have hTake : Takes ⟨w', σ', μ', X.outerF⟩ ⟨w', new ++ X.σ, μ2, X.F⟩ L g → (∀ p ∈ new, ObjOk ⟨w', new ++ X.σ, μ2, X.F⟩ p.1 p.2) ∧ Rep ⟨w', new ++ X.σ, μ2, X.F⟩ r' u ∧ new.map (·.1) = (List.range L.length).map g := by
    intro hT
    obtain ⟨c1, c2, _, c4⟩ := expo_ok hI' hT ho he (fun i id hi => by rw [Nat.zero_add, ← hLdef]; exact hi) (fun p hp => get_append_in f2 p hp)
    refine ⟨c2, c1 u hr, ?_⟩
    rw [c4, show ids (Ctx.σ ⟨w', σ', μ', X.outerF⟩) 60 v' = L from hLdef]
    simp
  have hkeys : ∀ k, (∃ p ∈ new, p.1 = k) ↔ ∃ i, i < L.length ∧ g i = k := by
    have key := (expo_keys (σ := σ') ho he).2
    rw [hLdef] at key
    intro k
    have h1 : k ∈ new.map (·.1) ↔ k ∈ (List.range L.length).map (fun i => g (0 + i)) := by rw [key]
    simp only [List.mem_map, List.mem_range, Nat.zero_add] at h1
    exact h1
  have hold : ∀ k o, X.σ.get k = some o → Store.get (new ++ X.σ) k = some o ∧ μ2 k = X.μ k := by
    intro k o hk
    have hout : ∀ p ∈ new, p.1 ≠ k := fun p hp e => by
      have := f1 p hp
      rw [e, hk] at this
      cases this
    refine ⟨by rw [get_append_out hout]; exact hk, ?_⟩
    show (match (List.range L.length).find? (fun i => g i == k) with | some i => μ' (L.getD i 0) | none => X.μ k) = X.μ k
    have hfind : (List.range L.length).find? (fun i => g i == k) = none := by
      rw [List.find?_eq_none]
      intro i hi
      have hi := List.mem_range.1 hi
      simp only [beq_iff_eq]
      intro e
      obtain ⟨p, hp, e2⟩ := (hkeys k).2 ⟨i, hi, e⟩
      exact hout p hp e2
    rw [hfind]
  have hcases : ∀ k o, Store.get (new ++ X.σ) k = some o → (∃ i id o', L[i]? = some id ∧ g i = k ∧ μ2 k = μ' id ∧ Store.get σ' id = some o' ∧ ∀ b, Blk ⟨w', σ', μ', X.outerF⟩ id o b → Blk ⟨w', σ', μ', X.outerF⟩ id o' b) ∨ (X.σ.get k = some o ∧ μ2 k = X.μ k) := by
    intro k o hk
    have hfl : (∃ p ∈ new, p.1 = k) → isNest (some o) = false := by
      rintro ⟨p, hp, rfl⟩
      have := get_append_in (σ := X.σ) f2 p hp
      rw [hk] at this
      cases this
      exact f3 p hp
    rcases get_append_cases hk with h1 | h1
    · have hfl := hfl h1
      obtain ⟨i, hi, e⟩ := (hkeys k).1 h1
      have hid : L[i]? = some L[i] := List.getElem?_eq_getElem hi
      obtain ⟨o', ho'⟩ := hlive L[i] (List.getElem_mem hi)
      exact .inl ⟨i, L[i], o', hid, e, by rw [← e]; exact hμ i _ hid, ho', fun b hb => by obtain ⟨p, h1, h2⟩ := blk_flat hfl hb; exact ⟨p, h1, .inl h2⟩⟩
    · exact .inr ⟨h1, (hold k o h1).2⟩
  have hbnew : ∀ {id k o b}, μ2 k = μ' id → Blk ⟨w', new ++ X.σ, μ2, X.F⟩ k o b → Blk ⟨w', σ', μ', X.outerF⟩ id o b := fun {id k o b} hm hk =>
    Blk.move (X := ⟨w', σ', μ', X.outerF⟩) (X' := ⟨w', new ++ X.σ, μ2, X.F⟩) hm (fun _ _ => rfl) hk
  have hbold : ∀ {k o b}, X.σ.get k = some o → μ2 k = X.μ k → Blk ⟨w', new ++ X.σ, μ2, X.F⟩ k o b → Blk X k o b := fun {k o b} hg hm hk =>
    Blk.move (X := X) (X' := ⟨w', new ++ X.σ, μ2, X.F⟩) hm (fun p hp => hw.block _ (hI.lt hg hp)) hk
  have hbup : ∀ {k o b}, X.σ.get k = some o → Blk X k o b → Blk ⟨w', X.σ, X.μ, X.F⟩ k o b := fun {k o b} hg hk =>
    Blk.move (X := ⟨w', X.σ, X.μ, X.F⟩) (X' := X) rfl (fun p hp => (hw.block _ (hI.lt hg hp)).symm) hk
  have hgood : ∀ b, Ctx.G ⟨w', σ', μ', X.outerF⟩ b → Ctx.G ⟨w', new ++ X.σ, μ2, X.F⟩ b := by
    intro b hb
    refine ⟨⟨⟨hb.1.1.1, fun k o hk hm => ?_⟩, hb.1.2⟩, fun hf => hb.2 (.inl hf)⟩
    rcases hcases k o hk with ⟨i, id, o', hi, _, hmu, ho', hoo⟩ | ⟨hk', hmu⟩
    · exact hb.1.1.2 id o' ho' (hoo _ (hbnew hmu hm))
    · exact hb.2 (.inr ⟨k, o, hk', hbold hk' hmu hm⟩)
  obtain ⟨c1, c2, _⟩ := hTake ⟨rfl, hgood, hμ⟩
  have hE : Evo X ⟨w', new ++ X.σ, μ2, X.F⟩ := by
    refine ⟨hw.os, hw.tape, hw.output, hw.size, rfl, fun b hb => ⟨⟨Nat.lt_of_lt_of_le hb.1 hw.size, fun k o hk hm => ?_⟩, hw.block b hb.1⟩, fun id cells hg' => ?_, fun id ep t l hg' => ?_, fun id iv t f h l hg' => ?_⟩
    · rcases hcases k o hk with ⟨i, id, o', hi, _, hmu, ho', hoo⟩ | ⟨hk', hmu⟩
      · have h1 : X.w.heap.size ≤ b := hI'.baseB id o' b ho' (hoo _ (hbnew hmu hm))
        have h2 := hb.1
        omega
      · exact hb.2 k o hk' (hbold hk' hmu hm)
    · obtain ⟨h1, h2⟩ := hold id _ hg'
      exact ⟨⟨cells, h1⟩, h2⟩
    · obtain ⟨h1, h2⟩ := hold id _ hg'
      exact ⟨ep, l, h1, Nat.le_refl _, fun _ => ⟨h2, rfl⟩⟩
    · obtain ⟨h1, h2⟩ := hold id _ hg'
      exact ⟨iv, h, l, h1, Nat.le_refl _, h2, rfl, fun _ => ⟨rfl, rfl, fun p hp => hw.block _ (hI.lt hg' hp)⟩⟩
  refine ⟨μ2, ⟨fun k o hk => ?_, fun i j o1 o2 b hi hj hpi hpj => ?_, fun k o b hk hm => ?_, fun b hb => hI.out b (Nat.le_trans hw.size hb), hI.vis, .evo hI hE⟩, c2, hE⟩
  · rcases get_append_cases hk with ⟨p, hp, rfl⟩ | h1
    · have := get_append_in (σ := X.σ) f2 p hp
      rw [show Store.get (new ++ X.σ) p.1 = some o from hk] at this
      cases this
      exact c1 p hp
    · obtain ⟨e1, e2⟩ := hold k o h1
      exact ObjOk.move (X := X) e2 (fun b hb => hw.block b (hI.ltB h1 hb)) hE.good (fun _ _ _ h => h.evo hE) (hI.objs k o h1)
  · rcases hcases i o1 hi with ⟨a, id, o', ha, hga, hmu, ho', hoo⟩ | ⟨hk', hmu⟩
    · have q1 := hoo _ (hbnew hmu hpi)
      rcases hcases j o2 hj with ⟨a2, id2, o2', ha2, hga2, hmu2, ho2', hoo2⟩ | ⟨hk2, hmu2⟩
      · have hid := hI'.injB id id2 o' o2' b ho' ho2' q1 (hoo2 _ (hbnew hmu2 hpj))
        subst hid
        have haa : a = a2 := (List.getElem?_inj (List.getElem?_eq_some_iff.1 ha).1 hnd).1 (ha.trans ha2.symm)
        rw [← hga, ← hga2, haa]
      · have h1 : X.w.heap.size ≤ b := hI'.baseB id o' b ho' q1
        have h2 := hI.ltB hk2 (hbold hk2 hmu2 hpj)
        omega
    · have q1 := hbold hk' hmu hpi
      rcases hcases j o2 hj with ⟨a2, id2, o2', ha2, hga2, hmu2, ho2', hoo2⟩ | ⟨hk2, hmu2⟩
      · have h1 : X.w.heap.size ≤ b := hI'.baseB id2 o2' b ho2' (hoo2 _ (hbnew hmu2 hpj))
        have h2 := hI.ltB hk' q1
        omega
      · exact hI.injB i j o1 o2 b hk' hk2 q1 (hbold hk2 hmu2 hpj)
  · rcases hcases k o hk with ⟨i, id, o', hi, _, hmu, ho', hoo⟩ | ⟨hk', hmu⟩
    · exact hB _ (hI'.baseB id o' b ho' (hoo _ (hbnew hmu hm)))
    · exact hI.baseB k o b hk' (hbold hk' hmu hm)

end
end Go.Vm
