/-
  The engine, part 26: functions of one's own that turn what they are given: the part of the store that is theirs has numbers of its own.
-/
import Derived.Test.YtdplodofdfkndaaDoorVm25
namespace Go.Vm
open Go.RowKit (Below)

/-- **A function, given these arguments over this store, leaves that store and hands back r; variables stay where they are.** -/
def UpdC (P : Program) (f : FuncId) (args : List V) (σ : Store) (r : V) (σ' : Store) : Prop :=
  ∀ (B : Nat → Prop) (F : Fr) (w : World) (μ : Mu) (vs : List Value), F.pin = [] → Inv B ⟨w, σ, μ, F⟩ → (∀ b, w.heap.size ≤ b → B b) → RepL ⟨w, σ, μ, F⟩ args vs →
    Calls P f vs.toArray w fun e w' => ∃ u, e = .returned u ∧ ∃ μ', Inv B ⟨w', σ', μ', F⟩ ∧ Rep ⟨w', σ', μ', F⟩ r u ∧ Since ⟨w, σ, μ, F⟩ ⟨w', σ', μ', F⟩ ∧
      ∀ c cells, σ.get c = some (.box cells) → (∃ cells', σ'.get c = some (.box cells')) ∧ μ' c = μ c

mutual
/-- The things that a value names, and that these name. -/
def reachV (σ : Store) : Nat → List Nat → V → List Nat
  | 0, acc, _ => acc
  | n + 1, acc, v => match v with
    | .slc id _ _ => if acc.contains id then acc else acc ++ [id]
    | .eptr id _ _ _ => if acc.contains id then acc else acc ++ [id]
    | .ptr id _ => if acc.contains id then acc else match σ.get id with
      | some (.box cells) => reachL σ n (acc ++ [id]) cells
      | _ => acc ++ [id]
    | .fptr cells => reachL σ n acc cells
    | .rows _ cells => reachL σ n acc cells
    | .agg cells => reachL σ n acc cells
    | .tuple cells => reachL σ n acc cells
    | .fn _ a b => reachL σ n (reachL σ n acc a) b
    | .iface _ x => reachV σ n acc x
    | _ => acc
def reachL (σ : Store) : Nat → List Nat → List V → List Nat
  | 0, acc, _ => acc
  | _ + 1, acc, [] => acc
  | n + 1, acc, v :: r => reachL σ n (reachV σ n acc v) r
end

def sub (σ : Store) : List Nat → Store
  | [] => []
  | k :: r => match σ.get k with
    | some o => (k, o) :: sub σ r
    | none => sub σ r

theorem sub_get {σ : Store} : ∀ {ks : List Nat} {k : Nat} {o : Obj}, (sub σ ks).get k = some o → k ∈ ks ∧ σ.get k = some o
  | [], k, o, h => by simp [sub, Store.get] at h
  | a :: r, k, o, h => by
    simp only [sub] at h
    split at h
    · rename_i o' ho
      simp only [Store.get] at h
      split at h
      · rename_i e; subst e; cases h; exact ⟨by simp, ho⟩
      · obtain ⟨h1, h2⟩ := sub_get h; exact ⟨List.mem_cons_of_mem _ h1, h2⟩
    · obtain ⟨h1, h2⟩ := sub_get h; exact ⟨List.mem_cons_of_mem _ h1, h2⟩

def number : Nat → List Nat → List (Nat × Nat)
  | _, [] => []
  | n, k :: r => (k, n) :: number (n + 1) r

theorem number_mem : ∀ {ks : List Nat} {n k : Nat}, k ∈ ks → ∃ c, (k, c) ∈ number n ks
  | a :: r, n, k, h => by
    simp only [List.mem_cons] at h
    rcases h with rfl | h
    · exact ⟨n, by simp [number]⟩
    · obtain ⟨c, hc⟩ := number_mem (n := n + 1) h
      exact ⟨c, by simp [number, hc]⟩

def partB (τ : Store) (ks : List Nat) : Bool := ks.all fun k => match τ.get k with
  | some (.box cells) => inVL τ 60 cells
  | _ => true

theorem part_of {σ : Store} {ks : List Nat} (h : partB (sub σ ks) ks = true) : Part σ (sub σ ks) :=
  ⟨fun _ _ hg => (sub_get hg).2, fun k cells hg => by
    have := List.all_eq_true.1 h k (sub_get hg).1
    rw [hg] at this
    exact this⟩

/-- The names of the callers, for what is still there. -/
def backN (σ' : Store) : List (Nat × Nat) → List (Nat × Nat)
  | [] => []
  | (i, c) :: r => match σ'.get c with
    | some _ => (c, i) :: backN σ' r
    | none => backN σ' r

/-- New names for what is new. -/
def newN (N : List (Nat × Nat)) : Store → List Nat → Nat → List (Nat × Nat)
  | [], _, _ => []
  | (c, _) :: r, seen, k => if seen.contains c || (N.any fun p => p.2 == c) then newN N r seen k else (c, k) :: newN N r (c :: seen) (k + 1)

def epochs (σ : Store) (j : Nat) : Nat := match σ.get j with
  | some (.arr ep _ _) => ep + 1
  | _ => 0

def deads (τ : Store) (M : Ent) : List Nat → List (Nat × Nat × Ty)
  | [] => []
  | k :: r => match τ.get k with
    | some (.arr ep t _) => if (keysOf M).contains k then deads τ M r else (k, ep + 1, t) :: deads τ M r
    | _ => deads τ M r

def stayB (τ : Store) (L : Ent) (N : List (Nat × Nat)) : Bool := N.all fun p => match τ.get p.1 with
  | some (.box _) => match (bare L).get p.1 with
    | some (.box _) => Ent.find L p.1 == some p.2
    | _ => false
  | some (.arr ep t _) => match (bare L).get p.1 with
    | some (.arr ep' t' _) => decide (t' = t) && Nat.blt ep ep'
    | _ => false
  | some (.nest ..) => false
  | none => true

def apartB (σ τ : Store) (ks : List Nat) : Bool := ks.all fun k => (τ.get k).isSome || isFresh σ k

/-- A call of one's own function. -/
def ownRun (run : List V → Store → Option (Prop × V × Store)) (args : List V) (σ : Store) : Option (Prop × V × Store) :=
  let ks := reachL σ 60 [] args
  let τ := sub σ ks
  let N := number 9000 ks
  if inVL τ 60 args && partB τ ks then
    match renL N (fun _ => 0) τ 60 args, entsRen N (fun _ => 0) τ N with
    | some cargs, some L =>
      if nodupB (keysOf (L ++ deadEnts [])) && nodupB (srcsOf (L ++ deadEnts [])) then
        match run cargs (bare (L ++ deadEnts [])) with
        | some (pre, r, σ') =>
          let Nb := backN σ' N ++ newN N σ' [] (100000 + 100 * σ.length)
          match renV Nb (epochs σ) σ' 60 r, entsRen Nb (epochs σ) σ' Nb with
          | some r', some M =>
            let Lb := M ++ deadEnts (deads τ M ks)
            if nodupB (keysOf Lb) && nodupB (srcsOf Lb) && stayB τ Lb N && apartB σ τ (keysOf Lb) then some (pre, r', bare Lb) else none
          | _, _ => none
        | none => none
      else none
    | _, _ => none
  else none

theorem own_ok {P : Program} {f : FuncId} {run : List V → Store → Option (Prop × V × Store)} (hrun : ∀ args σ pre r σ', run args σ = some (pre, r, σ') → pre → UpdC P f args σ r σ')
    {args : List V} {σ : Store} {pre : Prop} {r : V} {new : Store} (h : ownRun run args σ = some (pre, r, new)) (hp : pre) : Upd P f args σ r (new ++ σ) := by
  intro B F w μ vs hI hB hr
  unfold ownRun at h
  simp only at h
  generalize hks : reachL σ 60 [] args = ks at h
  generalize hN : number 9000 ks = N at h
  split at h
  · rename_i hc
    simp only [Bool.and_eq_true] at hc
    obtain ⟨hin, hcl⟩ := hc
    split at h
    · rename_i cargs L hca hL
      split at h
      · rename_i hn
        simp only [Bool.and_eq_true] at hn
        split at h
        · rename_i pre' r0 σ' hrn
          generalize hNb : backN σ' N ++ newN N σ' [] (100000 + 100 * σ.length) = Nb at h
          split at h
          · rename_i r' M hr' hM
            generalize hLb : M ++ deadEnts (deads (sub σ ks) M ks) = Lb at h
            split at h
            · rename_i hm
              cases h
              simp only [Bool.and_eq_true] at hm
              obtain ⟨⟨⟨n3, n4⟩, hst⟩, hap⟩ := hm
              have hpart := part_of hcl
              have hIc := Inv.cut hI hpart
              have hrc := RepL.cutA hpart hin hr
              obtain ⟨i1, _, i3, i4, i5⟩ := ren_ctx hIc rfl (D := []) hL hn.1 hn.2
              have hr1 := i3 hca hrc
              have htop : ∀ b, w.heap.size ≤ b → B b ∧ ¬ Ctx.restB ⟨w, σ, μ, F⟩ (sub σ ks) b := fun b hb => ⟨hB b hb, fun ⟨k2, o2, _, q1, q2⟩ => by
                have := hI.ltB q1 q2
                have h5 : b < w.heap.size := this
                omega⟩
              have hr1 := i3 hca hrc
              refine (hrun _ _ _ _ _ hrn hp _ (Ctx.cutF ⟨w, σ, μ, F⟩ (sub σ ks)) w _ vs rfl i1 htop hr1).mono fun e w' ⟨u, he, μ2, hI2, hr2, hs, hbx⟩ => ⟨u, he, ?_⟩
              have hren := ren_ctx hI2 rfl (D := deads (sub σ ks) M ks) hM (by rw [hLb]; exact n3) (by rw [hLb]; exact n4)
              rw [hLb] at hren
              obtain ⟨j1, j2, _, j4, _⟩ := hren
              have hmemN : ∀ {k : Nat} {o : Obj}, (sub σ ks).get k = some o → ∃ c, (k, c) ∈ N := fun hg => by
                rw [← hN]; exact number_mem (sub_get hg).1
              have hstay : ∀ {k c : Nat}, (k, c) ∈ N → _ := fun {k c} hm => List.all_eq_true.1 hst (k, c) hm
              have hE : Evo (Ctx.cut ⟨w, σ, μ, F⟩ (sub σ ks)) ⟨w', bare Lb, muOf Lb μ2, Ctx.cutF ⟨w, σ, μ, F⟩ (sub σ ks)⟩ := by
                refine ⟨hs.os, hs.tape, hs.output, hs.size, rfl, fun b hb => ?_, fun id cells hg => ?_, fun id ep t l hg => ?_, fun id iv t f h l hg => ?_⟩
                · obtain ⟨q1, q2⟩ := hs.still b (i4 b hb)
                  exact ⟨j4 b q1, q2⟩
                · obtain ⟨c, hc⟩ := hmemN hg
                  have h1 := hstay hc
                  have hg' : (sub σ ks).get id = some (.box cells) := hg
                  rw [hg'] at h1
                  simp only at h1
                  split at h1
                  · rename_i cells' hb
                    have h2 : Ent.find Lb id = some c := by simpa using h1
                    obtain ⟨q1, q2⟩ := i5 id c hc
                    obtain ⟨cells2, q3⟩ : ∃ cells2, (bare (L ++ deadEnts [])).get c = some (.box cells2) := by
                      rcases q2 with ⟨_, cells2, _, q4⟩ | ⟨_, _, _, q4, _⟩
                      · exact ⟨_, q4⟩
                      · rw [show (Ctx.cut ⟨w, σ, μ, F⟩ (sub σ ks)).σ.get id = _ from hg] at q4; cases q4
                    obtain ⟨_, q5⟩ := hbx _ _ q3
                    refine ⟨⟨cells', hb⟩, ?_⟩
                    show (Ent.find Lb id).bind μ2 = μ id
                    rw [h2]
                    show μ2 c = μ id
                    rw [q5]
                    show (Ent.find _ c).bind μ = μ id
                    rw [q1]; rfl
                  · cases h1
                · obtain ⟨c, hc⟩ := hmemN hg
                  have h1 := hstay hc
                  have hg' : (sub σ ks).get id = some (.arr ep t l) := hg
                  rw [hg'] at h1
                  simp only at h1
                  split at h1
                  · rename_i ep' t' l' hb
                    simp only [Bool.and_eq_true, decide_eq_true_eq] at h1
                    obtain ⟨rfl, h2⟩ := h1
                    have h2 : ep < ep' := by simpa [Nat.blt_eq] using h2
                    exact ⟨ep', l', hb, Nat.le_of_lt h2, fun e => by omega⟩
                  · cases h1
                · obtain ⟨c, hc⟩ := hmemN hg
                  have h1 := hstay hc
                  have hg' : (sub σ ks).get id = some (.nest iv t f h l) := hg
                  rw [hg'] at h1
                  cases h1
              have hkey : ∀ {k : Nat} {o : Obj}, (bare Lb).get k = some o → (sub σ ks).get k ≠ none ∨ σ.get k = none := by
                intro k o hg
                have h1 := List.all_eq_true.1 hap k (key_mem (bare_get hg))
                simp only [Bool.or_eq_true] at h1
                rcases h1 with h1 | h1
                · exact .inl (fun e => by rw [e] at h1; cases h1)
                · refine .inr ?_
                  unfold isFresh at h1
                  split at h1
                  · assumption
                  · cases h1
              obtain ⟨μ3, k1, k2, k3⟩ := frame_back (σ' := bare Lb ++ σ) hI hpart j1 hE (fun k hk => by
                  have hn : (bare Lb).get k = none := by
                    cases hg : (bare Lb).get k with
                    | none => rfl
                    | some o =>
                      obtain ⟨⟨o', h1⟩, h2⟩ := hk
                      rcases hkey hg with h3 | h3
                      · exact absurd h2 h3
                      · rw [show σ.get k = _ from h1] at h3; cases h3
                  exact ⟨by rw [get_app, hn]; rfl, hn⟩) (fun k hk => by
                  rw [get_app]
                  cases hg : (bare Lb).get k with
                  | some o => rfl
                  | none =>
                    show σ.get k = none
                    cases h1 : σ.get k with
                    | none => rfl
                    | some o =>
                      exfalso
                      refine hk ⟨⟨o, h1⟩, ?_⟩
                      cases h2 : (sub σ ks).get k with
                      | none => rfl
                      | some o2 =>
                        exfalso
                        obtain ⟨c, hc⟩ := hmemN h2
                        have h3 := hstay hc
                        rw [h2] at h3
                        simp only [hg] at h3
                        cases o2 <;> cases h3)
              exact ⟨μ3, k1, k3 _ _ (j2 hr' hr2), k2⟩
            · cases h
          · cases h
        · cases h
      · cases h
    · cases h
  · cases h

end Go.Vm
