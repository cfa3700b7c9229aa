/-
  The engine, part 11: calls: what a callee is given, what it hands back.
-/
import Derived.Test.YtdplodofdfkndaaDoorVm10
namespace Go.Vm
open Go.RowKit (Below)

/-- How a function finds the memory that is not its own. -/
structure Ground (F : Fr) (w : World) : Prop where
  out : ∀ b, w.heap.size ≤ b → ¬ F.any b
  pin : F.pin = []
  gnd : ∀ e ∈ F.gnd.1, w.heap[e.1]? = some e.2

theorem Ground.lt {F : Fr} {w : World} (h : Ground F w) {e : Nat × _root_.Go.Obj} (he : e ∈ F.gnd.1) : e.1 < w.heap.size := (Array.getElem?_eq_some_iff.1 (h.gnd e he)).1

/-- What a call hands back: a result, whose arrays and variables are its own. -/
def Handed (B0 : Nat) (F : Fr) (w' : World) (r : V) (u : Value) : Prop :=
  ∃ σ' μ' v', Inv (fun b => B0 ≤ b) ⟨w', σ', μ', F⟩ ∧ Rep ⟨w', σ', μ', F⟩ v' u ∧ own σ' 60 v' = some r ∧ (ids σ' 60 v').Nodup

/-- **A function hands back r, given these arguments, whatever the memory; it writes nothing that was there.** -/
def Pure (P : Program) (f : FuncId) (args : List V) (r : V) : Prop :=
  ∀ (F : Fr) (w : World) (vs : List Value), Ground F w → RepL ⟨w, [], fun _ => none, F⟩ args vs →
    Calls P f vs.toArray w fun e w' => ∃ u, e = .returned u ∧ Below w.heap.size w w' ∧ Handed w.heap.size F w' r u

/-- The callers' memory, for a callee. -/
def Ctx.outerF (X : Ctx) : Fr := ⟨fun b => X.F b ∨ ∃ id o, X.σ.get id = some o ∧ Blk X id o b, X.F.hid, [], X.F.gnd⟩

section
variable {X : Ctx}

theorem T_bare {b : Nat} (h : X.T b) : Ctx.T ⟨X.w, [], fun _ => none, X.outerF⟩ b := ⟨⟨h.1.1, fun _ _ hg => by simp [Store.get] at hg⟩, h.2⟩
theorem T_own {B : Nat → Prop} (hI : Inv B X) {id : Nat} {o : Obj} {b base C : Nat} (hlt : b < X.w.heap.size) (hg : X.σ.get id = some o) (hm : X.μ id = some (b, base, C)) : Ctx.T ⟨X.w, [], fun _ => none, X.outerF⟩ b :=
  ⟨⟨hlt, fun _ _ hg => by simp [Store.get] at hg⟩, hI.hid _ (hI.base _ _ _ hg hm)⟩
theorem not_outer {b : Nat} (h : X.G b) : ¬ X.outerF b := by
  rintro (hf | ⟨id, o, hg, hk⟩)
  · exact h.2 hf
  · exact h.1.1.2 id o hg hk
theorem G_bare {b : Nat} (h : X.G b) : Ctx.G ⟨X.w, [], fun _ => none, X.outerF⟩ b := ⟨T_bare h.1, not_outer h⟩

theorem RepL.get {cs : List V} {vs : List Value} (h : RepL X cs vs) {j : Nat} {c : V} (hc : cs[j]? = some c) : ∃ u, vs[j]? = some u ∧ Rep X c u := by
  have hj : j < vs.length := by rw [h.1]; exact (List.getElem?_eq_some_iff.1 hc).1
  exact ⟨_, List.getElem?_eq_getElem hj, h.2 j c _ hc (List.getElem?_eq_getElem hj)⟩

mutual
theorem snap_ok {B : Nat → Prop} (hI : Inv B X) : ∀ {n : Nat} {v v' : V} {u : Value}, snap X.σ n v = some v' → Rep X v u → Rep ⟨X.w, [], fun _ => none, X.outerF⟩ v' u
  | 0, v, v', u, h, _ => by simp [snap] at h
  | n + 1, v, v', u, h, hr => by
    unfold snap at h
    split at h
    · rename_i id off
      split at h
      · rename_i cells hg
        split at h
        · rename_i hoff
          simp only [Option.map_eq_some_iff] at h
          obtain ⟨cs, hs, rfl⟩ := h
          obtain ⟨cells', b, base, C, rfl, hg', hm⟩ := hr.ptr_inv
          rw [hg] at hg'
          cases hg'
          obtain ⟨b', ws, ty, k1, k2, k3⟩ := hI.objs id _ hg
          rw [hm] at k1
          cases k1
          have hl := snapL_ok hI hs (k3.drop off)
          have hlt : b < X.w.heap.size := (Array.getElem?_eq_some_iff.1 k2).1
          refine .fptr (fun j => ws.getD (off + j) undef) (fun _ => T_own hI hlt hg hm) (fun j c hj => ?_) (fun j c hj => ?_)
          · obtain ⟨x, hx, _⟩ := hl.get hj
            simp only [List.getElem?_drop, Array.getElem?_toList] at hx
            have h1 := (Array.getElem?_eq_some_iff.1 hx).1
            simp only [Nat.zero_add]
            unfold World.cell?
            simp only [k2]
            simp [h1]
          · obtain ⟨x, hx, hrx⟩ := hl.get hj
            simp only [List.getElem?_drop, Array.getElem?_toList] at hx
            have h1 := (Array.getElem?_eq_some_iff.1 hx)
            obtain ⟨h1, h2⟩ := h1
            simp [h1, h2, hrx]
        · cases h
      · cases h
    · rename_i id ep rng
      split at h
      · rename_i ep' t l hg
        split at h
        · rename_i hep
          have rows : ∀ {off m b base C : Nat} {cap : Nat}, X.μ id = some (b, base, C) → off + m ≤ l.length → m ≤ cap → ∀ {A : Option Addr}, (∃ a, A = some a ∧ (0 < m → a = ⟨b, base + off * t.cells, none⟩)) →
              RepS X.w (Ctx.H ⟨X.w, [], fun _ => none, X.outerF⟩ .tmp) (Ctx.G ⟨X.w, [], fun _ => none, X.outerF⟩) t ((List.drop off l).take m) A m cap := by
            intro off m b base C cap hm hle hcap A hA
            obtain ⟨a, rfl, ha⟩ := hA
            obtain ⟨cs, ty, k2, k3, k4, k5, k6⟩ := arr_rows hI hg hm
            have hlt : b < X.w.heap.size := (Array.getElem?_eq_some_iff.1 k2).1
            refine ⟨by simp; omega, hcap, fun h0 => ⟨b, base + off * t.cells, by rw [ha h0], ⟨T_own hI hlt hg hm, fun h => absurd rfl h⟩, fun i x hx => ?_⟩⟩
            obtain ⟨row, r1, r2⟩ := (k6.drop off m) i x hx
            refine ⟨row, r1.keep (fun b hb => ⟨G_bare hb, rfl⟩), fun j v hv => ?_⟩
            have := r2 j v hv
            unfold World.cell?
            simp only [k2]
            simp only at this
            rw [← this]
            simp only [Option.isSome_none, Bool.false_eq_true, if_false]
            congr 1
            omega
          obtain ⟨A, len, cap, ep2, t2, l2, rfl, hg', hle, hcur⟩ := hr.slc_inv
          rw [hg] at hg'
          cases hg'
          have hh := hcur hep
          split at h
          · simp only [Option.some.injEq] at h
            subst h
            refine .list ?_ (fun e => by cases e)
            cases hm : X.μ id with
            | none =>
              rw [hm] at hh
              simp only [Hdr] at hh
              obtain ⟨rfl, rfl, h0⟩ := hh
              exact ⟨h0.symm, Nat.le_refl _, fun h => absurd h (Nat.lt_irrefl _)⟩
            | some q =>
              obtain ⟨b, base, C⟩ := q
              rw [hm] at hh
              simp only [Hdr] at hh
              obtain ⟨rfl, rfl, hC, a, rfl, ha⟩ := hh
              have := rows (off := 0) (m := l.length) (cap := cap) hm (by omega) hC (A := some a) ⟨a, rfl, fun h0 => by rw [ha (by omega)]; simp⟩
              simpa using this
          · rename_i off m
            simp only [Option.some.injEq] at h
            subst h
            refine .list ?_ (fun e => by cases e)
            cases hm : X.μ id with
            | none =>
              rw [hm] at hh
              simp only [Hdr] at hh
              obtain ⟨rfl, rfl, rfl, rfl, h0⟩ := hh
              exact ⟨by simp, Nat.le_refl _, fun h => absurd h (Nat.lt_irrefl _)⟩
            | some q =>
              obtain ⟨b, base, C⟩ := q
              rw [hm] at hh
              simp only [Hdr] at hh
              obtain ⟨rfl, h2, hC, rfl, a, rfl, ha⟩ := hh
              exact rows hm h2 (by omega) ⟨a, rfl, fun h0 => ha (by omega)⟩
        · cases h
      · cases h
    · cases h
    · cases h
    · cases h
    · rename_i cells
      simp only [Option.map_eq_some_iff] at h
      obtain ⟨cs, hs, rfl⟩ := h
      obtain ⟨b, o, f, rfl, hT, hc, hrc⟩ := hr.fptr_inv
      have hl := snapL_ok hI hs (vs := (List.range cells.length).map f) ⟨by simp, fun j c x hj hx => by
        simp only [List.getElem?_map, Option.map_eq_some_iff] at hx
        obtain ⟨a, ha, rfl⟩ := hx
        obtain ⟨h1, h2⟩ := List.getElem?_eq_some_iff.1 ha
        simp at h2
        subst h2
        exact hrc _ c hj⟩
      have hget : ∀ {j : Nat} {c : V}, cs[j]? = some c → j < cells.length ∧ Rep ⟨X.w, [], fun _ => none, X.outerF⟩ c (f j) := by
        intro j c hj
        obtain ⟨x, hx, hrx⟩ := hl.get hj
        simp only [List.getElem?_map, Option.map_eq_some_iff] at hx
        obtain ⟨a, ha, rfl⟩ := hx
        obtain ⟨h1, h2⟩ := List.getElem?_eq_some_iff.1 ha
        simp at h1 h2
        subst h2
        exact ⟨h1, hrx⟩
      refine .fptr f (fun h0 => T_bare (hT (by have := hl.1; simp at this; omega))) (fun j c hj => ?_) (fun j c hj => (hget hj).2)
      exact hc j _ (List.getElem?_eq_getElem (hget hj).1)
    · rename_i f a b
      split at h
      · rename_i a' b' ha hb
        simp only [Option.some.injEq] at h
        subst h
        obtain ⟨vs, ws, rfl, h1, h2⟩ := hr.fn_inv
        have l1 := snapL_ok hI ha h1
        have l2 := snapL_ok hI hb h2
        exact .fn (by simpa using l1.1) (by simpa using l2.1) (fun j c x hc hx => l1.2 j c x hc (by simpa using hx)) (fun j c x hc hx => l2.2 j c x hc (by simpa using hx))
      · cases h
    · rename_i cells
      simp only [Option.map_eq_some_iff] at h
      obtain ⟨cs, hs, rfl⟩ := h
      obtain ⟨vs, rfl, hl⟩ := hr.agg_inv
      exact (snapL_ok hI hs hl).agg
    · rename_i cells
      simp only [Option.map_eq_some_iff] at h
      obtain ⟨cs, hs, rfl⟩ := h
      obtain ⟨vs, rfl, hl⟩ := hr.tuple_inv
      have := snapL_ok hI hs hl
      exact .tuple (by simpa using this.1) (fun j c x hc hx => this.2 j c x hc (by simpa using hx))
    · rename_i t x
      simp only [Option.map_eq_some_iff] at h
      obtain ⟨x', hs, rfl⟩ := h
      cases hr with
      | iface h1 => exact .iface (snap_ok hI hs h1)
    · cases h
    · cases h
    · cases h
    · rename_i m cells
      simp only [Option.map_eq_some_iff] at h
      obtain ⟨cs, hs, rfl⟩ := h
      exact hr.rows_re (fun us hl => snapL_ok hI hs hl) (fun b hb => ⟨G_bare hb, rfl⟩)
    · simp only [Option.some.injEq] at h
      subst h
      rename_i n1 n2 n3 n4 n5 n6 n7 n8 n9 n10 n11 n12 n13 n14
      cases hr with
      | any => exact .any
      | kb => exact .kb
      | bool => exact .bool
      | bq h => exact .bq h
      | int => exact .int
      | str h => exact .str h
      | nilp => exact .nilp
      | nils => exact .nils
      | nilm => exact .nilm
      | nilf => exact .nilf
      | nili => exact .nili
      | errN => exact .errN
      | errS => exact .errS
      | list h1 h2 => exact .list (h1.keep (fun b hb => ⟨G_bare hb, rfl⟩) (fun b hb => ⟨⟨T_bare hb.1, fun hk => not_outer ⟨hb.1, hb.2 hk⟩⟩, rfl⟩)) h2
      | slc _ _ _ => exact (n2 _ _ _ rfl).elim
      | fptr _ _ _ _ => exact (n6 _ rfl).elim
      | ptr _ _ => exact (n1 _ _ rfl).elim
      | eptr _ _ _ => exact (n3 _ _ _ _ rfl).elim
      | fn _ _ _ _ => exact (n7 _ _ _ rfl).elim
      | agg _ _ => exact (n8 _ rfl).elim
      | tuple _ _ => exact (n9 _ rfl).elim
      | iface _ => exact (n10 _ _ rfl).elim
      | nslc _ _ => exact (n11 _ rfl).elim
      | nptr _ _ => exact (n12 _ _ _ rfl).elim
      | nin _ _ _ => exact (n13 _ _ _ rfl).elim
      | rows _ _ _ _ _ => exact (n14 _ _ rfl).elim
theorem snapL_ok {B : Nat → Prop} (hI : Inv B X) : ∀ {n : Nat} {cs cs' : List V} {vs : List Value}, snapL X.σ n cs = some cs' → RepL X cs vs → RepL ⟨X.w, [], fun _ => none, X.outerF⟩ cs' vs
  | 0, cs, cs', vs, h, _ => by simp [snapL] at h
  | n + 1, [], cs', vs, h, hr => by
    simp only [snapL, Option.some.injEq] at h
    subst h
    rw [hr.nil_inv]
    exact .nil
  | n + 1, c :: cs, cs', vs, h, hr => by
    unfold snapL at h
    split at h
    · rename_i v' r' h1 h2
      simp only [Option.some.injEq] at h
      subst h
      obtain ⟨v, us, rfl, r1, r2⟩ := hr.cons_inv
      exact .cons (snap_ok hI h1 r1) (snapL_ok hI h2 r2)
    · cases h
end

end
end Go.Vm
