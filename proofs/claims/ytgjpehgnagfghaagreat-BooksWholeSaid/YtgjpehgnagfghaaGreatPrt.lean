/-
  What books that check are.
-/
import Derived.Test.YtgjpehgnagfghaaGreatLaw1
namespace Go.Proofs.YtgjpehgnagfghaaGreat.Bks
open Go.Vm
def Ok (E : List Int) (A : List Acc.AcD) (S : List Ln) (R : List Rts.Rt) (K : List Lck.Lk) (N : List En) : Prop := N.length ≤ 9223372036854775807 ∧ ∀ x ∈ N, Ent.InL x.2.2
theorem sm_few (E : List Int) (A : List Acc.AcD) (S : List Ln) (R : List Rts.Rt) (K : List Lck.Lk) (N : List En) (h : Ok E A S R K N) (hf : fewF E A S R K N = true) : Sm E A S R K N := by
  unfold fewF few24 at hf
  simp only [Bool.and_eq_true, decide_eq_true_eq, Bool.not_eq_true'] at hf
  obtain ⟨h1, h2, h3, h4, h5, h6, h7⟩ := hf
  refine ⟨by omega, by omega, by omega, by omega, by omega, by omega, fun x hx => ⟨h.2 x hx, ?_⟩⟩
  have := List.any_eq_false.1 h7 x hx
  simp only [decide_eq_true_eq] at this
  omega
theorem step_ok {p : Int} {c : Int × Int} {r : Int × Int × Int} (h : (stepF p c r).2.2 = 0) : c.2 = 0 ∧ r.2.2 = 0 := by
  by_cases k : c.2 = 0
  · rw [step_0 k] at h; exact ⟨k, h⟩
  · rw [step_1 k] at h; exact absurd h k
theorem ok_parts {E : List Int} {A : List Acc.AcD} {S : List Ln} {R : List Rts.Rt} {K : List Lck.Lk} {N : List En} (h : (checkF E A S R K N).2.2 = 0) : (Cur.checkF E).2 = 0 ∧ (Acc.checkF A).2 = 0 ∧ (Stk.checkF S E.length).2 = 0 ∧ (Rts.checkF R).2 = 0 ∧ (Lck.checkF K E.length).2 = 0 ∧ (allF N E.length A.length (Acc.thoseF (Acc.leafF A) A.length)).2 = 0 := by
  unfold checkF at h
  obtain ⟨h1, h⟩ := step_ok h
  obtain ⟨h2, h⟩ := step_ok h
  obtain ⟨h3, h⟩ := step_ok h
  obtain ⟨h4, h⟩ := step_ok h
  obtain ⟨h5, h⟩ := step_ok h
  exact ⟨h1, h2, h3, h4, h5, (step_ok h).1⟩
theorem ent_some {n k : Int} {ls : List Int} {N : List En} : ∀ (f : Nat) (i : Int) (r : Int × Int), entGo n k ls N f i = some r → r.2 ≠ 0
  | 0, _, _, h => by cases h
  | f + 1, i, r, h => by
    rw [entGo] at h
    split at h
    · cases h
    · split at h
      · exact ent_some f (i + 1) r h
      · cases h; assumption
theorem ent_none {n k : Int} {ls : List Int} {N : List En} : ∀ (f : Nat) (i : Int), 0 ≤ i → (N.length : Int) ≤ i + f → entGo n k ls N f i = none → ∀ (j : Nat) x, i ≤ j → N[j]? = some x → entryF n k ls (N.take j) x = 0
  | 0, i, _, hf, _, j, x, hj, hx => by
    have := (List.getElem?_eq_some_iff.1 hx).1
    omega
  | f + 1, i, h0, hf, h, j, x, hj, hx => by
    have hl := (List.getElem?_eq_some_iff.1 hx).1
    have hi : N[i.toNat]? = some N[i.toNat] := List.getElem?_eq_getElem (by omega)
    rw [ent_next (by omega) hi] at h
    split at h
    · rename_i hz
      by_cases c : i = j
      · subst c
        have e : N[((j : Nat) : Int).toNat] = x := by
          have : N[((j : Nat) : Int).toNat]? = some x := by rw [Int.toNat_natCast]; exact hx
          rw [hi] at this
          exact Option.some.inj this
        rw [e, Int.toNat_natCast] at hz
        exact hz
      · exact ent_none f (i + 1) (by omega) (by omega) h j x (by omega) hx
    · cases h
theorem ent_ok {n k : Int} {ls : List Int} {N : List En} (h : (allF N n k ls).2 = 0) (j : Nat) (x : En) (hx : N[j]? = some x) : entryF n k ls (N.take j) x = 0 := by
  unfold allF at h
  split at h
  · cases h
  · cases he : entGo n k ls N N.length 0 with
    | none => exact ent_none N.length 0 (by omega) (by omega) he j x (by omega) hx
    | some r =>
      rw [he] at h
      exact absurd h (ent_some _ _ _ he)
theorem ent_parts {n k : Int} {ls : List Int} {A : List En} {x : En} (h : entryF n k ls A x = 0) : (Ent.checkF x.1 x.2.2 n k).2 = 0 ∧ placedF ls x.2.2 = 0 ∧ turnedF A x.2.1 x.2.2 = 0 := by
  unfold entryF at h
  split at h
  · rename_i h1
    split at h
    · rename_i h2
      exact ⟨h1, h2, h⟩
    · rename_i h2; exact absurd h h2
  · rename_i h1; exact absurd h h1
end Go.Proofs.YtgjpehgnagfghaaGreat.Bks
