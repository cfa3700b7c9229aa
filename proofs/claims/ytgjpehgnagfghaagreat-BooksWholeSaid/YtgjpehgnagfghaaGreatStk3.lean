/-
  stake.round, stake.last, stake.Check; ref18.Above, Last, Check.
-/
import Derived.Test.YtgjpehgnagfghaaGreatStk2
namespace Go.Proofs.YtgjpehgnagfghaaGreat.Stk
open Go.Vm
def par (l : List Stk) (p : Int) (a : Int) : Int := (atF l a p).1
def roundGo (l : List Stk) (e p : Int) : Nat → Int → Bool
  | 0, at_ => decide (par l p at_ = e)
  | n + 1, at_ => if par l p at_ ≠ e ∧ par l p at_ ≠ 0 then roundGo l e p n (par l p at_) else decide (par l p at_ = e)
def roundF (l : List Stk) (e p : Int) : Bool := roundGo l e p l.length e
def Inv29 (l : List Stk) (e p a n : Int) : Prop := 0 ≤ n ∧ n ≤ l.length ∧ roundGo l e p (l.length - n.toNat) a = roundF l e p
noncomputable def env_round (l : List Stk) (e p : Int) : Env where
  P := Tryz.prog
  specs := specsOf [sp_at_]
  joins := fun
    | 2000000 => some { slots := [(7, .int .i64), (8, .int .i64)], boxes := [], inv := fun _ (x : Int × Int × Unit) => Inv29 l e p x.1 x.2.1, measure := fun _ (x : Int × Int × Unit) => (l.length - x.2.1 + 1).toNat }
    | _ => none
def g_round_vc (l : List Stk) (e : Int) (p : Int) : Prop :=
  (l.length ≤ (1000000000 : Nat) ∧ ((-9223372036854775808 : Int) ≤ (0 : Int) + (1 : Int) ∧ (0 : Int) + (1 : Int) ≤ (9223372036854775807 : Int)) ∧ ((!decide ((atF l e p).1 = e)) = true → ((!decide ((atF l e p).1 = (0 : Int))) = true → (decide ((0 : Int) + (1 : Int) ≤ (↑l.length : Int)) = true → (0 : Nat) = (0 : Nat) ∧ True ∧ Inv29 l e p (atF l e p).1 ((0 : Int) + (1 : Int))) ∧ (decide ((0 : Int) + (1 : Int) ≤ (↑l.length : Int)) = false → (decide ((atF l e p).1 = e), ()) = (roundF l e p, ()))) ∧ ((!decide ((atF l e p).1 = (0 : Int))) = !true → (decide ((atF l e p).1 = e), ()) = (roundF l e p, ()))) ∧ ((!decide ((atF l e p).1 = e)) = !true → (decide ((atF l e p).1 = e), ()) = (roundF l e p, ()))) ∧ ∀ (x : Int × Int × Unit), Inv29 l e p x.1 x.2.1 → l.length ≤ (1000000000 : Nat) ∧ ((-9223372036854775808 : Int) ≤ x.2.1 + (1 : Int) ∧ x.2.1 + (1 : Int) ≤ (9223372036854775807 : Int)) ∧ ((!decide ((atF l x.1 p).1 = e)) = true → ((!decide ((atF l x.1 p).1 = (0 : Int))) = true → (decide (x.2.1 + (1 : Int) ≤ (↑l.length : Int)) = true → (0 : Nat) = (0 : Nat) ∧ True ∧ Inv29 l e p (atF l x.1 p).1 (x.2.1 + (1 : Int)) ∧ ((↑l.length : Int) - (x.2.1 + (1 : Int)) + (1 : Int)).toNat < ((↑l.length : Int) - x.2.1 + (1 : Int)).toNat) ∧ (decide (x.2.1 + (1 : Int) ≤ (↑l.length : Int)) = false → (decide ((atF l x.1 p).1 = e), ()) = (roundF l e p, ()))) ∧ ((!decide ((atF l x.1 p).1 = (0 : Int))) = !true → (decide ((atF l x.1 p).1 = e), ()) = (roundF l e p, ()))) ∧ ((!decide ((atF l x.1 p).1 = e)) = !true → (decide ((atF l x.1 p).1 = e), ()) = (roundF l e p, ()))
theorem g_round_eq (l : List Stk) (e p : Int) : Cond (env_round l e p) Tryz.f99 [.list .tmp STy l, .int .i64 e, .int .i64 p] [.bool] (roundF l e p, ()) = g_round_vc l e p := by kernel_rfl
theorem g_round_ok (l : List Stk) (e p : Int) (h : l.length ≤ 1000000000) : g_round_vc l e p := by
  have step : ∀ (a n : Int), Inv29 l e p a n → n + 1 ≤ l.length → par l p a ≠ e → par l p a ≠ 0 → Inv29 l e p (par l p a) (n + 1) := by
    rintro a n ⟨h1, h2, h3⟩ hn ha hb
    refine ⟨by omega, by omega, ?_⟩
    rw [← h3]
    obtain ⟨m, hm⟩ : ∃ m, l.length - n.toNat = m + 1 := ⟨l.length - n.toNat - 1, by omega⟩
    have : l.length - (n + 1).toNat = m := by omega
    rw [this, hm]
    simp [roundGo, ha, hb]
  have stop : ∀ (a n : Int), Inv29 l e p a n → (¬ (n + 1 ≤ l.length) ∨ par l p a = e ∨ par l p a = 0) → decide (par l p a = e) = roundF l e p := by
    rintro a n ⟨h1, h2, h3⟩ hc
    rw [← h3]
    cases hm : l.length - n.toNat with
    | zero => rfl
    | succ m =>
      have : n + 1 ≤ l.length := by omega
      rcases hc with hc | hc | hc
      · exact absurd this hc
      · simp [roundGo, hc]
      · simp [roundGo, hc]
  have first : Inv29 l e p e 0 := ⟨by omega, by omega, by simp [roundF]⟩
  have core : ∀ (a n : Int), Inv29 l e p a n → ((!decide (par l p a = e)) = true →
      ((!decide (par l p a = (0 : Int))) = true →
          (decide (n + (1 : Int) ≤ (↑l.length : Int)) = true → Inv29 l e p (par l p a) (n + (1 : Int))) ∧
            (decide (n + (1 : Int) ≤ (↑l.length : Int)) = false → decide (par l p a = e) = roundF l e p)) ∧
        ((!decide (par l p a = (0 : Int))) = !true → decide (par l p a = e) = roundF l e p)) ∧
      ((!decide (par l p a = e)) = !true → decide (par l p a = e) = roundF l e p) := by
    intro a n hI
    refine ⟨fun c1 => ⟨fun c2 => ⟨fun c3 => step a n hI (by simpa using c3) (by simpa using c1) (by simpa using c2), fun c3 => stop a n hI (.inl (by simpa using c3))⟩, fun c2 => stop a n hI (.inr (.inr (by simpa using c2)))⟩, fun c1 => stop a n hI (.inr (.inl (by simpa using c1)))⟩
  unfold g_round_vc
  refine ⟨⟨h, by omega, ?_⟩, ?_⟩
  · obtain ⟨k1, k2⟩ := core e 0 first
    exact ⟨fun c1 => ⟨fun c2 => ⟨fun c3 => ⟨rfl, trivial, ((k1 c1).1 c2).1 c3⟩, fun c3 => congrArg (·, ()) (((k1 c1).1 c2).2 c3)⟩, fun c2 => congrArg (·, ()) ((k1 c1).2 c2)⟩, fun c1 => congrArg (·, ()) (k2 c1)⟩
  · rintro ⟨a, n, _⟩ hI
    have hI0 := hI
    obtain ⟨h1, h2, _⟩ := hI0
    simp only at h1 h2
    obtain ⟨k1, k2⟩ := core a n hI
    simp only
    exact ⟨h, by omega, fun c1 => ⟨fun c2 => ⟨fun c3 => ⟨trivial, trivial, ((k1 c1).1 c2).1 c3, by simp only [decide_eq_true_eq] at c3; omega⟩, fun c3 => congrArg (·, ()) (((k1 c1).1 c2).2 c3)⟩, fun c2 => congrArg (·, ()) ((k1 c1).2 c2)⟩, fun c1 => congrArg (·, ()) (k2 c1)⟩
set_option maxRecDepth 20000
theorem round_pure (l : List Stk) (e p : Int) (h : l.length ≤ 1000000000) : Pure Tryz.prog 99 [.list .tmp STy l, .int .i64 e, .int .i64 p] (.bool (roundF l e p)) :=
  by have k := Pure.of_cond (g_round_eq l e p) (g_round_ok l e p h) (specs_ok rfl [sp_at_] [] rfl rfl) mixed Tryz.func99; exact k
noncomputable def q_round (l : List Stk) (e p : Int) : Prop × V := (l.length ≤ 1000000000, (.bool (roundF l e p)))
noncomputable def sp_round : FSpec Tryz.prog where
 f := 99
 run := fun
  | [v0, .int .i64 e, .int .i64 p] => (asL STy v0 : Option (List Stk)).bind fun l => some (q_round l e p)
  | _ => none
 ok := fun args pre r h hp => by
  split at h
  · rename_i v0 e p
    obtain ⟨l, h0, h⟩ := Option.bind_eq_some_iff.1 h
    exact of_q h hp fun h => (round_pure l e p h).weak (.cons (asL_weak h0) (.cons (.refl _) (.cons (.refl _) .nil)))
  · cases h
end Go.Proofs.YtgjpehgnagfghaaGreat.Stk
