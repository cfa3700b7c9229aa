/-
  ref18.Above.
-/
import Derived.Test.YtgjpehgnagfghaaGreatStk3
namespace Go.Proofs.YtgjpehgnagfghaaGreat.Stk
open Go.Vm
theorem nodup_sub : ∀ {a b : List Int}, a.Nodup → (∀ x ∈ a, x ∈ b) → a.length ≤ b.length
  | [], _, _, _ => Nat.zero_le _
  | x :: r, b, hn, hs => by
    obtain ⟨h1, h2⟩ := List.nodup_cons.1 hn
    have hx := hs x List.mem_cons_self
    have := nodup_sub (b := b.erase x) h2 (fun y hy => by
      have hne : y ≠ x := fun e => h1 (e ▸ hy)
      exact (List.mem_erase_of_ne hne).2 (hs y (List.mem_cons_of_mem _ hy)))
    rw [List.length_erase_of_mem hx] at this
    have : 0 < b.length := List.length_pos_of_mem hx
    simp only [List.length_cons]
    omega
theorem best_mem {l : List Stk} {e p : Int} {s : Stk} (h : best l e p = some s) : s ∈ l := by
  have key : ∀ (l : List Stk) (b : Option Stk), (∀ q, b = some q → q ∈ l ∨ True) → ∀ s, l.foldl (take e p) b = some s → s ∈ l ∨ b = some s := by
    intro l
    induction l with
    | nil => intro b _ s h; exact .inr h
    | cons x r ih =>
      intro b _ s h
      rcases ih (take e p b x) (fun _ _ => .inr trivial) s h with h1 | h1
      · exact .inl (List.mem_cons_of_mem _ h1)
      · unfold take at h1
        split at h1
        · split at h1
          · cases h1; exact .inl List.mem_cons_self
          · split at h1
            · cases h1; exact .inl List.mem_cons_self
            · exact .inr h1
        · exact .inr h1
  rcases key l none (fun _ _ => .inr trivial) s h with h1 | h1
  · exact h1
  · cases h1
theorem par_mem {l : List Stk} {p a : Int} (h : par l p a ≠ 0) : par l p a ∈ l.map (·.2.1) := by
  unfold par atF at *
  split at h
  · simp at h
  · rename_i s hs
    exact List.mem_map.2 ⟨s, best_mem hs, rfl⟩
def aboveGo (l : List Stk) (p : Int) : Nat → List Int → Int → List Int
  | 0, acc, _ => acc
  | n + 1, acc, a => if a ≠ 0 ∧ a ∉ acc then aboveGo l p n (acc ++ [a]) (par l p a) else acc
def aboveF (l : List Stk) (e p : Int) : List Int := aboveGo l p (l.length + 1) [] (par l p e)
def Inv31 (l : List Stk) (e p : Int) (acc : List Int) (a : Int) : Prop :=
  acc.Nodup ∧ (∀ x ∈ acc, x ∈ l.map (·.2.1)) ∧ (a ≠ 0 → a ∈ l.map (·.2.1)) ∧ acc.length ≤ l.length ∧ aboveGo l p (l.length + 1 - acc.length) acc a = aboveF l e p
theorem inv31_next {l : List Stk} {e p : Int} {acc : List Int} {a : Int} (h : Inv31 l e p acc a) (h0 : a ≠ 0) (h1 : a ∉ acc) : Inv31 l e p (acc ++ [a]) (par l p a) := by
  obtain ⟨k1, k2, k3, k4, k5⟩ := h
  have n1 : (acc ++ [a]).Nodup := List.nodup_append.2 ⟨k1, by simp, fun x hx y hy => by
    simp only [List.mem_singleton] at hy
    subst hy
    intro e
    exact h1 (e ▸ hx)⟩
  have n2 : ∀ x ∈ acc ++ [a], x ∈ l.map (·.2.1) := by
    intro x hx
    simp only [List.mem_append, List.mem_singleton] at hx
    rcases hx with hx | rfl
    · exact k2 x hx
    · exact k3 h0
  have n3 := nodup_sub n1 n2
  simp only [List.length_map] at n3
  refine ⟨n1, n2, par_mem, n3, ?_⟩
  rw [← k5]
  have e1 : l.length + 1 - acc.length = (l.length + 1 - (acc ++ [a]).length) + 1 := by
    simp only [List.length_append, List.length_singleton] at n3 ⊢
    omega
  rw [e1, aboveGo, if_pos ⟨h0, h1⟩]
theorem inv31_stop {l : List Stk} {e p : Int} {acc : List Int} {a : Int} (h : Inv31 l e p acc a) (h0 : a = 0 ∨ a ∈ acc) : acc = aboveF l e p := by
  obtain ⟨k1, k2, k3, k4, k5⟩ := h
  rw [← k5]
  have e1 : l.length + 1 - acc.length = (l.length - acc.length) + 1 := by omega
  rw [e1, aboveGo, if_neg]
  rcases h0 with h0 | h0
  · exact fun h => h.1 h0
  · exact fun h => h.2 h0
noncomputable def env_above (l : List Stk) (e p : Int) : Env where
  P := Tryz.prog
  ty := fun | 3 => some I | _ => none
  specs := specsOf [sp_refAt, sp_has]
  heads := fun
    | 3 => some { slots := [(7, .slc 5000 I), (8, .int .i64)], boxes := [], inv := fun _ (x : List Int × Int × Unit) => Inv31 l e p x.1 x.2.1, measure := fun _ (x : List Int × Int × Unit) => l.length + 1 - x.1.length }
    | _ => none
def g_above_vc (l : List Stk) (e : Int) (p : Int) : Prop :=
  l.length ≤ (1000000000 : Nat) ∧ (True ∧ Inv31 l e p [] (atF l e p).1) ∧ ∀ (x : List Int × Int × Unit), Inv31 l e p x.1 x.2.1 → ((!decide (x.2.1 = (0 : Int))) = true → x.1.length ≤ (1000000000 : Nat) ∧ ((!x.1.contains x.2.1) = true → ((x.1.length + [x.2.1].length) * (8 : Nat) ≤ (140737488355328 : Nat) ∧ x.1.length + [x.2.1].length ≤ (4611686018427387904 : Nat)) ∧ l.length ≤ (1000000000 : Nat) ∧ True ∧ Inv31 l e p (x.1 ++ [x.2.1]) (atF l x.2.1 p).1 ∧ l.length + (1 : Nat) - (x.1 ++ [x.2.1]).length < l.length + (1 : Nat) - x.1.length) ∧ ((!x.1.contains x.2.1) = false → (x.1, ()) = (aboveF l e p, ()))) ∧ ((!decide (x.2.1 = (0 : Int))) = !true → (x.1, ()) = (aboveF l e p, ()))
theorem g_above_eq (l : List Stk) (e p : Int) : Cond (env_above l e p) Tryz.f113 [.list .tmp STy l, .int .i64 e, .int .i64 p] [.slc 0 I] (aboveF l e p, ()) = g_above_vc l e p := by kernel_rfl
theorem g_above_ok (l : List Stk) (e p : Int) (h : l.length ≤ 1000000000) : g_above_vc l e p := by
  unfold g_above_vc
  refine ⟨h, ⟨trivial, List.nodup_nil, fun x hx => by simp at hx, par_mem, Nat.zero_le _, rfl⟩, ?_⟩
  rintro ⟨acc, a, _⟩ hI
  have h4 := hI.2.2.2.1
  simp only at h4 ⊢
  refine ⟨fun c1 => ⟨by omega, fun c2 => ⟨⟨?_, ?_⟩, h, trivial, ?_, ?_⟩, fun c2 => ?_⟩, fun c1 => ?_⟩
  · simp only [List.length_singleton]; omega
  · simp only [List.length_singleton]; omega
  · exact inv31_next hI (by simpa using c1) (by simpa using c2)
  · simp only [List.length_append, List.length_singleton]; omega
  · exact congrArg (·, ()) (inv31_stop hI (.inr (by simpa using c2)))
  · exact congrArg (·, ()) (inv31_stop hI (.inl (by simpa using c1)))
set_option maxRecDepth 20000
theorem above_pure (l : List Stk) (e p : Int) (h : l.length ≤ 1000000000) : Pure Tryz.prog 113 [.list .tmp STy l, .int .i64 e, .int .i64 p] (.olist I (aboveF l e p)) :=
  by have k := Pure.of_cond (g_above_eq l e p) (g_above_ok l e p h) (specs_ok rfl [sp_refAt, sp_has] [] rfl rfl) mixed Tryz.func113; exact k
noncomputable def q_above (l : List Stk) (e p : Int) : Prop × V := (l.length ≤ 1000000000, (.olist I (aboveF l e p)))
noncomputable def sp_above : FSpec Tryz.prog where
 f := 113
 run := fun
  | [v0, .int .i64 e, .int .i64 p] => (asL STy v0 : Option (List Stk)).bind fun l => some (q_above l e p)
  | _ => none
 ok := fun args pre r h hp => by
  split at h
  · rename_i v0 e p
    obtain ⟨l, h0, h⟩ := Option.bind_eq_some_iff.1 h
    exact of_q h hp fun h => (above_pure l e p h).weak (.cons (asL_weak h0) (.cons (.refl _) (.cons (.refl _) .nil)))
  · cases h
end Go.Proofs.YtgjpehgnagfghaaGreat.Stk
