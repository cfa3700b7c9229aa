/-
  stake.last, stake.Check, stake.Add; ref18.Last, Check, Add.
-/
import Derived.Test.YtgjpehgnagfghaaGreatStk5
namespace Go.Proofs.YtgjpehgnagfghaaGreat.Stk
open Go.Vm
def roundAt (l : List Stk) (e p : Int) : Nat → Int → Bool
  | m, a => if a ≠ e ∧ a ≠ 0 then match m with
    | 0 => false
    | m + 1 => roundAt l e p m (par l p a)
    else decide (a = e)
theorem roundGo_at (l : List Stk) (e p : Int) : ∀ (m : Nat) (a : Int), roundGo l e p m a = roundAt l e p m (par l p a)
  | 0, a => by
    unfold roundGo roundAt
    split
    · rename_i h; simp [h.1]
    · rfl
  | m + 1, a => by
    unfold roundGo roundAt
    split
    · exact roundGo_at l e p m _
    · rfl
theorem aboveGo_mono (l : List Stk) (p : Int) : ∀ (n : Nat) (acc : List Int) (a x : Int), x ∈ acc → x ∈ aboveGo l p n acc a
  | 0, acc, a, x, h => h
  | n + 1, acc, a, x, h => by
    unfold aboveGo
    split
    · exact aboveGo_mono l p n _ _ _ (List.mem_append_left _ h)
    · exact h
theorem roundAt_in (l : List Stk) (e p : Int) (he : e ≠ 0) {acc : List Int} (hn : e ∉ acc) (hc : ∀ x ∈ acc, par l p x ∈ acc) : ∀ (m : Nat) (a : Int), a ∈ acc → roundAt l e p m a = false
  | 0, a, ha => by
    have hae : a ≠ e := fun h => hn (h ▸ ha)
    unfold roundAt
    split
    · rfl
    · simp [hae]
  | m + 1, a, ha => by
    have hae : a ≠ e := fun h => hn (h ▸ ha)
    unfold roundAt
    split
    · exact roundAt_in l e p he hn hc m _ (hc a ha)
    · simp [hae]
theorem above_round (l : List Stk) (e p : Int) (he : e ≠ 0) : ∀ (m : Nat) (acc : List Int) (a : Int), acc.Nodup → (∀ x ∈ acc, x ∈ l.map (·.2.1)) → (a ≠ 0 → a ∈ l.map (·.2.1)) → e ∉ acc → (∀ x ∈ acc, par l p x ∈ acc ∨ par l p x = a) →
    m + acc.length = l.length → (aboveGo l p (m + 1) acc a).contains e = roundAt l e p m a := by
  intro m
  induction m with
  | zero =>
    intro acc a h1 h2 h3 h4 h5 h6
    unfold aboveGo roundAt
    by_cases ha0 : a = 0
    · subst ha0
      simp [h4, he.symm]
    · by_cases hac : a ∈ acc
      · have hae : a ≠ e := fun h => h4 (h ▸ hac)
        simp [hac, hae, ha0, h4]
      · exfalso
        have hn : (a :: acc).Nodup := List.nodup_cons.2 ⟨hac, h1⟩
        have := nodup_sub hn (b := l.map (·.2.1)) (fun x hx => by
          rcases List.mem_cons.1 hx with rfl | hx
          · exact h3 ha0
          · exact h2 x hx)
        simp only [List.length_cons, List.length_map] at this
        omega
  | succ m ih =>
    intro acc a h1 h2 h3 h4 h5 h6
    by_cases ha0 : a = 0
    · subst ha0
      unfold aboveGo roundAt
      simp [h4, he.symm]
    by_cases hac : a ∈ acc
    · rw [roundAt_in l e p he h4 (fun x hx => by rcases h5 x hx with h | h; exact h; exact h ▸ hac) _ a hac]
      unfold aboveGo
      simp [hac, h4]
    by_cases hae : a = e
    · subst hae
      unfold aboveGo
      rw [if_pos ⟨ha0, hac⟩]
      have hm := aboveGo_mono l p (m + 1) (acc ++ [a]) (par l p a) a (by simp)
      unfold roundAt
      simp [hm]
    · have hn : (acc ++ [a]).Nodup := List.nodup_append.2 ⟨h1, by simp, fun x hx y hy => by
        simp only [List.mem_singleton] at hy
        subst hy
        intro e
        exact hac (e ▸ hx)⟩
      unfold aboveGo roundAt
      rw [if_pos ⟨ha0, hac⟩, if_pos ⟨hae, ha0⟩]
      refine ih (acc ++ [a]) (par l p a) hn (fun x hx => ?_) par_mem (fun hx => ?_) (fun x hx => ?_) (by simp; omega)
      · rcases List.mem_append.1 hx with hx | hx
        · exact h2 x hx
        · simp only [List.mem_singleton] at hx; subst hx; exact h3 ha0
      · rcases List.mem_append.1 hx with hx | hx
        · exact h4 hx
        · simp only [List.mem_singleton] at hx; exact hae hx.symm
      · rcases List.mem_append.1 hx with hx | hx
        · rcases h5 x hx with h | h
          · exact .inl (List.mem_append_left _ h)
          · exact .inl (by rw [h]; simp)
        · simp only [List.mem_singleton] at hx; subst hx; exact .inr rfl
theorem circle_eq (l : List Stk) (e p : Int) (he : e ≠ 0) : (aboveF l e p).contains e = roundF l e p := by
  unfold roundF aboveF
  rw [roundGo_at]
  exact above_round l e p he l.length [] (par l p e) List.nodup_nil (fun x hx => by simp at hx) par_mem (by simp) (fun x hx => by simp at hx) (by simp)
def lastS (l : List Stk) : Stk := l.getLastD (0, 0, 0, 0)
def circ (l : List Stk) (e : Int) : Bool := (List.range 24).any fun p => roundF l e p
def lastF (l : List Stk) (n : Int) : Int :=
  if (lastS l).1 < 1 ∨ n < (lastS l).1 ∨ (lastS l).2.1 < 0 ∨ n < (lastS l).2.1 then 20
  else if (lastS l).2.2.1 < 0 ∨ 10000 < (lastS l).2.2.1 ∨ ((lastS l).2.1 = 0 ∧ (lastS l).2.2.1 ≠ 10000) then 12
  else if (lastS l).2.2.2 < 0 ∨ 24 ≤ (lastS l).2.2.2 then 22
  else if circ l (lastS l).1 then 26 else 0
theorem lastS_at {l : List Stk} (h : 0 < l.length) : l[l.length - 1]? = some (lastS l) := by
  unfold lastS
  rw [List.getLastD_eq_getLast?, List.getLast?_eq_getElem?]
  have : l.length - 1 < l.length := by omega
  rw [List.getElem?_eq_getElem this]
  rfl
def Inv23 (l : List Stk) (k : Int) : Prop := 0 ≤ k ∧ k ≤ 24 ∧ ∀ j : Nat, j < k.toNat → roundF l (lastS l).1 j = false
noncomputable def env_last (l : List Stk) (_n : Int) : Env where
  P := Tryz.prog
  ty := tys
  specs := specsOf [sp_round]
  heads := fun
    | 9 => some { slots := [(62, .int .i64)], boxes := [], keep := [5], inv := fun _ (x : Int × Unit) => Inv23 l x.1, measure := fun _ (x : Int × Unit) => (24 - x.1).toNat }
    | _ => none
def g_last_vc (l : List Stk) (n : Int) : Prop :=
  ((-9223372036854775808 : Int) ≤ (↑l.length : Int) - (1 : Int) ∧ (↑l.length : Int) - (1 : Int) ≤ (9223372036854775807 : Int)) ∧ ((0 : Int) ≤ (↑l.length : Int) - (1 : Int) ∧ (↑l.length : Int) - (1 : Int) < (↑l.length : Int)) ∧ ∀ (x : Int × Int × Int × Int), l[((↑l.length : Int) - (1 : Int)).toNat]? = some x → (decide (x.1 < (1 : Int)) = false → (decide (n < x.1) = false → (decide (x.2.1 < (0 : Int)) = false → (decide (n < x.2.1) = true → ((20 : Int), ()) = (lastF l n, ())) ∧ (decide (n < x.2.1) = false → (decide (x.2.2.1 < (0 : Int)) = false → (decide ((10000 : Int) < x.2.2.1) = false → (decide (x.2.1 = (0 : Int)) = true → ((!decide (x.2.2.1 = (10000 : Int))) = true → ((12 : Int), ()) = (lastF l n, ())) ∧ ((!decide (x.2.2.1 = (10000 : Int))) = false → (decide (x.2.2.2 < (0 : Int)) = false → (decide ((24 : Int) ≤ x.2.2.2) = true → ((22 : Int), ()) = (lastF l n, ())) ∧ (decide ((24 : Int) ≤ x.2.2.2) = false → ((some (Obj.box [V.int IntKind.i64 x.1, V.int IntKind.i64 x.2.1, V.int IntKind.i64 x.2.2.1, V.int IntKind.i64 x.2.2.2]) = some (Obj.box [V.int IntKind.i64 x.1, V.int IntKind.i64 x.2.1, V.int IntKind.i64 x.2.2.1, V.int IntKind.i64 x.2.2.2]) ∧ True) ∧ Inv23 l (0 : Int)) ∧ ∀ (x_1 : Int × Unit), Inv23 l x_1.1 → (decide (x_1.1 < (24 : Int)) = true → l.length ≤ (1000000000 : Nat) ∧ (roundF l x.1 x_1.1 = true → ((26 : Int), ()) = (lastF l n, ())) ∧ (roundF l x.1 x_1.1 = false → ((-9223372036854775808 : Int) ≤ x_1.1 + (1 : Int) ∧ x_1.1 + (1 : Int) ≤ (9223372036854775807 : Int)) ∧ (some (Obj.box [V.int IntKind.i64 x.1, V.int IntKind.i64 x.2.1, V.int IntKind.i64 x.2.2.1, V.int IntKind.i64 x.2.2.2]) = some (Obj.box [V.int IntKind.i64 x.1, V.int IntKind.i64 x.2.1, V.int IntKind.i64 x.2.2.1, V.int IntKind.i64 x.2.2.2]) ∧ True) ∧ Inv23 l (x_1.1 + (1 : Int)) ∧ ((24 : Int) - (x_1.1 + (1 : Int))).toNat < ((24 : Int) - x_1.1).toNat)) ∧ (decide (x_1.1 < (24 : Int)) = false → ((0 : Int), ()) = (lastF l n, ())))) ∧ (decide (x.2.2.2 < (0 : Int)) = !false → ((22 : Int), ()) = (lastF l n, ())))) ∧ (decide (x.2.1 = (0 : Int)) = !true → (decide (x.2.2.2 < (0 : Int)) = false → (decide ((24 : Int) ≤ x.2.2.2) = true → ((22 : Int), ()) = (lastF l n, ())) ∧ (decide ((24 : Int) ≤ x.2.2.2) = false → ((some (Obj.box [V.int IntKind.i64 x.1, V.int IntKind.i64 x.2.1, V.int IntKind.i64 x.2.2.1, V.int IntKind.i64 x.2.2.2]) = some (Obj.box [V.int IntKind.i64 x.1, V.int IntKind.i64 x.2.1, V.int IntKind.i64 x.2.2.1, V.int IntKind.i64 x.2.2.2]) ∧ True) ∧ Inv23 l (0 : Int)) ∧ ∀ (x_1 : Int × Unit), Inv23 l x_1.1 → (decide (x_1.1 < (24 : Int)) = true → l.length ≤ (1000000000 : Nat) ∧ (roundF l x.1 x_1.1 = true → ((26 : Int), ()) = (lastF l n, ())) ∧ (roundF l x.1 x_1.1 = false → ((-9223372036854775808 : Int) ≤ x_1.1 + (1 : Int) ∧ x_1.1 + (1 : Int) ≤ (9223372036854775807 : Int)) ∧ (some (Obj.box [V.int IntKind.i64 x.1, V.int IntKind.i64 x.2.1, V.int IntKind.i64 x.2.2.1, V.int IntKind.i64 x.2.2.2]) = some (Obj.box [V.int IntKind.i64 x.1, V.int IntKind.i64 x.2.1, V.int IntKind.i64 x.2.2.1, V.int IntKind.i64 x.2.2.2]) ∧ True) ∧ Inv23 l (x_1.1 + (1 : Int)) ∧ ((24 : Int) - (x_1.1 + (1 : Int))).toNat < ((24 : Int) - x_1.1).toNat)) ∧ (decide (x_1.1 < (24 : Int)) = false → ((0 : Int), ()) = (lastF l n, ())))) ∧ (decide (x.2.2.2 < (0 : Int)) = !false → ((22 : Int), ()) = (lastF l n, ())))) ∧ (decide ((10000 : Int) < x.2.2.1) = !false → ((12 : Int), ()) = (lastF l n, ()))) ∧ (decide (x.2.2.1 < (0 : Int)) = !false → ((12 : Int), ()) = (lastF l n, ())))) ∧ (decide (x.2.1 < (0 : Int)) = !false → ((20 : Int), ()) = (lastF l n, ()))) ∧ (decide (n < x.1) = !false → ((20 : Int), ()) = (lastF l n, ()))) ∧ (decide (x.1 < (1 : Int)) = !false → ((20 : Int), ()) = (lastF l n, ()))
theorem g_last_eq (l : List Stk) (n : Int) : Cond (env_last l n) Tryz.f79 [.list .tmp STy l, .int .i64 n] [.int .i64] (lastF l n, ()) = g_last_vc l n := by kernel_rfl
theorem inv23_b {l : List Stk} {k : Int} (h : Inv23 l k) : 0 ≤ k ∧ k ≤ 24 := ⟨h.1, h.2.1⟩
theorem inv23_0 (l : List Stk) : Inv23 l 0 := ⟨by omega, by omega, fun j hj => by simp at hj⟩
theorem inv23_s {l : List Stk} {k : Int} (h : Inv23 l k) (hk : k < 24) (hr : roundF l (lastS l).1 k = false) : Inv23 l (k + 1) := by
  obtain ⟨h1, h2, h3⟩ := h
  refine ⟨by omega, by omega, fun j hj => ?_⟩
  by_cases e : j < k.toNat
  · exact h3 j e
  · have : (j : Int) = k := by omega
    rw [this]; exact hr
theorem circ_yes {l : List Stk} {k : Int} (h : Inv23 l k) (hk : k < 24) (hr : roundF l (lastS l).1 k = true) : circ l (lastS l).1 = true := by
  obtain ⟨h1, h2, h3⟩ := h
  refine List.any_eq_true.2 ⟨k.toNat, List.mem_range.2 (by omega), ?_⟩
  rw [show ((k.toNat : Nat) : Int) = k by omega]; exact hr
theorem circ_no {l : List Stk} {k : Int} (h : Inv23 l k) (hk : ¬ k < 24) : circ l (lastS l).1 = false := by
  obtain ⟨h1, h2, h3⟩ := h
  refine List.any_eq_false.2 (fun j hj => ?_)
  rw [h3 j (by have := List.mem_range.1 hj; omega)]
  simp
theorem g_last_ok (l : List Stk) (n : Int) (h : 0 < l.length ∧ l.length ≤ 1000000000) : g_last_vc l n := by
  unfold g_last_vc
  obtain ⟨ha, hb⟩ := h
  refine ⟨by omega, by omega, fun x hx => ?_⟩
  obtain rfl : x = lastS l := by
    rw [show ((l.length : Int) - 1).toNat = l.length - 1 by omega, lastS_at ha] at hx
    exact (Option.some.inj hx).symm
  simp only [decide_eq_true_eq, decide_eq_false_iff_not, Bool.not_true, Bool.not_false, Bool.not_eq_true', Bool.not_eq_false', true_and, and_true]
  repeat' (first | (with_reducible apply And.intro) | intro _)
  all_goals first
    | exact hb
    | exact inv23_0 l
    | exact inv23_s ‹_› ‹_› ‹_›
    | (have := inv23_b ‹Inv23 _ _›; omega)
    | (have hc := circ_yes ‹Inv23 _ _› ‹_› ‹_›
       refine congrArg (·, ()) ?_
       unfold lastF
       rw [hc]
       simp only [if_true]
       repeat' split
       all_goals first | rfl | (exfalso; omega))
    | (have hc := circ_no ‹Inv23 _ _› ‹_›
       refine congrArg (·, ()) ?_
       unfold lastF
       rw [hc]
       simp only [Bool.false_eq_true, if_false]
       repeat' split
       all_goals first | rfl | (exfalso; omega))
    | (refine congrArg (·, ()) ?_
       unfold lastF
       repeat' split
       all_goals first | rfl | (exfalso; omega))
set_option maxRecDepth 20000
theorem last_pure (l : List Stk) (n : Int) (h : 0 < l.length ∧ l.length ≤ 1000000000) : Pure Tryz.prog 79 [.list .tmp STy l, .int .i64 n] (.int .i64 (lastF l n)) :=
  by have k := Pure.of_cond (g_last_eq l n) (g_last_ok l n h) (specs_ok rfl [sp_round] [] rfl rfl) mixed Tryz.func79; exact k
noncomputable def q_last (l : List Stk) (n : Int) : Prop × V := (0 < l.length ∧ l.length ≤ 1000000000, (.int .i64 (lastF l n)))
noncomputable def sp_last : FSpec Tryz.prog where
 f := 79
 run := fun
  | [v0, .int .i64 n] => (asL STy v0 : Option (List Stk)).bind fun l => some (q_last l n)
  | _ => none
 ok := fun args pre r h hp => by
  split at h
  · rename_i v0 n
    obtain ⟨l, h0, h⟩ := Option.bind_eq_some_iff.1 h
    exact of_q h hp fun h => (last_pure l n h).weak (.cons (asL_weak h0) (.cons (.refl _) .nil))
  · cases h
noncomputable def env_refLast (l : List Stk) (_n : Int) : Env where
  P := Tryz.prog
  ty := tys
  specs := specsOf [sp_above, sp_has]
  frz := fun | 67 => true | _ => false
  heads := fun
    | 9 => some { slots := [(6, .int .i64)], boxes := [], keep := [5], inv := fun _ (x : Int × Unit) => Inv23 l x.1, measure := fun _ (x : Int × Unit) => (24 - x.1).toNat }
    | _ => none
def g_refLast_vc (l : List Stk) (n : Int) : Prop :=
  ((-9223372036854775808 : Int) ≤ (↑l.length : Int) - (1 : Int) ∧ (↑l.length : Int) - (1 : Int) ≤ (9223372036854775807 : Int)) ∧ ((0 : Int) ≤ (↑l.length : Int) - (1 : Int) ∧ (↑l.length : Int) - (1 : Int) < (↑l.length : Int)) ∧ ∀ (x : Int × Int × Int × Int), l[((↑l.length : Int) - (1 : Int)).toNat]? = some x → (decide (x.1 < (1 : Int)) = false → (decide (n < x.1) = false → (decide (x.2.1 < (0 : Int)) = false → (decide (n < x.2.1) = true → ((20 : Int), ()) = (lastF l n, ())) ∧ (decide (n < x.2.1) = false → (decide (x.2.2.1 < (0 : Int)) = false → (decide ((10000 : Int) < x.2.2.1) = false → (decide (x.2.1 = (0 : Int)) = true → ((!decide (x.2.2.1 = (10000 : Int))) = true → ((12 : Int), ()) = (lastF l n, ())) ∧ ((!decide (x.2.2.1 = (10000 : Int))) = false → (decide (x.2.2.2 < (0 : Int)) = false → (decide ((24 : Int) ≤ x.2.2.2) = true → ((22 : Int), ()) = (lastF l n, ())) ∧ (decide ((24 : Int) ≤ x.2.2.2) = false → ((some (Obj.box [V.int IntKind.i64 x.1, V.int IntKind.i64 x.2.1, V.int IntKind.i64 x.2.2.1, V.int IntKind.i64 x.2.2.2]) = some (Obj.box [V.int IntKind.i64 x.1, V.int IntKind.i64 x.2.1, V.int IntKind.i64 x.2.2.1, V.int IntKind.i64 x.2.2.2]) ∧ True) ∧ Inv23 l (0 : Int)) ∧ ∀ (x_1 : Int × Unit), Inv23 l x_1.1 → (decide (x_1.1 < (24 : Int)) = true → l.length ≤ (1000000000 : Nat) ∧ (aboveF l x.1 x_1.1).length ≤ (1000000000 : Nat) ∧ ((aboveF l x.1 x_1.1).contains x.1 = true → ((26 : Int), ()) = (lastF l n, ())) ∧ ((aboveF l x.1 x_1.1).contains x.1 = false → ((-9223372036854775808 : Int) ≤ x_1.1 + (1 : Int) ∧ x_1.1 + (1 : Int) ≤ (9223372036854775807 : Int)) ∧ (some (Obj.box [V.int IntKind.i64 x.1, V.int IntKind.i64 x.2.1, V.int IntKind.i64 x.2.2.1, V.int IntKind.i64 x.2.2.2]) = some (Obj.box [V.int IntKind.i64 x.1, V.int IntKind.i64 x.2.1, V.int IntKind.i64 x.2.2.1, V.int IntKind.i64 x.2.2.2]) ∧ True) ∧ Inv23 l (x_1.1 + (1 : Int)) ∧ ((24 : Int) - (x_1.1 + (1 : Int))).toNat < ((24 : Int) - x_1.1).toNat)) ∧ (decide (x_1.1 < (24 : Int)) = false → ((0 : Int), ()) = (lastF l n, ())))) ∧ (decide (x.2.2.2 < (0 : Int)) = !false → ((22 : Int), ()) = (lastF l n, ())))) ∧ (decide (x.2.1 = (0 : Int)) = !true → (decide (x.2.2.2 < (0 : Int)) = false → (decide ((24 : Int) ≤ x.2.2.2) = true → ((22 : Int), ()) = (lastF l n, ())) ∧ (decide ((24 : Int) ≤ x.2.2.2) = false → ((some (Obj.box [V.int IntKind.i64 x.1, V.int IntKind.i64 x.2.1, V.int IntKind.i64 x.2.2.1, V.int IntKind.i64 x.2.2.2]) = some (Obj.box [V.int IntKind.i64 x.1, V.int IntKind.i64 x.2.1, V.int IntKind.i64 x.2.2.1, V.int IntKind.i64 x.2.2.2]) ∧ True) ∧ Inv23 l (0 : Int)) ∧ ∀ (x_1 : Int × Unit), Inv23 l x_1.1 → (decide (x_1.1 < (24 : Int)) = true → l.length ≤ (1000000000 : Nat) ∧ (aboveF l x.1 x_1.1).length ≤ (1000000000 : Nat) ∧ ((aboveF l x.1 x_1.1).contains x.1 = true → ((26 : Int), ()) = (lastF l n, ())) ∧ ((aboveF l x.1 x_1.1).contains x.1 = false → ((-9223372036854775808 : Int) ≤ x_1.1 + (1 : Int) ∧ x_1.1 + (1 : Int) ≤ (9223372036854775807 : Int)) ∧ (some (Obj.box [V.int IntKind.i64 x.1, V.int IntKind.i64 x.2.1, V.int IntKind.i64 x.2.2.1, V.int IntKind.i64 x.2.2.2]) = some (Obj.box [V.int IntKind.i64 x.1, V.int IntKind.i64 x.2.1, V.int IntKind.i64 x.2.2.1, V.int IntKind.i64 x.2.2.2]) ∧ True) ∧ Inv23 l (x_1.1 + (1 : Int)) ∧ ((24 : Int) - (x_1.1 + (1 : Int))).toNat < ((24 : Int) - x_1.1).toNat)) ∧ (decide (x_1.1 < (24 : Int)) = false → ((0 : Int), ()) = (lastF l n, ())))) ∧ (decide (x.2.2.2 < (0 : Int)) = !false → ((22 : Int), ()) = (lastF l n, ())))) ∧ (decide ((10000 : Int) < x.2.2.1) = !false → ((12 : Int), ()) = (lastF l n, ()))) ∧ (decide (x.2.2.1 < (0 : Int)) = !false → ((12 : Int), ()) = (lastF l n, ())))) ∧ (decide (x.2.1 < (0 : Int)) = !false → ((20 : Int), ()) = (lastF l n, ()))) ∧ (decide (n < x.1) = !false → ((20 : Int), ()) = (lastF l n, ()))) ∧ (decide (x.1 < (1 : Int)) = !false → ((20 : Int), ()) = (lastF l n, ()))
theorem g_refLast_eq (l : List Stk) (n : Int) : Cond (env_refLast l n) Tryz.f89 [.list .tmp STy l, .int .i64 n] [.int .i64] (lastF l n, ()) = g_refLast_vc l n := by kernel_rfl
theorem aboveF_len (l : List Stk) (e p : Int) : (aboveF l e p).length ≤ l.length := by
  have key : ∀ (n : Nat) (acc : List Int) (a : Int), acc.Nodup → (∀ x ∈ acc, x ∈ l.map (·.2.1)) → (a ≠ 0 → a ∈ l.map (·.2.1)) → acc.length ≤ l.length → (aboveGo l p n acc a).length ≤ l.length := by
    intro n
    induction n with
    | zero => intro acc a _ _ _ h; exact h
    | succ n ih =>
      intro acc a h1 h2 h3 h4
      unfold aboveGo
      split
      · rename_i hc
        have hn : (acc ++ [a]).Nodup := List.nodup_append.2 ⟨h1, by simp, fun x hx y hy => by
          simp only [List.mem_singleton] at hy
          subst hy
          intro e
          exact hc.2 (e ▸ hx)⟩
        have hs : ∀ x ∈ acc ++ [a], x ∈ l.map (·.2.1) := fun x hx => by
          rcases List.mem_append.1 hx with hx | hx
          · exact h2 x hx
          · simp only [List.mem_singleton] at hx; subst hx; exact h3 hc.1
        have := nodup_sub hn hs
        exact ih _ _ hn hs par_mem (by simpa using this)
      · exact h4
  exact key _ [] _ List.nodup_nil (fun x hx => by simp at hx) par_mem (Nat.zero_le _)
theorem g_refLast_ok (l : List Stk) (n : Int) (h : 0 < l.length ∧ l.length ≤ 1000000000) : g_refLast_vc l n := by
  unfold g_refLast_vc
  obtain ⟨ha, hb⟩ := h
  refine ⟨by omega, by omega, fun x hx => ?_⟩
  obtain rfl : x = lastS l := by
    rw [show ((l.length : Int) - 1).toNat = l.length - 1 by omega, lastS_at ha] at hx
    exact (Option.some.inj hx).symm
  have hal := fun p => aboveF_len l (lastS l).1 p
  by_cases he : (lastS l).1 = 0
  · simp only [he, decide_eq_true_eq, decide_eq_false_iff_not]
    refine ⟨fun hh => absurd hh (by decide), fun _ => ?_⟩
    refine congrArg (·, ()) ?_
    unfold lastF
    rw [if_pos (.inl (by omega))]
  have hce := fun p => circle_eq l (lastS l).1 p he
  simp only [hce]
  simp only [decide_eq_true_eq, decide_eq_false_iff_not, Bool.not_true, Bool.not_false, Bool.not_eq_true', Bool.not_eq_false', true_and, and_true]
  repeat' (first | (with_reducible apply And.intro) | intro _)
  all_goals first
    | exact hb
    | (have := hal ‹Int × Unit›.1; omega)
    | exact inv23_0 l
    | exact inv23_s ‹_› ‹_› ‹_›
    | (have := inv23_b ‹Inv23 _ _›; omega)
    | (have hc := circ_yes ‹Inv23 _ _› ‹_› ‹_›
       refine congrArg (·, ()) ?_
       unfold lastF
       rw [hc]
       simp only [if_true]
       repeat' split
       all_goals first | rfl | (exfalso; omega))
    | (have hc := circ_no ‹Inv23 _ _› ‹_›
       refine congrArg (·, ()) ?_
       unfold lastF
       rw [hc]
       simp only [Bool.false_eq_true, if_false]
       repeat' split
       all_goals first | rfl | (exfalso; omega))
    | (refine congrArg (·, ()) ?_
       unfold lastF
       repeat' split
       all_goals first | rfl | (exfalso; omega))
theorem refLast_pure (l : List Stk) (n : Int) (h : 0 < l.length ∧ l.length ≤ 1000000000) : Pure Tryz.prog 89 [.list .tmp STy l, .int .i64 n] (.int .i64 (lastF l n)) :=
  by have k := Pure.of_cond (g_refLast_eq l n) (g_refLast_ok l n h) (specs_ok rfl [sp_above, sp_has] [] rfl rfl) mixed Tryz.func89; exact k
noncomputable def q_refLast (l : List Stk) (n : Int) : Prop × V := (0 < l.length ∧ l.length ≤ 1000000000, (.int .i64 (lastF l n)))
noncomputable def sp_refLast : FSpec Tryz.prog where
 f := 89
 run := fun
  | [v0, .int .i64 n] => (asL STy v0 : Option (List Stk)).bind fun l => some (q_refLast l n)
  | _ => none
 ok := fun args pre r h hp => by
  split at h
  · rename_i v0 n
    obtain ⟨l, h0, h⟩ := Option.bind_eq_some_iff.1 h
    exact of_q h hp fun h => (refLast_pure l n h).weak (.cons (asL_weak h0) (.cons (.refl _) .nil))
  · cases h
end Go.Proofs.YtgjpehgnagfghaaGreat.Stk
