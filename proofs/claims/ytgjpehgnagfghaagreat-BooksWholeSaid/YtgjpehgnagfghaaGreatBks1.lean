/-
  journal.Reversed; where an entry's lines may stand; what an entry may reverse.
-/
import Derived.Test.YtgjpehgnagfghaaGreatAcc3
import Derived.Test.YtgjpehgnagfghaaGreatEnt10
namespace Go.Proofs.YtgjpehgnagfghaaGreat.Bks
open Go.Vm
abbrev Ln := Int × Int × Int × Int
abbrev En := Int × Int × List Ln
def InE (N : List En) : Prop := ∀ x ∈ N, Ent.InL x.2.2 ∧ x.2.2.length ≤ 1000
theorem ine_at {N : List En} {i : Nat} {x : En} (h : InE N) (hx : N[i]? = some x) : Ent.InL x.2.2 ∧ x.2.2.length ≤ 1000 := h x (List.mem_of_getElem? hx)
theorem ine_take {N : List En} {i : Nat} (h : InE N) : InE (N.take i) := fun x hx => h x (List.mem_of_mem_take hx)
def revP (n : Int) (x : En) : Bool := decide (x.2.1 = n)
def revF (N : List En) (n : Int) : Int := if n < 1 ∨ N.length < n then 0 else idxF (revP n) N + 1
noncomputable def env_rev1 (p r : Int) (L : List Ln) (n : Int) : Env where
  P := Tryz.prog
  ty := tys0
def g_rev1_vc (p : Int) (r : Int) (L : List Ln) (n : Int) : Prop :=
  (decide (r = n), ()) = (revP n (p, r, L), ())
theorem g_rev1_eq (p r : Int) (L : List Ln) (n : Int) : Cond (env_rev1 p r L n) Tryz.f68 [.agg [.int .i64 p, .int .i64 r, .list .tmp LnT L], .fptr [.int .i64 n]] [.bool] (revP n (p, r, L), ()) = g_rev1_vc p r L n := by kernel_rfl
theorem g_rev1_ok (p r : Int) (L : List Ln) (n : Int) : g_rev1_vc p r L n := by
  unfold g_rev1_vc
  exact rfl
set_option maxRecDepth 20000
theorem rev1_pure (p r : Int) (L : List Ln) (n : Int) : Pure Tryz.prog 68 [.agg [.int .i64 p, .int .i64 r, .list .tmp LnT L], .fptr [.int .i64 n]] (.bool (revP n (p, r, L))) :=
  by have k := Pure.of_cond (g_rev1_eq p r L n) (g_rev1_ok p r L n) (specs_ok rfl [] [] rfl rfl) mixed Tryz.func68; exact k
noncomputable def q_rev1 (p r : Int) (L : List Ln) (n : Int) : Prop × V := (True, (.bool (revP n (p, r, L))))
noncomputable def sp_rev1 : FSpec Tryz.prog where
 f := 68
 run := fun
  | [.agg [.int .i64 p, .int .i64 r, v0_2], .fptr [.int .i64 n]] => (asL LnT v0_2 : Option (List Ln)).bind fun L => some (q_rev1 p r L n)
  | _ => none
 ok := fun args pre r h hp => by
  split at h
  · rename_i p r v0_2 n
    obtain ⟨L, h0_2, h⟩ := Option.bind_eq_some_iff.1 h
    exact of_q h hp fun h => (rev1_pure p r L n).weak (.cons (Weak.agg (.cons (.refl _) (.cons (.refl _) (.cons (asL_weak h0_2) .nil)))) (.cons (.refl _) .nil))
  · cases h
noncomputable def env_revi (l : List En) (n : Int) : Env where
  P := Tryz.prog
  ty := tys0
  specs := specsOf [sp_rev1]
  heads := fun | 2 => some { slots := [(8, .int .i64)], boxes := [], inv := fun _ (x : Int × Unit) => 0 ≤ x.1 ∧ x.1 ≤ l.length ∧ idxF (revP n) l = idxGo (revP n) (l.drop x.1.toNat) x.1, measure := fun _ (x : Int × Unit) => (l.length - x.1).toNat } | _ => none
def g_revi_vc (l : List En) (n : Int) : Prop :=
  (True ∧ (0 : Int) ≤ (0 : Int) ∧ (0 : Int) ≤ (↑l.length : Int) ∧ idxF (revP n) l = idxGo (revP n) (List.drop (Int.toNat (0 : Int)) l) (0 : Int)) ∧ ∀ (x : Int × Unit), (0 : Int) ≤ x.1 ∧ x.1 ≤ (↑l.length : Int) ∧ idxF (revP n) l = idxGo (revP n) (List.drop x.1.toNat l) x.1 → (decide (x.1 < (↑l.length : Int)) = true → ((0 : Int) ≤ x.1 ∧ x.1 < (↑l.length : Int)) ∧ ∀ (x_1 : Int × Int × List (Int × Int × Int × Int)), l[x.1.toNat]? = some x_1 → True ∧ (revP n (x_1.1, x_1.2.1, x_1.2.2) = true → (x.1, ()) = (idxF (revP n) l, ())) ∧ (revP n (x_1.1, x_1.2.1, x_1.2.2) = false → ((-9223372036854775808 : Int) ≤ x.1 + (1 : Int) ∧ x.1 + (1 : Int) ≤ (9223372036854775807 : Int)) ∧ True ∧ ((0 : Int) ≤ x.1 + (1 : Int) ∧ x.1 + (1 : Int) ≤ (↑l.length : Int) ∧ idxF (revP n) l = idxGo (revP n) (List.drop (x.1 + (1 : Int)).toNat l) (x.1 + (1 : Int))) ∧ ((↑l.length : Int) - (x.1 + (1 : Int))).toNat < ((↑l.length : Int) - x.1).toNat)) ∧ (decide (x.1 < (↑l.length : Int)) = false → ((-1 : Int), ()) = (idxF (revP n) l, ()))
theorem g_revi_eq (l : List En) (n : Int) : Cond (env_revi l n) Tryz.f67 [.list .tmp EnT l, .fn (.func 68) [] [.fptr [.int .i64 n]]] [.int .i64] (idxF (revP n) l, ()) = g_revi_vc l n := by kernel_rfl
theorem g_revi_ok (l : List En) (n : Int) (h : l.length ≤ 1000000000) : g_revi_vc l n := by
  unfold g_revi_vc
  simp only [decide_eq_true_eq, decide_eq_false_iff_not]
  refine ⟨⟨trivial, by omega, by omega, rfl⟩, ?_⟩
  rintro ⟨i, ⟨⟩⟩ ⟨h0, h1, hb⟩
  dsimp only at h0 h1 hb ⊢
  rw [hb]
  refine ⟨fun c => ⟨⟨h0, c⟩, fun x hx => ⟨trivial, fun k => ?_, fun k => ⟨by omega, trivial, ⟨by omega, by omega, ?_⟩, by omega⟩⟩⟩, fun c => ?_⟩
  · rw [idx_hit h0 hx k]
  · rw [idx_miss h0 hx k]
  · rw [idx_end c]
theorem revi_pure (l : List En) (n : Int) (h : l.length ≤ 1000000000) : Pure Tryz.prog 67 [.list .tmp EnT l, .fn (.func 68) [] [.fptr [.int .i64 n]]] (.int .i64 (idxF (revP n) l)) :=
  by have k := Pure.of_cond (g_revi_eq l n) (g_revi_ok l n h) (specs_ok rfl [sp_rev1] [] rfl rfl) mixed Tryz.func67; exact k
noncomputable def q_revi (l : List En) (n : Int) : Prop × V := (l.length ≤ 1000000000, (.int .i64 (idxF (revP n) l)))
noncomputable def sp_revi : FSpec Tryz.prog where
 f := 67
 run := fun
  | [v0, .fn (.func 68) [] [.fptr [.int .i64 n]]] => (asL EnT v0 : Option (List En)).bind fun l => some (q_revi l n)
  | _ => none
 ok := fun args pre r h hp => by
  split at h
  · rename_i v0 n
    obtain ⟨l, h0, h⟩ := Option.bind_eq_some_iff.1 h
    exact of_q h hp fun h => (revi_pure l n h).weak (.cons (asL_weak h0) (.cons (.refl _) .nil))
  · cases h
noncomputable def env_rev (l : List En) (n : Int) : Env where
  P := Tryz.prog
  ty := tys0
  specs := specsOf [sp_revi]
def g_rev_vc (l : List En) (n : Int) : Prop :=
  (decide (n < (1 : Int)) = false → (decide ((↑l.length : Int) < n) = true → ((0 : Int), ()) = (revF l n, ())) ∧ (decide ((↑l.length : Int) < n) = false → l.length ≤ (1000000000 : Nat) ∧ ((-9223372036854775808 : Int) ≤ idxF (revP n) l + (1 : Int) ∧ idxF (revP n) l + (1 : Int) ≤ (9223372036854775807 : Int)) ∧ (idxF (revP n) l + (1 : Int), ()) = (revF l n, ()))) ∧ (decide (n < (1 : Int)) = !false → ((0 : Int), ()) = (revF l n, ()))
theorem g_rev_eq (l : List En) (n : Int) : Cond (env_rev l n) Tryz.f18 [.list .tmp EnT l, .int .i64 n] [.int .i64] (revF l n, ()) = g_rev_vc l n := by kernel_rfl
theorem g_rev_ok (l : List En) (n : Int) (h : l.length ≤ 1000000000) : g_rev_vc l n := by
  unfold g_rev_vc
  simp only [decide_eq_true_eq, decide_eq_false_iff_not, Bool.not_false]
  have hb := idx_bounds (revP n) l
  unfold revF
  refine ⟨fun c => ⟨fun d => by rw [if_pos (.inr d)], fun d => ⟨h, by omega, by rw [if_neg (by omega)]⟩⟩, fun c => by rw [if_pos (.inl c)]⟩
theorem rev_pure (l : List En) (n : Int) (h : l.length ≤ 1000000000) : Pure Tryz.prog 18 [.list .tmp EnT l, .int .i64 n] (.int .i64 (revF l n)) :=
  by have k := Pure.of_cond (g_rev_eq l n) (g_rev_ok l n h) (specs_ok rfl [sp_revi] [] rfl rfl) mixed Tryz.func18; exact k
noncomputable def q_rev (l : List En) (n : Int) : Prop × V := (l.length ≤ 1000000000, (.int .i64 (revF l n)))
noncomputable def sp_rev : FSpec Tryz.prog where
 f := 18
 run := fun
  | [v0, .int .i64 n] => (asL EnT v0 : Option (List En)).bind fun l => some (q_rev l n)
  | _ => none
 ok := fun args pre r h hp => by
  split at h
  · rename_i v0 n
    obtain ⟨l, h0, h⟩ := Option.bind_eq_some_iff.1 h
    exact of_q h hp fun h => (rev_pure l n h).weak (.cons (asL_weak h0) (.cons (.refl _) .nil))
  · cases h
noncomputable def env_rrev (l : List En) (n : Int) : Env where
  P := Tryz.prog
  ty := tys0
  heads := fun | 2 => some { slots := [(5, .int .i64)], boxes := [], inv := fun _ (x : Int × Unit) => 0 ≤ x.1 ∧ x.1 ≤ l.length ∧ (1 ≤ n ∧ n ≤ l.length → idxF (revP n) l = idxGo (revP n) (l.drop x.1.toNat) x.1), measure := fun _ (x : Int × Unit) => (l.length - x.1).toNat } | _ => none
def g_rrev_vc (l : List En) (n : Int) : Prop :=
  (True ∧ (0 : Int) ≤ (0 : Int) ∧ (0 : Int) ≤ (↑l.length : Int) ∧ ((1 : Int) ≤ n ∧ n ≤ (↑l.length : Int) → idxF (revP n) l = idxGo (revP n) (List.drop (Int.toNat (0 : Int)) l) (0 : Int))) ∧ ∀ (x : Int × Unit), (0 : Int) ≤ x.1 ∧ x.1 ≤ (↑l.length : Int) ∧ ((1 : Int) ≤ n ∧ n ≤ (↑l.length : Int) → idxF (revP n) l = idxGo (revP n) (List.drop x.1.toNat l) x.1) → (decide (x.1 < (↑l.length : Int)) = true → (decide ((1 : Int) ≤ n) = true → (decide (n ≤ (↑l.length : Int)) = true → ((0 : Int) ≤ x.1 ∧ x.1 < (↑l.length : Int)) ∧ ∀ (x_1 : Int × Int × List (Int × Int × Int × Int)), l[x.1.toNat]? = some x_1 → (decide (x_1.2.1 = n) = true → ((-9223372036854775808 : Int) ≤ x.1 + (1 : Int) ∧ x.1 + (1 : Int) ≤ (9223372036854775807 : Int)) ∧ (x.1 + (1 : Int), ()) = (revF l n, ())) ∧ (decide (x_1.2.1 = n) = false → ((-9223372036854775808 : Int) ≤ x.1 + (1 : Int) ∧ x.1 + (1 : Int) ≤ (9223372036854775807 : Int)) ∧ True ∧ ((0 : Int) ≤ x.1 + (1 : Int) ∧ x.1 + (1 : Int) ≤ (↑l.length : Int) ∧ ((1 : Int) ≤ n ∧ n ≤ (↑l.length : Int) → idxF (revP n) l = idxGo (revP n) (List.drop (x.1 + (1 : Int)).toNat l) (x.1 + (1 : Int)))) ∧ ((↑l.length : Int) - (x.1 + (1 : Int))).toNat < ((↑l.length : Int) - x.1).toNat)) ∧ (decide (n ≤ (↑l.length : Int)) = !true → ((-9223372036854775808 : Int) ≤ x.1 + (1 : Int) ∧ x.1 + (1 : Int) ≤ (9223372036854775807 : Int)) ∧ True ∧ ((0 : Int) ≤ x.1 + (1 : Int) ∧ x.1 + (1 : Int) ≤ (↑l.length : Int) ∧ ((1 : Int) ≤ n ∧ n ≤ (↑l.length : Int) → idxF (revP n) l = idxGo (revP n) (List.drop (x.1 + (1 : Int)).toNat l) (x.1 + (1 : Int)))) ∧ ((↑l.length : Int) - (x.1 + (1 : Int))).toNat < ((↑l.length : Int) - x.1).toNat)) ∧ (decide ((1 : Int) ≤ n) = !true → ((-9223372036854775808 : Int) ≤ x.1 + (1 : Int) ∧ x.1 + (1 : Int) ≤ (9223372036854775807 : Int)) ∧ True ∧ ((0 : Int) ≤ x.1 + (1 : Int) ∧ x.1 + (1 : Int) ≤ (↑l.length : Int) ∧ ((1 : Int) ≤ n ∧ n ≤ (↑l.length : Int) → idxF (revP n) l = idxGo (revP n) (List.drop (x.1 + (1 : Int)).toNat l) (x.1 + (1 : Int)))) ∧ ((↑l.length : Int) - (x.1 + (1 : Int))).toNat < ((↑l.length : Int) - x.1).toNat)) ∧ (decide (x.1 < (↑l.length : Int)) = false → ((0 : Int), ()) = (revF l n, ()))
theorem g_rrev_eq (l : List En) (n : Int) : Cond (env_rrev l n) Tryz.f118 [.list .tmp EnT l, .int .i64 n] [.int .i64] (revF l n, ()) = g_rrev_vc l n := by kernel_rfl
theorem g_rrev_ok (l : List En) (n : Int) (h : l.length ≤ 1000000000) : g_rrev_vc l n := by
  unfold g_rrev_vc
  simp only [decide_eq_true_eq, decide_eq_false_iff_not, Bool.not_false, Bool.not_true]
  refine ⟨⟨trivial, by omega, by omega, fun _ => rfl⟩, ?_⟩
  rintro ⟨i, ⟨⟩⟩ ⟨h0, h1, hb⟩
  dsimp only at h0 h1 hb ⊢
  refine ⟨fun c => ⟨fun d => ⟨fun e => ⟨⟨h0, c⟩, fun x hx => ⟨fun k => ⟨by omega, ?_⟩, fun k => ⟨by omega, trivial, ⟨by omega, by omega, fun _ => ?_⟩, by omega⟩⟩⟩, fun e => ⟨by omega, trivial, ⟨by omega, by omega, fun m => by omega⟩, by omega⟩⟩, fun d => ⟨by omega, trivial, ⟨by omega, by omega, fun m => by omega⟩, by omega⟩⟩, fun c => ?_⟩
  · unfold revF
    rw [if_neg (by omega), hb ⟨d, e⟩, idx_hit h0 hx (by unfold revP; rw [decide_eq_true k])]
  · rw [hb ⟨d, e⟩, idx_miss h0 hx (by unfold revP; rw [decide_eq_false k])]
  · unfold revF
    split
    · rfl
    · rw [hb (by omega), idx_end c]; rfl
theorem rrev_pure (l : List En) (n : Int) (h : l.length ≤ 1000000000) : Pure Tryz.prog 118 [.list .tmp EnT l, .int .i64 n] (.int .i64 (revF l n)) :=
  by have k := Pure.of_cond (g_rrev_eq l n) (g_rrev_ok l n h) (specs_ok rfl [] [] rfl rfl) mixed Tryz.func118; exact k
noncomputable def q_rrev (l : List En) (n : Int) : Prop × V := (l.length ≤ 1000000000, (.int .i64 (revF l n)))
noncomputable def sp_rrev : FSpec Tryz.prog where
 f := 118
 run := fun
  | [v0, .int .i64 n] => (asL EnT v0 : Option (List En)).bind fun l => some (q_rrev l n)
  | _ => none
 ok := fun args pre r h hp => by
  split at h
  · rename_i v0 n
    obtain ⟨l, h0, h⟩ := Option.bind_eq_some_iff.1 h
    exact of_q h hp fun h => (rrev_pure l n h).weak (.cons (asL_weak h0) (.cons (.refl _) .nil))
  · cases h
def ownP (x : Ln) : Bool := decide (x.2.1 ≤ 3)
def eqP (n : Int) (x : Int) : Bool := decide (n = x)
def innP (ls : List Int) (x : Ln) : Bool := !ls.any (eqP x.2.1)
noncomputable def env_own (e a p m : Int) : Env where
  P := Tryz.prog
  ty := tys0
def g_own_vc (e : Int) (a : Int) (p : Int) (m : Int) : Prop :=
  (decide (a ≤ (3 : Int)), ()) = (ownP (e, a, p, m), ())
theorem g_own_eq (e a p m : Int) : Cond (env_own e a p m) Tryz.f106 [.agg [.int .i64 e, .int .i64 a, .int .i64 p, .int .i64 m]] [.bool] (ownP (e, a, p, m), ()) = g_own_vc e a p m := by kernel_rfl
theorem g_own_ok (e a p m : Int) : g_own_vc e a p m := by
  unfold g_own_vc
  exact rfl
theorem own_pure (e a p m : Int) : Pure Tryz.prog 106 [.agg [.int .i64 e, .int .i64 a, .int .i64 p, .int .i64 m]] (.bool (ownP (e, a, p, m))) :=
  by have k := Pure.of_cond (g_own_eq e a p m) (g_own_ok e a p m) (specs_ok rfl [] [] rfl rfl) mixed Tryz.func106; exact k
noncomputable def q_own (e a p m : Int) : Prop × V := (True, (.bool (ownP (e, a, p, m))))
noncomputable def sp_own : FSpec Tryz.prog where
 f := 106
 run := fun
  | [.agg [.int .i64 e, .int .i64 a, .int .i64 p, .int .i64 m]] => some (q_own e a p m)
  | _ => none
 ok := fun args pre r h hp => by
  split at h
  · rename_i e a p m
    exact of_q h hp fun h => (own_pure e a p m).weak (.cons (.refl _) .nil)
  · cases h
noncomputable def env_idx (l : List Int) (n : Int) : Env where
  P := Tryz.prog
  ty := tys0
  heads := fun | 2 => some { slots := [(8, .int .i64)], boxes := [], inv := fun _ (x : Int × Unit) => 0 ≤ x.1 ∧ x.1 ≤ l.length ∧ idxF (eqP n) l = idxGo (eqP n) (l.drop x.1.toNat) x.1, measure := fun _ (x : Int × Unit) => (l.length - x.1).toNat } | _ => none
def g_idx_vc (l : List Int) (n : Int) : Prop :=
  (True ∧ (0 : Int) ≤ (0 : Int) ∧ (0 : Int) ≤ (↑l.length : Int) ∧ idxF (eqP n) l = idxGo (eqP n) (List.drop (Int.toNat (0 : Int)) l) (0 : Int)) ∧ ∀ (x : Int × Unit), (0 : Int) ≤ x.1 ∧ x.1 ≤ (↑l.length : Int) ∧ idxF (eqP n) l = idxGo (eqP n) (List.drop x.1.toNat l) x.1 → (decide (x.1 < (↑l.length : Int)) = true → ((0 : Int) ≤ x.1 ∧ x.1 < (↑l.length : Int)) ∧ ∀ (x_1 : Int), l[x.1.toNat]? = some x_1 → (decide (n = x_1) = true → (x.1, ()) = (idxF (eqP n) l, ())) ∧ (decide (n = x_1) = false → ((-9223372036854775808 : Int) ≤ x.1 + (1 : Int) ∧ x.1 + (1 : Int) ≤ (9223372036854775807 : Int)) ∧ True ∧ ((0 : Int) ≤ x.1 + (1 : Int) ∧ x.1 + (1 : Int) ≤ (↑l.length : Int) ∧ idxF (eqP n) l = idxGo (eqP n) (List.drop (x.1 + (1 : Int)).toNat l) (x.1 + (1 : Int))) ∧ ((↑l.length : Int) - (x.1 + (1 : Int))).toNat < ((↑l.length : Int) - x.1).toNat)) ∧ (decide (x.1 < (↑l.length : Int)) = false → ((-1 : Int), ()) = (idxF (eqP n) l, ()))
theorem g_idx_eq (l : List Int) (n : Int) : Cond (env_idx l n) Tryz.f139 [.list .tmp I l, .int .i64 n] [.int .i64] (idxF (eqP n) l, ()) = g_idx_vc l n := by kernel_rfl
theorem g_idx_ok (l : List Int) (n : Int) (h : l.length ≤ 1000000000) : g_idx_vc l n := by
  unfold g_idx_vc
  simp only [decide_eq_true_eq, decide_eq_false_iff_not]
  refine ⟨⟨trivial, by omega, by omega, rfl⟩, ?_⟩
  rintro ⟨i, ⟨⟩⟩ ⟨h0, h1, hb⟩
  dsimp only at h0 h1 hb ⊢
  rw [hb]
  refine ⟨fun c => ⟨⟨h0, c⟩, fun x hx => ⟨fun k => ?_, fun k => ⟨by omega, trivial, ⟨by omega, by omega, ?_⟩, by omega⟩⟩⟩, fun c => ?_⟩
  · rw [idx_hit h0 hx (by unfold eqP; rw [decide_eq_true k])]
  · rw [idx_miss h0 hx (by unfold eqP; rw [decide_eq_false k])]
  · rw [idx_end c]
theorem idx_pure (l : List Int) (n : Int) (h : l.length ≤ 1000000000) : Pure Tryz.prog 139 [.list .tmp I l, .int .i64 n] (.int .i64 (idxF (eqP n) l)) :=
  by have k := Pure.of_cond (g_idx_eq l n) (g_idx_ok l n h) (specs_ok rfl [] [] rfl rfl) mixed Tryz.func139; exact k
noncomputable def q_idx (l : List Int) (n : Int) : Prop × V := (l.length ≤ 1000000000, (.int .i64 (idxF (eqP n) l)))
noncomputable def sp_idx : FSpec Tryz.prog where
 f := 139
 run := fun
  | [v0, .int .i64 n] => (asL I v0 : Option (List Int)).bind fun l => some (q_idx l n)
  | _ => none
 ok := fun args pre r h hp => by
  split at h
  · rename_i v0 n
    obtain ⟨l, h0, h⟩ := Option.bind_eq_some_iff.1 h
    exact of_q h hp fun h => (idx_pure l n h).weak (.cons (asL_weak h0) (.cons (.refl _) .nil))
  · cases h
noncomputable def env_cont (l : List Int) (n : Int) : Env where
  P := Tryz.prog
  ty := tys0
  specs := specsOf [sp_idx]
def g_cont_vc (l : List Int) (n : Int) : Prop :=
  l.length ≤ (1000000000 : Nat) ∧ (decide ((0 : Int) ≤ idxF (eqP n) l), ()) = (l.any (eqP n), ())
theorem g_cont_eq (l : List Int) (n : Int) : Cond (env_cont l n) Tryz.f108 [.list .tmp I l, .int .i64 n] [.bool] (l.any (eqP n), ()) = g_cont_vc l n := by kernel_rfl
theorem g_cont_ok (l : List Int) (n : Int) (h : l.length ≤ 1000000000) : g_cont_vc l n := by
  unfold g_cont_vc
  exact ⟨h, by rw [idx_any]⟩
theorem cont_pure (l : List Int) (n : Int) (h : l.length ≤ 1000000000) : Pure Tryz.prog 108 [.list .tmp I l, .int .i64 n] (.bool (l.any (eqP n))) :=
  by have k := Pure.of_cond (g_cont_eq l n) (g_cont_ok l n h) (specs_ok rfl [sp_idx] [] rfl rfl) mixed Tryz.func108; exact k
noncomputable def q_cont (l : List Int) (n : Int) : Prop × V := (l.length ≤ 1000000000, (.bool (l.any (eqP n))))
noncomputable def sp_cont : FSpec Tryz.prog where
 f := 108
 run := fun
  | [v0, .int .i64 n] => (asL I v0 : Option (List Int)).bind fun l => some (q_cont l n)
  | _ => none
 ok := fun args pre r h hp => by
  split at h
  · rename_i v0 n
    obtain ⟨l, h0, h⟩ := Option.bind_eq_some_iff.1 h
    exact of_q h hp fun h => (cont_pure l n h).weak (.cons (asL_weak h0) (.cons (.refl _) .nil))
  · cases h
noncomputable def env_inn (e a p m : Int) (ls : List Int) : Env where
  P := Tryz.prog
  ty := tys0
  specs := specsOf [sp_cont]
def g_inn_vc (e : Int) (a : Int) (p : Int) (m : Int) (ls : List Int) : Prop :=
  ls.length ≤ (1000000000 : Nat) ∧ (!ls.any (eqP a), ()) = (innP ls (e, a, p, m), ())
theorem g_inn_eq (e a p m : Int) (ls : List Int) : Cond (env_inn e a p m ls) Tryz.f107 [.agg [.int .i64 e, .int .i64 a, .int .i64 p, .int .i64 m], .fptr [.list .tmp I ls]] [.bool] (innP ls (e, a, p, m), ()) = g_inn_vc e a p m ls := by kernel_rfl
theorem g_inn_ok (e a p m : Int) (ls : List Int) (h : ls.length ≤ 1000000000) : g_inn_vc e a p m ls := by
  unfold g_inn_vc
  exact ⟨h, rfl⟩
theorem inn_pure (e a p m : Int) (ls : List Int) (h : ls.length ≤ 1000000000) : Pure Tryz.prog 107 [.agg [.int .i64 e, .int .i64 a, .int .i64 p, .int .i64 m], .fptr [.list .tmp I ls]] (.bool (innP ls (e, a, p, m))) :=
  by have k := Pure.of_cond (g_inn_eq e a p m ls) (g_inn_ok e a p m ls h) (specs_ok rfl [sp_cont] [] rfl rfl) mixed Tryz.func107; exact k
noncomputable def q_inn (e a p m : Int) (ls : List Int) : Prop × V := (ls.length ≤ 1000000000, (.bool (innP ls (e, a, p, m))))
noncomputable def sp_inn : FSpec Tryz.prog where
 f := 107
 run := fun
  | [.agg [.int .i64 e, .int .i64 a, .int .i64 p, .int .i64 m], .fptr [v1_0]] => (asL I v1_0 : Option (List Int)).bind fun ls => some (q_inn e a p m ls)
  | _ => none
 ok := fun args pre r h hp => by
  split at h
  · rename_i e a p m v1_0
    obtain ⟨ls, h1_0, h⟩ := Option.bind_eq_some_iff.1 h
    exact of_q h hp fun h => (inn_pure e a p m ls h).weak (.cons (.refl _) (.cons (weak_fptr (.cons (asL_weak h1_0) .nil)) .nil))
  · cases h
noncomputable def env_io (l : List Ln) : Env where
  P := Tryz.prog
  ty := tys0
  specs := specsOf [sp_own]
  heads := fun | 2 => some { slots := [(8, .int .i64)], boxes := [], inv := fun _ (x : Int × Unit) => 0 ≤ x.1 ∧ x.1 ≤ l.length ∧ idxF ownP l = idxGo ownP (l.drop x.1.toNat) x.1, measure := fun _ (x : Int × Unit) => (l.length - x.1).toNat } | _ => none
def g_io_vc (l : List Ln) : Prop :=
  (True ∧ (0 : Int) ≤ (0 : Int) ∧ (0 : Int) ≤ (↑l.length : Int) ∧ idxF ownP l = idxGo ownP (List.drop (Int.toNat (0 : Int)) l) (0 : Int)) ∧ ∀ (x : Int × Unit), (0 : Int) ≤ x.1 ∧ x.1 ≤ (↑l.length : Int) ∧ idxF ownP l = idxGo ownP (List.drop x.1.toNat l) x.1 → (decide (x.1 < (↑l.length : Int)) = true → ((0 : Int) ≤ x.1 ∧ x.1 < (↑l.length : Int)) ∧ ∀ (x_1 : Int × Int × Int × Int), l[x.1.toNat]? = some x_1 → True ∧ (ownP (x_1.1, x_1.2.1, x_1.2.2.1, x_1.2.2.2) = true → (x.1, ()) = (idxF ownP l, ())) ∧ (ownP (x_1.1, x_1.2.1, x_1.2.2.1, x_1.2.2.2) = false → ((-9223372036854775808 : Int) ≤ x.1 + (1 : Int) ∧ x.1 + (1 : Int) ≤ (9223372036854775807 : Int)) ∧ True ∧ ((0 : Int) ≤ x.1 + (1 : Int) ∧ x.1 + (1 : Int) ≤ (↑l.length : Int) ∧ idxF ownP l = idxGo ownP (List.drop (x.1 + (1 : Int)).toNat l) (x.1 + (1 : Int))) ∧ ((↑l.length : Int) - (x.1 + (1 : Int))).toNat < ((↑l.length : Int) - x.1).toNat)) ∧ (decide (x.1 < (↑l.length : Int)) = false → ((-1 : Int), ()) = (idxF ownP l, ()))
theorem g_io_eq (l : List Ln) : Cond (env_io l) Tryz.f140 [.list .tmp LnT l, .fn (.func 106) [] []] [.int .i64] (idxF ownP l, ()) = g_io_vc l := by kernel_rfl
theorem g_io_ok (l : List Ln) (h : l.length ≤ 1000000000) : g_io_vc l := by
  unfold g_io_vc
  simp only [decide_eq_true_eq, decide_eq_false_iff_not]
  refine ⟨⟨trivial, by omega, by omega, rfl⟩, ?_⟩
  rintro ⟨i, ⟨⟩⟩ ⟨h0, h1, hb⟩
  dsimp only at h0 h1 hb ⊢
  rw [hb]
  refine ⟨fun c => ⟨⟨h0, c⟩, fun x hx => ⟨trivial, fun k => ?_, fun k => ⟨by omega, trivial, ⟨by omega, by omega, ?_⟩, by omega⟩⟩⟩, fun c => ?_⟩
  · rw [idx_hit h0 hx k]
  · rw [idx_miss h0 hx k]
  · rw [idx_end c]
theorem io_pure (l : List Ln) (h : l.length ≤ 1000000000) : Pure Tryz.prog 140 [.list .tmp LnT l, .fn (.func 106) [] []] (.int .i64 (idxF ownP l)) :=
  by have k := Pure.of_cond (g_io_eq l) (g_io_ok l h) (specs_ok rfl [sp_own] [] rfl rfl) mixed Tryz.func140; exact k
noncomputable def q_io (l : List Ln) : Prop × V := (l.length ≤ 1000000000, (.int .i64 (idxF ownP l)))
noncomputable def sp_io : FSpec Tryz.prog where
 f := 140
 run := fun
  | [v0, .fn (.func 106) [] []] => (asL LnT v0 : Option (List Ln)).bind fun l => some (q_io l)
  | _ => none
 ok := fun args pre r h hp => by
  split at h
  · rename_i v0
    obtain ⟨l, h0, h⟩ := Option.bind_eq_some_iff.1 h
    exact of_q h hp fun h => (io_pure l h).weak (.cons (asL_weak h0) (.cons (.refl _) .nil))
  · cases h
noncomputable def env_co (l : List Ln) : Env where
  P := Tryz.prog
  ty := tys0
  specs := specsOf [sp_io]
def g_co_vc (l : List Ln) : Prop :=
  l.length ≤ (1000000000 : Nat) ∧ (decide ((0 : Int) ≤ idxF ownP l), ()) = (l.any ownP, ())
theorem g_co_eq (l : List Ln) : Cond (env_co l) Tryz.f109 [.list .tmp LnT l, .fn (.func 106) [] []] [.bool] (l.any ownP, ()) = g_co_vc l := by kernel_rfl
theorem g_co_ok (l : List Ln) (h : l.length ≤ 1000000000) : g_co_vc l := by
  unfold g_co_vc
  exact ⟨h, by rw [idx_any]⟩
theorem co_pure (l : List Ln) (h : l.length ≤ 1000000000) : Pure Tryz.prog 109 [.list .tmp LnT l, .fn (.func 106) [] []] (.bool (l.any ownP)) :=
  by have k := Pure.of_cond (g_co_eq l) (g_co_ok l h) (specs_ok rfl [sp_io] [] rfl rfl) mixed Tryz.func109; exact k
noncomputable def q_co (l : List Ln) : Prop × V := (l.length ≤ 1000000000, (.bool (l.any ownP)))
noncomputable def sp_co : FSpec Tryz.prog where
 f := 109
 run := fun
  | [v0, .fn (.func 106) [] []] => (asL LnT v0 : Option (List Ln)).bind fun l => some (q_co l)
  | _ => none
 ok := fun args pre r h hp => by
  split at h
  · rename_i v0
    obtain ⟨l, h0, h⟩ := Option.bind_eq_some_iff.1 h
    exact of_q h hp fun h => (co_pure l h).weak (.cons (asL_weak h0) (.cons (.refl _) .nil))
  · cases h
noncomputable def env_ii (l : List Ln) (ls : List Int) : Env where
  P := Tryz.prog
  ty := tys0
  specs := specsOf [sp_inn]
  heads := fun | 2 => some { slots := [(8, .int .i64)], boxes := [], inv := fun _ (x : Int × Unit) => 0 ≤ x.1 ∧ x.1 ≤ l.length ∧ idxF (innP ls) l = idxGo (innP ls) (l.drop x.1.toNat) x.1, measure := fun _ (x : Int × Unit) => (l.length - x.1).toNat } | _ => none
def g_ii_vc (l : List Ln) (ls : List Int) : Prop :=
  (True ∧ (0 : Int) ≤ (0 : Int) ∧ (0 : Int) ≤ (↑l.length : Int) ∧ idxF (innP ls) l = idxGo (innP ls) (List.drop (Int.toNat (0 : Int)) l) (0 : Int)) ∧ ∀ (x : Int × Unit), (0 : Int) ≤ x.1 ∧ x.1 ≤ (↑l.length : Int) ∧ idxF (innP ls) l = idxGo (innP ls) (List.drop x.1.toNat l) x.1 → (decide (x.1 < (↑l.length : Int)) = true → ((0 : Int) ≤ x.1 ∧ x.1 < (↑l.length : Int)) ∧ ∀ (x_1 : Int × Int × Int × Int), l[x.1.toNat]? = some x_1 → ls.length ≤ (1000000000 : Nat) ∧ (innP ls (x_1.1, x_1.2.1, x_1.2.2.1, x_1.2.2.2) = true → (x.1, ()) = (idxF (innP ls) l, ())) ∧ (innP ls (x_1.1, x_1.2.1, x_1.2.2.1, x_1.2.2.2) = false → ((-9223372036854775808 : Int) ≤ x.1 + (1 : Int) ∧ x.1 + (1 : Int) ≤ (9223372036854775807 : Int)) ∧ True ∧ ((0 : Int) ≤ x.1 + (1 : Int) ∧ x.1 + (1 : Int) ≤ (↑l.length : Int) ∧ idxF (innP ls) l = idxGo (innP ls) (List.drop (x.1 + (1 : Int)).toNat l) (x.1 + (1 : Int))) ∧ ((↑l.length : Int) - (x.1 + (1 : Int))).toNat < ((↑l.length : Int) - x.1).toNat)) ∧ (decide (x.1 < (↑l.length : Int)) = false → ((-1 : Int), ()) = (idxF (innP ls) l, ()))
theorem g_ii_eq (l : List Ln) (ls : List Int) : Cond (env_ii l ls) Tryz.f140 [.list .tmp LnT l, .fn (.func 107) [] [.fptr [.list .tmp I ls]]] [.int .i64] (idxF (innP ls) l, ()) = g_ii_vc l ls := by kernel_rfl
theorem g_ii_ok (l : List Ln) (ls : List Int) (h : l.length ≤ 1000000000 ∧ ls.length ≤ 1000000000) : g_ii_vc l ls := by
  obtain ⟨h, hs⟩ := h
  unfold g_ii_vc
  simp only [decide_eq_true_eq, decide_eq_false_iff_not]
  refine ⟨⟨trivial, by omega, by omega, rfl⟩, ?_⟩
  rintro ⟨i, ⟨⟩⟩ ⟨h0, h1, hb⟩
  dsimp only at h0 h1 hb ⊢
  rw [hb]
  refine ⟨fun c => ⟨⟨h0, c⟩, fun x hx => ⟨hs, fun k => ?_, fun k => ⟨by omega, trivial, ⟨by omega, by omega, ?_⟩, by omega⟩⟩⟩, fun c => ?_⟩
  · rw [idx_hit h0 hx k]
  · rw [idx_miss h0 hx k]
  · rw [idx_end c]
theorem ii_pure (l : List Ln) (ls : List Int) (h : l.length ≤ 1000000000 ∧ ls.length ≤ 1000000000) : Pure Tryz.prog 140 [.list .tmp LnT l, .fn (.func 107) [] [.fptr [.list .tmp I ls]]] (.int .i64 (idxF (innP ls) l)) :=
  by have k := Pure.of_cond (g_ii_eq l ls) (g_ii_ok l ls h) (specs_ok rfl [sp_inn] [] rfl rfl) mixed Tryz.func140; exact k
noncomputable def q_ii (l : List Ln) (ls : List Int) : Prop × V := (l.length ≤ 1000000000 ∧ ls.length ≤ 1000000000, (.int .i64 (idxF (innP ls) l)))
noncomputable def sp_ii : FSpec Tryz.prog where
 f := 140
 run := fun
  | [v0, .fn (.func 107) [] [.fptr [v1_c0_0]]] => (asL LnT v0 : Option (List Ln)).bind fun l => (asL I v1_c0_0 : Option (List Int)).bind fun ls => some (q_ii l ls)
  | _ => none
 ok := fun args pre r h hp => by
  split at h
  · rename_i v0 v1_c0_0
    obtain ⟨l, h0, h⟩ := Option.bind_eq_some_iff.1 h
    obtain ⟨ls, h1_c0_0, h⟩ := Option.bind_eq_some_iff.1 h
    exact of_q h hp fun h => (ii_pure l ls h).weak (.cons (asL_weak h0) (.cons (weak_fn .nil (.cons (weak_fptr (.cons (asL_weak h1_c0_0) .nil)) .nil)) .nil))
  · cases h
noncomputable def env_ci (l : List Ln) (ls : List Int) : Env where
  P := Tryz.prog
  ty := tys0
  specs := specsOf [sp_ii]
def g_ci_vc (l : List Ln) (ls : List Int) : Prop :=
  (l.length ≤ (1000000000 : Nat) ∧ ls.length ≤ (1000000000 : Nat)) ∧ (decide ((0 : Int) ≤ idxF (innP ls) l), ()) = (l.any (innP ls), ())
theorem g_ci_eq (l : List Ln) (ls : List Int) : Cond (env_ci l ls) Tryz.f109 [.list .tmp LnT l, .fn (.func 107) [] [.fptr [.list .tmp I ls]]] [.bool] (l.any (innP ls), ()) = g_ci_vc l ls := by kernel_rfl
theorem g_ci_ok (l : List Ln) (ls : List Int) (h : l.length ≤ 1000000000 ∧ ls.length ≤ 1000000000) : g_ci_vc l ls := by
  unfold g_ci_vc
  exact ⟨h, by rw [idx_any]⟩
theorem ci_pure (l : List Ln) (ls : List Int) (h : l.length ≤ 1000000000 ∧ ls.length ≤ 1000000000) : Pure Tryz.prog 109 [.list .tmp LnT l, .fn (.func 107) [] [.fptr [.list .tmp I ls]]] (.bool (l.any (innP ls))) :=
  by have k := Pure.of_cond (g_ci_eq l ls) (g_ci_ok l ls h) (specs_ok rfl [sp_ii] [] rfl rfl) mixed Tryz.func109; exact k
noncomputable def q_ci (l : List Ln) (ls : List Int) : Prop × V := (l.length ≤ 1000000000 ∧ ls.length ≤ 1000000000, (.bool (l.any (innP ls))))
noncomputable def sp_ci : FSpec Tryz.prog where
 f := 109
 run := fun
  | [v0, .fn (.func 107) [] [.fptr [v1_c0_0]]] => (asL LnT v0 : Option (List Ln)).bind fun l => (asL I v1_c0_0 : Option (List Int)).bind fun ls => some (q_ci l ls)
  | _ => none
 ok := fun args pre r h hp => by
  split at h
  · rename_i v0 v1_c0_0
    obtain ⟨l, h0, h⟩ := Option.bind_eq_some_iff.1 h
    obtain ⟨ls, h1_c0_0, h⟩ := Option.bind_eq_some_iff.1 h
    exact of_q h hp fun h => (ci_pure l ls h).weak (.cons (asL_weak h0) (.cons (weak_fn .nil (.cons (weak_fptr (.cons (asL_weak h1_c0_0) .nil)) .nil)) .nil))
  · cases h
noncomputable def sp_cc : FSpec Tryz.prog := orSp sp_co sp_ci rfl
def placedF (ls : List Int) (L : List Ln) : Int := if L.any ownP = true then 28 else if L.any (innP ls) = true then 27 else 0
noncomputable def env_placed (p r : Int) (L : List Ln) (ls : List Int) : Env where
  P := Tryz.prog
  ty := tys0
  specs := specsOf [sp_cc]
def g_placed_vc (p : Int) (r : Int) (L : List Ln) (ls : List Int) : Prop :=
  L.length ≤ (1000000000 : Nat) ∧ (L.any ownP = true → ((28 : Int), ()) = (placedF ls L, ())) ∧ (L.any ownP = false → (L.length ≤ (1000000000 : Nat) ∧ ls.length ≤ (1000000000 : Nat)) ∧ (L.any (innP ls) = true → ((27 : Int), ()) = (placedF ls L, ())) ∧ (L.any (innP ls) = false → ((0 : Int), ()) = (placedF ls L, ())))
theorem g_placed_eq (p r : Int) (L : List Ln) (ls : List Int) : Cond (env_placed p r L ls) Tryz.f84 [.agg [.int .i64 p, .int .i64 r, .list .tmp LnT L], .list .tmp I ls] [.int .i64] (placedF ls L, ()) = g_placed_vc p r L ls := by kernel_rfl
theorem g_placed_ok (p r : Int) (L : List Ln) (ls : List Int) (h : L.length ≤ 1000000000 ∧ ls.length ≤ 1000000000) : g_placed_vc p r L ls := by
  unfold g_placed_vc placedF
  refine ⟨h.1, fun c => by rw [if_pos c], fun c => ⟨h, fun d => ?_, fun d => ?_⟩⟩
  · rw [if_neg (by rw [c]; decide), if_pos d]
  · rw [if_neg (by rw [c]; decide), if_neg (by rw [d]; decide)]
theorem placed_pure (p r : Int) (L : List Ln) (ls : List Int) (h : L.length ≤ 1000000000 ∧ ls.length ≤ 1000000000) : Pure Tryz.prog 84 [.agg [.int .i64 p, .int .i64 r, .list .tmp LnT L], .list .tmp I ls] (.int .i64 (placedF ls L)) :=
  by have k := Pure.of_cond (g_placed_eq p r L ls) (g_placed_ok p r L ls h) (specs_ok rfl [sp_cc] [] rfl rfl) mixed Tryz.func84; exact k
noncomputable def q_placed (p r : Int) (L : List Ln) (ls : List Int) : Prop × V := (L.length ≤ 1000000000 ∧ ls.length ≤ 1000000000, (.int .i64 (placedF ls L)))
noncomputable def sp_placed : FSpec Tryz.prog where
 f := 84
 run := fun
  | [.agg [.int .i64 p, .int .i64 r, v0_2], v1] => (asL LnT v0_2 : Option (List Ln)).bind fun L => (asL I v1 : Option (List Int)).bind fun ls => some (q_placed p r L ls)
  | _ => none
 ok := fun args pre r h hp => by
  split at h
  · rename_i p r v0_2 v1
    obtain ⟨L, h0_2, h⟩ := Option.bind_eq_some_iff.1 h
    obtain ⟨ls, h1, h⟩ := Option.bind_eq_some_iff.1 h
    exact of_q h hp fun h => (placed_pure p r L ls h).weak (.cons (Weak.agg (.cons (.refl _) (.cons (.refl _) (.cons (asL_weak h0_2) .nil)))) (.cons (asL_weak h1) .nil))
  · cases h
def turnY (A : List En) (r : Int) (L : List Ln) (y : En) : Int := if y.2.1 ≠ 0 ∨ revF A r ≠ 0 then 35 else if (Ent.oppF y.1 y.2.1 y.2.2).2 ≠ 0 ∨ L ≠ (Ent.oppF y.1 y.2.1 y.2.2).1.2.2 then 30 else 0
def turnedF (A : List En) (r : Int) (L : List Ln) : Int := if r = 0 then 0 else if r < 0 ∨ A.length < r then 34 else match A[(r - 1).toNat]? with
  | none => 0
  | some y => turnY A r L y
theorem turned_at {A : List En} {r : Int} {L : List Ln} {y : En} (h0 : r ≠ 0) (h1 : ¬ (r < 0 ∨ A.length < r)) (hy : A[(r - 1).toNat]? = some y) : turnedF A r L = turnY A r L y := by
  unfold turnedF; rw [if_neg h0, if_neg h1, hy]
noncomputable def env_turned (A : List En) (p r : Int) (L : List Ln) : Env where
  P := Tryz.prog
  ty := tys0
  specs := specsOf [sp_rev, Ent.sp_opp, Eql.sp_elin]
def g_turned_vc (A : List En) (p : Int) (r : Int) (L : List Ln) : Prop :=
  (decide (r = (0 : Int)) = true → ((0 : Int), ()) = (turnedF A r L, ())) ∧ (decide (r = (0 : Int)) = false → (decide (r < (0 : Int)) = false → (decide ((↑A.length : Int) < r) = true → ((34 : Int), ()) = (turnedF A r L, ())) ∧ (decide ((↑A.length : Int) < r) = false → ((-9223372036854775808 : Int) ≤ r - (1 : Int) ∧ r - (1 : Int) ≤ (9223372036854775807 : Int)) ∧ ((0 : Int) ≤ r - (1 : Int) ∧ r - (1 : Int) < (↑A.length : Int)) ∧ ∀ (x : Int × Int × List (Int × Int × Int × Int)), A[(r - (1 : Int)).toNat]? = some x → ((!decide (x.2.1 = (0 : Int))) = false → A.length ≤ (1000000000 : Nat) ∧ ((!decide (revF A r = (0 : Int))) = true → ((35 : Int), ()) = (turnedF A r L, ())) ∧ ((!decide (revF A r = (0 : Int))) = false → ((-9223372036854775808 : Int) ≤ r - (1 : Int) ∧ r - (1 : Int) ≤ (9223372036854775807 : Int)) ∧ ((0 : Int) ≤ r - (1 : Int) ∧ r - (1 : Int) < (↑A.length : Int)) ∧ ∀ (x : Int × Int × List (Int × Int × Int × Int)), A[(r - (1 : Int)).toNat]? = some x → (Ent.InL x.2.2 ∧ x.2.2.length ≤ (1000 : Nat)) ∧ ((!decide ((Ent.oppF x.1 x.2.1 x.2.2).2 = (0 : Int))) = false → L.length ≤ (1000000000 : Nat) ∧ ((!decide (L = (Ent.oppF x.1 x.2.1 x.2.2).1.2.2)) = true → ((30 : Int), ()) = (turnedF A r L, ())) ∧ ((!decide (L = (Ent.oppF x.1 x.2.1 x.2.2).1.2.2)) = false → ((0 : Int), ()) = (turnedF A r L, ()))) ∧ ((!decide ((Ent.oppF x.1 x.2.1 x.2.2).2 = (0 : Int))) = !false → ((30 : Int), ()) = (turnedF A r L, ())))) ∧ ((!decide (x.2.1 = (0 : Int))) = !false → ((35 : Int), ()) = (turnedF A r L, ())))) ∧ (decide (r < (0 : Int)) = !false → ((34 : Int), ()) = (turnedF A r L, ())))
theorem g_turned_eq (A : List En) (p r : Int) (L : List Ln) : Cond (env_turned A p r L) Tryz.f85 [.list .tmp EnT A, .agg [.int .i64 p, .int .i64 r, .list .tmp LnT L]] [.int .i64] (turnedF A r L, ()) = g_turned_vc A p r L := by kernel_rfl
theorem g_turned_ok (A : List En) (p r : Int) (L : List Ln) (h : A.length ≤ 1000000000 ∧ InE A ∧ L.length ≤ 1000000000) : g_turned_vc A p r L := by
  obtain ⟨ha, hi, hl⟩ := h
  unfold g_turned_vc
  simp only [decide_eq_true_eq, decide_eq_false_iff_not, Bool.not_false, Bool.not_true, Bool.not_eq_true', Bool.not_eq_false']
  refine ⟨fun c => ?_, fun c => ⟨fun d => ⟨fun e => ?_, fun e => ⟨by omega, by omega, fun x hx => ⟨fun f => ⟨ha, fun g => ?_, fun g => ⟨by omega, by omega, fun y hy => ⟨ine_at hi hy, fun k => ⟨hl, fun m => ?_, fun m => ?_⟩, fun k => ?_⟩⟩⟩, fun f => ?_⟩⟩⟩, fun d => ?_⟩⟩
  · unfold turnedF; rw [if_pos c]
  · unfold turnedF; rw [if_neg c, if_pos (.inr e)]
  · rw [turned_at c (by omega) hx, turnY, if_pos (.inr g)]
  · rw [hx] at hy; cases hy
    rw [turned_at c (by omega) hx, turnY, if_neg (fun q => q.elim (fun q => q f) (fun q => q g)), if_pos (.inr m)]
  · rw [hx] at hy; cases hy
    rw [turned_at c (by omega) hx, turnY, if_neg (fun q => q.elim (fun q => q f) (fun q => q g)), if_neg (fun q => q.elim (fun q => q k) (fun q => q m))]
  · rw [hx] at hy; cases hy
    rw [turned_at c (by omega) hx, turnY, if_neg (fun q => q.elim (fun q => q f) (fun q => q g)), if_pos (.inl k)]
  · rw [turned_at c (by omega) hx, turnY, if_pos (.inl f)]
  · unfold turnedF; rw [if_neg c, if_pos (.inl d)]
theorem turned_pure (A : List En) (p r : Int) (L : List Ln) (h : A.length ≤ 1000000000 ∧ InE A ∧ L.length ≤ 1000000000) : Pure Tryz.prog 85 [.list .tmp EnT A, .agg [.int .i64 p, .int .i64 r, .list .tmp LnT L]] (.int .i64 (turnedF A r L)) :=
  by have k := Pure.of_cond (g_turned_eq A p r L) (g_turned_ok A p r L h) (specs_ok rfl [sp_rev, Ent.sp_opp, Eql.sp_elin] [] rfl rfl) mixed Tryz.func85; exact k
noncomputable def q_turned (A : List En) (p r : Int) (L : List Ln) : Prop × V := (A.length ≤ 1000000000 ∧ InE A ∧ L.length ≤ 1000000000, (.int .i64 (turnedF A r L)))
noncomputable def sp_turned : FSpec Tryz.prog where
 f := 85
 run := fun
  | [v0, .agg [.int .i64 p, .int .i64 r, v1_2]] => (asL EnT v0 : Option (List En)).bind fun A => (asL LnT v1_2 : Option (List Ln)).bind fun L => some (q_turned A p r L)
  | _ => none
 ok := fun args pre r h hp => by
  split at h
  · rename_i v0 p r v1_2
    obtain ⟨A, h0, h⟩ := Option.bind_eq_some_iff.1 h
    obtain ⟨L, h1_2, h⟩ := Option.bind_eq_some_iff.1 h
    exact of_q h hp fun h => (turned_pure A p r L h).weak (.cons (asL_weak h0) (.cons (Weak.agg (.cons (.refl _) (.cons (.refl _) (.cons (asL_weak h1_2) .nil)))) .nil))
  · cases h
end Go.Proofs.YtgjpehgnagfghaaGreat.Bks
