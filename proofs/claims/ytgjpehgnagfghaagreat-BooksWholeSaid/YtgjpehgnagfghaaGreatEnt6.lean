/-
  Lists of lines: sums, entities, what is the same.
-/
import Derived.Test.YtgjpehgnagfghaaGreatBig3
import Derived.Test.YtgjpehgnagfghaaGreatNum2
import Derived.Test.YtgjpehgnagfghaaGreatShelf
namespace Go.Proofs.YtgjpehgnagfghaaGreat.Ent
open Go.Vm
abbrev LTy : Ty := .pair I (.pair I (.pair I I))
abbrev Ln := Int × Int × Int × Int
noncomputable abbrev tys : TypeId → Option Ty := tys0
theorem toNat_next {i : Int} (h : 0 ≤ i) : (i + 1).toNat = i.toNat + 1 := by omega
def sp_sort : UFSpec Tryz.prog := sortSpec 137 ⟨fun blk off cap zs w h1 h2 h3 => Tryz.slices_Sort_int blk off cap zs w h1 h2 h3, Tryz.slices_Sort_int_none⟩
def sp_compact : UFSpec Tryz.prog := compactSpec 138 ⟨fun blk off cap zs w h1 h2 h3 => Tryz.slices_Compact_int blk off cap zs w h1 h2 h3, Tryz.slices_Compact_int_empty⟩
def InvW (l : List Int) (n : Int) (k : Int) : Prop := 0 ≤ k ∧ k ≤ l.length ∧ ∀ j : Nat, j < k.toNat → ∀ x, l[j]? = some x → x < n
noncomputable def env_with (l : List Int) (n : Int) : Env where
  P := Tryz.prog
  ty := tys
  heads := fun
    | 2 => some { slots := [(5, .int .i64)], boxes := [], inv := fun _ (x : Int × Unit) => InvW l n x.1, measure := fun _ (x : Int × Unit) => (l.length - x.1).toNat }
    | _ => none
def g_with_vc (l : List Int) (n : Int) : Prop :=
  (True ∧ InvW l n (0 : Int)) ∧ ∀ (x : Int × Unit), InvW l n x.1 → (decide (x.1 < (↑l.length : Int)) = true → ((0 : Int) ≤ x.1 ∧ x.1 < (↑l.length : Int)) ∧ ∀ (x_1 : Int), l[x.1.toNat]? = some x_1 → (decide (x_1 < n) = true → ((-9223372036854775808 : Int) ≤ x.1 + (1 : Int) ∧ x.1 + (1 : Int) ≤ (9223372036854775807 : Int)) ∧ True ∧ InvW l n (x.1 + (1 : Int)) ∧ ((↑l.length : Int) - (x.1 + (1 : Int))).toNat < ((↑l.length : Int) - x.1).toNat) ∧ (decide (x_1 < n) = false → (decide (x.1 < (↑l.length : Int)) = true → ((0 : Int) ≤ x.1 ∧ x.1 < (↑l.length : Int)) ∧ ∀ (x_2 : Int), l[x.1.toNat]? = some x_2 → (decide (x_2 = n) = true → (l, ()) = (withF l n, ())) ∧ (decide (x_2 = n) = false → ((0 : Int) ≤ x.1 ∧ x.1 ≤ (↑l.length : Int)) ∧ (((0 : Nat) + (List.take x.1.toNat l).length) * (8 : Nat) ≤ (140737488355328 : Nat) ∧ (0 : Nat) + (List.take x.1.toNat l).length ≤ (4611686018427387904 : Nat) ∧ ((0 : Nat) < (List.take x.1.toNat l).length ∨ (0 : Nat) = (0 : Nat))) ∧ (((List.take x.1.toNat l).length + (1 : Nat)) * (8 : Nat) ≤ (140737488355328 : Nat) ∧ (List.take x.1.toNat l).length + (1 : Nat) ≤ (4611686018427387904 : Nat)) ∧ ((0 : Int) ≤ x.1 ∧ x.1 ≤ (↑l.length : Int)) ∧ (((List.take x.1.toNat l ++ [n]).length + (List.drop x.1.toNat l).length) * (8 : Nat) ≤ (140737488355328 : Nat) ∧ (List.take x.1.toNat l ++ [n]).length + (List.drop x.1.toNat l).length ≤ (4611686018427387904 : Nat)) ∧ (List.take x.1.toNat l ++ [n] ++ List.drop x.1.toNat l, ()) = (withF l n, ()))) ∧ (decide (x.1 < (↑l.length : Int)) = !true → ((0 : Int) ≤ x.1 ∧ x.1 ≤ (↑l.length : Int)) ∧ (((0 : Nat) + (List.take x.1.toNat l).length) * (8 : Nat) ≤ (140737488355328 : Nat) ∧ (0 : Nat) + (List.take x.1.toNat l).length ≤ (4611686018427387904 : Nat) ∧ ((0 : Nat) < (List.take x.1.toNat l).length ∨ (0 : Nat) = (0 : Nat))) ∧ (((List.take x.1.toNat l).length + (1 : Nat)) * (8 : Nat) ≤ (140737488355328 : Nat) ∧ (List.take x.1.toNat l).length + (1 : Nat) ≤ (4611686018427387904 : Nat)) ∧ ((0 : Int) ≤ x.1 ∧ x.1 ≤ (↑l.length : Int)) ∧ (((List.take x.1.toNat l ++ [n]).length + (List.drop x.1.toNat l).length) * (8 : Nat) ≤ (140737488355328 : Nat) ∧ (List.take x.1.toNat l ++ [n]).length + (List.drop x.1.toNat l).length ≤ (4611686018427387904 : Nat)) ∧ (List.take x.1.toNat l ++ [n] ++ List.drop x.1.toNat l, ()) = (withF l n, ())))) ∧ (decide (x.1 < (↑l.length : Int)) = !true → (decide (x.1 < (↑l.length : Int)) = true → ((0 : Int) ≤ x.1 ∧ x.1 < (↑l.length : Int)) ∧ ∀ (x_1 : Int), l[x.1.toNat]? = some x_1 → (decide (x_1 = n) = true → (l, ()) = (withF l n, ())) ∧ (decide (x_1 = n) = false → ((0 : Int) ≤ x.1 ∧ x.1 ≤ (↑l.length : Int)) ∧ (((0 : Nat) + (List.take x.1.toNat l).length) * (8 : Nat) ≤ (140737488355328 : Nat) ∧ (0 : Nat) + (List.take x.1.toNat l).length ≤ (4611686018427387904 : Nat) ∧ ((0 : Nat) < (List.take x.1.toNat l).length ∨ (0 : Nat) = (0 : Nat))) ∧ (((List.take x.1.toNat l).length + (1 : Nat)) * (8 : Nat) ≤ (140737488355328 : Nat) ∧ (List.take x.1.toNat l).length + (1 : Nat) ≤ (4611686018427387904 : Nat)) ∧ ((0 : Int) ≤ x.1 ∧ x.1 ≤ (↑l.length : Int)) ∧ (((List.take x.1.toNat l ++ [n]).length + (List.drop x.1.toNat l).length) * (8 : Nat) ≤ (140737488355328 : Nat) ∧ (List.take x.1.toNat l ++ [n]).length + (List.drop x.1.toNat l).length ≤ (4611686018427387904 : Nat)) ∧ (List.take x.1.toNat l ++ [n] ++ List.drop x.1.toNat l, ()) = (withF l n, ()))) ∧ (decide (x.1 < (↑l.length : Int)) = !true → ((0 : Int) ≤ x.1 ∧ x.1 ≤ (↑l.length : Int)) ∧ (((0 : Nat) + (List.take x.1.toNat l).length) * (8 : Nat) ≤ (140737488355328 : Nat) ∧ (0 : Nat) + (List.take x.1.toNat l).length ≤ (4611686018427387904 : Nat) ∧ ((0 : Nat) < (List.take x.1.toNat l).length ∨ (0 : Nat) = (0 : Nat))) ∧ (((List.take x.1.toNat l).length + (1 : Nat)) * (8 : Nat) ≤ (140737488355328 : Nat) ∧ (List.take x.1.toNat l).length + (1 : Nat) ≤ (4611686018427387904 : Nat)) ∧ ((0 : Int) ≤ x.1 ∧ x.1 ≤ (↑l.length : Int)) ∧ (((List.take x.1.toNat l ++ [n]).length + (List.drop x.1.toNat l).length) * (8 : Nat) ≤ (140737488355328 : Nat) ∧ (List.take x.1.toNat l ++ [n]).length + (List.drop x.1.toNat l).length ≤ (4611686018427387904 : Nat)) ∧ (List.take x.1.toNat l ++ [n] ++ List.drop x.1.toNat l, ()) = (withF l n, ())))
theorem g_with_eq (l : List Int) (n : Int) : Cond (env_with l n) Tryz.f154 [.list .part I l, .int .i64 n] [.list .part I] (withF l n, ()) = g_with_vc l n := by kernel_rfl
theorem withF_at : ∀ (l : List Int) (n : Int) (k : Nat), k ≤ l.length → (∀ j, j < k → ∀ x, l[j]? = some x → x < n) → (∀ x, l[k]? = some x → ¬ x < n) →
    withF l n = if l[k]? = some n then l else l.take k ++ [n] ++ l.drop k
  | [], n, k, hk, _, _ => by
    have : k = 0 := by simpa using hk
    subst this; simp [withF]
  | x :: r, n, 0, _, _, h => by
    have := h x (by simp)
    simp only [withF, if_neg this]
    by_cases e : x = n <;> simp [e]
  | x :: r, n, k + 1, hk, hj, h => by
    have h0 := hj 0 (by omega) x (by simp)
    have ih := withF_at r n k (by simpa using hk) (fun j hjk y hy => hj (j + 1) (by omega) y (by simpa using hy)) (fun y hy => h y (by simpa using hy))
    simp only [withF, if_pos h0, ih]
    by_cases e : r[k]? = some n <;> simp [e]
theorem g_with_ok (l : List Int) (n : Int) (h : l.length ≤ 1000000000) : g_with_vc l n := by
  unfold g_with_vc
  refine ⟨⟨trivial, by omega, by omega, fun j hj => by simp at hj⟩, ?_⟩
  rintro ⟨k, _⟩ ⟨h1, h2, h3⟩
  have fin : (∀ x, l[k.toNat]? = some x → ¬ x < n) → l[k.toNat]? ≠ some n → l.take k.toNat ++ [n] ++ l.drop k.toNat = withF l n := by
    intro a b
    rw [withF_at l n k.toNat (by omega) h3 a, if_neg b]
  have fin2 : l[k.toNat]? = some n → l = withF l n := by
    intro b
    rw [withF_at l n k.toNat (by omega) h3 (fun x hx => by rw [b] at hx; cases hx; omega), if_pos b]
  have lens : (l.take k.toNat).length ≤ l.length ∧ (l.drop k.toNat).length ≤ l.length := by simp; omega
  simp only [decide_eq_true_eq, decide_eq_false_iff_not, Bool.not_true, List.length_append, List.length_singleton] at *
  refine ⟨fun c => ⟨⟨h1, c⟩, fun x hx => ⟨fun hlt => ⟨by omega, trivial, ⟨by omega, by omega, fun j hj y hy => ?_⟩, by omega⟩, fun hge => ⟨fun _ => ⟨⟨h1, c⟩, fun y hy => ⟨fun e => ?_, fun e => ?_⟩⟩, fun hn => absurd c hn⟩⟩⟩, fun c => ⟨fun hn => absurd hn c, fun _ => ?_⟩⟩
  · by_cases hji : j < k.toNat
    · exact h3 j hji y hy
    · have : j = k.toNat := by omega
      subst this
      rw [hx] at hy; cases hy; exact hlt
  · subst e
    rw [← fin2 hy]
  · refine ⟨by omega, ⟨by omega, by omega, .inr trivial⟩, by omega, by omega, by omega, ?_⟩
    rw [fin (fun z hz => by rw [hx] at hz; cases hz; exact hge) (by rw [hy]; simpa using e)]
  · refine ⟨by omega, ⟨by omega, by omega, .inr trivial⟩, by omega, by omega, by omega, ?_⟩
    have e0 : l[k.toNat]? = none := List.getElem?_eq_none (by omega)
    rw [fin (fun z hz => by rw [e0] at hz; cases hz) (by rw [e0]; simp)]
set_option maxRecDepth 20000
theorem with_pure (l : List Int) (n : Int) (h : l.length ≤ 1000000000) : Pure Tryz.prog 154 [.list .part I l, .int .i64 n] (.list .part I (withF l n)) :=
  by have k := Pure.of_cond (g_with_eq l n) (g_with_ok l n h) (specs_ok rfl [] [] rfl rfl) mixed Tryz.func154; exact k
noncomputable def q_with (l : List Int) (n : Int) : Prop × V := (l.length ≤ 1000000000, (.list .part I (withF l n)))
noncomputable def sp_with : FSpec Tryz.prog where
 f := 154
 run := fun
  | [v0, .int .i64 n] => (asP I v0 : Option (List Int)).bind fun l => some (q_with l n)
  | _ => none
 ok := fun args pre r h hp => by
  split at h
  · rename_i v0 n
    obtain ⟨l, h0, h⟩ := Option.bind_eq_some_iff.1 h
    exact of_q h hp fun h => (with_pure l n h).weak (.cons (asP_weak h0) (.cons (.refl _) .nil))
  · cases h
noncomputable def env_clone (l : List Ln) : Env where
  P := Tryz.prog
  ty := tys
def g_clone_vc (l : List Ln) : Prop :=
  ((true = true → l.length = (0 : Nat)) → ([], ()) = (l, ())) ∧ ((false = true → l.length = (0 : Nat)) → (((0 : Nat) + l.length) * (32 : Nat) ≤ (140737488355328 : Nat) ∧ (0 : Nat) + l.length ≤ (4611686018427387904 : Nat) ∧ ((0 : Nat) < l.length ∨ (0 : Nat) = (0 : Nat))) ∧ (l, ()) = (l, ()))
theorem g_clone_eq (l : List Ln) : Cond (env_clone l) Tryz.f66 [.list .tmp LTy l] [.slc 0 LTy] (l, ()) = g_clone_vc l := by kernel_rfl
theorem g_clone_ok (l : List Ln) (h : l.length ≤ 1000000000) : g_clone_vc l := by
  unfold g_clone_vc
  refine ⟨fun e => ?_, fun _ => ⟨⟨by omega, by omega, .inr rfl⟩, rfl⟩⟩
  have := List.eq_nil_of_length_eq_zero (e rfl)
  rw [this]
theorem clone_pure (l : List Ln) (h : l.length ≤ 1000000000) : Pure Tryz.prog 66 [.list .tmp LTy l] (.olist LTy l) :=
  by have k := Pure.of_cond (g_clone_eq l) (g_clone_ok l h) (specs_ok rfl [] [] rfl rfl) mixed Tryz.func66; exact k
noncomputable def q_clone (l : List Ln) : Prop × V := (l.length ≤ 1000000000, (.olist LTy l))
noncomputable def sp_clone : FSpec Tryz.prog where
 f := 66
 run := fun
  | [v0] => (asL LTy v0 : Option (List Ln)).bind fun l => some (q_clone l)
  | _ => none
 ok := fun args pre r h hp => by
  split at h
  · rename_i v0
    obtain ⟨l, h0, h⟩ := Option.bind_eq_some_iff.1 h
    exact of_q h hp fun h => (clone_pure l h).weak (.cons (asL_weak h0) .nil)
  · cases h
noncomputable def env_sum (l : List Int) : Env where
  P := Tryz.prog
  ty := tys
  specs := specsOf [sp_net]
def g_sum_vc (l : List Int) : Prop :=
  (l.length ≤ (1000000000 : Nat) ∧ (0 : Nat) ≤ (1000000000 : Nat)) ∧ ((netF l []).1, (netF l []).2, ()) = ((netF l []).1, (netF l []).2, ())
theorem g_sum_eq (l : List Int) : Cond (env_sum l) Tryz.f75 [.list .tmp I l] [.int .i64, .int .i64] ((netF l []).1, (netF l []).2, ()) = g_sum_vc l := by kernel_rfl
theorem g_sum_ok (l : List Int) (h : l.length ≤ 1000000000) : g_sum_vc l := by
  exact ⟨⟨h, Nat.zero_le _⟩, rfl⟩
theorem sum_pure (l : List Int) (h : l.length ≤ 1000000000) : Pure Tryz.prog 75 [.list .tmp I l] (.tuple [.int .i64 (netF l []).1, .int .i64 (netF l []).2]) :=
  by have k := Pure.of_cond (g_sum_eq l) (g_sum_ok l h) (specs_ok rfl [sp_net] [] rfl rfl) mixed Tryz.func75; exact k
noncomputable def q_sum (l : List Int) : Prop × V := (l.length ≤ 1000000000, (.tuple [.int .i64 (netF l []).1, .int .i64 (netF l []).2]))
noncomputable def sp_sum : FSpec Tryz.prog where
 f := 75
 run := fun
  | [v0] => (asL I v0 : Option (List Int)).bind fun l => some (q_sum l)
  | _ => none
 ok := fun args pre r h hp => by
  split at h
  · rename_i v0
    obtain ⟨l, h0, h⟩ := Option.bind_eq_some_iff.1 h
    exact of_q h hp fun h => (sum_pure l h).weak (.cons (asL_weak h0) .nil)
  · cases h
def subF (a b : Int) : Int × Int := if -9223372036854775808 ≤ a - b ∧ a - b ≤ 9223372036854775807 then (a - b, 0) else (0, 10)
noncomputable def env_sub (a b : Int) : Env where
  P := Tryz.prog
  ty := tys
  wrap := fun | 9 => true | _ => false
def g_sub_vc (a : Int) (b : Int) : Prop :=
  ((!decide (IntKind.i64.wrap (a - b) < a) == decide ((0 : Int) < b)) = true → ((!decide (b = (0 : Int))) = true → ((0 : Int), (10 : Int), ()) = ((subF a b).1, (subF a b).2, ())) ∧ ((!decide (b = (0 : Int))) = false → (IntKind.i64.wrap (a - b), (0 : Int), ()) = ((subF a b).1, (subF a b).2, ()))) ∧ ((!decide (IntKind.i64.wrap (a - b) < a) == decide ((0 : Int) < b)) = !true → (IntKind.i64.wrap (a - b), (0 : Int), ()) = ((subF a b).1, (subF a b).2, ()))
theorem g_sub_eq (a b : Int) : Cond (env_sub a b) Tryz.f153 [.int .i64 a, .int .i64 b] [.int .i64, .int .i64] ((subF a b).1, (subF a b).2, ()) = g_sub_vc a b := by kernel_rfl
theorem g_sub_ok (a b : Int) (h : InI a ∧ InI b) : g_sub_vc a b := by
  obtain ⟨⟨h1, h2⟩, h3, h4⟩ := h
  have hw := IntKind.wrap_i64 (a - b)
  unfold g_sub_vc subF
  generalize IntKind.i64.wrap (a - b) = w at hw
  by_cases hin : -9223372036854775808 ≤ a - b ∧ a - b ≤ 9223372036854775807
  · have ew : w = a - b := by omega
    have e1 : decide (w < a) = decide (0 < b) := decide_eq_decide.2 (by omega)
    rw [if_pos hin, e1, ew]
    refine ⟨fun c => ?_, fun _ => rfl⟩
    simp at c
  · have e1 : decide (w < a) ≠ decide (0 < b) := fun e => by
      have := decide_eq_decide.1 e
      omega
    rw [if_neg hin]
    refine ⟨fun _ => ⟨fun _ => rfl, fun d => ?_⟩, fun c => ?_⟩
    · have : b = 0 := by simpa using d
      omega
    · exact absurd (by simpa using c) e1
theorem sub_pure (a b : Int) (h : InI a ∧ InI b) : Pure Tryz.prog 153 [.int .i64 a, .int .i64 b] (.tuple [.int .i64 (subF a b).1, .int .i64 (subF a b).2]) :=
  by have k := Pure.of_cond (g_sub_eq a b) (g_sub_ok a b h) (specs_ok rfl [] [] rfl rfl) mixed Tryz.func153; exact k
noncomputable def q_sub (a b : Int) : Prop × V := (InI a ∧ InI b, (.tuple [.int .i64 (subF a b).1, .int .i64 (subF a b).2]))
noncomputable def sp_sub : FSpec Tryz.prog where
 f := 153
 run := fun
  | [.int .i64 a, .int .i64 b] => some (q_sub a b)
  | _ => none
 ok := fun args pre r h hp => by
  split at h
  · rename_i a b
    exact of_q h hp fun h => (sub_pure a b h).weak (.cons (.refl _) (.cons (.refl _) .nil))
  · cases h
noncomputable def env_neg (a : Int) : Env where
  P := Tryz.prog
  ty := tys
  specs := specsOf [sp_sub]
def g_neg_vc (a : Int) : Prop :=
  (InI (0 : Int) ∧ InI a) ∧ ((subF (0 : Int) a).1, (subF (0 : Int) a).2, ()) = ((subF (0 : Int) a).1, (subF (0 : Int) a).2, ())
theorem g_neg_eq (a : Int) : Cond (env_neg a) Tryz.f141 [.int .i64 a] [.int .i64, .int .i64] ((subF 0 a).1, (subF 0 a).2, ()) = g_neg_vc a := by kernel_rfl
theorem g_neg_ok (a : Int) (h : InI a) : g_neg_vc a := by
  exact ⟨⟨⟨by decide, by decide⟩, h⟩, rfl⟩
theorem neg_pure (a : Int) (h : InI a) : Pure Tryz.prog 141 [.int .i64 a] (.tuple [.int .i64 (subF 0 a).1, .int .i64 (subF 0 a).2]) :=
  by have k := Pure.of_cond (g_neg_eq a) (g_neg_ok a h) (specs_ok rfl [sp_sub] [] rfl rfl) mixed Tryz.func141; exact k
noncomputable def q_neg (a : Int) : Prop × V := (InI a, (.tuple [.int .i64 (subF 0 a).1, .int .i64 (subF 0 a).2]))
noncomputable def sp_neg : FSpec Tryz.prog where
 f := 141
 run := fun
  | [.int .i64 a] => some (q_neg a)
  | _ => none
 ok := fun args pre r h hp => by
  split at h
  · rename_i a
    exact of_q h hp fun h => (neg_pure a h).weak (.cons (.refl _) .nil)
  · cases h
noncomputable def env_has (l : List Int) (n : Int) : Env where
  P := Tryz.prog
  ty := tys
  heads := fun
    | 2 => some { slots := [(5, .int .i64)], boxes := [], inv := fun _ (x : Int × Unit) => 0 ≤ x.1 ∧ x.1 ≤ l.length ∧ n ∉ l.take x.1.toNat, measure := fun _ (x : Int × Unit) => (l.length - x.1).toNat }
    | _ => none
def g_has_vc (l : List Int) (n : Int) : Prop :=
  (True ∧ (0 : Int) ≤ (0 : Int) ∧ (0 : Int) ≤ (↑l.length : Int) ∧ ¬n ∈ List.take (Int.toNat (0 : Int)) l) ∧ ∀ (x : Int × Unit), (0 : Int) ≤ x.1 ∧ x.1 ≤ (↑l.length : Int) ∧ ¬n ∈ List.take x.1.toNat l → (decide (x.1 < (↑l.length : Int)) = true → ((0 : Int) ≤ x.1 ∧ x.1 < (↑l.length : Int)) ∧ ∀ (x_1 : Int), l[x.1.toNat]? = some x_1 → (decide (x_1 = n) = true → (true, ()) = (decide (n ∈ l), ())) ∧ (decide (x_1 = n) = false → ((-9223372036854775808 : Int) ≤ x.1 + (1 : Int) ∧ x.1 + (1 : Int) ≤ (9223372036854775807 : Int)) ∧ True ∧ ((0 : Int) ≤ x.1 + (1 : Int) ∧ x.1 + (1 : Int) ≤ (↑l.length : Int) ∧ ¬n ∈ List.take (x.1 + (1 : Int)).toNat l) ∧ ((↑l.length : Int) - (x.1 + (1 : Int))).toNat < ((↑l.length : Int) - x.1).toNat)) ∧ (decide (x.1 < (↑l.length : Int)) = false → (false, ()) = (decide (n ∈ l), ()))
theorem g_has_eq (l : List Int) (n : Int) : Cond (env_has l n) Tryz.f112 [.list .tmp I l, .int .i64 n] [.bool] (decide (n ∈ l), ()) = g_has_vc l n := by kernel_rfl
theorem g_has_ok (l : List Int) (n : Int) (h : l.length ≤ 1000000000) : g_has_vc l n := by
  refine ⟨⟨trivial, by omega, by omega, by simp⟩, ?_⟩
  rintro ⟨i, ⟨⟩⟩ ⟨h1, h2, h3⟩
  dsimp only at h1 h2 h3 ⊢
  simp only [decide_eq_true_eq, decide_eq_false_iff_not]
  refine ⟨fun c => ⟨⟨h1, c⟩, fun x hx => ⟨fun e => ?_, fun e => ⟨⟨by omega, by omega⟩, trivial, ⟨by omega, by omega, ?_⟩, by omega⟩⟩⟩, fun c => ?_⟩
  · subst e
    rw [decide_eq_true (List.mem_of_getElem? hx)]
  · rw [toNat_next h1, List.take_add_one, hx]
    simp only [Option.toList, List.mem_append, List.mem_singleton, not_or]
    exact ⟨h3, fun h => e h.symm⟩
  · rw [List.take_of_length_le (by omega)] at h3
    rw [decide_eq_false h3]
theorem has_pure (l : List Int) (n : Int) (h : l.length ≤ 1000000000) : Pure Tryz.prog 112 [.list .tmp I l, .int .i64 n] (.bool (decide (n ∈ l))) :=
  by have k := Pure.of_cond (g_has_eq l n) (g_has_ok l n h) (specs_ok rfl [] [] rfl rfl) mixed Tryz.func112; exact k
noncomputable def q_has (l : List Int) (n : Int) : Prop × V := (l.length ≤ 1000000000, (.bool (decide (n ∈ l))))
noncomputable def sp_has : FSpec Tryz.prog where
 f := 112
 run := fun
  | [v0, .int .i64 n] => (asL I v0 : Option (List Int)).bind fun l => some (q_has l n)
  | _ => none
 ok := fun args pre r h hp => by
  split at h
  · rename_i v0 n
    obtain ⟨l, h0, h⟩ := Option.bind_eq_some_iff.1 h
    exact of_q h hp fun h => (has_pure l n h).weak (.cons (asL_weak h0) (.cons (.refl _) .nil))
  · cases h
noncomputable def env_sameInts (l m : List Int) : Env where
  P := Tryz.prog
  ty := tys
  heads := fun
    | 4 => some { slots := [(5, .int .i64)], boxes := [], inv := fun _ (x : Int × Unit) => 0 ≤ x.1 ∧ x.1 ≤ l.length ∧ l.length = m.length ∧ l.take x.1.toNat = m.take x.1.toNat, measure := fun _ (x : Int × Unit) => (l.length - x.1).toNat }
    | _ => none
def g_sameInts_vc (l : List Int) (m : List Int) : Prop :=
  ((!decide ((↑l.length : Int) = (↑m.length : Int))) = true → (false, ()) = (decide (l = m), ())) ∧ ((!decide ((↑l.length : Int) = (↑m.length : Int))) = false → (True ∧ (0 : Int) ≤ (0 : Int) ∧ (0 : Int) ≤ (↑l.length : Int) ∧ l.length = m.length ∧ List.take (Int.toNat (0 : Int)) l = List.take (Int.toNat (0 : Int)) m) ∧ ∀ (x : Int × Unit), (0 : Int) ≤ x.1 ∧ x.1 ≤ (↑l.length : Int) ∧ l.length = m.length ∧ List.take x.1.toNat l = List.take x.1.toNat m → (decide (x.1 < (↑l.length : Int)) = true → ((0 : Int) ≤ x.1 ∧ x.1 < (↑l.length : Int)) ∧ ∀ (x_1 : Int), l[x.1.toNat]? = some x_1 → ((0 : Int) ≤ x.1 ∧ x.1 < (↑m.length : Int)) ∧ ∀ (x_2 : Int), m[x.1.toNat]? = some x_2 → ((!decide (x_1 = x_2)) = true → (false, ()) = (decide (l = m), ())) ∧ ((!decide (x_1 = x_2)) = false → ((-9223372036854775808 : Int) ≤ x.1 + (1 : Int) ∧ x.1 + (1 : Int) ≤ (9223372036854775807 : Int)) ∧ True ∧ ((0 : Int) ≤ x.1 + (1 : Int) ∧ x.1 + (1 : Int) ≤ (↑l.length : Int) ∧ l.length = m.length ∧ List.take (x.1 + (1 : Int)).toNat l = List.take (x.1 + (1 : Int)).toNat m) ∧ ((↑l.length : Int) - (x.1 + (1 : Int))).toNat < ((↑l.length : Int) - x.1).toNat)) ∧ (decide (x.1 < (↑l.length : Int)) = false → (true, ()) = (decide (l = m), ())))
theorem g_sameInts_eq (l m : List Int) : Cond (env_sameInts l m) Tryz.f44 [.list .tmp I l, .list .tmp I m] [.bool] (decide (l = m), ()) = g_sameInts_vc l m := by kernel_rfl
theorem g_sameInts_ok (l m : List Int) (h : l.length ≤ 1000000000) : g_sameInts_vc l m := by
  unfold g_sameInts_vc
  simp only [decide_eq_true_eq, decide_eq_false_iff_not, Bool.not_eq_true', Bool.not_eq_false']
  refine ⟨fun c => ?_, fun c => ⟨⟨trivial, by omega, by omega, by omega, by simp⟩, ?_⟩⟩
  · rw [decide_eq_false (fun e => c (by rw [e]))]
  · rintro ⟨i, ⟨⟩⟩ ⟨h1, h2, h3, h4⟩
    dsimp only at h1 h2 h3 h4 ⊢
    refine ⟨fun c2 => ⟨⟨h1, c2⟩, fun x hx => ⟨⟨h1, by omega⟩, fun y hy => ⟨fun e => ?_, fun e => ⟨⟨by omega, by omega⟩, trivial, ⟨by omega, by omega, h3, ?_⟩, by omega⟩⟩⟩⟩, fun c2 => ?_⟩
    · rw [decide_eq_false (fun e2 => e (by subst e2; rw [hx] at hy; exact Option.some.inj hy))]
    · rw [toNat_next h1, List.take_add_one, List.take_add_one, hx, hy, h4, e]
    · rw [List.take_of_length_le (by omega), List.take_of_length_le (by omega)] at h4
      rw [decide_eq_true h4]
theorem sameInts_pure (l m : List Int) (h : l.length ≤ 1000000000) : Pure Tryz.prog 44 [.list .tmp I l, .list .tmp I m] (.bool (decide (l = m))) :=
  by have k := Pure.of_cond (g_sameInts_eq l m) (g_sameInts_ok l m h) (specs_ok rfl [] [] rfl rfl) mixed Tryz.func44; exact k
noncomputable def q_sameInts (l m : List Int) : Prop × V := (l.length ≤ 1000000000, (.bool (decide (l = m))))
noncomputable def sp_sameInts : FSpec Tryz.prog where
 f := 44
 run := fun
  | [v0, v1] => (asL I v0 : Option (List Int)).bind fun l => (asL I v1 : Option (List Int)).bind fun m => some (q_sameInts l m)
  | _ => none
 ok := fun args pre r h hp => by
  split at h
  · rename_i v0 v1
    obtain ⟨l, h0, h⟩ := Option.bind_eq_some_iff.1 h
    obtain ⟨m, h1, h⟩ := Option.bind_eq_some_iff.1 h
    exact of_q h hp fun h => (sameInts_pure l m h).weak (.cons (asL_weak h0) (.cons (asL_weak h1) .nil))
  · cases h
def sameE (p r : Int) (L : List Ln) (q s : Int) (M : List Ln) : Bool := decide (p = q ∧ r = s ∧ L = M)
noncomputable def env_same (p r q s : Int) (L M : List Ln) : Env where
  P := Tryz.prog
  ty := tys
  heads := fun
    | 4 => some { slots := [(5, .int .i64)], boxes := [], keep := [2, 3], inv := fun _ (x : Int × Unit) => 0 ≤ x.1 ∧ x.1 ≤ L.length ∧ L.length = M.length ∧ p = q ∧ r = s ∧ L.take x.1.toNat = M.take x.1.toNat, measure := fun _ (x : Int × Unit) => (L.length - x.1).toNat }
    | _ => none
abbrev bx_same_1 (p : Int) (r : Int) (L : List Ln) : _root_.Go.Vm.Obj := Obj.box [V.int IntKind.i64 p, V.int IntKind.i64 r, V.list LK.tmp LTy L]
abbrev bx_same_2 (q : Int) (s : Int) (M : List Ln) : _root_.Go.Vm.Obj := Obj.box [V.int IntKind.i64 q, V.int IntKind.i64 s, V.list LK.tmp LTy M]
def g_same_vc (p : Int) (r : Int) (q : Int) (s : Int) (L : List Ln) (M : List Ln) : Prop :=
  ((!decide (p = q)) = false → ((!decide (r = s)) = false → ((!decide ((↑L.length : Int) = (↑M.length : Int))) = true → (false, ()) = (sameE p r L q s M, ())) ∧ ((!decide ((↑L.length : Int) = (↑M.length : Int))) = false → ((some (bx_same_1 p r L) = some (bx_same_1 p r L) ∧ some (bx_same_2 q s M) = some (bx_same_2 q s M) ∧ True) ∧ (0 : Int) ≤ (0 : Int) ∧ (0 : Int) ≤ (↑L.length : Int) ∧ L.length = M.length ∧ p = q ∧ r = s ∧ List.take (Int.toNat (0 : Int)) L = List.take (Int.toNat (0 : Int)) M) ∧ ∀ (x : Int × Unit), (0 : Int) ≤ x.1 ∧ x.1 ≤ (↑L.length : Int) ∧ L.length = M.length ∧ p = q ∧ r = s ∧ List.take x.1.toNat L = List.take x.1.toNat M → (decide (x.1 < (↑L.length : Int)) = true → ((0 : Int) ≤ x.1 ∧ x.1 < (↑L.length : Int)) ∧ ∀ (x_1 : Int × Int × Int × Int), L[x.1.toNat]? = some x_1 → ((0 : Int) ≤ x.1 ∧ x.1 < (↑M.length : Int)) ∧ ∀ (x_2 : Int × Int × Int × Int), M[x.1.toNat]? = some x_2 → ((!(decide (x_1.1 = x_2.1) && (decide (x_1.2.1 = x_2.2.1) && (decide (x_1.2.2.1 = x_2.2.2.1) && (decide (x_1.2.2.2 = x_2.2.2.2) && true))))) = true → (false, ()) = (sameE p r L q s M, ())) ∧ ((!(decide (x_1.1 = x_2.1) && (decide (x_1.2.1 = x_2.2.1) && (decide (x_1.2.2.1 = x_2.2.2.1) && (decide (x_1.2.2.2 = x_2.2.2.2) && true))))) = false → ((-9223372036854775808 : Int) ≤ x.1 + (1 : Int) ∧ x.1 + (1 : Int) ≤ (9223372036854775807 : Int)) ∧ (some (bx_same_1 p r L) = some (bx_same_1 p r L) ∧ some (bx_same_2 q s M) = some (bx_same_2 q s M) ∧ True) ∧ ((0 : Int) ≤ x.1 + (1 : Int) ∧ x.1 + (1 : Int) ≤ (↑L.length : Int) ∧ L.length = M.length ∧ p = q ∧ r = s ∧ List.take (x.1 + (1 : Int)).toNat L = List.take (x.1 + (1 : Int)).toNat M) ∧ ((↑L.length : Int) - (x.1 + (1 : Int))).toNat < ((↑L.length : Int) - x.1).toNat)) ∧ (decide (x.1 < (↑L.length : Int)) = false → (true, ()) = (sameE p r L q s M, ())))) ∧ ((!decide (r = s)) = !false → (false, ()) = (sameE p r L q s M, ()))) ∧ ((!decide (p = q)) = !false → (false, ()) = (sameE p r L q s M, ()))
theorem g_same_eq (p r q s : Int) (L M : List Ln) : Cond (env_same p r q s L M) Tryz.f49 [.agg [.int .i64 p, .int .i64 r, .list .tmp LTy L], .agg [.int .i64 q, .int .i64 s, .list .tmp LTy M]] [.bool] (sameE p r L q s M, ()) = g_same_vc p r q s L M := by kernel_rfl
theorem g_same_ok (p r q s : Int) (L M : List Ln) (h : L.length ≤ 1000000000) : g_same_vc p r q s L M := by
  unfold g_same_vc sameE
  have kf : ¬ (p = q ∧ r = s ∧ L = M) → (false, ()) = (decide (p = q ∧ r = s ∧ L = M), ()) := fun hn => by rw [decide_eq_false hn]
  simp only [decide_eq_true_eq, decide_eq_false_iff_not, Bool.not_eq_true', Bool.not_eq_false', Bool.not_false]
  refine ⟨fun c1 => ⟨fun c2 => ⟨fun c => kf fun e => c (by rw [e.2.2]), fun c => ⟨⟨⟨trivial, trivial, trivial⟩, by omega, by omega, by omega, c1, c2, by simp⟩, ?_⟩⟩, fun c2 => kf fun e => c2 e.2.1⟩, fun c1 => kf fun e => c1 e.1⟩
  rintro ⟨i, ⟨⟩⟩ ⟨h1, h2, h3, h4, h5, h6⟩
  dsimp only at h1 h2 h3 h6 ⊢
  refine ⟨fun c2 => ⟨⟨h1, c2⟩, fun x hx => ⟨⟨h1, by omega⟩, fun y hy => ⟨fun e => kf fun e2 => ?_, fun e => ⟨⟨by omega, by omega⟩, ⟨trivial, trivial, trivial⟩, ⟨by omega, by omega, h3, h4, h5, ?_⟩, by omega⟩⟩⟩⟩, fun c2 => ?_⟩
  · have exy : x = y := by
      obtain ⟨_, _, rfl⟩ := e2
      rw [hx] at hy; exact Option.some.inj hy
    subst exy
    simp at e
  · have exy : x = y := by
      obtain ⟨x1, x2, x3, x4⟩ := x
      obtain ⟨y1, y2, y3, y4⟩ := y
      simp only [Bool.and_eq_true, decide_eq_true_eq, and_true] at e
      obtain ⟨rfl, rfl, rfl, rfl⟩ := e
      rfl
    rw [toNat_next h1, List.take_add_one, List.take_add_one, hx, hy, h6, exy]
  · rw [List.take_of_length_le (by omega), List.take_of_length_le (by omega)] at h6
    rw [decide_eq_true ⟨h4, h5, h6⟩]
theorem same_pure (p r q s : Int) (L M : List Ln) (h : L.length ≤ 1000000000) : Pure Tryz.prog 49 [.agg [.int .i64 p, .int .i64 r, .list .tmp LTy L], .agg [.int .i64 q, .int .i64 s, .list .tmp LTy M]] (.bool (sameE p r L q s M)) :=
  by have k := Pure.of_cond (g_same_eq p r q s L M) (g_same_ok p r q s L M h) (specs_ok rfl [] [] rfl rfl) mixed Tryz.func49; exact k
noncomputable def q_same (p r q s : Int) (L M : List Ln) : Prop × V := (L.length ≤ 1000000000, (.bool (sameE p r L q s M)))
noncomputable def sp_same : FSpec Tryz.prog where
 f := 49
 run := fun
  | [.agg [.int .i64 p, .int .i64 r, v0_2], .agg [.int .i64 q, .int .i64 s, v1_2]] => (asL LTy v0_2 : Option (List Ln)).bind fun L => (asL LTy v1_2 : Option (List Ln)).bind fun M => some (q_same p r q s L M)
  | _ => none
 ok := fun args pre r h hp => by
  split at h
  · rename_i p r v0_2 q s v1_2
    obtain ⟨L, h0_2, h⟩ := Option.bind_eq_some_iff.1 h
    obtain ⟨M, h1_2, h⟩ := Option.bind_eq_some_iff.1 h
    exact of_q h hp fun h => (same_pure p r q s L M h).weak (.cons (Weak.agg (.cons (.refl _) (.cons (.refl _) (.cons (asL_weak h0_2) .nil)))) (.cons (Weak.agg (.cons (.refl _) (.cons (.refl _) (.cons (asL_weak h1_2) .nil)))) .nil))
  · cases h
def entsL (L : List Ln) : List Int := L.map (·.1)
def entsF (L : List Ln) : List Int := (entsL L).foldl withF []
def InvEn (L : List Ln) (i : Int) (acc : List Int) : Prop := 0 ≤ i ∧ i ≤ L.length ∧ acc = entsL (L.take i.toNat)
noncomputable def env_ents (p r : Int) (L : List Ln) : Env where
  P := Tryz.prog
  ty := tys
  upd := updsOf [sp_sort, sp_compact]
  heads := fun
    | 3 => some { slots := [(9, .int .i64), (3, .slc 5000 I), (5, .any)], boxes := [], keep := [1], inv := fun _ (x : Int × List Int × Unit × Unit) => InvEn L x.1 x.2.1, measure := fun _ (x : Int × List Int × Unit × Unit) => (L.length - x.1).toNat }
    | _ => none
abbrev bx_ents_1 (p : Int) (r : Int) (L : List Ln) : _root_.Go.Vm.Obj := Obj.box [V.int IntKind.i64 p, V.int IntKind.i64 r, V.list LK.tmp LTy L]
def g_ents_vc (p : Int) (r : Int) (L : List Ln) : Prop :=
  ((some (bx_ents_1 p r L) = some (bx_ents_1 p r L) ∧ True) ∧ InvEn L (0 : Int) []) ∧ ∀ (x : Int × List Int × Unit × Unit), InvEn L x.1 x.2.1 → (decide (x.1 < (↑L.length : Int)) = true → ((0 : Int) ≤ x.1 ∧ x.1 < (↑L.length : Int)) ∧ ∀ (x_1 : Int × Int × Int × Int), L[x.1.toNat]? = some x_1 → ((x.2.1.length + (1 : Nat)) * (8 : Nat) ≤ (140737488355328 : Nat) ∧ x.2.1.length + (1 : Nat) ≤ (4611686018427387904 : Nat)) ∧ ((-9223372036854775808 : Int) ≤ x.1 + (1 : Int) ∧ x.1 + (1 : Int) ≤ (9223372036854775807 : Int)) ∧ (some (bx_ents_1 p r L) = some (bx_ents_1 p r L) ∧ True) ∧ InvEn L (x.1 + (1 : Int)) (x.2.1 ++ [x_1.1]) ∧ ((↑L.length : Int) - (x.1 + (1 : Int))).toNat < ((↑L.length : Int) - x.1).toNat) ∧ (decide (x.1 < (↑L.length : Int)) = false → x.2.1.length ≤ (1000000000 : Nat) ∧ (x.2.1.mergeSort fun x y => decide (x ≤ y)).length ≤ (1000000000 : Nat) ∧ (List.take (Lib.compact (x.2.1.mergeSort fun x y => decide (x ≤ y))).length (List.drop (0 : Nat) (Lib.compact (x.2.1.mergeSort fun x y => decide (x ≤ y)) ++ List.replicate ((x.2.1.mergeSort fun x y => decide (x ≤ y)).length - (Lib.compact (x.2.1.mergeSort fun x y => decide (x ≤ y))).length) (0 : Int))), ()) = (entsF L, ()))
theorem g_ents_eq (p r : Int) (L : List Ln) : Cond (env_ents p r L) Tryz.f105 [.agg [.int .i64 p, .int .i64 r, .list .tmp LTy L]] [.list .part I] (entsF L, ()) = g_ents_vc p r L := by kernel_rfl
theorem entsL_take {L : List Ln} {i : Nat} {x : Ln} (h : L[i]? = some x) : entsL (L.take (i + 1)) = entsL (L.take i) ++ [x.1] := by
  unfold entsL
  rw [List.take_add_one, h]
  simp
theorem entsL_len (L : List Ln) : (entsL L).length = L.length := List.length_map ..
theorem entsF_take {L : List Ln} {i : Nat} {x : Ln} (h : L[i]? = some x) : entsF (L.take (i + 1)) = withF (entsF (L.take i)) x.1 := by
  unfold entsF
  rw [entsL_take h, List.foldl_append]
  rfl
theorem entsF_len (L : List Ln) : (entsF L).length ≤ L.length := by
  have h1 := len_fold (m := entsL L) (l := [])
  rw [entsL_len] at h1
  simpa [entsF] using h1
theorem mem_entsF {L : List Ln} {e : Int} : e ∈ entsF L ↔ ∃ x ∈ L, x.1 = e := by
  unfold entsF
  rw [mem_fold]
  simp [entsL]
theorem sortF_eq (l : List Int) : (l.mergeSort fun x y => decide (x ≤ y)) = sortF l := rfl
theorem g_ents_ok (p r : Int) (L : List Ln) (h : L.length ≤ 1000000000) : g_ents_vc p r L := by
  unfold g_ents_vc
  refine ⟨⟨⟨rfl, trivial⟩, by omega, by omega, rfl⟩, ?_⟩
  rintro ⟨i, acc, ⟨⟩, ⟨⟩⟩ ⟨h1, h2, h3⟩
  dsimp only at h1 h2 h3 ⊢
  have hlen : acc.length ≤ L.length := by rw [h3, entsL_len, List.length_take]; omega
  simp only [decide_eq_true_eq, decide_eq_false_iff_not]
  refine ⟨fun hi => ⟨⟨h1, hi⟩, fun x hx => ⟨⟨by omega, by omega⟩, ⟨by omega, by omega⟩, ⟨trivial, trivial⟩, ⟨by omega, by omega, ?_⟩, by omega⟩⟩, fun hi => ⟨by omega, ?_, ?_⟩⟩
  · rw [toNat_next h1, entsL_take hx, h3]
  · rw [List.length_mergeSort]; omega
  · rw [sortF_eq, compact_sort, List.drop_zero, List.take_left' rfl, h3, List.take_of_length_le (by omega)]
    rfl
theorem ents_pure (p r : Int) (L : List Ln) (h : L.length ≤ 1000000000) : Pure Tryz.prog 105 [.agg [.int .i64 p, .int .i64 r, .list .tmp LTy L]] (.list .part I (entsF L)) :=
  by have k := Pure.of_cond (g_ents_eq p r L) (g_ents_ok p r L h) (specs_ok rfl [] [sp_sort, sp_compact] rfl rfl) mixed Tryz.func105; exact k
noncomputable def q_ents (p r : Int) (L : List Ln) : Prop × V := (L.length ≤ 1000000000, (.list .part I (entsF L)))
noncomputable def sp_ents : FSpec Tryz.prog where
 f := 105
 run := fun
  | [.agg [.int .i64 p, .int .i64 r, v0_2]] => (asL LTy v0_2 : Option (List Ln)).bind fun L => some (q_ents p r L)
  | _ => none
 ok := fun args pre r h hp => by
  split at h
  · rename_i p r v0_2
    obtain ⟨L, h0_2, h⟩ := Option.bind_eq_some_iff.1 h
    exact of_q h hp fun h => (ents_pure p r L h).weak (.cons (Weak.agg (.cons (.refl _) (.cons (.refl _) (.cons (asL_weak h0_2) .nil)))) .nil)
  · cases h
def InvEn2 (L : List Ln) (i : Int) (acc : List Int) : Prop := 0 ≤ i ∧ i ≤ L.length ∧ acc = entsF (L.take i.toNat)
noncomputable def env_refEnts (p r : Int) (L : List Ln) : Env where
  P := Tryz.prog
  ty := tys
  specs := specsOf [sp_with]
  heads := fun
    | 3 => some { slots := [(4, .int .i64), (3, .list .part I)], boxes := [], keep := [1], inv := fun _ (x : Int × List Int × Unit) => InvEn2 L x.1 x.2.1, measure := fun _ (x : Int × List Int × Unit) => (L.length - x.1).toNat }
    | _ => none
abbrev bx_refEnts_1 (p : Int) (r : Int) (L : List Ln) : _root_.Go.Vm.Obj := Obj.box [V.int IntKind.i64 p, V.int IntKind.i64 r, V.list LK.tmp LTy L]
def g_refEnts_vc (p : Int) (r : Int) (L : List Ln) : Prop :=
  ((some (bx_refEnts_1 p r L) = some (bx_refEnts_1 p r L) ∧ True) ∧ InvEn2 L (0 : Int) []) ∧ ∀ (x : Int × List Int × Unit), InvEn2 L x.1 x.2.1 → (decide (x.1 < (↑L.length : Int)) = true → ((0 : Int) ≤ x.1 ∧ x.1 < (↑L.length : Int)) ∧ ∀ (x_1 : Int × Int × Int × Int), L[x.1.toNat]? = some x_1 → x.2.1.length ≤ (1000000000 : Nat) ∧ ((-9223372036854775808 : Int) ≤ x.1 + (1 : Int) ∧ x.1 + (1 : Int) ≤ (9223372036854775807 : Int)) ∧ (some (bx_refEnts_1 p r L) = some (bx_refEnts_1 p r L) ∧ True) ∧ InvEn2 L (x.1 + (1 : Int)) (withF x.2.1 x_1.1) ∧ ((↑L.length : Int) - (x.1 + (1 : Int))).toNat < ((↑L.length : Int) - x.1).toNat) ∧ (decide (x.1 < (↑L.length : Int)) = false → (x.2.1, ()) = (entsF L, ()))
theorem g_refEnts_eq (p r : Int) (L : List Ln) : Cond (env_refEnts p r L) Tryz.f145 [.agg [.int .i64 p, .int .i64 r, .list .tmp LTy L]] [.list .part I] (entsF L, ()) = g_refEnts_vc p r L := by kernel_rfl
theorem g_refEnts_ok (p r : Int) (L : List Ln) (h : L.length ≤ 1000000000) : g_refEnts_vc p r L := by
  unfold g_refEnts_vc
  refine ⟨⟨⟨rfl, trivial⟩, by omega, by omega, rfl⟩, ?_⟩
  rintro ⟨i, acc, ⟨⟩⟩ ⟨h1, h2, h3⟩
  dsimp only at h1 h2 h3 ⊢
  have hlen : acc.length ≤ L.length := by
    rw [h3]
    have := entsF_len (L.take i.toNat)
    rw [List.length_take] at this
    omega
  simp only [decide_eq_true_eq, decide_eq_false_iff_not]
  refine ⟨fun hi => ⟨⟨h1, hi⟩, fun x hx => ⟨by omega, ⟨by omega, by omega⟩, ⟨trivial, trivial⟩, ⟨by omega, by omega, ?_⟩, by omega⟩⟩, fun hi => ?_⟩
  · rw [toNat_next h1, entsF_take hx, h3]
  · rw [h3, List.take_of_length_le (by omega)]
theorem refEnts_pure (p r : Int) (L : List Ln) (h : L.length ≤ 1000000000) : Pure Tryz.prog 145 [.agg [.int .i64 p, .int .i64 r, .list .tmp LTy L]] (.list .part I (entsF L)) :=
  by have k := Pure.of_cond (g_refEnts_eq p r L) (g_refEnts_ok p r L h) (specs_ok rfl [sp_with] [] rfl rfl) mixed Tryz.func145; exact k
noncomputable def q_refEnts (p r : Int) (L : List Ln) : Prop × V := (L.length ≤ 1000000000, (.list .part I (entsF L)))
noncomputable def sp_refEnts : FSpec Tryz.prog where
 f := 145
 run := fun
  | [.agg [.int .i64 p, .int .i64 r, v0_2]] => (asL LTy v0_2 : Option (List Ln)).bind fun L => some (q_refEnts p r L)
  | _ => none
 ok := fun args pre r h hp => by
  split at h
  · rename_i p r v0_2
    obtain ⟨L, h0_2, h⟩ := Option.bind_eq_some_iff.1 h
    exact of_q h hp fun h => (refEnts_pure p r L h).weak (.cons (Weak.agg (.cons (.refl _) (.cons (.refl _) (.cons (asL_weak h0_2) .nil)))) .nil)
  · cases h
def amtsL (L : List Ln) (e : Int) : List Int := (L.filter fun x => decide (x.1 = e)).map (·.2.2.2)
def wholeF (L : List Ln) (e : Int) : Int := (amtsL L e).foldl (· + ·) 0
theorem amtsL_take {L : List Ln} {e : Int} {i : Nat} {x : Ln} (h : L[i]? = some x) : amtsL (L.take (i + 1)) e = amtsL (L.take i) e ++ if x.1 = e then [x.2.2.2] else [] := by
  unfold amtsL
  rw [List.take_add_one, h]
  by_cases hx : x.1 = e <;> simp [hx]
theorem amtsL_len (L : List Ln) (e : Int) : (amtsL L e).length ≤ L.length := by
  unfold amtsL
  rw [List.length_map]
  exact List.length_filter_le _ _
theorem wholeF_take {L : List Ln} {e : Int} {i : Nat} {x : Ln} (h : L[i]? = some x) : wholeF (L.take (i + 1)) e = wholeF (L.take i) e + if x.1 = e then x.2.2.2 else 0 := by
  unfold wholeF
  rw [amtsL_take h, List.foldl_append]
  by_cases hx : x.1 = e <;> simp [hx]
noncomputable def env_total (p r : Int) (L : List Ln) (e : Int) : Env where
  P := Tryz.prog
  ty := tys
  specs := specsOf [sp_sum]
  heads := fun
    | 3 => some { slots := [(12, .int .i64), (6, .slc 5000 I), (8, .any)], boxes := [], keep := [2], inv := fun _ (x : Int × List Int × Unit × Unit) => 0 ≤ x.1 ∧ x.1 ≤ L.length ∧ x.2.1 = amtsL (L.take x.1.toNat) e, measure := fun _ (x : Int × List Int × Unit × Unit) => (L.length - x.1).toNat }
    | _ => none
abbrev bx_total_1 (p : Int) (r : Int) (L : List Ln) : _root_.Go.Vm.Obj := Obj.box [V.int IntKind.i64 p, V.int IntKind.i64 r, V.list LK.tmp LTy L]
def g_total_vc (p : Int) (r : Int) (L : List Ln) (e : Int) : Prop :=
  ((some (bx_total_1 p r L) = some (bx_total_1 p r L) ∧ True) ∧ (0 : Int) ≤ (0 : Int) ∧ (0 : Int) ≤ (↑L.length : Int) ∧ [] = amtsL (List.take (Int.toNat (0 : Int)) L) e) ∧ ∀ (x : Int × List Int × Unit × Unit), (0 : Int) ≤ x.1 ∧ x.1 ≤ (↑L.length : Int) ∧ x.2.1 = amtsL (List.take x.1.toNat L) e → (decide (x.1 < (↑L.length : Int)) = true → ((0 : Int) ≤ x.1 ∧ x.1 < (↑L.length : Int)) ∧ ∀ (x_1 : Int × Int × Int × Int), L[x.1.toNat]? = some x_1 → (decide (x_1.1 = e) = true → ((x.2.1.length + (1 : Nat)) * (8 : Nat) ≤ (140737488355328 : Nat) ∧ x.2.1.length + (1 : Nat) ≤ (4611686018427387904 : Nat)) ∧ ((-9223372036854775808 : Int) ≤ x.1 + (1 : Int) ∧ x.1 + (1 : Int) ≤ (9223372036854775807 : Int)) ∧ (some (bx_total_1 p r L) = some (bx_total_1 p r L) ∧ True) ∧ ((0 : Int) ≤ x.1 + (1 : Int) ∧ x.1 + (1 : Int) ≤ (↑L.length : Int) ∧ x.2.1 ++ [x_1.2.2.2] = amtsL (List.take (x.1 + (1 : Int)).toNat L) e) ∧ ((↑L.length : Int) - (x.1 + (1 : Int))).toNat < ((↑L.length : Int) - x.1).toNat) ∧ (decide (x_1.1 = e) = false → ((-9223372036854775808 : Int) ≤ x.1 + (1 : Int) ∧ x.1 + (1 : Int) ≤ (9223372036854775807 : Int)) ∧ (some (bx_total_1 p r L) = some (bx_total_1 p r L) ∧ True) ∧ ((0 : Int) ≤ x.1 + (1 : Int) ∧ x.1 + (1 : Int) ≤ (↑L.length : Int) ∧ x.2.1 = amtsL (List.take (x.1 + (1 : Int)).toNat L) e) ∧ ((↑L.length : Int) - (x.1 + (1 : Int))).toNat < ((↑L.length : Int) - x.1).toNat)) ∧ (decide (x.1 < (↑L.length : Int)) = false → x.2.1.length ≤ (1000000000 : Nat) ∧ ((netF x.2.1 []).1, (netF x.2.1 []).2, ()) = ((netF (amtsL L e) []).1, (netF (amtsL L e) []).2, ()))
theorem g_total_eq (p r : Int) (L : List Ln) (e : Int) : Cond (env_total p r L e) Tryz.f22 [.agg [.int .i64 p, .int .i64 r, .list .tmp LTy L], .int .i64 e] [.int .i64, .int .i64] ((netF (amtsL L e) []).1, (netF (amtsL L e) []).2, ()) = g_total_vc p r L e := by kernel_rfl
theorem g_total_ok (p r : Int) (L : List Ln) (e : Int) (h : L.length ≤ 1000000000) : g_total_vc p r L e := by
  unfold g_total_vc
  refine ⟨⟨⟨rfl, trivial⟩, by omega, by omega, rfl⟩, ?_⟩
  rintro ⟨i, acc, ⟨⟩, ⟨⟩⟩ ⟨h1, h2, h3⟩
  dsimp only at h1 h2 h3 ⊢
  have hlen : acc.length ≤ L.length := by
    rw [h3]
    have := amtsL_len (L.take i.toNat) e
    rw [List.length_take] at this
    omega
  simp only [decide_eq_true_eq, decide_eq_false_iff_not]
  refine ⟨fun hi => ⟨⟨h1, hi⟩, fun x hx => ⟨fun c => ⟨⟨by omega, by omega⟩, ⟨by omega, by omega⟩, ⟨trivial, trivial⟩, ⟨by omega, by omega, ?_⟩, by omega⟩, fun c => ⟨⟨by omega, by omega⟩, ⟨trivial, trivial⟩, ⟨by omega, by omega, ?_⟩, by omega⟩⟩⟩, fun hi => ⟨by omega, ?_⟩⟩
  · rw [toNat_next h1, amtsL_take hx, if_pos c, h3]
  · rw [toNat_next h1, amtsL_take hx, if_neg c, h3, List.append_nil]
  · rw [h3, List.take_of_length_le (by omega)]
theorem total_pure (p r : Int) (L : List Ln) (e : Int) (h : L.length ≤ 1000000000) : Pure Tryz.prog 22 [.agg [.int .i64 p, .int .i64 r, .list .tmp LTy L], .int .i64 e] (.tuple [.int .i64 (netF (amtsL L e) []).1, .int .i64 (netF (amtsL L e) []).2]) :=
  by have k := Pure.of_cond (g_total_eq p r L e) (g_total_ok p r L e h) (specs_ok rfl [sp_sum] [] rfl rfl) mixed Tryz.func22; exact k
noncomputable def q_total (p r : Int) (L : List Ln) (e : Int) : Prop × V := (L.length ≤ 1000000000, (.tuple [.int .i64 (netF (amtsL L e) []).1, .int .i64 (netF (amtsL L e) []).2]))
noncomputable def sp_total : FSpec Tryz.prog where
 f := 22
 run := fun
  | [.agg [.int .i64 p, .int .i64 r, v0_2], .int .i64 e] => (asL LTy v0_2 : Option (List Ln)).bind fun L => some (q_total p r L e)
  | _ => none
 ok := fun args pre r h hp => by
  split at h
  · rename_i p r v0_2 e
    obtain ⟨L, h0_2, h⟩ := Option.bind_eq_some_iff.1 h
    exact of_q h hp fun h => (total_pure p r L e h).weak (.cons (Weak.agg (.cons (.refl _) (.cons (.refl _) (.cons (asL_weak h0_2) .nil)))) (.cons (.refl _) .nil))
  · cases h
def InL (L : List Ln) : Prop := ∀ x ∈ L, InI x.2.2.2
theorem InL.get {L : List Ln} (h : InL L) {i : Nat} {x : Ln} (hx : L[i]? = some x) : InI x.2.2.2 := h x (List.mem_of_getElem? hx)
theorem wholeF_boundP {L : List Ln} {P : Int} (h0 : 0 ≤ P) (h : ∀ x ∈ L, -P ≤ x.2.2.2 ∧ x.2.2.2 ≤ P) (e : Int) (i : Nat) : -(i * P) ≤ wholeF (L.take i) e ∧ wholeF (L.take i) e ≤ i * P := by
  induction i with
  | zero => simp [wholeF, amtsL]
  | succ i ih =>
    have e1 : ((i + 1 : Nat) : Int) * P = i * P + P := by
      rw [Int.natCast_add, Int.add_mul]
      simp
    rw [e1]
    cases hx : L[i]? with
    | none =>
      have hl := List.getElem?_eq_none_iff.1 hx
      rw [List.take_of_length_le (show L.length ≤ i + 1 by omega)]
      rw [List.take_of_length_le hl] at ih
      omega
    | some x =>
      rw [wholeF_take hx]
      obtain ⟨h1, h2⟩ := h x (List.mem_of_getElem? hx)
      split <;> omega
theorem wholeF_bound {L : List Ln} (h : InL L) (e : Int) (i : Nat) : -(i * 9223372036854775808) ≤ wholeF (L.take i) e ∧ wholeF (L.take i) e ≤ i * 9223372036854775808 :=
  wholeF_boundP (by omega) (fun x hx => by obtain ⟨h1, h2⟩ := h x hx; omega) e i
theorem wholeF_len {L : List Ln} (h : InL L) (e : Int) (hl : L.length ≤ 1000) (i : Nat) : (digs (wholeF (L.take i) e).natAbs).length ≤ 30 := by
  refine digs_len (k := 30) ?_
  by_cases hi : i ≤ 1000
  · have := wholeF_bound h e i
    omega
  · have := wholeF_bound h e 1000
    rw [List.take_of_length_le (by omega)] at this ⊢
    omega
theorem digI_len {n : Int} (h : InI n) : (digs n.natAbs).length ≤ 30 := by
  obtain ⟨h1, h2⟩ := h
  exact digs_len (k := 30) (by omega)
noncomputable def env_whole (p r : Int) (L : List Ln) (e : Int) : Env where
  P := Tryz.prog
  ty := tys
  specs := specsOf [sp_of, sp_bplus]
  frz := fun | 29 => true | 30 => true | _ => false
  heads := fun
    | 3 => some { slots := [(6, .int .i64)], boxes := [(5, [.bool, .list .part I])], keep := [2, 4], inv := fun _ (x : Int × Bool × List Int × Unit) => 0 ≤ x.1 ∧ x.1 ≤ L.length ∧ x.2.1 = decide (wholeF (L.take x.1.toNat) e < 0) ∧ x.2.2.1 = digs (wholeF (L.take x.1.toNat) e).natAbs, measure := fun _ (x : Int × Bool × List Int × Unit) => (L.length - x.1).toNat }
    | _ => none
abbrev ann_whole : Ann := { slots := numP 0 [.bool, .list .part I], boxes := [], inv := fun _ _ => True }
abbrev bx_whole_1 (p : Int) (r : Int) (L : List Ln) : _root_.Go.Vm.Obj := Obj.box [V.int IntKind.i64 p, V.int IntKind.i64 r, V.list LK.tmp LTy L]
def g_whole_vc (p : Int) (r : Int) (L : List Ln) (e : Int) : Prop :=
  ((some (bx_whole_1 p r L) = some (bx_whole_1 p r L) ∧ some (Obj.box [V.kb false, V.nils]) = some (Obj.box [V.kb false, V.nils]) ∧ True) ∧ (0 : Int) ≤ (0 : Int) ∧ (0 : Int) ≤ (↑L.length : Int) ∧ false = decide (wholeF (List.take (Int.toNat (0 : Int)) L) e < (0 : Int)) ∧ [] = digs (wholeF (List.take (Int.toNat (0 : Int)) L) e).natAbs) ∧ ∀ (x : Int × Bool × List Int × Unit), (0 : Int) ≤ x.1 ∧ x.1 ≤ (↑L.length : Int) ∧ x.2.1 = decide (wholeF (List.take x.1.toNat L) e < (0 : Int)) ∧ x.2.2.1 = digs (wholeF (List.take x.1.toNat L) e).natAbs → (decide (x.1 < (↑L.length : Int)) = true → ((0 : Int) ≤ x.1 ∧ x.1 < (↑L.length : Int)) ∧ ∀ (x_1 : Int × Int × Int × Int), L[x.1.toNat]? = some x_1 → (decide (x_1.1 = e) = true → ((0 : Int) ≤ x.1 ∧ x.1 < (↑L.length : Int)) ∧ ∀ (x_2 : Int × Int × Int × Int), L[x.1.toNat]? = some x_2 → InI x_2.2.2.2 ∧ (Big x.2.1 x.2.2.1 ∧ Big (decide (x_2.2.2.2 < (0 : Int))) (digs x_2.2.2.2.natAbs) ∧ x.2.2.1.length ≤ (1000000 : Nat) ∧ (digs x_2.2.2.2.natAbs).length ≤ (1000000 : Nat)) ∧ ((-9223372036854775808 : Int) ≤ x.1 + (1 : Int) ∧ x.1 + (1 : Int) ≤ (9223372036854775807 : Int)) ∧ (some (bx_whole_1 p r L) = some (bx_whole_1 p r L) ∧ some (Obj.box [V.kb false, V.nils]) = some (Obj.box [V.kb false, V.nils]) ∧ True) ∧ ((0 : Int) ≤ x.1 + (1 : Int) ∧ x.1 + (1 : Int) ≤ (↑L.length : Int) ∧ decide (big x.2.1 x.2.2.1 + big (decide (x_2.2.2.2 < (0 : Int))) (digs x_2.2.2.2.natAbs) < (0 : Int)) = decide (wholeF (List.take (x.1 + (1 : Int)).toNat L) e < (0 : Int)) ∧ digs (big x.2.1 x.2.2.1 + big (decide (x_2.2.2.2 < (0 : Int))) (digs x_2.2.2.2.natAbs)).natAbs = digs (wholeF (List.take (x.1 + (1 : Int)).toNat L) e).natAbs) ∧ ((↑L.length : Int) - (x.1 + (1 : Int))).toNat < ((↑L.length : Int) - x.1).toNat) ∧ (decide (x_1.1 = e) = false → ((-9223372036854775808 : Int) ≤ x.1 + (1 : Int) ∧ x.1 + (1 : Int) ≤ (9223372036854775807 : Int)) ∧ (some (bx_whole_1 p r L) = some (bx_whole_1 p r L) ∧ some (Obj.box [V.kb false, V.nils]) = some (Obj.box [V.kb false, V.nils]) ∧ True) ∧ ((0 : Int) ≤ x.1 + (1 : Int) ∧ x.1 + (1 : Int) ≤ (↑L.length : Int) ∧ x.2.1 = decide (wholeF (List.take (x.1 + (1 : Int)).toNat L) e < (0 : Int)) ∧ x.2.2.1 = digs (wholeF (List.take (x.1 + (1 : Int)).toNat L) e).natAbs) ∧ ((↑L.length : Int) - (x.1 + (1 : Int))).toNat < ((↑L.length : Int) - x.1).toNat)) ∧ (decide (x.1 < (↑L.length : Int)) = false → True ∧ (x.2.1, x.2.2.1, ()) = (decide (wholeF L e < (0 : Int)), digs (wholeF L e).natAbs, ()))
theorem g_whole_eq (p r : Int) (L : List Ln) (e : Int) : CondG (env_whole p r L e) Tryz.f146 [.agg [.int .i64 p, .int .i64 r, .list .tmp LTy L], .int .i64 e] [some 2] ann_whole (decide (wholeF L e < 0), digs (wholeF L e).natAbs, ()) = g_whole_vc p r L e := by kernel_rfl
theorem g_whole_ok (p r : Int) (L : List Ln) (e : Int) (h : InL L ∧ L.length ≤ 1000) : g_whole_vc p r L e := by
  obtain ⟨hL, hl⟩ := h
  unfold g_whole_vc
  refine ⟨⟨⟨rfl, rfl, trivial⟩, by omega, by omega, by simp [wholeF, amtsL], by simp [wholeF, amtsL, digs_zero]⟩, ?_⟩
  rintro ⟨i, s, D, ⟨⟩⟩ ⟨h1, h2, h3, h4⟩
  dsimp only at h1 h2 h3 h4 ⊢
  rw [h3, h4]
  simp only [decide_eq_true_eq, decide_eq_false_iff_not]
  refine ⟨fun hi => ⟨⟨h1, hi⟩, fun x hx => ⟨fun c => ⟨⟨h1, hi⟩, fun y hy => ?_⟩, fun c => ⟨⟨by omega, by omega⟩, ⟨trivial, trivial, trivial⟩, ⟨by omega, by omega, ?_, ?_⟩, by omega⟩⟩⟩, fun hi => ⟨trivial, ?_⟩⟩
  · rw [hx] at hy
    cases hy
    have e1 : wholeF (L.take (i + 1).toNat) e = wholeF (L.take i.toNat) e + x.2.2.2 := by rw [toNat_next h1, wholeF_take hx, if_pos c]
    rw [big_digs, big_digs, e1]
    exact ⟨hL.get hx, ⟨Big_digs _, Big_digs _, Nat.le_trans (wholeF_len hL e hl _) (by omega), Nat.le_trans (digI_len (hL.get hx)) (by omega)⟩, ⟨by omega, by omega⟩, ⟨trivial, trivial, trivial⟩, ⟨by omega, by omega, rfl, rfl⟩, by omega⟩
  · rw [toNat_next h1, wholeF_take hx, if_neg c, Int.add_zero]
  · rw [toNat_next h1, wholeF_take hx, if_neg c, Int.add_zero]
  · rw [List.take_of_length_le (by omega)]
theorem whole_pure (p r : Int) (L : List Ln) (e : Int) (h : InL L ∧ L.length ≤ 1000) : Pure Tryz.prog 146 [.agg [.int .i64 p, .int .i64 r, .list .tmp LTy L], .int .i64 e] (.agg [.bool (decide (wholeF L e < 0)), .list .part I (digs (wholeF L e).natAbs)]) :=
  by have k := Pure.of_condG (r := (.agg [.bool (decide (wholeF L e < 0)), .list .part I (digs (wholeF L e).natAbs)])) (g_whole_eq p r L e) (g_whole_ok p r L e h) rfl (specs_ok rfl [sp_of, sp_bplus] [] rfl rfl) mixed Tryz.func146; exact k
noncomputable def q_whole (p r : Int) (L : List Ln) (e : Int) : Prop × V := (InL L ∧ L.length ≤ 1000, (.agg [.bool (decide (wholeF L e < 0)), .list .part I (digs (wholeF L e).natAbs)]))
noncomputable def sp_whole : FSpec Tryz.prog where
 f := 146
 run := fun
  | [.agg [.int .i64 p, .int .i64 r, v0_2], .int .i64 e] => (asL LTy v0_2 : Option (List Ln)).bind fun L => some (q_whole p r L e)
  | _ => none
 ok := fun args pre r h hp => by
  split at h
  · rename_i p r v0_2 e
    obtain ⟨L, h0_2, h⟩ := Option.bind_eq_some_iff.1 h
    exact of_q h hp fun h => (whole_pure p r L e h).weak (.cons (Weak.agg (.cons (.refl _) (.cons (.refl _) (.cons (asL_weak h0_2) .nil)))) (.cons (.refl _) .nil))
  · cases h
end Go.Proofs.YtgjpehgnagfghaaGreat.Ent
