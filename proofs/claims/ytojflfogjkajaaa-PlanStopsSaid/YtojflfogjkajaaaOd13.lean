/-
  gavelkindref14.Order, Waves.
-/
import Derived.Test.YtojflfogjkajaaaOd11
section
namespace Go.Proofs.Ytojflfogjkajaaa.Od
open Go.Vm Go.Proofs.Ytojflfogjkajaaa.Gr Go.Proofs.Ytojflfogjkajaaa.Rc
noncomputable def env_with (l : List Int) (v : Int) : Env where
  P := Try.prog
  ty := tys0
  heads := fun | 2 => .some { slots := [(5, .int .i64)], boxes := [], inv := fun _ (x : Int × Unit) => 0 ≤ x.1 ∧ x.1 ≤ l.length ∧ ∀ u ∈ l.take x.1.toNat, u < v, measure := fun _ (x : Int × Unit) => (l.length - x.1).toNat } | _ => .none
  frz := fun | _ => false
def g_with_vc (l : List Int) (v : Int) : Prop :=
  (True ∧ (0 : Int) ≤ (0 : Int) ∧ (0 : Int) ≤ (↑l.length : Int) ∧ ∀ (u : Int), u ∈ List.take (Int.toNat (0 : Int)) l → u < v) ∧ ∀ (x : Int × Unit), ((0 : Int) ≤ x.1 ∧ x.1 ≤ (↑l.length : Int) ∧ ∀ (u : Int), u ∈ List.take x.1.toNat l → u < v) → (decide (x.1 < (↑l.length : Int)) = true → ((0 : Int) ≤ x.1 ∧ x.1 < (↑l.length : Int)) ∧ ∀ (x_1 : Int), l[x.1.toNat]? = some x_1 → (decide (x_1 < v) = true → ((-9223372036854775808 : Int) ≤ x.1 + (1 : Int) ∧ x.1 + (1 : Int) ≤ (9223372036854775807 : Int)) ∧ True ∧ ((0 : Int) ≤ x.1 + (1 : Int) ∧ x.1 + (1 : Int) ≤ (↑l.length : Int) ∧ ∀ (u : Int), u ∈ List.take (x.1 + (1 : Int)).toNat l → u < v) ∧ ((↑l.length : Int) - (x.1 + (1 : Int))).toNat < ((↑l.length : Int) - x.1).toNat) ∧ (decide (x_1 < v) = false → (decide (x.1 < (↑l.length : Int)) = true → ((0 : Int) ≤ x.1 ∧ x.1 < (↑l.length : Int)) ∧ ∀ (x_2 : Int), l[x.1.toNat]? = some x_2 → (decide (x_2 = v) = true → (l, ()) = (insU l v, ())) ∧ (decide (x_2 = v) = false → ((0 : Int) ≤ x.1 ∧ x.1 ≤ (↑l.length : Int)) ∧ (((0 : Nat) + (List.take x.1.toNat l).length) * (8 : Nat) ≤ (140737488355328 : Nat) ∧ (0 : Nat) + (List.take x.1.toNat l).length ≤ (4611686018427387904 : Nat) ∧ ((0 : Nat) < (List.take x.1.toNat l).length ∨ (0 : Nat) = (0 : Nat))) ∧ (((List.take x.1.toNat l).length + (1 : Nat)) * (8 : Nat) ≤ (140737488355328 : Nat) ∧ (List.take x.1.toNat l).length + (1 : Nat) ≤ (4611686018427387904 : Nat)) ∧ ((0 : Int) ≤ x.1 ∧ x.1 ≤ (↑l.length : Int)) ∧ (((List.take x.1.toNat l ++ [v]).length + (List.drop x.1.toNat l).length) * (8 : Nat) ≤ (140737488355328 : Nat) ∧ (List.take x.1.toNat l ++ [v]).length + (List.drop x.1.toNat l).length ≤ (4611686018427387904 : Nat)) ∧ (List.take x.1.toNat l ++ [v] ++ List.drop x.1.toNat l, ()) = (insU l v, ()))) ∧ (decide (x.1 < (↑l.length : Int)) = !true → ((0 : Int) ≤ x.1 ∧ x.1 ≤ (↑l.length : Int)) ∧ (((0 : Nat) + (List.take x.1.toNat l).length) * (8 : Nat) ≤ (140737488355328 : Nat) ∧ (0 : Nat) + (List.take x.1.toNat l).length ≤ (4611686018427387904 : Nat) ∧ ((0 : Nat) < (List.take x.1.toNat l).length ∨ (0 : Nat) = (0 : Nat))) ∧ (((List.take x.1.toNat l).length + (1 : Nat)) * (8 : Nat) ≤ (140737488355328 : Nat) ∧ (List.take x.1.toNat l).length + (1 : Nat) ≤ (4611686018427387904 : Nat)) ∧ ((0 : Int) ≤ x.1 ∧ x.1 ≤ (↑l.length : Int)) ∧ (((List.take x.1.toNat l ++ [v]).length + (List.drop x.1.toNat l).length) * (8 : Nat) ≤ (140737488355328 : Nat) ∧ (List.take x.1.toNat l ++ [v]).length + (List.drop x.1.toNat l).length ≤ (4611686018427387904 : Nat)) ∧ (List.take x.1.toNat l ++ [v] ++ List.drop x.1.toNat l, ()) = (insU l v, ())))) ∧ (decide (x.1 < (↑l.length : Int)) = !true → (decide (x.1 < (↑l.length : Int)) = true → ((0 : Int) ≤ x.1 ∧ x.1 < (↑l.length : Int)) ∧ ∀ (x_1 : Int), l[x.1.toNat]? = some x_1 → (decide (x_1 = v) = true → (l, ()) = (insU l v, ())) ∧ (decide (x_1 = v) = false → ((0 : Int) ≤ x.1 ∧ x.1 ≤ (↑l.length : Int)) ∧ (((0 : Nat) + (List.take x.1.toNat l).length) * (8 : Nat) ≤ (140737488355328 : Nat) ∧ (0 : Nat) + (List.take x.1.toNat l).length ≤ (4611686018427387904 : Nat) ∧ ((0 : Nat) < (List.take x.1.toNat l).length ∨ (0 : Nat) = (0 : Nat))) ∧ (((List.take x.1.toNat l).length + (1 : Nat)) * (8 : Nat) ≤ (140737488355328 : Nat) ∧ (List.take x.1.toNat l).length + (1 : Nat) ≤ (4611686018427387904 : Nat)) ∧ ((0 : Int) ≤ x.1 ∧ x.1 ≤ (↑l.length : Int)) ∧ (((List.take x.1.toNat l ++ [v]).length + (List.drop x.1.toNat l).length) * (8 : Nat) ≤ (140737488355328 : Nat) ∧ (List.take x.1.toNat l ++ [v]).length + (List.drop x.1.toNat l).length ≤ (4611686018427387904 : Nat)) ∧ (List.take x.1.toNat l ++ [v] ++ List.drop x.1.toNat l, ()) = (insU l v, ()))) ∧ (decide (x.1 < (↑l.length : Int)) = !true → ((0 : Int) ≤ x.1 ∧ x.1 ≤ (↑l.length : Int)) ∧ (((0 : Nat) + (List.take x.1.toNat l).length) * (8 : Nat) ≤ (140737488355328 : Nat) ∧ (0 : Nat) + (List.take x.1.toNat l).length ≤ (4611686018427387904 : Nat) ∧ ((0 : Nat) < (List.take x.1.toNat l).length ∨ (0 : Nat) = (0 : Nat))) ∧ (((List.take x.1.toNat l).length + (1 : Nat)) * (8 : Nat) ≤ (140737488355328 : Nat) ∧ (List.take x.1.toNat l).length + (1 : Nat) ≤ (4611686018427387904 : Nat)) ∧ ((0 : Int) ≤ x.1 ∧ x.1 ≤ (↑l.length : Int)) ∧ (((List.take x.1.toNat l ++ [v]).length + (List.drop x.1.toNat l).length) * (8 : Nat) ≤ (140737488355328 : Nat) ∧ (List.take x.1.toNat l ++ [v]).length + (List.drop x.1.toNat l).length ≤ (4611686018427387904 : Nat)) ∧ (List.take x.1.toNat l ++ [v] ++ List.drop x.1.toNat l, ()) = (insU l v, ())))
theorem g_with_eq (l : List Int) (v : Int) : Cond (env_with l v) Try.f104 [.list .part I l, .int .i64 v] [.list .part I] (insU l v, ()) = g_with_vc l v := by kernel_rfl
theorem g_with_ok (l : List Int) (v : Int) (h : Up l ∧ l.length ≤ 1000000000) : g_with_vc l v := by
  unfold g_with_vc
  simp only [decide_eq_true_eq, decide_eq_false_iff_not, Bool.not_eq_true', Bool.not_eq_false', Bool.not_true, Bool.not_false]
  obtain ⟨hu, hl⟩ := h
  refine ⟨⟨trivial, by omega, by omega, fun u hu => by cases hu⟩, fun x ⟨a1, a2, a3⟩ => ?_⟩
  have hd : ∀ y, l[x.1.toNat]? = some y → ∀ u ∈ l.drop x.1.toNat, y ≤ u := fun y hy u hm => by
    obtain ⟨hi, e⟩ := List.getElem?_eq_some_iff.1 hy
    have hp : (l.drop x.1.toNat).Pairwise (· < ·) := hu.sublist (List.drop_sublist _ _)
    rw [List.drop_eq_getElem_cons hi, e] at hm hp
    rcases List.mem_cons.1 hm with rfl | hm
    · exact Int.le_refl _
    · exact Int.le_of_lt ((List.pairwise_cons.1 hp).1 u hm)
  have fin : (∀ u ∈ l.drop x.1.toNat, v < u) → (0 ≤ x.1 ∧ x.1 ≤ (l.length : Int)) ∧ ((0 + (l.take x.1.toNat).length) * 8 ≤ 140737488355328 ∧ 0 + (l.take x.1.toNat).length ≤ 4611686018427387904 ∧ (0 < (l.take x.1.toNat).length ∨ True)) ∧ (((l.take x.1.toNat).length + 1) * 8 ≤ 140737488355328 ∧ (l.take x.1.toNat).length + 1 ≤ 4611686018427387904) ∧ (0 ≤ x.1 ∧ x.1 ≤ (l.length : Int)) ∧ (((l.take x.1.toNat ++ [v]).length + (l.drop x.1.toNat).length) * 8 ≤ 140737488355328 ∧ (l.take x.1.toNat ++ [v]).length + (l.drop x.1.toNat).length ≤ 4611686018427387904) ∧ ((l.take x.1.toNat ++ [v] ++ l.drop x.1.toNat, ()) : List Int × Unit) = (insU l v, ()) := fun hg => by
    have e1 : (l.take x.1.toNat).length ≤ l.length := by rw [List.length_take]; omega
    have e2 : (l.drop x.1.toNat).length ≤ l.length := by rw [List.length_drop]; omega
    have e3 : (l.take x.1.toNat ++ [v]).length = (l.take x.1.toNat).length + 1 := by simp
    refine ⟨⟨a1, a2⟩, ⟨by omega, by omega, .inr trivial⟩, ⟨by omega, by omega⟩, ⟨a1, a2⟩, ⟨by omega, by omega⟩, ?_⟩
    have f1 : l.filter (fun u => decide (u < v)) = l.take x.1.toNat := by
      conv => lhs; rw [← List.take_append_drop x.1.toNat l]
      rw [List.filter_append, List.filter_eq_self.2 (fun u hm => decide_eq_true (a3 u hm)), List.filter_eq_nil_iff.2 (fun u hm => by have := hg u hm; simp; omega), List.append_nil]
    have f2 : l.filter (fun u => decide (v < u)) = l.drop x.1.toNat := by
      conv => lhs; rw [← List.take_append_drop x.1.toNat l]
      rw [List.filter_append, List.filter_eq_nil_iff.2 (fun u hm => by have := a3 u hm; simp; omega), List.filter_eq_self.2 (fun u hm => decide_eq_true (hg u hm)), List.nil_append]
    rw [insU, f1, f2, List.append_assoc]
    rfl
  have last : ∀ y, l[x.1.toNat]? = some y → ¬ y < v → x.1 < l.length → (0 ≤ x.1 ∧ x.1 < (l.length : Int)) ∧ ∀ z, l[x.1.toNat]? = some z → (z = v → ((l, ()) : List Int × Unit) = (insU l v, ())) ∧ (¬ z = v → _) := fun y hy hn hlt => ⟨⟨a1, hlt⟩, fun z hz => ⟨fun e => by rw [insU_in hu (e ▸ List.mem_of_getElem? hz)], fun e => fin fun u hm => by
    rw [hy] at hz
    cases hz
    have := hd y hy u hm
    omega⟩⟩
  refine ⟨fun b1 => ⟨⟨a1, b1⟩, fun y hy => ⟨fun c1 => ⟨by omega, trivial, ⟨by omega, by omega, fun u hm => ?_⟩, by omega⟩, fun c1 => ⟨fun d1 => last y hy c1 d1, fun d1 => absurd b1 d1⟩⟩⟩, fun b1 => ⟨fun d1 => absurd d1 b1, fun _ => fin fun u hm => ?_⟩⟩
  · rw [show (x.1 + 1).toNat = x.1.toNat + 1 by omega, take_snoc hy] at hm
    rcases List.mem_append.1 hm with hm | hm
    · exact a3 u hm
    · rw [List.mem_singleton.1 hm]
      exact c1
  · rw [List.drop_eq_nil_of_le (by omega)] at hm
    cases hm
set_option maxRecDepth 20000
theorem with_pure (l : List Int) (v : Int) (h : Up l ∧ l.length ≤ 1000000000) : Pure Try.prog 104 [.list .part I l, .int .i64 v] (.list .part I (insU l v)) :=
  by have k := Pure.of_cond (g_with_eq l v) (g_with_ok l v h) (specs_ok rfl [] [] rfl rfl) mixed Try.func104; exact k
noncomputable def q_with (l : List Int) (v : Int) : Prop × V := (Up l ∧ l.length ≤ 1000000000, (.list .part I (insU l v)))
noncomputable def sp_with : FSpec Try.prog where
 f := 104
 run := fun
  | [v0, .int .i64 v] => (asP I v0 : Option (List Int)).bind fun l => some (q_with l v)
  | _ => none
 ok := fun args pre r h hp => by
  split at h
  · rename_i v0 v
    obtain ⟨l, h0, h⟩ := Option.bind_eq_some_iff.1 h
    exact of_q h hp fun h => (with_pure l v h).weak (.cons (asP_weak h0) (.cons (.refl _) .nil))
  · cases h
noncomputable def env_rising (l : List Int) : Env where
  P := Try.prog
  ty := tys0
  specs := specsOf [sp_with]
  heads := fun | 3 => .some { slots := [(3, .list .part I), (4, .int .i64)], boxes := [], inv := fun _ (x : List Int × Int × Unit) => 0 ≤ x.2.1 ∧ x.2.1 ≤ l.length ∧ x.1 = riseF (l.take x.2.1.toNat), measure := fun _ (x : List Int × Int × Unit) => (l.length - x.2.1).toNat } | _ => .none
def g_rising_vc (l : List Int) : Prop :=
  (True ∧ (0 : Int) ≤ (0 : Int) ∧ (0 : Int) ≤ (↑l.length : Int) ∧ [] = riseF (List.take (Int.toNat (0 : Int)) l)) ∧ ∀ (x : List Int × Int × Unit), (0 : Int) ≤ x.2.1 ∧ x.2.1 ≤ (↑l.length : Int) ∧ x.1 = riseF (List.take x.2.1.toNat l) → (decide (x.2.1 < (↑l.length : Int)) = true → ((0 : Int) ≤ x.2.1 ∧ x.2.1 < (↑l.length : Int)) ∧ ∀ (x_1 : Int), l[x.2.1.toNat]? = some x_1 → (Up x.1 ∧ x.1.length ≤ (1000000000 : Nat)) ∧ ((-9223372036854775808 : Int) ≤ x.2.1 + (1 : Int) ∧ x.2.1 + (1 : Int) ≤ (9223372036854775807 : Int)) ∧ True ∧ ((0 : Int) ≤ x.2.1 + (1 : Int) ∧ x.2.1 + (1 : Int) ≤ (↑l.length : Int) ∧ insU x.1 x_1 = riseF (List.take (x.2.1 + (1 : Int)).toNat l)) ∧ ((↑l.length : Int) - (x.2.1 + (1 : Int))).toNat < ((↑l.length : Int) - x.2.1).toNat) ∧ (decide (x.2.1 < (↑l.length : Int)) = false → (x.1, ()) = (riseF l, ()))
theorem g_rising_eq (l : List Int) : Cond (env_rising l) Try.f99 [.list .tmp I l] [.list .part I] (riseF l, ()) = g_rising_vc l := by kernel_rfl
theorem g_rising_ok (l : List Int) (h : l.length ≤ 1000000) : g_rising_vc l := by
  unfold g_rising_vc
  simp only [decide_eq_true_eq, decide_eq_false_iff_not, Bool.not_eq_true', Bool.not_eq_false', Bool.not_true, Bool.not_false]
  refine ⟨⟨trivial, by omega, by omega, rfl⟩, fun x ⟨a1, a2, a3⟩ => ⟨fun b1 => ⟨⟨a1, b1⟩, fun v hv => ⟨⟨?_, ?_⟩, by omega, trivial, ⟨by omega, by omega, ?_⟩, by omega⟩⟩, fun b1 => ?_⟩⟩
  · rw [a3]
    exact rise_up _
  · rw [a3]
    have h1 := rise_len (l.take x.2.1.toNat)
    have h2 : (l.take x.2.1.toNat).length ≤ l.length := by rw [List.length_take]; omega
    omega
  · rw [show (x.2.1 + 1).toNat = x.2.1.toNat + 1 by omega, take_snoc hv, riseF, List.foldl_append, a3]
    rfl
  · rw [a3, List.take_of_length_le (by omega)]
theorem rising_pure (l : List Int) (h : l.length ≤ 1000000) : Pure Try.prog 99 [.list .tmp I l] (.list .part I (riseF l)) :=
  by have k := Pure.of_cond (g_rising_eq l) (g_rising_ok l h) (specs_ok rfl [sp_with] [] rfl rfl) mixed Try.func99; exact k
noncomputable def q_rising (l : List Int) : Prop × V := (l.length ≤ 1000000, (.list .part I (riseF l)))
noncomputable def sp_rising : FSpec Try.prog where
 f := 99
 run := fun
  | [v0] => (asL I v0 : Option (List Int)).bind fun l => some (q_rising l)
  | _ => none
 ok := fun args pre r h hp => by
  split at h
  · rename_i v0
    obtain ⟨l, h0, h⟩ := Option.bind_eq_some_iff.1 h
    exact of_q h hp fun h => (rising_pure l h).weak (.cons (asL_weak h0) .nil)
  · cases h
noncomputable def env_nodes14 (R : GI) (sm : List Int) : Env where
  P := Try.prog
  ty := tys0
  specs := specsOf [sp_rising]
  heads := fun | 4 => .some { slots := [(6, .slc 37 I), (7, .int .i64)], boxes := [], keep := [2], inv := fun _ (x : List Int × Int × Unit) => 0 ≤ x.2.1 ∧ x.2.1 ≤ (riseF sm).length ∧ x.1 = ((riseF sm).take x.2.1.toNat).filter fun v => decide (Dom (List.length (α := List Int) R) v), measure := fun _ (x : List Int × Int × Unit) => ((riseF sm).length - x.2.1).toNat } | _ => .none
def g_nodes14_vc (R : GI) (sm : List Int) : Prop :=
  sm.length ≤ (1000000 : Nat) ∧ ((some (Obj.box [V.list LK.part LI R]) = some (Obj.box [V.list LK.part LI R]) ∧ True) ∧ (0 : Int) ≤ (0 : Int) ∧ (0 : Int) ≤ (↑(riseF sm).length : Int) ∧ [] = List.filter (fun v => decide (Dom (List.length R) v)) (List.take (Int.toNat (0 : Int)) (riseF sm))) ∧ ∀ (x : List Int × Int × Unit), (0 : Int) ≤ x.2.1 ∧ x.2.1 ≤ (↑(riseF sm).length : Int) ∧ x.1 = List.filter (fun v => decide (Dom (List.length R) v)) (List.take x.2.1.toNat (riseF sm)) → (decide (x.2.1 < (↑(riseF sm).length : Int)) = true → ((0 : Int) ≤ x.2.1 ∧ x.2.1 < (↑(riseF sm).length : Int)) ∧ ∀ (x_1 : Int), (riseF sm)[x.2.1.toNat]? = some x_1 → (decide ((0 : Int) ≤ x_1) = true → ((0 : Int) ≤ x.2.1 ∧ x.2.1 < (↑(riseF sm).length : Int)) ∧ ∀ (x_2 : Int), (riseF sm)[x.2.1.toNat]? = some x_2 → (decide (x_2 < (↑(List.length R) : Int)) = true → ((0 : Int) ≤ x.2.1 ∧ x.2.1 < (↑(riseF sm).length : Int)) ∧ ∀ (x_3 : Int), (riseF sm)[x.2.1.toNat]? = some x_3 → ((x.1.length + (1 : Nat)) * (8 : Nat) ≤ (140737488355328 : Nat) ∧ x.1.length + (1 : Nat) ≤ (4611686018427387904 : Nat)) ∧ ((-9223372036854775808 : Int) ≤ x.2.1 + (1 : Int) ∧ x.2.1 + (1 : Int) ≤ (9223372036854775807 : Int)) ∧ (some (Obj.box [V.list LK.part LI R]) = some (Obj.box [V.list LK.part LI R]) ∧ True) ∧ ((0 : Int) ≤ x.2.1 + (1 : Int) ∧ x.2.1 + (1 : Int) ≤ (↑(riseF sm).length : Int) ∧ x.1 ++ [x_3] = List.filter (fun v => decide (Dom (List.length R) v)) (List.take (x.2.1 + (1 : Int)).toNat (riseF sm))) ∧ ((↑(riseF sm).length : Int) - (x.2.1 + (1 : Int))).toNat < ((↑(riseF sm).length : Int) - x.2.1).toNat) ∧ (decide (x_2 < (↑(List.length R) : Int)) = false → ((-9223372036854775808 : Int) ≤ x.2.1 + (1 : Int) ∧ x.2.1 + (1 : Int) ≤ (9223372036854775807 : Int)) ∧ (some (Obj.box [V.list LK.part LI R]) = some (Obj.box [V.list LK.part LI R]) ∧ True) ∧ ((0 : Int) ≤ x.2.1 + (1 : Int) ∧ x.2.1 + (1 : Int) ≤ (↑(riseF sm).length : Int) ∧ x.1 = List.filter (fun v => decide (Dom (List.length R) v)) (List.take (x.2.1 + (1 : Int)).toNat (riseF sm))) ∧ ((↑(riseF sm).length : Int) - (x.2.1 + (1 : Int))).toNat < ((↑(riseF sm).length : Int) - x.2.1).toNat)) ∧ (decide ((0 : Int) ≤ x_1) = !true → ((-9223372036854775808 : Int) ≤ x.2.1 + (1 : Int) ∧ x.2.1 + (1 : Int) ≤ (9223372036854775807 : Int)) ∧ (some (Obj.box [V.list LK.part LI R]) = some (Obj.box [V.list LK.part LI R]) ∧ True) ∧ ((0 : Int) ≤ x.2.1 + (1 : Int) ∧ x.2.1 + (1 : Int) ≤ (↑(riseF sm).length : Int) ∧ x.1 = List.filter (fun v => decide (Dom (List.length R) v)) (List.take (x.2.1 + (1 : Int)).toNat (riseF sm))) ∧ ((↑(riseF sm).length : Int) - (x.2.1 + (1 : Int))).toNat < ((↑(riseF sm).length : Int) - x.2.1).toNat)) ∧ (decide (x.2.1 < (↑(riseF sm).length : Int)) = false → (x.1, ()) = (AL R sm, ()))
theorem g_nodes14_eq (R : GI) (sm : List Int) : Cond (env_nodes14 R sm) Try.f76 [.agg [.list .part LI R], .list .tmp I sm] [.list .part I] (AL R sm, ()) = g_nodes14_vc R sm := by kernel_rfl
theorem g_nodes14_ok (R : GI) (sm : List Int) (h : sm.length ≤ 1000000 ∧ R.length ≤ 1000000) : g_nodes14_vc R sm := by
  unfold g_nodes14_vc
  simp only [decide_eq_true_eq, decide_eq_false_iff_not, Bool.not_eq_true', Bool.not_eq_false', Bool.not_true, Bool.not_false]
  obtain ⟨hl, hR⟩ := h
  have hrl := rise_len sm
  refine ⟨hl, ⟨⟨trivial, trivial⟩, by omega, by omega, rfl⟩, fun x ⟨a1, a2, a3⟩ => ⟨fun b1 => ⟨⟨a1, b1⟩, fun v hv => ?_⟩, fun b1 => ?_⟩⟩
  · have hs : (riseF sm).take (x.2.1 + 1).toNat = (riseF sm).take x.2.1.toNat ++ [v] := by
      rw [show (x.2.1 + 1).toNat = x.2.1.toNat + 1 by omega, take_snoc hv]
    have hxl : x.1.length ≤ (riseF sm).length := by
      rw [a3]
      exact Nat.le_trans (List.length_filter_le _ _) (by rw [List.length_take]; omega)
    have skip : ¬ Dom R.length v → x.1 = ((riseF sm).take (x.2.1 + 1).toNat).filter fun v => decide (Dom (List.length (α := List Int) R) v) := fun hn => by
      rw [hs, List.filter_append, List.filter_cons, decide_eq_false hn, a3]
      simp
    refine ⟨fun c1 => ⟨⟨a1, b1⟩, fun w hw => ⟨fun c2 => ⟨⟨a1, b1⟩, fun z hz => ⟨by omega, by omega, ⟨trivial, trivial⟩, ⟨by omega, by omega, ?_⟩, by omega⟩⟩, fun c2 => ⟨by omega, ⟨trivial, trivial⟩, ⟨by omega, by omega, skip fun hd => ?_⟩, by omega⟩⟩⟩, fun c1 => ⟨by omega, ⟨trivial, trivial⟩, ⟨by omega, by omega, skip fun hd => c1 hd.1⟩, by omega⟩⟩
    · rw [hv] at hw hz
      cases hw
      cases hz
      rw [hs, List.filter_append, List.filter_cons, decide_eq_true (show Dom (List.length (α := List Int) R) v from ⟨c1, c2⟩), a3]
      simp
    · rw [hv] at hw
      cases hw
      exact c2 hd.2
  · rw [a3, List.take_of_length_le (by omega)]
    exact congrArg (·, ()) (all_rise R.length sm)
theorem nodes14_pure (R : GI) (sm : List Int) (h : sm.length ≤ 1000000 ∧ R.length ≤ 1000000) : Pure Try.prog 76 [.agg [.list .part LI R], .list .tmp I sm] (.list .part I (AL R sm)) :=
  by have k := Pure.of_cond (g_nodes14_eq R sm) (g_nodes14_ok R sm h) (specs_ok rfl [sp_rising] [] rfl rfl) mixed Try.func76; exact k
noncomputable def q_nodes14 (R : GI) (sm : List Int) : Prop × V := (sm.length ≤ 1000000 ∧ R.length ≤ 1000000, (.list .part I (AL R sm)))
noncomputable def sp_nodes14 : FSpec Try.prog where
 f := 76
 run := fun
  | [.agg [v0_0], v1] => (asP LI v0_0 : Option (GI)).bind fun R => (asL I v1 : Option (List Int)).bind fun sm => some (q_nodes14 R sm)
  | _ => none
 ok := fun args pre r h hp => by
  split at h
  · rename_i v0_0 v1
    obtain ⟨R, h0_0, h⟩ := Option.bind_eq_some_iff.1 h
    obtain ⟨sm, h1, h⟩ := Option.bind_eq_some_iff.1 h
    exact of_q h hp fun h => (nodes14_pure R sm h).weak (.cons (Weak.agg (.cons (asP_weak h0_0) .nil)) (.cons (asL_weak h1) .nil))
  · cases h
def freeF (rd : List Int) (ns row : List Int) : Bool := rd.all fun w => !ns.contains w || row.contains w
noncomputable def env_free (R : GI) (v : Int) (ns row : List Int) : Env where
  P := Try.prog
  ty := tys0
  specs := specsOf [sp_has']
  heads := fun | 2 => .some { slots := [(9, .int .i64)], boxes := [], keep := [4], inv := fun _ (x : Int × Unit) => 0 ≤ x.1 ∧ x.1 ≤ (readsF R v).length ∧ freeF ((readsF R v).take x.1.toNat) ns row = true, measure := fun _ (x : Int × Unit) => ((readsF R v).length - x.1).toNat } | _ => .none
def g_free_vc (R : GI) (v : Int) (ns : List Int) (row : List Int) : Prop :=
  ((some (Obj.box [V.list LK.part LI R]) = some (Obj.box [V.list LK.part LI R]) ∧ True) ∧ (0 : Int) ≤ (0 : Int) ∧ (0 : Int) ≤ (↑(readsF R v).length : Int) ∧ freeF (List.take (Int.toNat (0 : Int)) (readsF R v)) ns row = true) ∧ ∀ (x : Int × Unit), (0 : Int) ≤ x.1 ∧ x.1 ≤ (↑(readsF R v).length : Int) ∧ freeF (List.take x.1.toNat (readsF R v)) ns row = true → ((0 : Int) ≤ v ∧ v < (↑(List.length R) : Int)) ∧ ∀ (x_1 : List Int), R[v.toNat]? = some x_1 → (decide (x.1 < (↑x_1.length : Int)) = true → ((0 : Int) ≤ v ∧ v < (↑(List.length R) : Int)) ∧ ∀ (x_2 : List Int), R[v.toNat]? = some x_2 → ((0 : Int) ≤ x.1 ∧ x.1 < (↑x_2.length : Int)) ∧ ∀ (x_3 : Int), x_2[x.1.toNat]? = some x_3 → ns.length ≤ (1000000000 : Nat) ∧ (ns.contains x_3 = true → row.length ≤ (1000000000 : Nat) ∧ ((!row.contains x_3) = true → (false, ()) = (freeF (readsF R v) ns row, ())) ∧ ((!row.contains x_3) = false → ((-9223372036854775808 : Int) ≤ x.1 + (1 : Int) ∧ x.1 + (1 : Int) ≤ (9223372036854775807 : Int)) ∧ (some (Obj.box [V.list LK.part LI R]) = some (Obj.box [V.list LK.part LI R]) ∧ True) ∧ ((0 : Int) ≤ x.1 + (1 : Int) ∧ x.1 + (1 : Int) ≤ (↑(readsF R v).length : Int) ∧ freeF (List.take (x.1 + (1 : Int)).toNat (readsF R v)) ns row = true) ∧ ((↑(readsF R v).length : Int) - (x.1 + (1 : Int))).toNat < ((↑(readsF R v).length : Int) - x.1).toNat)) ∧ (ns.contains x_3 = !true → ((-9223372036854775808 : Int) ≤ x.1 + (1 : Int) ∧ x.1 + (1 : Int) ≤ (9223372036854775807 : Int)) ∧ (some (Obj.box [V.list LK.part LI R]) = some (Obj.box [V.list LK.part LI R]) ∧ True) ∧ ((0 : Int) ≤ x.1 + (1 : Int) ∧ x.1 + (1 : Int) ≤ (↑(readsF R v).length : Int) ∧ freeF (List.take (x.1 + (1 : Int)).toNat (readsF R v)) ns row = true) ∧ ((↑(readsF R v).length : Int) - (x.1 + (1 : Int))).toNat < ((↑(readsF R v).length : Int) - x.1).toNat)) ∧ (decide (x.1 < (↑x_1.length : Int)) = false → (true, ()) = (freeF (readsF R v) ns row, ()))
theorem g_free_eq (R : GI) (v : Int) (ns row : List Int) : Cond (env_free R v ns row) Try.f77 [.agg [.list .part LI R], .int .i64 v, .list .tmp I ns, .list .tmp I row] [.bool] (freeF (readsF R v) ns row, ()) = g_free_vc R v ns row := by kernel_rfl
theorem g_free_ok (R : GI) (v : Int) (ns row : List Int) (h : (0 ≤ v ∧ v < R.length) ∧ (readsF R v).length ≤ 20000 ∧ ns.length ≤ 1000000000 ∧ row.length ≤ 1000000000) : g_free_vc R v ns row := by
  unfold g_free_vc
  simp only [decide_eq_true_eq, decide_eq_false_iff_not, Bool.not_eq_true', Bool.not_eq_false', Bool.not_true, Bool.not_false]
  obtain ⟨hv, hr, hn, hw⟩ := h
  have hg : R[v.toNat]? = some (readsF R v) := Gr.reads_at hv
  refine ⟨⟨⟨trivial, trivial⟩, by omega, by omega, rfl⟩, fun x ⟨a1, a2, a3⟩ => ⟨hv, fun l1 e1 => ?_⟩⟩
  rw [hg] at e1
  cases e1
  refine ⟨fun b1 => ⟨hv, fun l2 e2 => ?_⟩, fun b1 => ?_⟩
  · rw [hg] at e2
    cases e2
    refine ⟨⟨a1, b1⟩, fun w hw' => ?_⟩
    have hs : freeF ((readsF R v).take (x.1 + 1).toNat) ns row = (!ns.contains w || row.contains w) := by
      rw [show (x.1 + 1).toNat = x.1.toNat + 1 by omega, take_snoc hw']
      unfold freeF at a3 ⊢
      rw [List.all_append, a3]
      simp
    rw [hs]
    refine ⟨hn, fun c1 => ⟨hw, fun c2 => ?_, fun c2 => ⟨by omega, ⟨trivial, trivial⟩, ⟨by omega, by omega, by rw [c2, Bool.or_true]⟩, by omega⟩⟩, fun c1 => ⟨by omega, ⟨trivial, trivial⟩, ⟨by omega, by omega, by rw [c1]; rfl⟩, by omega⟩⟩
    have : freeF (readsF R v) ns row = false := by
      unfold freeF
      rw [List.all_eq_false]
      exact ⟨w, List.mem_of_getElem? hw', by rw [c1, c2]; decide⟩
    rw [this]
  · rw [List.take_of_length_le (by omega)] at a3
    rw [a3]
theorem free_pure (R : GI) (v : Int) (ns row : List Int) (h : (0 ≤ v ∧ v < R.length) ∧ (readsF R v).length ≤ 20000 ∧ ns.length ≤ 1000000000 ∧ row.length ≤ 1000000000) : Pure Try.prog 77 [.agg [.list .part LI R], .int .i64 v, .list .tmp I ns, .list .tmp I row] (.bool (freeF (readsF R v) ns row)) :=
  by have k := Pure.of_cond (g_free_eq R v ns row) (g_free_ok R v ns row h) (specs_ok rfl [sp_has'] [] rfl rfl) mixed Try.func77; exact k
noncomputable def q_free (R : GI) (v : Int) (ns row : List Int) : Prop × V := ((0 ≤ v ∧ v < R.length) ∧ (readsF R v).length ≤ 20000 ∧ ns.length ≤ 1000000000 ∧ row.length ≤ 1000000000, (.bool (freeF (readsF R v) ns row)))
noncomputable def sp_free : FSpec Try.prog where
 f := 77
 run := fun
  | [.agg [v0_0], .int .i64 v, v2, v3] => (asP LI v0_0 : Option (GI)).bind fun R => (asL I v2 : Option (List Int)).bind fun ns => (asL I v3 : Option (List Int)).bind fun row => some (q_free R v ns row)
  | _ => none
 ok := fun args pre r h hp => by
  split at h
  · rename_i v0_0 v v2 v3
    obtain ⟨R, h0_0, h⟩ := Option.bind_eq_some_iff.1 h
    obtain ⟨ns, h2, h⟩ := Option.bind_eq_some_iff.1 h
    obtain ⟨row, h3, h⟩ := Option.bind_eq_some_iff.1 h
    exact of_q h hp fun h => (free_pure R v ns row h).weak (.cons (Weak.agg (.cons (asP_weak h0_0) .nil)) (.cons (.refl _) (.cons (asL_weak h2) (.cons (asL_weak h3) .nil))))
  · cases h
end Go.Proofs.Ytojflfogjkajaaa.Od
end
section
namespace Go.Proofs.Ytojflfogjkajaaa.Od
open Go.Vm Go.Proofs.Ytojflfogjkajaaa.Gr Go.Proofs.Ytojflfogjkajaaa.Rc
def okP (R : GI) (sm out : List Int) (v : Int) : Bool := !out.contains v && freeF (readsF R v) (AL R sm) out
theorem okP_C {R : GI} {sm out : List Int} {v : Int} (hv : v ∈ AL R sm) : okP R sm out v = decide (C (readsF R) (AL R sm) out v) := by
  unfold okP freeF
  rw [Bool.eq_iff_iff, decide_eq_true_eq, Bool.and_eq_true, Bool.not_eq_true', Bool.eq_false_iff, List.all_eq_true]
  constructor
  · rintro ⟨h1, h2⟩
    refine ⟨hv, fun h => h1 (List.contains_iff_mem.2 h), cnt_zero.2 fun w hw ha => ?_⟩
    have := h2 w hw
    rw [List.contains_iff_mem.2 ha] at this
    exact List.contains_iff_mem.1 (by simpa using this)
  · rintro ⟨_, h2, h3⟩
    refine ⟨fun h => h2 (List.contains_iff_mem.1 h), fun w hw => ?_⟩
    by_cases ha : w ∈ AL R sm
    · rw [List.contains_iff_mem.2 (cnt_zero.1 h3 w hw ha), Bool.or_true]
    · rw [show (AL R sm).contains w = false by rw [Bool.eq_false_iff]; exact fun h => ha (List.contains_iff_mem.1 h)]
      rfl
def fromP (R : GI) (sm out : List Int) (i : Nat) : Int := (((AL R sm).drop i).find? (okP R sm out)).getD (-1)
theorem fromP_at {R : GI} {sm out : List Int} {i : Nat} {v : Int} (hv : (AL R sm)[i]? = some v) : fromP R sm out i = if okP R sm out v = true then v else fromP R sm out (i + 1) := by
  obtain ⟨hi, e⟩ := List.getElem?_eq_some_iff.1 hv
  unfold fromP
  rw [List.drop_eq_getElem_cons hi, e, List.find?_cons]
  cases okP R sm out v <;> rfl
theorem fromP_zero (R : GI) (sm out : List Int) : (fromP R sm out 0 < 0 → nextF (readsF R) (AL R sm) out = none) ∧ (¬ fromP R sm out 0 < 0 → nextF (readsF R) (AL R sm) out = some (fromP R sm out 0)) := by
  have e : ((AL R sm).drop 0).find? (okP R sm out) = nextF (readsF R) (AL R sm) out := by
    rw [List.drop_zero, nextF]
    have : ∀ (l : List Int), (∀ v ∈ l, v ∈ AL R sm) → l.find? (okP R sm out) = l.find? fun v => decide (C (readsF R) (AL R sm) out v) := by
      intro l
      induction l with
      | nil => intro _; rfl
      | cons a r ih =>
        intro h
        rw [List.find?_cons, List.find?_cons, okP_C (h a (List.mem_cons_self ..)), ih fun v hv => h v (List.mem_cons_of_mem _ hv)]
    exact this _ fun v hv => hv
  unfold fromP
  rw [e]
  cases h : nextF (readsF R) (AL R sm) out with
  | none => exact ⟨fun _ => rfl, fun h => absurd (show ((-1 : Int)) < 0 by decide) h⟩
  | some v =>
    have := (mem_all.1 (next_C h).1).1.1
    exact ⟨fun h => by
      have h : v < 0 := h
      omega, fun _ => rfl⟩
def ROk (R : GI) (sm : List Int) : Prop := GOk R ∧ sm.length ≤ 1000000
noncomputable def env_rorder (R : GI) (sm : List Int) : Env where
  P := Try.prog
  ty := tys0
  specs := specsOf [sp_nodes14, sp_free, sp_has']
  frz := fun | 30 => true | 40 => true | _ => false
  heads := fun
    | 3 => .some { slots := [(7, .slc 51 I)], boxes := [], keep := [2], inv := fun _ (x : List Int × Unit) => x.1.length ≤ (AL R sm).length ∧ ordR (readsF R) (AL R sm) x.1 = ordS R sm, measure := fun _ (x : List Int × Unit) => (AL R sm).length - x.1.length }
    | 6 => .some { slots := [(8, .int .i64), (9, .int .i64)], boxes := [], keep := [2, 51], inv := fun st (x : Int × Int × Unit) => -1 ≤ x.2.1 ∧ x.2.1 < (AL R sm).length ∧ x.1 = fromP R sm (st.ints 51) (x.2.1 + 1).toNat, measure := fun _ (x : Int × Int × Unit) => (x.2.1 + 1).toNat }
    | _ => .none
def g_rorder_vc (R : GI) (sm : List Int) : Prop :=
  (sm.length ≤ (1000000 : Nat) ∧ List.length R ≤ (1000000 : Nat)) ∧ ((some (Obj.box [V.list LK.part LI R]) = some (Obj.box [V.list LK.part LI R]) ∧ True) ∧ (0 : Nat) ≤ (AL R sm).length ∧ ordR (readsF R) (AL R sm) [] = ordS R sm) ∧ ∀ (x : List Int × Unit), x.1.length ≤ (AL R sm).length ∧ ordR (readsF R) (AL R sm) x.1 = ordS R sm → (decide ((↑x.1.length : Int) < (↑(AL R sm).length : Int)) = true → ((-9223372036854775808 : Int) ≤ (↑(AL R sm).length : Int) - (1 : Int) ∧ (↑(AL R sm).length : Int) - (1 : Int) ≤ (9223372036854775807 : Int)) ∧ ((some (Obj.box [V.list LK.part LI R]) = some (Obj.box [V.list LK.part LI R]) ∧ some (Obj.arr (0 : Nat) I x.1) = some (Obj.arr (0 : Nat) I x.1) ∧ True) ∧ (-1 : Int) ≤ (↑(AL R sm).length : Int) - (1 : Int) ∧ (↑(AL R sm).length : Int) - (1 : Int) < (↑(AL R sm).length : Int) ∧ (-1 : Int) = fromP R sm x.1 ((↑(AL R sm).length : Int) - (1 : Int) + (1 : Int)).toNat) ∧ ∀ (x_1 : Int × Int × Unit), (-1 : Int) ≤ x_1.2.1 ∧ x_1.2.1 < (↑(AL R sm).length : Int) ∧ x_1.1 = fromP R sm x.1 (x_1.2.1 + (1 : Int)).toNat → (decide ((0 : Int) ≤ x_1.2.1) = true → ((0 : Int) ≤ x_1.2.1 ∧ x_1.2.1 < (↑(AL R sm).length : Int)) ∧ ∀ (x_2 : Int), (AL R sm)[x_1.2.1.toNat]? = some x_2 → x.1.length ≤ (1000000000 : Nat) ∧ ((!x.1.contains x_2) = true → ((0 : Int) ≤ x_1.2.1 ∧ x_1.2.1 < (↑(AL R sm).length : Int)) ∧ ∀ (x_3 : Int), (AL R sm)[x_1.2.1.toNat]? = some x_3 → (((0 : Int) ≤ x_3 ∧ x_3 < (↑(List.length R) : Int)) ∧ (readsF R x_3).length ≤ (20000 : Nat) ∧ (AL R sm).length ≤ (1000000000 : Nat) ∧ x.1.length ≤ (1000000000 : Nat)) ∧ (freeF (readsF R x_3) (AL R sm) x.1 = true → ((0 : Int) ≤ x_1.2.1 ∧ x_1.2.1 < (↑(AL R sm).length : Int)) ∧ ∀ (x_4 : Int), (AL R sm)[x_1.2.1.toNat]? = some x_4 → ((-9223372036854775808 : Int) ≤ x_1.2.1 - (1 : Int) ∧ x_1.2.1 - (1 : Int) ≤ (9223372036854775807 : Int)) ∧ (some (Obj.box [V.list LK.part LI R]) = some (Obj.box [V.list LK.part LI R]) ∧ some (Obj.arr (0 : Nat) I x.1) = some (Obj.arr (0 : Nat) I x.1) ∧ True) ∧ ((-1 : Int) ≤ x_1.2.1 - (1 : Int) ∧ x_1.2.1 - (1 : Int) < (↑(AL R sm).length : Int) ∧ x_4 = fromP R sm x.1 (x_1.2.1 - (1 : Int) + (1 : Int)).toNat) ∧ (x_1.2.1 - (1 : Int) + (1 : Int)).toNat < (x_1.2.1 + (1 : Int)).toNat) ∧ (freeF (readsF R x_3) (AL R sm) x.1 = false → ((-9223372036854775808 : Int) ≤ x_1.2.1 - (1 : Int) ∧ x_1.2.1 - (1 : Int) ≤ (9223372036854775807 : Int)) ∧ (some (Obj.box [V.list LK.part LI R]) = some (Obj.box [V.list LK.part LI R]) ∧ some (Obj.arr (0 : Nat) I x.1) = some (Obj.arr (0 : Nat) I x.1) ∧ True) ∧ ((-1 : Int) ≤ x_1.2.1 - (1 : Int) ∧ x_1.2.1 - (1 : Int) < (↑(AL R sm).length : Int) ∧ x_1.1 = fromP R sm x.1 (x_1.2.1 - (1 : Int) + (1 : Int)).toNat) ∧ (x_1.2.1 - (1 : Int) + (1 : Int)).toNat < (x_1.2.1 + (1 : Int)).toNat)) ∧ ((!x.1.contains x_2) = !true → ((-9223372036854775808 : Int) ≤ x_1.2.1 - (1 : Int) ∧ x_1.2.1 - (1 : Int) ≤ (9223372036854775807 : Int)) ∧ (some (Obj.box [V.list LK.part LI R]) = some (Obj.box [V.list LK.part LI R]) ∧ some (Obj.arr (0 : Nat) I x.1) = some (Obj.arr (0 : Nat) I x.1) ∧ True) ∧ ((-1 : Int) ≤ x_1.2.1 - (1 : Int) ∧ x_1.2.1 - (1 : Int) < (↑(AL R sm).length : Int) ∧ x_1.1 = fromP R sm x.1 (x_1.2.1 - (1 : Int) + (1 : Int)).toNat) ∧ (x_1.2.1 - (1 : Int) + (1 : Int)).toNat < (x_1.2.1 + (1 : Int)).toNat)) ∧ (decide ((0 : Int) ≤ x_1.2.1) = false → (decide (x_1.1 < (0 : Int)) = true → ([], (26 : Int), ()) = (ordA R sm, ordE R sm, ())) ∧ (decide (x_1.1 < (0 : Int)) = false → ((x.1.length + (1 : Nat)) * (8 : Nat) ≤ (140737488355328 : Nat) ∧ x.1.length + (1 : Nat) ≤ (4611686018427387904 : Nat)) ∧ (some (Obj.box [V.list LK.part LI R]) = some (Obj.box [V.list LK.part LI R]) ∧ True) ∧ ((x.1 ++ [x_1.1]).length ≤ (AL R sm).length ∧ ordR (readsF R) (AL R sm) (x.1 ++ [x_1.1]) = ordS R sm) ∧ (AL R sm).length - (x.1 ++ [x_1.1]).length < (AL R sm).length - x.1.length))) ∧ (decide ((↑x.1.length : Int) < (↑(AL R sm).length : Int)) = false → (x.1, (0 : Int), ()) = (ordA R sm, ordE R sm, ()))
theorem g_rorder_eq (R : GI) (sm : List Int) : Cond (env_rorder R sm) Try.f39 [.agg [.list .part LI R], .list .tmp I sm] [.list .part I, .int .i64] (ordA R sm, ordE R sm, ()) = g_rorder_vc R sm := by kernel_rfl
theorem g_rorder_ok (R : GI) (sm : List Int) (h : ROk R sm) : g_rorder_vc R sm := by
  unfold g_rorder_vc
  simp only [decide_eq_true_eq, decide_eq_false_iff_not, Bool.not_eq_true', Bool.not_eq_false', Bool.not_true, Bool.not_false]
  obtain ⟨hG, hl⟩ := h
  have hR := hG.1
  have hal := al_len R sm
  refine ⟨⟨hl, by omega⟩, ⟨⟨trivial, trivial⟩, Nat.zero_le _, rfl⟩, fun x ⟨a1, a2⟩ => ⟨fun b1 => ⟨by omega, ⟨⟨trivial, trivial, trivial⟩, by omega, by omega, ?_⟩, fun y ⟨c1, c2, c3⟩ => ⟨fun d1 => ⟨⟨d1, c2⟩, fun v hv => ?_⟩, fun d1 => ?_⟩⟩, fun b1 => ?_⟩⟩
  · rw [show (((AL R sm).length : Int) - 1 + 1).toNat = (AL R sm).length by omega, fromP, List.drop_length]
    rfl
  · have e1 : (y.2.1 - 1 + 1).toNat = y.2.1.toNat := by omega
    have e2 : (y.2.1 + 1).toNat = y.2.1.toNat + 1 := by omega
    have hf := fromP_at (out := x.1) hv
    have hd := (mem_all.1 (List.mem_of_getElem? hv)).1
    rw [e1]
    rw [e2] at c3 ⊢
    unfold okP at hf
    refine ⟨by omega, fun f1 => ⟨⟨d1, c2⟩, fun w hw => ?_⟩, fun f1 => ⟨by omega, ⟨trivial, trivial, trivial⟩, ⟨by omega, by omega, ?_⟩, by omega⟩⟩
    · rw [hv] at hw
      cases hw
      refine ⟨⟨hd, (reads_at hG v).1, by omega, by omega⟩, fun g1 => ⟨⟨d1, c2⟩, fun z hz => ?_⟩, fun g1 => ⟨by omega, ⟨trivial, trivial, trivial⟩, ⟨by omega, by omega, ?_⟩, by omega⟩⟩
      · rw [hv] at hz
        cases hz
        refine ⟨by omega, ⟨trivial, trivial, trivial⟩, ⟨by omega, by omega, ?_⟩, by omega⟩
        rw [hf, f1, g1]
        rfl
      · rw [hf, f1, g1, c3]
        rfl
    · rw [hf, f1, c3]
      rfl
  · rw [show (y.2.1 + 1).toNat = 0 by omega] at c3
    obtain ⟨z1, z2⟩ := fromP_zero R sm x.1
    rw [← c3] at z1 z2
    have ho := ordR_eq (readsF R) (AL R sm) x.1
    rw [if_neg (by omega), a2] at ho
    refine ⟨fun e1 => ?_, fun e1 => ⟨by omega, ⟨trivial, trivial⟩, ⟨?_, ?_⟩, ?_⟩⟩
    · rw [z1 e1] at ho
      rw [ordA, ordE, ho]
    · rw [List.length_append, List.length_singleton]
      omega
    · rw [z2 e1] at ho
      exact ho.symm
    · rw [List.length_append, List.length_singleton]
      omega
  · have ho := ordR_eq (readsF R) (AL R sm) x.1
    rw [if_pos (by omega), a2] at ho
    rw [ordA, ordE, ho]
set_option maxRecDepth 20000
theorem rorder_pure (R : GI) (sm : List Int) (h : ROk R sm) : Pure Try.prog 39 [.agg [.list .part LI R], .list .tmp I sm] (.tuple [.list .part I (ordA R sm), .int .i64 (ordE R sm)]) :=
  by have k := Pure.of_cond (g_rorder_eq R sm) (g_rorder_ok R sm h) (specs_ok rfl [sp_nodes14, sp_free, sp_has'] [] rfl rfl) mixed Try.func39; exact k
noncomputable def q_rorder (R : GI) (sm : List Int) : Prop × V := (ROk R sm, (.tuple [.list .part I (ordA R sm), .int .i64 (ordE R sm)]))
noncomputable def sp_rorder : FSpec Try.prog where
 f := 39
 run := fun
  | [.agg [v0_0], v1] => (asP LI v0_0 : Option (GI)).bind fun R => (asL I v1 : Option (List Int)).bind fun sm => some (q_rorder R sm)
  | _ => none
 ok := fun args pre r h hp => by
  split at h
  · rename_i v0_0 v1
    obtain ⟨R, h0_0, h⟩ := Option.bind_eq_some_iff.1 h
    obtain ⟨sm, h1, h⟩ := Option.bind_eq_some_iff.1 h
    exact of_q h hp fun h => (rorder_pure R sm h).weak (.cons (Weak.agg (.cons (asP_weak h0_0) .nil)) (.cons (asL_weak h1) .nil))
  · cases h
theorem Bt.row {rd : Int → List Int} {all : List Int} : ∀ {l out : List Int}, Bt rd all out → l.Nodup → (∀ v ∈ l, C rd all out v) → Bt rd all (out ++ l)
  | [], out, h, _, _ => by rwa [List.append_nil]
  | v :: r, out, h, hn, hc => by
    have hn := List.nodup_cons.1 hn
    rw [show out ++ v :: r = out ++ [v] ++ r by simp]
    refine Bt.row (h.snoc (hc v (List.mem_cons_self ..))) hn.2 fun u hu => ?_
    obtain ⟨h1, h2, h3⟩ := hc u (List.mem_cons_of_mem _ hu)
    refine ⟨h1, fun hm => ?_, cnt_zero.2 fun w hw ha => List.mem_append_left _ (cnt_zero.1 h3 w hw ha)⟩
    rcases List.mem_append.1 hm with hm | hm
    · exact h2 hm
    · rw [List.mem_singleton.1 hm] at hu
      exact hn.1 hu
theorem Bt.rowF {rd : Int → List Int} {all out : List Int} (h : Bt rd all out) (hn : all.Nodup) : Bt rd all (out ++ rowF rd all out) := h.row (hn.filter _) fun v hv => by
  unfold Od.rowF at hv
  exact of_decide_eq_true (List.mem_filter.1 hv).2
end Go.Proofs.Ytojflfogjkajaaa.Od
end
