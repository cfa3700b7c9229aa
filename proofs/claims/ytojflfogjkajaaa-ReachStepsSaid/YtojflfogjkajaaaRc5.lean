/-
  ref13.
-/
import Derived.Test.YtojflfogjkajaaaRc4b
namespace Go.Proofs.Ytojflfogjkajaaa.Rc
open Go.Vm Go.Proofs.Ytojflfogjkajaaa.Gr

noncomputable def tys1 : TypeId → Option Ty := fun | 62 => some (.slice .bool) | 4 => some .bool | t => tys0 t
noncomputable def env_begun (R : GI) (l : List Int) : Env where
  P := Try.prog
  ty := tys1
  specs := specsOf [sp_has']
  heads := fun | 3 => some { slots := [(5, .slc 19 .bool), (6, .int .i64)], boxes := [], keep := [2], inv := fun _ (x : List Bool × Int × Unit) => 0 ≤ x.2.1 ∧ x.2.1 ≤ R.length ∧ x.1 = begF x.2.1.toNat l, measure := fun _ (x : List Bool × Int × Unit) => (R.length - x.2.1).toNat } | _ => none
def g_begun_vc (R : GI) (l : List Int) : Prop :=
  ((some (Obj.box [V.list LK.part LI R]) = some (Obj.box [V.list LK.part LI R]) ∧ True) ∧ (0 : Int) ≤ (0 : Int) ∧ (0 : Int) ≤ (↑(List.length R) : Int) ∧ [] = begF (Int.toNat (0 : Int)) l) ∧ ∀ (x : List Bool × Int × Unit), (0 : Int) ≤ x.2.1 ∧ x.2.1 ≤ (↑(List.length R) : Int) ∧ x.1 = begF x.2.1.toNat l → (decide (x.2.1 < (↑(List.length R) : Int)) = true → l.length ≤ (1000000000 : Nat) ∧ ((x.1.length + (1 : Nat)) * (1 : Nat) ≤ (140737488355328 : Nat) ∧ x.1.length + (1 : Nat) ≤ (4611686018427387904 : Nat)) ∧ ((-9223372036854775808 : Int) ≤ x.2.1 + (1 : Int) ∧ x.2.1 + (1 : Int) ≤ (9223372036854775807 : Int)) ∧ (some (Obj.box [V.list LK.part LI R]) = some (Obj.box [V.list LK.part LI R]) ∧ True) ∧ ((0 : Int) ≤ x.2.1 + (1 : Int) ∧ x.2.1 + (1 : Int) ≤ (↑(List.length R) : Int) ∧ x.1 ++ [l.contains x.2.1] = begF (x.2.1 + (1 : Int)).toNat l) ∧ ((↑(List.length R) : Int) - (x.2.1 + (1 : Int))).toNat < ((↑(List.length R) : Int) - x.2.1).toNat) ∧ (decide (x.2.1 < (↑(List.length R) : Int)) = false → (x.1, ()) = (begF (List.length R) l, ()))
theorem g_begun_eq (R : GI) (l : List Int) : Cond (env_begun R l) Try.f65 [.agg [.list .part LI R], .list .tmp I l] [.slc 0 .bool] (begF R.length l, ()) = g_begun_vc R l := by kernel_rfl
theorem g_begun_ok (R : GI) (l : List Int) (h : R.length ≤ 1000000000 ∧ l.length ≤ 1000000000) : g_begun_vc R l := by
  unfold g_begun_vc
  simp only [decide_eq_true_eq, decide_eq_false_iff_not, Bool.not_eq_true', Bool.not_eq_false', Bool.not_true, Bool.not_false]
  refine ⟨⟨⟨trivial, trivial⟩, by omega, by omega, rfl⟩, ?_⟩
  rintro ⟨b, i, ⟨⟩⟩ ⟨h0, h1, h2⟩
  dsimp only at h0 h1 h2 ⊢
  have hlen : b.length = i.toNat := by rw [h2]; simp [begF]
  refine ⟨fun hi => ⟨h.2, ⟨by omega, by omega⟩, by omega, ⟨trivial, trivial⟩, ⟨by omega, by omega, ?_⟩, by omega⟩, fun hi => ?_⟩
  · rw [show (i + 1).toNat = i.toNat + 1 by omega, begF_succ, h2, Int.toNat_of_nonneg h0]
  · rw [h2, show i.toNat = List.length R by omega]
set_option maxRecDepth 20000
theorem begun_pure (R : GI) (l : List Int) (h : R.length ≤ 1000000000 ∧ l.length ≤ 1000000000) : Pure Try.prog 65 [.agg [.list .part LI R], .list .tmp I l] (.olist .bool (begF R.length l)) :=
  by have k := Pure.of_cond (g_begun_eq R l) (g_begun_ok R l h) (specs_ok rfl [sp_has'] [] rfl rfl) mixed Try.func65; exact k
noncomputable def q_begun (R : GI) (l : List Int) : Prop × V := (R.length ≤ 1000000000 ∧ l.length ≤ 1000000000, (.olist .bool (begF R.length l)))
noncomputable def sp_begun : FSpec Try.prog where
 f := 65
 run := fun
  | [.agg [v0_0], v1] => (asP LI v0_0 : Option (GI)).bind fun R => (asL I v1 : Option (List Int)).bind fun l => some (q_begun R l)
  | _ => none
 ok := fun args pre r h hp => by
  split at h
  · rename_i v0_0 v1
    obtain ⟨R, h0_0, h⟩ := Option.bind_eq_some_iff.1 h
    obtain ⟨l, h1, h⟩ := Option.bind_eq_some_iff.1 h
    exact of_q h hp fun h => (begun_pure R l h).weak (.cons (Weak.agg (.cons (asP_weak h0_0) .nil)) (.cons (asL_weak h1) .nil))
  · cases h
noncomputable def env_listed (b : List Bool) : Env where
  P := Try.prog
  ty := tys1
  heads := fun | 3 => some { slots := [(3, .slc 18 I), (4, .int .i64)], boxes := [], inv := fun _ (x : List Int × Int × Unit) => 0 ≤ x.2.1 ∧ x.2.1 ≤ b.length ∧ x.1 = ixs (fun i => atB b i) x.2.1.toNat, measure := fun _ (x : List Int × Int × Unit) => (b.length - x.2.1).toNat } | _ => none
def g_listed_vc (b : List Bool) : Prop :=
  (True ∧ (0 : Int) ≤ (0 : Int) ∧ (0 : Int) ≤ (↑b.length : Int) ∧ [] = ixs (fun i => atB b (↑i : Int)) (Int.toNat (0 : Int))) ∧ ∀ (x : List Int × Int × Unit), (0 : Int) ≤ x.2.1 ∧ x.2.1 ≤ (↑b.length : Int) ∧ x.1 = ixs (fun i => atB b (↑i : Int)) x.2.1.toNat → (decide (x.2.1 < (↑b.length : Int)) = true → ((0 : Int) ≤ x.2.1 ∧ x.2.1 < (↑b.length : Int)) ∧ ∀ (x_1 : Bool), b[x.2.1.toNat]? = some x_1 → (x_1 = true → ((x.1.length + (1 : Nat)) * (8 : Nat) ≤ (140737488355328 : Nat) ∧ x.1.length + (1 : Nat) ≤ (4611686018427387904 : Nat)) ∧ ((-9223372036854775808 : Int) ≤ x.2.1 + (1 : Int) ∧ x.2.1 + (1 : Int) ≤ (9223372036854775807 : Int)) ∧ True ∧ ((0 : Int) ≤ x.2.1 + (1 : Int) ∧ x.2.1 + (1 : Int) ≤ (↑b.length : Int) ∧ x.1 ++ [x.2.1] = ixs (fun i => atB b (↑i : Int)) (x.2.1 + (1 : Int)).toNat) ∧ ((↑b.length : Int) - (x.2.1 + (1 : Int))).toNat < ((↑b.length : Int) - x.2.1).toNat) ∧ (x_1 = false → ((-9223372036854775808 : Int) ≤ x.2.1 + (1 : Int) ∧ x.2.1 + (1 : Int) ≤ (9223372036854775807 : Int)) ∧ True ∧ ((0 : Int) ≤ x.2.1 + (1 : Int) ∧ x.2.1 + (1 : Int) ≤ (↑b.length : Int) ∧ x.1 = ixs (fun i => atB b (↑i : Int)) (x.2.1 + (1 : Int)).toNat) ∧ ((↑b.length : Int) - (x.2.1 + (1 : Int))).toNat < ((↑b.length : Int) - x.2.1).toNat)) ∧ (decide (x.2.1 < (↑b.length : Int)) = false → (x.1, ()) = (listF b, ()))
theorem g_listed_eq (b : List Bool) : Cond (env_listed b) Try.f66 [.list .tmp .bool b] [.list .part I] (listF b, ()) = g_listed_vc b := by kernel_rfl
theorem g_listed_ok (b : List Bool) (h : b.length ≤ 1000000000) : g_listed_vc b := by
  unfold g_listed_vc
  simp only [decide_eq_true_eq, decide_eq_false_iff_not, Bool.not_eq_true', Bool.not_eq_false', Bool.not_true, Bool.not_false]
  refine ⟨⟨trivial, by omega, by omega, rfl⟩, ?_⟩
  rintro ⟨o, i, ⟨⟩⟩ ⟨h0, h1, h2⟩
  dsimp only at h0 h1 h2 ⊢
  subst h2
  have hle := ixs_le (fun i => atB b (i : Int)) i.toNat
  refine ⟨fun hi => ⟨⟨h0, hi⟩, fun x hx => ?_⟩, fun hi => ?_⟩
  · have e1 := atB_get (b := b) (v := i) ⟨h0, hi⟩
    rw [hx] at e1
    cases e1
    have e2 : ((i.toNat : Nat) : Int) = i := Int.toNat_of_nonneg h0
    refine ⟨fun hc => ⟨⟨by omega, by omega⟩, by omega, trivial, ⟨by omega, by omega, ?_⟩, by omega⟩, fun hc => ⟨by omega, trivial, ⟨by omega, by omega, ?_⟩, by omega⟩⟩
    · rw [show (i + 1).toNat = i.toNat + 1 by omega, ixs_succ, e2, if_pos hc]
    · rw [show (i + 1).toNat = i.toNat + 1 by omega, ixs_succ, e2, if_neg (by rw [hc]; decide), List.append_nil]
  · rw [listF, show i.toNat = b.length by omega]
theorem listed_pure (b : List Bool) (h : b.length ≤ 1000000000) : Pure Try.prog 66 [.list .tmp .bool b] (.list .part I (listF b)) :=
  by have k := Pure.of_cond (g_listed_eq b) (g_listed_ok b h) (specs_ok rfl [] [] rfl rfl) mixed Try.func66; exact k
noncomputable def q_listed (b : List Bool) : Prop × V := (b.length ≤ 1000000000, (.list .part I (listF b)))
noncomputable def sp_listed : FSpec Try.prog where
 f := 66
 run := fun
  | [v0] => (asL .bool v0 : Option (List Bool)).bind fun b => some (q_listed b)
  | _ => none
 ok := fun args pre r h hp => by
  split at h
  · rename_i v0
    obtain ⟨b, h0, h⟩ := Option.bind_eq_some_iff.1 h
    exact of_q h hp fun h => (listed_pure b h).weak (.cons (asL_weak h0) .nil)
  · cases h
noncomputable def env_rreach (R : GI) (l : List Int) : Env where
  P := Try.prog
  ty := tys1
  specs := specsOf [sp_begun, sp_listed]
  heads := fun
    | 3 => some { slots := [(5, .slc 11 .bool), (6, .int .i64)], boxes := [], keep := [2], inv := fun _ (x : List Bool × Int × Unit) => 0 ≤ x.2.1 ∧ x.2.1 ≤ R.length ∧ Ra R.length (readsF R) (stepsF R.length (rdsF R) (Fr R.length l)) x.2.1.toNat 0 0 x.1, measure := fun _ (x : List Bool × Int × Unit) => (R.length - x.2.1).toNat }
    | 6 => some { slots := [(5, .slc 11 .bool), (7, .int .i64)], boxes := [], keep := [2], inv := fun st (x : List Bool × Int × Unit) => 0 ≤ x.2.1 ∧ x.2.1 ≤ R.length ∧ Ra R.length (readsF R) (stepsF R.length (rdsF R) (Fr R.length l)) (st.int 6).toNat x.2.1 0 x.1, measure := fun _ (x : List Bool × Int × Unit) => (R.length - x.2.1).toNat }
    | 9 => some { slots := [(5, .slc 11 .bool), (8, .int .i64)], boxes := [], keep := [2], inv := fun st (x : List Bool × Int × Unit) => 0 ≤ x.2.1 ∧ x.2.1 ≤ (readsF R (st.int 7)).length ∧ Ra R.length (readsF R) (stepsF R.length (rdsF R) (Fr R.length l)) (st.int 6).toNat (st.int 7) x.2.1.toNat x.1, measure := fun st (x : List Bool × Int × Unit) => ((readsF R (st.int 7)).length - x.2.1).toNat }
    | _ => none
def g_rreach_vc (R : GI) (l : List Int) : Prop :=
  (List.length R ≤ (1000000000 : Nat) ∧ l.length ≤ (1000000000 : Nat)) ∧ ((some (Obj.box [V.list LK.part LI R]) = some (Obj.box [V.list LK.part LI R]) ∧ True) ∧ (0 : Int) ≤ (0 : Int) ∧ (0 : Int) ≤ (↑(List.length R) : Int) ∧ Ra (List.length R) (readsF R) (stepsF (List.length R) (rdsF R) (Fr (List.length R) l)) (Int.toNat (0 : Int)) (0 : Int) (0 : Nat) (begF (List.length R) l)) ∧ ∀ (x : List Bool × Int × Unit), (0 : Int) ≤ x.2.1 ∧ x.2.1 ≤ (↑(List.length R) : Int) ∧ Ra (List.length R) (readsF R) (stepsF (List.length R) (rdsF R) (Fr (List.length R) l)) x.2.1.toNat (0 : Int) (0 : Nat) x.1 → (decide (x.2.1 < (↑x.1.length : Int)) = true → ((some (Obj.box [V.list LK.part LI R]) = some (Obj.box [V.list LK.part LI R]) ∧ True) ∧ (0 : Int) ≤ (0 : Int) ∧ (0 : Int) ≤ (↑(List.length R) : Int) ∧ Ra (List.length R) (readsF R) (stepsF (List.length R) (rdsF R) (Fr (List.length R) l)) x.2.1.toNat (0 : Int) (0 : Nat) x.1) ∧ ∀ (x_1 : List Bool × Int × Unit), (0 : Int) ≤ x_1.2.1 ∧ x_1.2.1 ≤ (↑(List.length R) : Int) ∧ Ra (List.length R) (readsF R) (stepsF (List.length R) (rdsF R) (Fr (List.length R) l)) x.2.1.toNat x_1.2.1 (0 : Nat) x_1.1 → (decide (x_1.2.1 < (↑x_1.1.length : Int)) = true → ((some (Obj.box [V.list LK.part LI R]) = some (Obj.box [V.list LK.part LI R]) ∧ True) ∧ (0 : Int) ≤ (0 : Int) ∧ (0 : Int) ≤ (↑(readsF R x_1.2.1).length : Int) ∧ Ra (List.length R) (readsF R) (stepsF (List.length R) (rdsF R) (Fr (List.length R) l)) x.2.1.toNat x_1.2.1 (Int.toNat (0 : Int)) x_1.1) ∧ ∀ (x_2 : List Bool × Int × Unit), (0 : Int) ≤ x_2.2.1 ∧ x_2.2.1 ≤ (↑(readsF R x_1.2.1).length : Int) ∧ Ra (List.length R) (readsF R) (stepsF (List.length R) (rdsF R) (Fr (List.length R) l)) x.2.1.toNat x_1.2.1 x_2.2.1.toNat x_2.1 → ((0 : Int) ≤ x_1.2.1 ∧ x_1.2.1 < (↑(List.length R) : Int)) ∧ ∀ (x_3 : List Int), R[x_1.2.1.toNat]? = some x_3 → (decide (x_2.2.1 < (↑x_3.length : Int)) = true → ((0 : Int) ≤ x_1.2.1 ∧ x_1.2.1 < (↑x_2.1.length : Int)) ∧ x_1.2.1.toNat < x_2.1.length ∧ ∀ (x_4 : Bool), x_2.1[x_1.2.1.toNat]? = some x_4 → (x_4 = false → ((0 : Int) ≤ x_1.2.1 ∧ x_1.2.1 < (↑(List.length R) : Int)) ∧ ∀ (x_5 : List Int), R[x_1.2.1.toNat]? = some x_5 → ((0 : Int) ≤ x_2.2.1 ∧ x_2.2.1 < (↑x_5.length : Int)) ∧ ∀ (x_6 : Int), x_5[x_2.2.1.toNat]? = some x_6 → ((0 : Int) ≤ x_6 ∧ x_6 < (↑x_2.1.length : Int)) ∧ x_6.toNat < x_2.1.length ∧ ∀ (x_7 : Bool), x_2.1[x_6.toNat]? = some x_7 → ((0 : Int) ≤ x_1.2.1 ∧ x_1.2.1 < (↑x_2.1.length : Int)) ∧ x_1.2.1.toNat < x_2.1.length ∧ ∀ (y : Bool), x_2.1[x_1.2.1.toNat]? = some y → ((-9223372036854775808 : Int) ≤ x_2.2.1 + (1 : Int) ∧ x_2.2.1 + (1 : Int) ≤ (9223372036854775807 : Int)) ∧ (some (Obj.box [V.list LK.part LI R]) = some (Obj.box [V.list LK.part LI R]) ∧ True) ∧ ((0 : Int) ≤ x_2.2.1 + (1 : Int) ∧ x_2.2.1 + (1 : Int) ≤ (↑(readsF R x_1.2.1).length : Int) ∧ Ra (List.length R) (readsF R) (stepsF (List.length R) (rdsF R) (Fr (List.length R) l)) x.2.1.toNat x_1.2.1 (x_2.2.1 + (1 : Int)).toNat (x_2.1.set x_1.2.1.toNat x_7)) ∧ ((↑(readsF R x_1.2.1).length : Int) - (x_2.2.1 + (1 : Int))).toNat < ((↑(readsF R x_1.2.1).length : Int) - x_2.2.1).toNat) ∧ (x_4 = !false → ((0 : Int) ≤ x_1.2.1 ∧ x_1.2.1 < (↑x_2.1.length : Int)) ∧ x_1.2.1.toNat < x_2.1.length ∧ ∀ (y : Bool), x_2.1[x_1.2.1.toNat]? = some y → ((-9223372036854775808 : Int) ≤ x_2.2.1 + (1 : Int) ∧ x_2.2.1 + (1 : Int) ≤ (9223372036854775807 : Int)) ∧ (some (Obj.box [V.list LK.part LI R]) = some (Obj.box [V.list LK.part LI R]) ∧ True) ∧ ((0 : Int) ≤ x_2.2.1 + (1 : Int) ∧ x_2.2.1 + (1 : Int) ≤ (↑(readsF R x_1.2.1).length : Int) ∧ Ra (List.length R) (readsF R) (stepsF (List.length R) (rdsF R) (Fr (List.length R) l)) x.2.1.toNat x_1.2.1 (x_2.2.1 + (1 : Int)).toNat (x_2.1.set x_1.2.1.toNat true)) ∧ ((↑(readsF R x_1.2.1).length : Int) - (x_2.2.1 + (1 : Int))).toNat < ((↑(readsF R x_1.2.1).length : Int) - x_2.2.1).toNat)) ∧ (decide (x_2.2.1 < (↑x_3.length : Int)) = false → ((-9223372036854775808 : Int) ≤ x_1.2.1 + (1 : Int) ∧ x_1.2.1 + (1 : Int) ≤ (9223372036854775807 : Int)) ∧ (some (Obj.box [V.list LK.part LI R]) = some (Obj.box [V.list LK.part LI R]) ∧ True) ∧ ((0 : Int) ≤ x_1.2.1 + (1 : Int) ∧ x_1.2.1 + (1 : Int) ≤ (↑(List.length R) : Int) ∧ Ra (List.length R) (readsF R) (stepsF (List.length R) (rdsF R) (Fr (List.length R) l)) x.2.1.toNat (x_1.2.1 + (1 : Int)) (0 : Nat) x_2.1) ∧ ((↑(List.length R) : Int) - (x_1.2.1 + (1 : Int))).toNat < ((↑(List.length R) : Int) - x_1.2.1).toNat)) ∧ (decide (x_1.2.1 < (↑x_1.1.length : Int)) = false → ((-9223372036854775808 : Int) ≤ x.2.1 + (1 : Int) ∧ x.2.1 + (1 : Int) ≤ (9223372036854775807 : Int)) ∧ (some (Obj.box [V.list LK.part LI R]) = some (Obj.box [V.list LK.part LI R]) ∧ True) ∧ ((0 : Int) ≤ x.2.1 + (1 : Int) ∧ x.2.1 + (1 : Int) ≤ (↑(List.length R) : Int) ∧ Ra (List.length R) (readsF R) (stepsF (List.length R) (rdsF R) (Fr (List.length R) l)) (x.2.1 + (1 : Int)).toNat (0 : Int) (0 : Nat) x_1.1) ∧ ((↑(List.length R) : Int) - (x.2.1 + (1 : Int))).toNat < ((↑(List.length R) : Int) - x.2.1).toNat)) ∧ (decide (x.2.1 < (↑x.1.length : Int)) = false → x.1.length ≤ (1000000000 : Nat) ∧ (listF x.1, ()) = (metF (stepsF (List.length R) (rdsF R) (Fr (List.length R) l)), ()))
theorem g_rreach_eq (R : GI) (l : List Int) : Cond (env_rreach R l) Try.f32 [.agg [.list .part LI R], .list .tmp I l] [.list .part I] (metF (stepsF R.length (rdsF R) (Fr R.length l)), ()) = g_rreach_vc R l := by kernel_rfl
theorem g_rreach_ok (R : GI) (l : List Int) (h : GOk R ∧ l.length ≤ 1000000000) : g_rreach_vc R l := by
  unfold g_rreach_vc
  simp only [decide_eq_true_eq, decide_eq_false_iff_not, Bool.not_eq_true', Bool.not_eq_false', Bool.not_true, Bool.not_false]
  obtain ⟨hG, hl⟩ := h
  have hR := hG.1
  have hT := steps_table (n := R.length) (nx := rdsF R) (F := Fr R.length l) fr_dom (rds_dom hG)
  have hr := rds_iff hG
  generalize stepsF R.length (rdsF R) (Fr R.length l) = T at hT ⊢
  refine ⟨⟨by omega, hl⟩, ⟨⟨trivial, trivial⟩, by omega, by omega, Ra.begin hT⟩, ?_⟩
  rintro ⟨b, k, ⟨⟩⟩ ⟨k0, k1, hA⟩
  dsimp only at k0 k1 hA ⊢
  have hlen := hA.len
  refine ⟨fun hk => ⟨⟨⟨trivial, trivial⟩, by omega, by omega, hA⟩, ?_⟩, fun hk => ⟨by omega, by rw [hA.fin hT (by omega)]⟩⟩
  have hk2 : k < R.length := by omega
  clear hA hlen b hk
  rintro ⟨b, j, ⟨⟩⟩ ⟨j0, j1, hA⟩
  dsimp only at j0 j1 hA ⊢
  have hlen := hA.len
  refine ⟨fun hj => ⟨⟨⟨trivial, trivial⟩, by omega, by omega, hA⟩, ?_⟩, fun hj => ⟨by omega, ⟨trivial, trivial⟩, ⟨by omega, by omega, by rw [show (k + 1).toNat = k.toNat + 1 by omega]; exact hA.round hT (by omega)⟩, by omega⟩⟩
  have hjd : Dom R.length j := ⟨j0, by omega⟩
  have hjd2 : 0 ≤ j ∧ j < R.length := hjd
  have hrl := reads_le (v := j) (gok_le hG)
  clear hA hlen hj b
  rintro ⟨b, i, ⟨⟩⟩ ⟨i0, i1, hA⟩
  dsimp only at i0 i1 hA ⊢
  have hlen := hA.len
  refine ⟨hjd2, fun rj hrj => ?_⟩
  have e := reads_at hjd2
  rw [hrj] at e
  cases e
  refine ⟨fun hi => ⟨⟨j0, by omega⟩, by omega, fun bj hbj => ?_⟩, fun hi => ⟨by omega, ⟨trivial, trivial⟩, ⟨by omega, by omega, hA.next hT hr (by omega)⟩, by omega⟩⟩
  have ej := atB_get (b := b) (v := j) (by rw [hlen]; exact hjd)
  rw [hbj] at ej
  cases ej
  obtain ⟨u, hu⟩ : ∃ u, (readsF R j)[i.toNat]? = some u := ⟨_, List.getElem?_eq_getElem (by omega)⟩
  have hst := hA.step hT hr hjd hu
  rw [show i.toNat + 1 = (i + 1).toNat by omega] at hst
  have hud := reads_dom hG j u hjd (List.mem_of_getElem? hu)
  refine ⟨fun hb => ⟨hjd2, fun rj2 hrj2 => ?_⟩, fun hb => ⟨⟨j0, by omega⟩, by omega, fun y _ => ⟨by omega, ⟨trivial, trivial⟩, ⟨by omega, by omega, ?_⟩, by omega⟩⟩⟩
  · have e := reads_at hjd2
    rw [hrj2] at e
    cases e
    refine ⟨⟨i0, hi⟩, fun u2 hu2 => ?_⟩
    rw [hu] at hu2
    cases hu2
    have hud2 : 0 ≤ u ∧ u < R.length := hud
    refine ⟨⟨hud2.1, by omega⟩, by omega, fun bu hbu => ⟨⟨j0, by omega⟩, by omega, fun y _ => ⟨by omega, ⟨trivial, trivial⟩, ⟨by omega, by omega, ?_⟩, by omega⟩⟩⟩
    have eu := atB_get (b := b) (v := u) (by rw [hlen]; exact hud)
    rw [hbu] at eu
    cases eu
    rw [hb, Bool.false_or] at hst
    exact hst
  · rw [hb, Bool.true_or] at hst
    exact hst
theorem rreach_pure (R : GI) (l : List Int) (h : GOk R ∧ l.length ≤ 1000000000) : Pure Try.prog 32 [.agg [.list .part LI R], .list .tmp I l] (.list .part I (metF (stepsF R.length (rdsF R) (Fr R.length l)))) :=
  by have k := Pure.of_cond (g_rreach_eq R l) (g_rreach_ok R l h) (specs_ok rfl [sp_begun, sp_listed] [] rfl rfl) mixed Try.func32; exact k
noncomputable def q_rreach (R : GI) (l : List Int) : Prop × V := (GOk R ∧ l.length ≤ 1000000000, (.list .part I (metF (stepsF R.length (rdsF R) (Fr R.length l)))))
noncomputable def sp_rreach : FSpec Try.prog where
 f := 32
 run := fun
  | [.agg [v0_0], v1] => (asP LI v0_0 : Option (GI)).bind fun R => (asL I v1 : Option (List Int)).bind fun l => some (q_rreach R l)
  | _ => none
 ok := fun args pre r h hp => by
  split at h
  · rename_i v0_0 v1
    obtain ⟨R, h0_0, h⟩ := Option.bind_eq_some_iff.1 h
    obtain ⟨l, h1, h⟩ := Option.bind_eq_some_iff.1 h
    exact of_q h hp fun h => (rreach_pure R l h).weak (.cons (Weak.agg (.cons (asP_weak h0_0) .nil)) (.cons (asL_weak h1) .nil))
  · cases h
noncomputable def env_rneeds (R : GI) (l : List Int) : Env where
  P := Try.prog
  ty := tys1
  specs := specsOf [sp_begun, sp_listed]
  heads := fun
    | 3 => some { slots := [(5, .slc 11 .bool), (6, .int .i64)], boxes := [], keep := [2], inv := fun _ (x : List Bool × Int × Unit) => 0 ≤ x.2.1 ∧ x.2.1 ≤ R.length ∧ Rn R.length (readsF R) (stepsF R.length (readsF R) (Fr R.length l)) x.2.1.toNat 0 0 x.1, measure := fun _ (x : List Bool × Int × Unit) => (R.length - x.2.1).toNat }
    | 6 => some { slots := [(5, .slc 11 .bool), (7, .int .i64)], boxes := [], keep := [2], inv := fun st (x : List Bool × Int × Unit) => 0 ≤ x.2.1 ∧ x.2.1 ≤ R.length ∧ Rn R.length (readsF R) (stepsF R.length (readsF R) (Fr R.length l)) (st.int 6).toNat x.2.1 0 x.1, measure := fun _ (x : List Bool × Int × Unit) => (R.length - x.2.1).toNat }
    | 9 => some { slots := [(5, .slc 11 .bool), (8, .int .i64)], boxes := [], keep := [2], inv := fun st (x : List Bool × Int × Unit) => 0 ≤ x.2.1 ∧ x.2.1 ≤ (readsF R (st.int 7)).length ∧ Rn R.length (readsF R) (stepsF R.length (readsF R) (Fr R.length l)) (st.int 6).toNat (st.int 7) x.2.1.toNat x.1, measure := fun st (x : List Bool × Int × Unit) => ((readsF R (st.int 7)).length - x.2.1).toNat }
    | _ => none
def g_rneeds_vc (R : GI) (l : List Int) : Prop :=
  (List.length R ≤ (1000000000 : Nat) ∧ l.length ≤ (1000000000 : Nat)) ∧ ((some (Obj.box [V.list LK.part LI R]) = some (Obj.box [V.list LK.part LI R]) ∧ True) ∧ (0 : Int) ≤ (0 : Int) ∧ (0 : Int) ≤ (↑(List.length R) : Int) ∧ Rn (List.length R) (readsF R) (stepsF (List.length R) (readsF R) (Fr (List.length R) l)) (Int.toNat (0 : Int)) (0 : Int) (0 : Nat) (begF (List.length R) l)) ∧ ∀ (x : List Bool × Int × Unit), (0 : Int) ≤ x.2.1 ∧ x.2.1 ≤ (↑(List.length R) : Int) ∧ Rn (List.length R) (readsF R) (stepsF (List.length R) (readsF R) (Fr (List.length R) l)) x.2.1.toNat (0 : Int) (0 : Nat) x.1 → (decide (x.2.1 < (↑x.1.length : Int)) = true → ((some (Obj.box [V.list LK.part LI R]) = some (Obj.box [V.list LK.part LI R]) ∧ True) ∧ (0 : Int) ≤ (0 : Int) ∧ (0 : Int) ≤ (↑(List.length R) : Int) ∧ Rn (List.length R) (readsF R) (stepsF (List.length R) (readsF R) (Fr (List.length R) l)) x.2.1.toNat (0 : Int) (0 : Nat) x.1) ∧ ∀ (x_1 : List Bool × Int × Unit), (0 : Int) ≤ x_1.2.1 ∧ x_1.2.1 ≤ (↑(List.length R) : Int) ∧ Rn (List.length R) (readsF R) (stepsF (List.length R) (readsF R) (Fr (List.length R) l)) x.2.1.toNat x_1.2.1 (0 : Nat) x_1.1 → (decide (x_1.2.1 < (↑x_1.1.length : Int)) = true → ((some (Obj.box [V.list LK.part LI R]) = some (Obj.box [V.list LK.part LI R]) ∧ True) ∧ (0 : Int) ≤ (0 : Int) ∧ (0 : Int) ≤ (↑(readsF R x_1.2.1).length : Int) ∧ Rn (List.length R) (readsF R) (stepsF (List.length R) (readsF R) (Fr (List.length R) l)) x.2.1.toNat x_1.2.1 (Int.toNat (0 : Int)) x_1.1) ∧ ∀ (x_2 : List Bool × Int × Unit), (0 : Int) ≤ x_2.2.1 ∧ x_2.2.1 ≤ (↑(readsF R x_1.2.1).length : Int) ∧ Rn (List.length R) (readsF R) (stepsF (List.length R) (readsF R) (Fr (List.length R) l)) x.2.1.toNat x_1.2.1 x_2.2.1.toNat x_2.1 → ((0 : Int) ≤ x_1.2.1 ∧ x_1.2.1 < (↑(List.length R) : Int)) ∧ ∀ (x_3 : List Int), R[x_1.2.1.toNat]? = some x_3 → (decide (x_2.2.1 < (↑x_3.length : Int)) = true → ((0 : Int) ≤ x_1.2.1 ∧ x_1.2.1 < (↑x_2.1.length : Int)) ∧ x_1.2.1.toNat < x_2.1.length ∧ ∀ (x_4 : Bool), x_2.1[x_1.2.1.toNat]? = some x_4 → (x_4 = true → ((0 : Int) ≤ x_1.2.1 ∧ x_1.2.1 < (↑(List.length R) : Int)) ∧ ∀ (x_5 : List Int), R[x_1.2.1.toNat]? = some x_5 → ((0 : Int) ≤ x_2.2.1 ∧ x_2.2.1 < (↑x_5.length : Int)) ∧ ∀ (x_6 : Int), x_5[x_2.2.1.toNat]? = some x_6 → ((0 : Int) ≤ x_6 ∧ x_6 < (↑x_2.1.length : Int)) ∧ x_6.toNat < x_2.1.length ∧ ∀ (y : Bool), x_2.1[x_6.toNat]? = some y → ((-9223372036854775808 : Int) ≤ x_2.2.1 + (1 : Int) ∧ x_2.2.1 + (1 : Int) ≤ (9223372036854775807 : Int)) ∧ (some (Obj.box [V.list LK.part LI R]) = some (Obj.box [V.list LK.part LI R]) ∧ True) ∧ ((0 : Int) ≤ x_2.2.1 + (1 : Int) ∧ x_2.2.1 + (1 : Int) ≤ (↑(readsF R x_1.2.1).length : Int) ∧ Rn (List.length R) (readsF R) (stepsF (List.length R) (readsF R) (Fr (List.length R) l)) x.2.1.toNat x_1.2.1 (x_2.2.1 + (1 : Int)).toNat (x_2.1.set x_6.toNat true)) ∧ ((↑(readsF R x_1.2.1).length : Int) - (x_2.2.1 + (1 : Int))).toNat < ((↑(readsF R x_1.2.1).length : Int) - x_2.2.1).toNat) ∧ (x_4 = false → ((-9223372036854775808 : Int) ≤ x_1.2.1 + (1 : Int) ∧ x_1.2.1 + (1 : Int) ≤ (9223372036854775807 : Int)) ∧ (some (Obj.box [V.list LK.part LI R]) = some (Obj.box [V.list LK.part LI R]) ∧ True) ∧ ((0 : Int) ≤ x_1.2.1 + (1 : Int) ∧ x_1.2.1 + (1 : Int) ≤ (↑(List.length R) : Int) ∧ Rn (List.length R) (readsF R) (stepsF (List.length R) (readsF R) (Fr (List.length R) l)) x.2.1.toNat (x_1.2.1 + (1 : Int)) (0 : Nat) x_2.1) ∧ ((↑(List.length R) : Int) - (x_1.2.1 + (1 : Int))).toNat < ((↑(List.length R) : Int) - x_1.2.1).toNat)) ∧ (decide (x_2.2.1 < (↑x_3.length : Int)) = !true → ((-9223372036854775808 : Int) ≤ x_1.2.1 + (1 : Int) ∧ x_1.2.1 + (1 : Int) ≤ (9223372036854775807 : Int)) ∧ (some (Obj.box [V.list LK.part LI R]) = some (Obj.box [V.list LK.part LI R]) ∧ True) ∧ ((0 : Int) ≤ x_1.2.1 + (1 : Int) ∧ x_1.2.1 + (1 : Int) ≤ (↑(List.length R) : Int) ∧ Rn (List.length R) (readsF R) (stepsF (List.length R) (readsF R) (Fr (List.length R) l)) x.2.1.toNat (x_1.2.1 + (1 : Int)) (0 : Nat) x_2.1) ∧ ((↑(List.length R) : Int) - (x_1.2.1 + (1 : Int))).toNat < ((↑(List.length R) : Int) - x_1.2.1).toNat)) ∧ (decide (x_1.2.1 < (↑x_1.1.length : Int)) = false → ((-9223372036854775808 : Int) ≤ x.2.1 + (1 : Int) ∧ x.2.1 + (1 : Int) ≤ (9223372036854775807 : Int)) ∧ (some (Obj.box [V.list LK.part LI R]) = some (Obj.box [V.list LK.part LI R]) ∧ True) ∧ ((0 : Int) ≤ x.2.1 + (1 : Int) ∧ x.2.1 + (1 : Int) ≤ (↑(List.length R) : Int) ∧ Rn (List.length R) (readsF R) (stepsF (List.length R) (readsF R) (Fr (List.length R) l)) (x.2.1 + (1 : Int)).toNat (0 : Int) (0 : Nat) x_1.1) ∧ ((↑(List.length R) : Int) - (x.2.1 + (1 : Int))).toNat < ((↑(List.length R) : Int) - x.2.1).toNat)) ∧ (decide (x.2.1 < (↑x.1.length : Int)) = false → x.1.length ≤ (1000000000 : Nat) ∧ (listF x.1, ()) = (metF (stepsF (List.length R) (readsF R) (Fr (List.length R) l)), ()))
theorem g_rneeds_eq (R : GI) (l : List Int) : Cond (env_rneeds R l) Try.f34 [.agg [.list .part LI R], .list .tmp I l] [.list .part I] (metF (stepsF R.length (readsF R) (Fr R.length l)), ()) = g_rneeds_vc R l := by kernel_rfl
theorem g_rneeds_ok (R : GI) (l : List Int) (h : GOk R ∧ l.length ≤ 1000000000) : g_rneeds_vc R l := by
  unfold g_rneeds_vc
  simp only [decide_eq_true_eq, decide_eq_false_iff_not, Bool.not_eq_true', Bool.not_eq_false', Bool.not_true, Bool.not_false]
  obtain ⟨hG, hl⟩ := h
  have hR := hG.1
  have hT := steps_table (n := R.length) (nx := readsF R) (F := Fr R.length l) fr_dom (reads_dom hG)
  generalize stepsF R.length (readsF R) (Fr R.length l) = T at hT ⊢
  refine ⟨⟨by omega, hl⟩, ⟨⟨trivial, trivial⟩, by omega, by omega, Rn.begin hT⟩, ?_⟩
  rintro ⟨b, k, ⟨⟩⟩ ⟨k0, k1, hA⟩
  dsimp only at k0 k1 hA ⊢
  have hlen := hA.len
  refine ⟨fun hk => ⟨⟨⟨trivial, trivial⟩, by omega, by omega, hA⟩, ?_⟩, fun hk => ⟨by omega, by rw [hA.fin hT (by omega)]⟩⟩
  have hk2 : k < R.length := by omega
  clear hA hlen b hk
  rintro ⟨b, j, ⟨⟩⟩ ⟨j0, j1, hA⟩
  dsimp only at j0 j1 hA ⊢
  have hlen := hA.len
  refine ⟨fun hj => ⟨⟨⟨trivial, trivial⟩, by omega, by omega, hA⟩, ?_⟩, fun hj => ⟨by omega, ⟨trivial, trivial⟩, ⟨by omega, by omega, by rw [show (k + 1).toNat = k.toNat + 1 by omega]; exact hA.round hT (by omega)⟩, by omega⟩⟩
  have hjd : Dom R.length j := ⟨j0, by omega⟩
  have hjd2 : 0 ≤ j ∧ j < R.length := hjd
  have hrl := reads_le (v := j) (gok_le hG)
  clear hA hlen hj b
  rintro ⟨b, i, ⟨⟩⟩ ⟨i0, i1, hA⟩
  dsimp only at i0 i1 hA ⊢
  have hlen := hA.len
  refine ⟨hjd2, fun rj hrj => ?_⟩
  have e := reads_at hjd2
  rw [hrj] at e
  cases e
  refine ⟨fun hi => ⟨⟨j0, by omega⟩, by omega, fun bj hbj => ?_⟩, fun hi => ⟨by omega, ⟨trivial, trivial⟩, ⟨by omega, by omega, hA.next (.inl (by omega))⟩, by omega⟩⟩
  have ej := atB_get (b := b) (v := j) (by rw [hlen]; exact hjd)
  rw [hbj] at ej
  cases ej
  refine ⟨fun hb => ⟨hjd2, fun rj2 hrj2 => ?_⟩, fun hb => ⟨by omega, ⟨trivial, trivial⟩, ⟨by omega, by omega, hA.next (.inr hb)⟩, by omega⟩⟩
  have e := reads_at hjd2
  rw [hrj2] at e
  cases e
  refine ⟨⟨i0, hi⟩, fun u hu => ?_⟩
  obtain ⟨hud, hst⟩ := hA.step hT hb hu
  rw [show i.toNat + 1 = (i + 1).toNat by omega] at hst
  have hud2 : 0 ≤ u ∧ u < R.length := hud
  exact ⟨⟨hud2.1, by omega⟩, by omega, fun y _ => ⟨by omega, ⟨trivial, trivial⟩, ⟨by omega, by omega, hst⟩, by omega⟩⟩
theorem rneeds_pure (R : GI) (l : List Int) (h : GOk R ∧ l.length ≤ 1000000000) : Pure Try.prog 34 [.agg [.list .part LI R], .list .tmp I l] (.list .part I (metF (stepsF R.length (readsF R) (Fr R.length l)))) :=
  by have k := Pure.of_cond (g_rneeds_eq R l) (g_rneeds_ok R l h) (specs_ok rfl [sp_begun, sp_listed] [] rfl rfl) mixed Try.func34; exact k
noncomputable def q_rneeds (R : GI) (l : List Int) : Prop × V := (GOk R ∧ l.length ≤ 1000000000, (.list .part I (metF (stepsF R.length (readsF R) (Fr R.length l)))))
noncomputable def sp_rneeds : FSpec Try.prog where
 f := 34
 run := fun
  | [.agg [v0_0], v1] => (asP LI v0_0 : Option (GI)).bind fun R => (asL I v1 : Option (List Int)).bind fun l => some (q_rneeds R l)
  | _ => none
 ok := fun args pre r h hp => by
  split at h
  · rename_i v0_0 v1
    obtain ⟨R, h0_0, h⟩ := Option.bind_eq_some_iff.1 h
    obtain ⟨l, h1, h⟩ := Option.bind_eq_some_iff.1 h
    exact of_q h hp fun h => (rneeds_pure R l h).weak (.cons (Weak.agg (.cons (asP_weak h0_0) .nil)) (.cons (asL_weak h1) .nil))
  · cases h
noncomputable def env_rsteps (R : GI) (l : List Int) : Env where
  P := Try.prog
  ty := tys1
  specs := specsOf [sp_has']
  heads := fun
    | 3 => some { slots := [(5, .slc 23 I), (6, .int .i64)], boxes := [], keep := [2], inv := fun _ (x : List Int × Int × Unit) => 0 ≤ x.2.1 ∧ x.2.1 ≤ R.length ∧ x.1 = beg0 x.2.1.toNat l, measure := fun _ (x : List Int × Int × Unit) => (R.length - x.2.1).toNat }
    | 9 => some { slots := [(5, .slc 23 I), (7, .int .i64)], boxes := [], keep := [2], inv := fun _ (x : List Int × Int × Unit) => 0 ≤ x.2.1 ∧ x.2.1 ≤ R.length ∧ Rs R.length (readsF R) (stepsF R.length (rdsF R) (Fr R.length l)) x.2.1.toNat 0 0 x.1, measure := fun _ (x : List Int × Int × Unit) => (R.length - x.2.1).toNat }
    | 12 => some { slots := [(5, .slc 23 I), (8, .int .i64)], boxes := [], keep := [2], inv := fun st (x : List Int × Int × Unit) => 0 ≤ x.2.1 ∧ x.2.1 ≤ R.length ∧ Rs R.length (readsF R) (stepsF R.length (rdsF R) (Fr R.length l)) (st.int 7).toNat x.2.1 0 x.1, measure := fun _ (x : List Int × Int × Unit) => (R.length - x.2.1).toNat }
    | 15 => some { slots := [(5, .slc 23 I), (9, .int .i64)], boxes := [], keep := [2], inv := fun st (x : List Int × Int × Unit) => 0 ≤ x.2.1 ∧ x.2.1 ≤ (readsF R (st.int 8)).length ∧ Rs R.length (readsF R) (stepsF R.length (rdsF R) (Fr R.length l)) (st.int 7).toNat (st.int 8) x.2.1.toNat x.1, measure := fun st (x : List Int × Int × Unit) => ((readsF R (st.int 8)).length - x.2.1).toNat }
    | _ => none
def g_rsteps_vc (R : GI) (l : List Int) : Prop :=
  ((some (Obj.box [V.list LK.part LI R]) = some (Obj.box [V.list LK.part LI R]) ∧ True) ∧ (0 : Int) ≤ (0 : Int) ∧ (0 : Int) ≤ (↑(List.length R) : Int) ∧ [] = beg0 (Int.toNat (0 : Int)) l) ∧ ∀ (x : List Int × Int × Unit), (0 : Int) ≤ x.2.1 ∧ x.2.1 ≤ (↑(List.length R) : Int) ∧ x.1 = beg0 x.2.1.toNat l → (decide (x.2.1 < (↑(List.length R) : Int)) = true → l.length ≤ (1000000000 : Nat) ∧ (l.contains x.2.1 = true → ((x.1.length + (1 : Nat)) * (8 : Nat) ≤ (140737488355328 : Nat) ∧ x.1.length + (1 : Nat) ≤ (4611686018427387904 : Nat)) ∧ ((-9223372036854775808 : Int) ≤ x.2.1 + (1 : Int) ∧ x.2.1 + (1 : Int) ≤ (9223372036854775807 : Int)) ∧ (some (Obj.box [V.list LK.part LI R]) = some (Obj.box [V.list LK.part LI R]) ∧ True) ∧ ((0 : Int) ≤ x.2.1 + (1 : Int) ∧ x.2.1 + (1 : Int) ≤ (↑(List.length R) : Int) ∧ x.1 ++ [(0 : Int)] = beg0 (x.2.1 + (1 : Int)).toNat l) ∧ ((↑(List.length R) : Int) - (x.2.1 + (1 : Int))).toNat < ((↑(List.length R) : Int) - x.2.1).toNat) ∧ (l.contains x.2.1 = false → ((x.1.length + (1 : Nat)) * (8 : Nat) ≤ (140737488355328 : Nat) ∧ x.1.length + (1 : Nat) ≤ (4611686018427387904 : Nat)) ∧ ((-9223372036854775808 : Int) ≤ x.2.1 + (1 : Int) ∧ x.2.1 + (1 : Int) ≤ (9223372036854775807 : Int)) ∧ (some (Obj.box [V.list LK.part LI R]) = some (Obj.box [V.list LK.part LI R]) ∧ True) ∧ ((0 : Int) ≤ x.2.1 + (1 : Int) ∧ x.2.1 + (1 : Int) ≤ (↑(List.length R) : Int) ∧ x.1 ++ [(-1 : Int)] = beg0 (x.2.1 + (1 : Int)).toNat l) ∧ ((↑(List.length R) : Int) - (x.2.1 + (1 : Int))).toNat < ((↑(List.length R) : Int) - x.2.1).toNat)) ∧ (decide (x.2.1 < (↑(List.length R) : Int)) = false → ((some (Obj.box [V.list LK.part LI R]) = some (Obj.box [V.list LK.part LI R]) ∧ True) ∧ (0 : Int) ≤ (0 : Int) ∧ (0 : Int) ≤ (↑(List.length R) : Int) ∧ Rs (List.length R) (readsF R) (stepsF (List.length R) (rdsF R) (Fr (List.length R) l)) (Int.toNat (0 : Int)) (0 : Int) (0 : Nat) x.1) ∧ ∀ (x : List Int × Int × Unit), (0 : Int) ≤ x.2.1 ∧ x.2.1 ≤ (↑(List.length R) : Int) ∧ Rs (List.length R) (readsF R) (stepsF (List.length R) (rdsF R) (Fr (List.length R) l)) x.2.1.toNat (0 : Int) (0 : Nat) x.1 → (decide (x.2.1 < (↑x.1.length : Int)) = true → ((some (Obj.box [V.list LK.part LI R]) = some (Obj.box [V.list LK.part LI R]) ∧ True) ∧ (0 : Int) ≤ (0 : Int) ∧ (0 : Int) ≤ (↑(List.length R) : Int) ∧ Rs (List.length R) (readsF R) (stepsF (List.length R) (rdsF R) (Fr (List.length R) l)) x.2.1.toNat (0 : Int) (0 : Nat) x.1) ∧ ∀ (x_1 : List Int × Int × Unit), (0 : Int) ≤ x_1.2.1 ∧ x_1.2.1 ≤ (↑(List.length R) : Int) ∧ Rs (List.length R) (readsF R) (stepsF (List.length R) (rdsF R) (Fr (List.length R) l)) x.2.1.toNat x_1.2.1 (0 : Nat) x_1.1 → (decide (x_1.2.1 < (↑x_1.1.length : Int)) = true → ((some (Obj.box [V.list LK.part LI R]) = some (Obj.box [V.list LK.part LI R]) ∧ True) ∧ (0 : Int) ≤ (0 : Int) ∧ (0 : Int) ≤ (↑(readsF R x_1.2.1).length : Int) ∧ Rs (List.length R) (readsF R) (stepsF (List.length R) (rdsF R) (Fr (List.length R) l)) x.2.1.toNat x_1.2.1 (Int.toNat (0 : Int)) x_1.1) ∧ ∀ (x_2 : List Int × Int × Unit), (0 : Int) ≤ x_2.2.1 ∧ x_2.2.1 ≤ (↑(readsF R x_1.2.1).length : Int) ∧ Rs (List.length R) (readsF R) (stepsF (List.length R) (rdsF R) (Fr (List.length R) l)) x.2.1.toNat x_1.2.1 x_2.2.1.toNat x_2.1 → ((0 : Int) ≤ x_1.2.1 ∧ x_1.2.1 < (↑(List.length R) : Int)) ∧ ∀ (x_3 : List Int), R[x_1.2.1.toNat]? = some x_3 → (decide (x_2.2.1 < (↑x_3.length : Int)) = true → ((0 : Int) ≤ x_1.2.1 ∧ x_1.2.1 < (↑(List.length R) : Int)) ∧ ∀ (x_4 : List Int), R[x_1.2.1.toNat]? = some x_4 → ((0 : Int) ≤ x_2.2.1 ∧ x_2.2.1 < (↑x_4.length : Int)) ∧ ∀ (x_5 : Int), x_4[x_2.2.1.toNat]? = some x_5 → ((0 : Int) ≤ x_5 ∧ x_5 < (↑x_2.1.length : Int)) ∧ x_5.toNat < x_2.1.length ∧ ∀ (x_6 : Int), x_2.1[x_5.toNat]? = some x_6 → (decide ((0 : Int) ≤ x_6) = true → ((0 : Int) ≤ x_1.2.1 ∧ x_1.2.1 < (↑x_2.1.length : Int)) ∧ x_1.2.1.toNat < x_2.1.length ∧ ∀ (x_7 : Int), x_2.1[x_1.2.1.toNat]? = some x_7 → (decide (x_7 < (0 : Int)) = false → ((0 : Int) ≤ x_1.2.1 ∧ x_1.2.1 < (↑x_2.1.length : Int)) ∧ x_1.2.1.toNat < x_2.1.length ∧ ∀ (x_8 : Int), x_2.1[x_1.2.1.toNat]? = some x_8 → ((-9223372036854775808 : Int) ≤ x_6 + (1 : Int) ∧ x_6 + (1 : Int) ≤ (9223372036854775807 : Int)) ∧ (decide (x_6 + (1 : Int) < x_8) = true → ((-9223372036854775808 : Int) ≤ x_6 + (1 : Int) ∧ x_6 + (1 : Int) ≤ (9223372036854775807 : Int)) ∧ ((0 : Int) ≤ x_1.2.1 ∧ x_1.2.1 < (↑x_2.1.length : Int)) ∧ x_1.2.1.toNat < x_2.1.length ∧ ∀ (y : Int), x_2.1[x_1.2.1.toNat]? = some y → ((-9223372036854775808 : Int) ≤ x_2.2.1 + (1 : Int) ∧ x_2.2.1 + (1 : Int) ≤ (9223372036854775807 : Int)) ∧ (some (Obj.box [V.list LK.part LI R]) = some (Obj.box [V.list LK.part LI R]) ∧ True) ∧ ((0 : Int) ≤ x_2.2.1 + (1 : Int) ∧ x_2.2.1 + (1 : Int) ≤ (↑(readsF R x_1.2.1).length : Int) ∧ Rs (List.length R) (readsF R) (stepsF (List.length R) (rdsF R) (Fr (List.length R) l)) x.2.1.toNat x_1.2.1 (x_2.2.1 + (1 : Int)).toNat (x_2.1.set x_1.2.1.toNat (x_6 + (1 : Int)))) ∧ ((↑(readsF R x_1.2.1).length : Int) - (x_2.2.1 + (1 : Int))).toNat < ((↑(readsF R x_1.2.1).length : Int) - x_2.2.1).toNat) ∧ (decide (x_6 + (1 : Int) < x_8) = false → ((-9223372036854775808 : Int) ≤ x_2.2.1 + (1 : Int) ∧ x_2.2.1 + (1 : Int) ≤ (9223372036854775807 : Int)) ∧ (some (Obj.box [V.list LK.part LI R]) = some (Obj.box [V.list LK.part LI R]) ∧ True) ∧ ((0 : Int) ≤ x_2.2.1 + (1 : Int) ∧ x_2.2.1 + (1 : Int) ≤ (↑(readsF R x_1.2.1).length : Int) ∧ Rs (List.length R) (readsF R) (stepsF (List.length R) (rdsF R) (Fr (List.length R) l)) x.2.1.toNat x_1.2.1 (x_2.2.1 + (1 : Int)).toNat x_2.1) ∧ ((↑(readsF R x_1.2.1).length : Int) - (x_2.2.1 + (1 : Int))).toNat < ((↑(readsF R x_1.2.1).length : Int) - x_2.2.1).toNat)) ∧ (decide (x_7 < (0 : Int)) = !false → ((-9223372036854775808 : Int) ≤ x_6 + (1 : Int) ∧ x_6 + (1 : Int) ≤ (9223372036854775807 : Int)) ∧ ((0 : Int) ≤ x_1.2.1 ∧ x_1.2.1 < (↑x_2.1.length : Int)) ∧ x_1.2.1.toNat < x_2.1.length ∧ ∀ (y : Int), x_2.1[x_1.2.1.toNat]? = some y → ((-9223372036854775808 : Int) ≤ x_2.2.1 + (1 : Int) ∧ x_2.2.1 + (1 : Int) ≤ (9223372036854775807 : Int)) ∧ (some (Obj.box [V.list LK.part LI R]) = some (Obj.box [V.list LK.part LI R]) ∧ True) ∧ ((0 : Int) ≤ x_2.2.1 + (1 : Int) ∧ x_2.2.1 + (1 : Int) ≤ (↑(readsF R x_1.2.1).length : Int) ∧ Rs (List.length R) (readsF R) (stepsF (List.length R) (rdsF R) (Fr (List.length R) l)) x.2.1.toNat x_1.2.1 (x_2.2.1 + (1 : Int)).toNat (x_2.1.set x_1.2.1.toNat (x_6 + (1 : Int)))) ∧ ((↑(readsF R x_1.2.1).length : Int) - (x_2.2.1 + (1 : Int))).toNat < ((↑(readsF R x_1.2.1).length : Int) - x_2.2.1).toNat)) ∧ (decide ((0 : Int) ≤ x_6) = !true → ((-9223372036854775808 : Int) ≤ x_2.2.1 + (1 : Int) ∧ x_2.2.1 + (1 : Int) ≤ (9223372036854775807 : Int)) ∧ (some (Obj.box [V.list LK.part LI R]) = some (Obj.box [V.list LK.part LI R]) ∧ True) ∧ ((0 : Int) ≤ x_2.2.1 + (1 : Int) ∧ x_2.2.1 + (1 : Int) ≤ (↑(readsF R x_1.2.1).length : Int) ∧ Rs (List.length R) (readsF R) (stepsF (List.length R) (rdsF R) (Fr (List.length R) l)) x.2.1.toNat x_1.2.1 (x_2.2.1 + (1 : Int)).toNat x_2.1) ∧ ((↑(readsF R x_1.2.1).length : Int) - (x_2.2.1 + (1 : Int))).toNat < ((↑(readsF R x_1.2.1).length : Int) - x_2.2.1).toNat)) ∧ (decide (x_2.2.1 < (↑x_3.length : Int)) = false → ((-9223372036854775808 : Int) ≤ x_1.2.1 + (1 : Int) ∧ x_1.2.1 + (1 : Int) ≤ (9223372036854775807 : Int)) ∧ (some (Obj.box [V.list LK.part LI R]) = some (Obj.box [V.list LK.part LI R]) ∧ True) ∧ ((0 : Int) ≤ x_1.2.1 + (1 : Int) ∧ x_1.2.1 + (1 : Int) ≤ (↑(List.length R) : Int) ∧ Rs (List.length R) (readsF R) (stepsF (List.length R) (rdsF R) (Fr (List.length R) l)) x.2.1.toNat (x_1.2.1 + (1 : Int)) (0 : Nat) x_2.1) ∧ ((↑(List.length R) : Int) - (x_1.2.1 + (1 : Int))).toNat < ((↑(List.length R) : Int) - x_1.2.1).toNat)) ∧ (decide (x_1.2.1 < (↑x_1.1.length : Int)) = false → ((-9223372036854775808 : Int) ≤ x.2.1 + (1 : Int) ∧ x.2.1 + (1 : Int) ≤ (9223372036854775807 : Int)) ∧ (some (Obj.box [V.list LK.part LI R]) = some (Obj.box [V.list LK.part LI R]) ∧ True) ∧ ((0 : Int) ≤ x.2.1 + (1 : Int) ∧ x.2.1 + (1 : Int) ≤ (↑(List.length R) : Int) ∧ Rs (List.length R) (readsF R) (stepsF (List.length R) (rdsF R) (Fr (List.length R) l)) (x.2.1 + (1 : Int)).toNat (0 : Int) (0 : Nat) x_1.1) ∧ ((↑(List.length R) : Int) - (x.2.1 + (1 : Int))).toNat < ((↑(List.length R) : Int) - x.2.1).toNat)) ∧ (decide (x.2.1 < (↑x.1.length : Int)) = false → (x.1, ()) = (stepsF (List.length R) (rdsF R) (Fr (List.length R) l), ())))
theorem g_rsteps_eq (R : GI) (l : List Int) : Cond (env_rsteps R l) Try.f36 [.agg [.list .part LI R], .list .tmp I l] [.list .part I] (stepsF R.length (rdsF R) (Fr R.length l), ()) = g_rsteps_vc R l := by kernel_rfl
theorem g_rsteps_ok (R : GI) (l : List Int) (h : GOk R ∧ l.length ≤ 1000000000) : g_rsteps_vc R l := by
  unfold g_rsteps_vc
  simp only [decide_eq_true_eq, decide_eq_false_iff_not, Bool.not_eq_true', Bool.not_eq_false', Bool.not_true, Bool.not_false]
  obtain ⟨hG, hl⟩ := h
  have hR := hG.1
  have hT := steps_table (n := R.length) (nx := rdsF R) (F := Fr R.length l) fr_dom (rds_dom hG)
  have hr := rds_iff hG
  generalize stepsF R.length (rdsF R) (Fr R.length l) = T at hT ⊢
  refine ⟨⟨⟨trivial, trivial⟩, by omega, by omega, rfl⟩, ?_⟩
  rintro ⟨o, i, ⟨⟩⟩ ⟨h0, h1, h2⟩
  dsimp only at h0 h1 h2 ⊢
  have hlen : o.length = i.toNat := by rw [h2]; simp [beg0]
  refine ⟨fun hi => ⟨hl, fun hc => ⟨⟨by omega, by omega⟩, by omega, ⟨trivial, trivial⟩, ⟨by omega, by omega, ?_⟩, by omega⟩, fun hc => ⟨⟨by omega, by omega⟩, by omega, ⟨trivial, trivial⟩, ⟨by omega, by omega, ?_⟩, by omega⟩⟩, fun hi => ⟨⟨⟨trivial, trivial⟩, by omega, by omega, ?_⟩, ?_⟩⟩
  · rw [show (i + 1).toNat = i.toNat + 1 by omega, beg0_succ, h2, Int.toNat_of_nonneg h0, if_pos hc]
  · rw [show (i + 1).toNat = i.toNat + 1 by omega, beg0_succ, h2, Int.toNat_of_nonneg h0, if_neg (by rw [hc]; decide)]
  · rw [h2, show i.toNat = List.length R by omega]
    exact Rs.begin hT
  clear hi hlen h0 h1 h2 i o
  rintro ⟨b, k, ⟨⟩⟩ ⟨k0, k1, hA⟩
  dsimp only at k0 k1 hA ⊢
  have hlen := hA.len
  refine ⟨fun hk => ⟨⟨⟨trivial, trivial⟩, by omega, by omega, hA⟩, ?_⟩, fun hk => (by rw [hA.fin hT (by omega)])⟩
  have hk2 : k < R.length := by omega
  clear hA hlen b hk
  rintro ⟨b, j, ⟨⟩⟩ ⟨j0, j1, hA⟩
  dsimp only at j0 j1 hA ⊢
  have hlen := hA.len
  refine ⟨fun hj => ⟨⟨⟨trivial, trivial⟩, by omega, by omega, hA⟩, ?_⟩, fun hj => ⟨by omega, ⟨trivial, trivial⟩, ⟨by omega, by omega, by rw [show (k + 1).toNat = k.toNat + 1 by omega]; exact hA.round hT (by omega)⟩, by omega⟩⟩
  have hjd : Dom R.length j := ⟨j0, by omega⟩
  have hjd2 : 0 ≤ j ∧ j < R.length := hjd
  have hrl := reads_le (v := j) (gok_le hG)
  clear hA hlen hj b
  rintro ⟨b, i, ⟨⟩⟩ ⟨i0, i1, hA⟩
  dsimp only at i0 i1 hA ⊢
  have hlen := hA.len
  refine ⟨hjd2, fun rj hrj => ?_⟩
  have e := reads_at hjd2
  rw [hrj] at e
  cases e
  refine ⟨fun hi => ⟨hjd2, fun rj2 hrj2 => ?_⟩, fun hi => ⟨by omega, ⟨trivial, trivial⟩, ⟨by omega, by omega, hA.next hT hr (by omega)⟩, by omega⟩⟩
  have e := reads_at hjd2
  rw [hrj2] at e
  cases e
  refine ⟨⟨i0, hi⟩, fun u hu => ?_⟩
  have hud := reads_dom hG j u hjd (List.mem_of_getElem? hu)
  have hud2 : 0 ≤ u ∧ u < R.length := hud
  have htu := hA.top u
  refine ⟨⟨hud2.1, by omega⟩, by omega, fun ou hou => ?_⟩
  have eu := atI_get (o := b) (v := u) (by rw [hlen]; exact hud)
  rw [hou] at eu
  cases eu
  have skip : (atI b u < 0 ∨ (0 ≤ atI b j ∧ atI b j ≤ atI b u + 1)) → Rs R.length (readsF R) T k.toNat j (i + 1).toNat b := fun hs => by
    rw [show (i + 1).toNat = i.toNat + 1 by omega]
    exact hA.skip hu hs
  have step : 0 ≤ atI b u → (atI b j < 0 ∨ atI b u + 1 < atI b j) → Rs R.length (readsF R) T k.toNat j (i + 1).toNat (b.set j.toNat (atI b u + 1)) := fun h1 h2 => by
    rw [show (i + 1).toNat = i.toNat + 1 by omega]
    exact hA.step hT hr hjd hu h1 h2
  refine ⟨fun h0 => ⟨⟨j0, by omega⟩, by omega, fun oj hoj => ?_⟩, fun h0 => ⟨by omega, ⟨trivial, trivial⟩, ⟨by omega, by omega, skip (.inl (by omega))⟩, by omega⟩⟩
  have ej := atI_get (o := b) (v := j) (by rw [hlen]; exact hjd)
  rw [hoj] at ej
  cases ej
  refine ⟨fun hn => ⟨⟨j0, by omega⟩, by omega, fun oj2 hoj2 => ?_⟩, fun hn => ⟨by omega, ⟨j0, by omega⟩, by omega, fun y _ => ⟨by omega, ⟨trivial, trivial⟩, ⟨by omega, by omega, step h0 (.inl hn)⟩, by omega⟩⟩⟩
  rw [hoj] at hoj2
  cases hoj2
  exact ⟨by omega, fun hlt => ⟨by omega, ⟨j0, by omega⟩, by omega, fun y _ => ⟨by omega, ⟨trivial, trivial⟩, ⟨by omega, by omega, step h0 (.inr hlt)⟩, by omega⟩⟩, fun hge => ⟨by omega, ⟨trivial, trivial⟩, ⟨by omega, by omega, skip (.inr ⟨by omega, by omega⟩)⟩, by omega⟩⟩
theorem rsteps_pure (R : GI) (l : List Int) (h : GOk R ∧ l.length ≤ 1000000000) : Pure Try.prog 36 [.agg [.list .part LI R], .list .tmp I l] (.list .part I (stepsF R.length (rdsF R) (Fr R.length l))) :=
  by have k := Pure.of_cond (g_rsteps_eq R l) (g_rsteps_ok R l h) (specs_ok rfl [sp_has'] [] rfl rfl) mixed Try.func36; exact k
noncomputable def q_rsteps (R : GI) (l : List Int) : Prop × V := (GOk R ∧ l.length ≤ 1000000000, (.list .part I (stepsF R.length (rdsF R) (Fr R.length l))))
noncomputable def sp_rsteps : FSpec Try.prog where
 f := 36
 run := fun
  | [.agg [v0_0], v1] => (asP LI v0_0 : Option (GI)).bind fun R => (asL I v1 : Option (List Int)).bind fun l => some (q_rsteps R l)
  | _ => none
 ok := fun args pre r h hp => by
  split at h
  · rename_i v0_0 v1
    obtain ⟨R, h0_0, h⟩ := Option.bind_eq_some_iff.1 h
    obtain ⟨l, h1, h⟩ := Option.bind_eq_some_iff.1 h
    exact of_q h hp fun h => (rsteps_pure R l h).weak (.cons (Weak.agg (.cons (asP_weak h0_0) .nil)) (.cons (asL_weak h1) .nil))
  · cases h

end Go.Proofs.Ytojflfogjkajaaa.Rc
