/-
  account: its small functions.
-/
import Derived.Test.YtgjpehgnagfghaaGreatIdx
import Derived.Test.YtgjpehgnagfghaaGreatAcc1
namespace Go.Proofs.YtgjpehgnagfghaaGreat.Acc
open Go.Vm
noncomputable def env_is (l : List AcD) (a : Int) : Env where
  P := Tryz.prog
  ty := tys0
def g_is_vc (l : List AcD) (a : Int) : Prop :=
  (decide ((1 : Int) ≤ a) = true → (decide (a ≤ (↑l.length : Int)), ()) = (decide (isIn l a), ())) ∧ (decide ((1 : Int) ≤ a) = !true → (false, ()) = (decide (isIn l a), ()))
theorem g_is_eq (l : List AcD) (a : Int) : Cond (env_is l a) Tryz.f94 [.list .tmp AcT l, .int .i64 a] [.bool] (decide (isIn l a), ()) = g_is_vc l a := by kernel_rfl
theorem g_is_ok (l : List AcD) (a : Int) : g_is_vc l a := by
  unfold g_is_vc
  simp only [decide_eq_true_eq, decide_eq_false_iff_not, Bool.not_true, Prod.mk.injEq, and_true]
  refine ⟨fun h => decide_eq_decide.2 ⟨fun k => ⟨h, k⟩, fun k => k.2⟩, fun h => ?_⟩
  rw [decide_eq_false (fun k : isIn l a => h k.1)]
set_option maxRecDepth 20000
theorem is_pure (l : List AcD) (a : Int) : Pure Tryz.prog 94 [.list .tmp AcT l, .int .i64 a] (.bool (decide (isIn l a))) :=
  by have k := Pure.of_cond (g_is_eq l a) (g_is_ok l a) (specs_ok rfl [] [] rfl rfl) mixed Tryz.func94; exact k
noncomputable def q_is (l : List AcD) (a : Int) : Prop × V := (True, (.bool (decide (isIn l a))))
noncomputable def sp_is : FSpec Tryz.prog where
 f := 94
 run := fun
  | [v0, .int .i64 a] => (asL AcT v0 : Option (List AcD)).bind fun l => some (q_is l a)
  | _ => none
 ok := fun args pre r h hp => by
  split at h
  · rename_i v0 a
    obtain ⟨l, h0, h⟩ := Option.bind_eq_some_iff.1 h
    exact of_q h hp fun h => (is_pure l a).weak (.cons (asL_weak h0) (.cons (.refl _) .nil))
  · cases h
noncomputable def env_ris (l : List AcD) (a : Int) : Env where
  P := Tryz.prog
  ty := tys0
def g_ris_vc (l : List AcD) (a : Int) : Prop :=
  (decide ((1 : Int) ≤ a) = true → (decide (a ≤ (↑l.length : Int)), ()) = (decide (isIn l a), ())) ∧ (decide ((1 : Int) ≤ a) = !true → (false, ()) = (decide (isIn l a), ()))
theorem g_ris_eq (l : List AcD) (a : Int) : Cond (env_ris l a) Tryz.f142 [.list .tmp AcT l, .int .i64 a] [.bool] (decide (isIn l a), ()) = g_ris_vc l a := by kernel_rfl
theorem g_ris_ok (l : List AcD) (a : Int) : g_ris_vc l a := by
  unfold g_ris_vc
  simp only [decide_eq_true_eq, decide_eq_false_iff_not, Bool.not_true, Prod.mk.injEq, and_true]
  refine ⟨fun h => decide_eq_decide.2 ⟨fun k => ⟨h, k⟩, fun k => k.2⟩, fun h => ?_⟩
  rw [decide_eq_false (fun k : isIn l a => h k.1)]
theorem ris_pure (l : List AcD) (a : Int) : Pure Tryz.prog 142 [.list .tmp AcT l, .int .i64 a] (.bool (decide (isIn l a))) :=
  by have k := Pure.of_cond (g_ris_eq l a) (g_ris_ok l a) (specs_ok rfl [] [] rfl rfl) mixed Tryz.func142; exact k
noncomputable def q_ris (l : List AcD) (a : Int) : Prop × V := (True, (.bool (decide (isIn l a))))
noncomputable def sp_ris : FSpec Tryz.prog where
 f := 142
 run := fun
  | [v0, .int .i64 a] => (asL AcT v0 : Option (List AcD)).bind fun l => some (q_ris l a)
  | _ => none
 ok := fun args pre r h hp => by
  split at h
  · rename_i v0 a
    obtain ⟨l, h0, h⟩ := Option.bind_eq_some_iff.1 h
    exact of_q h hp fun h => (ris_pure l a).weak (.cons (asL_weak h0) (.cons (.refl _) .nil))
  · cases h
def placeF (p n : Int) : Int := if p < 0 ∨ n < p then 21 else if 1 ≤ p ∧ p ≤ 3 then 28 else 0
def kindF (k : Int) (s q : Bool) : Int := if k < 1 ∨ 3 < k ∨ (s = true ∧ q = true) then 25 else 0
def mayA (x : AcD) (n : Int) : Int := if placeF x.1 n = 0 then kindF x.2.1 x.2.2.1 x.2.2.2 else placeF x.1 n
noncomputable def env_place (p n : Int) : Env where
  P := Tryz.prog
  ty := tys0
def g_place_vc (p : Int) (n : Int) : Prop :=
  (decide (p < (0 : Int)) = false → (decide (n < p) = true → ((21 : Int), ()) = (placeF p n, ())) ∧ (decide (n < p) = false → (decide ((1 : Int) ≤ p) = true → (decide (p ≤ (3 : Int)) = true → ((28 : Int), ()) = (placeF p n, ())) ∧ (decide (p ≤ (3 : Int)) = false → ((0 : Int), ()) = (placeF p n, ()))) ∧ (decide ((1 : Int) ≤ p) = !true → ((0 : Int), ()) = (placeF p n, ())))) ∧ (decide (p < (0 : Int)) = !false → ((21 : Int), ()) = (placeF p n, ()))
theorem g_place_eq (p n : Int) : Cond (env_place p n) Tryz.f69 [.int .i64 p, .int .i64 n] [.int .i64] (placeF p n, ()) = g_place_vc p n := by kernel_rfl
theorem g_place_ok (p n : Int) : g_place_vc p n := by
  unfold g_place_vc placeF
  simp only [decide_eq_true_eq, decide_eq_false_iff_not, Bool.not_false, Bool.not_true]
  repeat' (first | with_reducible apply And.intro | intro _)
  all_goals (try congr 1)
  all_goals repeat' split
  all_goals first | rfl | omega | (simp_all; done) | (simp_all; omega)
theorem place_pure (p n : Int) : Pure Tryz.prog 69 [.int .i64 p, .int .i64 n] (.int .i64 (placeF p n)) :=
  by have k := Pure.of_cond (g_place_eq p n) (g_place_ok p n) (specs_ok rfl [] [] rfl rfl) mixed Tryz.func69; exact k
noncomputable def q_place (p n : Int) : Prop × V := (True, (.int .i64 (placeF p n)))
noncomputable def sp_place : FSpec Tryz.prog where
 f := 69
 run := fun
  | [.int .i64 p, .int .i64 n] => some (q_place p n)
  | _ => none
 ok := fun args pre r h hp => by
  split at h
  · rename_i p n
    exact of_q h hp fun h => (place_pure p n).weak (.cons (.refl _) (.cons (.refl _) .nil))
  · cases h
noncomputable def env_kind (a k : Int) (s q : Bool) : Env where
  P := Tryz.prog
  ty := tys0
def g_kind_vc (a : Int) (k : Int) (s : Bool) (q : Bool) : Prop :=
  (decide (k < (1 : Int)) = false → (decide ((3 : Int) < k) = false → (s = true → (q = true → ((25 : Int), ()) = (kindF k s q, ())) ∧ (q = false → ((0 : Int), ()) = (kindF k s q, ()))) ∧ (s = !true → ((0 : Int), ()) = (kindF k s q, ()))) ∧ (decide ((3 : Int) < k) = !false → ((25 : Int), ()) = (kindF k s q, ()))) ∧ (decide (k < (1 : Int)) = !false → ((25 : Int), ()) = (kindF k s q, ()))
theorem g_kind_eq (a k : Int) (s q : Bool) : Cond (env_kind a k s q) Tryz.f70 [.agg [.int .i64 a, .int .i64 k, .bool s, .bool q]] [.int .i64] (kindF k s q, ()) = g_kind_vc a k s q := by kernel_rfl
theorem g_kind_ok (a k : Int) (s q : Bool) : g_kind_vc a k s q := by
  unfold g_kind_vc kindF
  simp only [decide_eq_true_eq, decide_eq_false_iff_not, Bool.not_false, Bool.not_true]
  repeat' (first | with_reducible apply And.intro | intro _)
  all_goals (try congr 1)
  all_goals repeat' split
  all_goals first | rfl | omega | (simp_all; done) | (simp_all; omega)
theorem kind_pure (a k : Int) (s q : Bool) : Pure Tryz.prog 70 [.agg [.int .i64 a, .int .i64 k, .bool s, .bool q]] (.int .i64 (kindF k s q)) :=
  by have k := Pure.of_cond (g_kind_eq a k s q) (g_kind_ok a k s q) (specs_ok rfl [] [] rfl rfl) mixed Tryz.func70; exact k
noncomputable def q_kind (a k : Int) (s q : Bool) : Prop × V := (True, (.int .i64 (kindF k s q)))
noncomputable def sp_kind : FSpec Tryz.prog where
 f := 70
 run := fun
  | [.agg [.int .i64 a, .int .i64 k, v0_2, v0_3]] => (boolOf v0_2).bind fun s => (boolOf v0_3).bind fun q => some (q_kind a k s q)
  | _ => none
 ok := fun args pre r h hp => by
  split at h
  · rename_i a k v0_2 v0_3
    obtain ⟨s, h0_2, h⟩ := Option.bind_eq_some_iff.1 h
    obtain ⟨q, h0_3, h⟩ := Option.bind_eq_some_iff.1 h
    exact of_q h hp fun h => (kind_pure a k s q).weak (.cons (Weak.agg (.cons (.refl _) (.cons (.refl _) (.cons (boolOf_weak h0_2) (.cons (boolOf_weak h0_3) .nil))))) .nil)
  · cases h
noncomputable def env_rmay (a k : Int) (s q : Bool) (n : Int) : Env where
  P := Tryz.prog
  ty := tys0
def g_rmay_vc (a : Int) (k : Int) (s : Bool) (q : Bool) (n : Int) : Prop :=
  (decide (a < (0 : Int)) = false → (decide (n < a) = true → ((21 : Int), ()) = (mayA (a, k, s, q) n, ())) ∧ (decide (n < a) = false → (decide ((1 : Int) ≤ a) = true → (decide (a ≤ (3 : Int)) = true → ((28 : Int), ()) = (mayA (a, k, s, q) n, ())) ∧ (decide (a ≤ (3 : Int)) = false → (decide (k < (1 : Int)) = false → (decide ((3 : Int) < k) = false → (s = true → (q = true → ((25 : Int), ()) = (mayA (a, k, s, q) n, ())) ∧ (q = false → ((0 : Int), ()) = (mayA (a, k, s, q) n, ()))) ∧ (s = !true → ((0 : Int), ()) = (mayA (a, k, s, q) n, ()))) ∧ (decide ((3 : Int) < k) = !false → ((25 : Int), ()) = (mayA (a, k, s, q) n, ()))) ∧ (decide (k < (1 : Int)) = !false → ((25 : Int), ()) = (mayA (a, k, s, q) n, ())))) ∧ (decide ((1 : Int) ≤ a) = !true → (decide (k < (1 : Int)) = false → (decide ((3 : Int) < k) = false → (s = true → (q = true → ((25 : Int), ()) = (mayA (a, k, s, q) n, ())) ∧ (q = false → ((0 : Int), ()) = (mayA (a, k, s, q) n, ()))) ∧ (s = !true → ((0 : Int), ()) = (mayA (a, k, s, q) n, ()))) ∧ (decide ((3 : Int) < k) = !false → ((25 : Int), ()) = (mayA (a, k, s, q) n, ()))) ∧ (decide (k < (1 : Int)) = !false → ((25 : Int), ()) = (mayA (a, k, s, q) n, ()))))) ∧ (decide (a < (0 : Int)) = !false → ((21 : Int), ()) = (mayA (a, k, s, q) n, ()))
theorem g_rmay_eq (a k : Int) (s q : Bool) (n : Int) : Cond (env_rmay a k s q n) Tryz.f87 [.agg [.int .i64 a, .int .i64 k, .bool s, .bool q], .int .i64 n] [.int .i64] (mayA (a, k, s, q) n, ()) = g_rmay_vc a k s q n := by kernel_rfl
theorem g_rmay_ok (a k : Int) (s q : Bool) (n : Int) : g_rmay_vc a k s q n := by
  unfold g_rmay_vc mayA kindF placeF
  simp only [decide_eq_true_eq, decide_eq_false_iff_not, Bool.not_false, Bool.not_true]
  repeat' (first | with_reducible apply And.intro | intro _)
  all_goals (try congr 1)
  all_goals repeat' split
  all_goals first | rfl | omega | (simp_all; done) | (simp_all; omega)
theorem rmay_pure (a k : Int) (s q : Bool) (n : Int) : Pure Tryz.prog 87 [.agg [.int .i64 a, .int .i64 k, .bool s, .bool q], .int .i64 n] (.int .i64 (mayA (a, k, s, q) n)) :=
  by have k := Pure.of_cond (g_rmay_eq a k s q n) (g_rmay_ok a k s q n) (specs_ok rfl [] [] rfl rfl) mixed Tryz.func87; exact k
noncomputable def q_rmay (a k : Int) (s q : Bool) (n : Int) : Prop × V := (True, (.int .i64 (mayA (a, k, s, q) n)))
noncomputable def sp_rmay : FSpec Tryz.prog where
 f := 87
 run := fun
  | [.agg [.int .i64 a, .int .i64 k, v0_2, v0_3], .int .i64 n] => (boolOf v0_2).bind fun s => (boolOf v0_3).bind fun q => some (q_rmay a k s q n)
  | _ => none
 ok := fun args pre r h hp => by
  split at h
  · rename_i a k v0_2 v0_3 n
    obtain ⟨s, h0_2, h⟩ := Option.bind_eq_some_iff.1 h
    obtain ⟨q, h0_3, h⟩ := Option.bind_eq_some_iff.1 h
    exact of_q h hp fun h => (rmay_pure a k s q n).weak (.cons (Weak.agg (.cons (.refl _) (.cons (.refl _) (.cons (boolOf_weak h0_2) (.cons (boolOf_weak h0_3) .nil))))) (.cons (.refl _) .nil))
  · cases h
abbrev ownL : List AcD := [(0, 1, true, false), (0, 1, false, false), (0, 1, false, false)]
noncomputable def env_new : Env where
  P := Tryz.prog
  ty := tys0
def g_new_vc : Prop :=
  ([((0 : Int), (1 : Int), true, false), ((0 : Int), (1 : Int), false, false), ((0 : Int), (1 : Int), false, false)], ()) = (ownL, ())
theorem g_new_eq  : Cond (env_new ) Tryz.f50 [] [.list .full AcT] (ownL, ()) = g_new_vc  := by kernel_rfl
theorem g_new_ok : g_new_vc := rfl
theorem new_pure  : Pure Tryz.prog 50 [] (.list .full AcT ownL) :=
  by have k := Pure.of_cond (g_new_eq ) (g_new_ok ) (specs_ok rfl [] [] rfl rfl) mixed Tryz.func50; exact k
noncomputable def q_new  : Prop × V := (True, (.list .full AcT ownL))
noncomputable def sp_new : FSpec Tryz.prog where
 f := 50
 run := fun
  | [] => some (q_new )
  | _ => none
 ok := fun args pre r h hp => by
  split at h
  · skip
    exact of_q h hp fun h => (new_pure ).weak .nil
  · cases h
noncomputable def env_rnew : Env where
  P := Tryz.prog
  ty := tys0
def g_rnew_vc : Prop :=
  ([((0 : Int), (1 : Int), true, false), ((0 : Int), (1 : Int), false, false), ((0 : Int), (1 : Int), false, false)], ()) = (ownL, ())
theorem g_rnew_eq  : Cond (env_rnew ) Tryz.f51 [] [.list .full AcT] (ownL, ()) = g_rnew_vc  := by kernel_rfl
theorem g_rnew_ok : g_rnew_vc := rfl
theorem rnew_pure  : Pure Tryz.prog 51 [] (.list .full AcT ownL) :=
  by have k := Pure.of_cond (g_rnew_eq ) (g_rnew_ok ) (specs_ok rfl [] [] rfl rfl) mixed Tryz.func51; exact k
noncomputable def q_rnew  : Prop × V := (True, (.list .full AcT ownL))
noncomputable def sp_rnew : FSpec Tryz.prog where
 f := 51
 run := fun
  | [] => some (q_rnew )
  | _ => none
 ok := fun args pre r h hp => by
  split at h
  · skip
    exact of_q h hp fun h => (rnew_pure ).weak .nil
  · cases h
noncomputable def env_round (l : List AcD) (a : Int) : Env where
  P := Tryz.prog
  ty := tys0
  specs := specsOf [sp_is]
  heads := fun | 3 => some { slots := [(9, .int .i64), (5, .int .i64)], boxes := [], inv := fun _ (x : Int × Int × Unit) => 0 ≤ x.1 ∧ x.1 ≤ l.length ∧ isIn l x.2.1 ∧ rndGo l a l.length a = rndGo l a (l.length - x.1.toNat) x.2.1, measure := fun _ (x : Int × Int × Unit) => (l.length - x.1).toNat } | _ => none
def g_round_vc (l : List AcD) (a : Int) : Prop :=
  (True ∧ (0 : Int) ≤ (0 : Int) ∧ (0 : Int) ≤ (↑l.length : Int) ∧ isIn l a ∧ rndGo l a l.length a = rndGo l a (l.length - Int.toNat (0 : Int)) a) ∧ ∀ (x : Int × Int × Unit), (0 : Int) ≤ x.1 ∧ x.1 ≤ (↑l.length : Int) ∧ isIn l x.2.1 ∧ rndGo l a l.length a = rndGo l a (l.length - x.1.toNat) x.2.1 → (decide (x.1 < (↑l.length : Int)) = true → ((-9223372036854775808 : Int) ≤ x.2.1 - (1 : Int) ∧ x.2.1 - (1 : Int) ≤ (9223372036854775807 : Int)) ∧ ((0 : Int) ≤ x.2.1 - (1 : Int) ∧ x.2.1 - (1 : Int) < (↑l.length : Int)) ∧ ∀ (x_1 : Int × Int × Bool × Bool), l[(x.2.1 - (1 : Int)).toNat]? = some x_1 → (decide (x_1.1 = a) = false → True ∧ ((!decide (isIn l x_1.1)) = true → (decide (x_1.1 = a), ()) = (roundF l a, ())) ∧ ((!decide (isIn l x_1.1)) = false → ((-9223372036854775808 : Int) ≤ x.1 + (1 : Int) ∧ x.1 + (1 : Int) ≤ (9223372036854775807 : Int)) ∧ True ∧ ((0 : Int) ≤ x.1 + (1 : Int) ∧ x.1 + (1 : Int) ≤ (↑l.length : Int) ∧ isIn l x_1.1 ∧ rndGo l a l.length a = rndGo l a (l.length - (x.1 + (1 : Int)).toNat) x_1.1) ∧ ((↑l.length : Int) - (x.1 + (1 : Int))).toNat < ((↑l.length : Int) - x.1).toNat)) ∧ (decide (x_1.1 = a) = !false → (decide (x_1.1 = a), ()) = (roundF l a, ()))) ∧ (decide (x.1 < (↑l.length : Int)) = false → (decide (x.2.1 = a), ()) = (roundF l a, ()))
theorem g_round_eq (l : List AcD) (a : Int) : Cond (env_round l a) Tryz.f72 [.list .tmp AcT l, .int .i64 a] [.bool] (roundF l a, ()) = g_round_vc l a := by kernel_rfl
theorem rnd_next {l : List AcD} {a p : Int} {f : Nat} (hf : 0 < f) : rndGo l a f p = if parA l p = a ∨ ¬ isIn l (parA l p) then parA l p else rndGo l a (f - 1) (parA l p) := by
  obtain ⟨g, rfl⟩ : ∃ g, f = g + 1 := ⟨f - 1, by omega⟩
  rfl
theorem g_round_ok (l : List AcD) (a : Int) (h : isIn l a ∧ l.length ≤ 1000000000) : g_round_vc l a := by
  unfold g_round_vc roundF
  simp only [decide_eq_true_eq, decide_eq_false_iff_not, Bool.not_false, Bool.not_true]
  obtain ⟨ha, hl⟩ := h
  refine ⟨⟨trivial, by omega, by omega, ha, by rw [show l.length - Int.toNat 0 = l.length by omega]⟩, ?_⟩
  rintro ⟨i, p, ⟨⟩⟩ ⟨h0, h1, ⟨hp1, hp2⟩, hb⟩
  dsimp only at h0 h1 hp1 hp2 hb ⊢
  refine ⟨fun d => ⟨by omega, by omega, fun x hx => ⟨fun k => ⟨trivial, fun m => ?_, fun m => ⟨by omega, trivial, ⟨by omega, by omega, ?_, ?_⟩, by omega⟩⟩, fun k => ?_⟩⟩, fun d => ?_⟩
  · rw [hb, rnd_next (by omega), parA_at hx, if_pos (.inr (by simpa using m))]
  · simpa using m
  · rw [hb, rnd_next (by omega), parA_at hx, if_neg (fun c => c.elim k (fun c => c (by simpa using m))), show l.length - (i + 1).toNat = l.length - i.toNat - 1 by omega]
  · rw [hb, rnd_next (by omega), parA_at hx, if_pos (.inl k)]
  · rw [hb, show l.length - i.toNat = 0 by omega, rndGo]
theorem round_pure (l : List AcD) (a : Int) (h : isIn l a ∧ l.length ≤ 1000000000) : Pure Tryz.prog 72 [.list .tmp AcT l, .int .i64 a] (.bool (roundF l a)) :=
  by have k := Pure.of_cond (g_round_eq l a) (g_round_ok l a h) (specs_ok rfl [sp_is] [] rfl rfl) mixed Tryz.func72; exact k
noncomputable def q_round (l : List AcD) (a : Int) : Prop × V := (isIn l a ∧ l.length ≤ 1000000000, (.bool (roundF l a)))
noncomputable def sp_round : FSpec Tryz.prog where
 f := 72
 run := fun
  | [v0, .int .i64 a] => (asL AcT v0 : Option (List AcD)).bind fun l => some (q_round l a)
  | _ => none
 ok := fun args pre r h hp => by
  split at h
  · rename_i v0 a
    obtain ⟨l, h0, h⟩ := Option.bind_eq_some_iff.1 h
    exact of_q h hp fun h => (round_pure l a h).weak (.cons (asL_weak h0) (.cons (.refl _) .nil))
  · cases h
def upLf (a : Int) (x : AcD) : Bool := decide (x.1 = a)
noncomputable def env_lf1 (p k : Int) (s q : Bool) (a : Int) : Env where
  P := Tryz.prog
  ty := tys0
def g_lf1_vc (p : Int) (k : Int) (s : Bool) (q : Bool) (a : Int) : Prop :=
  (decide (p = a), ()) = (upLf a (p, k, s, q), ())
theorem g_lf1_eq (p k : Int) (s q : Bool) (a : Int) : Cond (env_lf1 p k s q a) Tryz.f97 [.agg [.int .i64 p, .int .i64 k, .bool s, .bool q], .fptr [.int .i64 a]] [.bool] (upLf a (p, k, s, q), ()) = g_lf1_vc p k s q a := by kernel_rfl
theorem g_lf1_ok (p k : Int) (s q : Bool) (a : Int) : g_lf1_vc p k s q a := by
  unfold g_lf1_vc
  exact rfl
theorem lf1_pure (p k : Int) (s q : Bool) (a : Int) : Pure Tryz.prog 97 [.agg [.int .i64 p, .int .i64 k, .bool s, .bool q], .fptr [.int .i64 a]] (.bool (upLf a (p, k, s, q))) :=
  by have k := Pure.of_cond (g_lf1_eq p k s q a) (g_lf1_ok p k s q a) (specs_ok rfl [] [] rfl rfl) mixed Tryz.func97; exact k
noncomputable def q_lf1 (p k : Int) (s q : Bool) (a : Int) : Prop × V := (True, (.bool (upLf a (p, k, s, q))))
noncomputable def sp_lf1 : FSpec Tryz.prog where
 f := 97
 run := fun
  | [.agg [.int .i64 p, .int .i64 k, v0_2, v0_3], .fptr [.int .i64 a]] => (boolOf v0_2).bind fun s => (boolOf v0_3).bind fun q => some (q_lf1 p k s q a)
  | _ => none
 ok := fun args pre r h hp => by
  split at h
  · rename_i p k v0_2 v0_3 a
    obtain ⟨s, h0_2, h⟩ := Option.bind_eq_some_iff.1 h
    obtain ⟨q, h0_3, h⟩ := Option.bind_eq_some_iff.1 h
    exact of_q h hp fun h => (lf1_pure p k s q a).weak (.cons (Weak.agg (.cons (.refl _) (.cons (.refl _) (.cons (boolOf_weak h0_2) (.cons (boolOf_weak h0_3) .nil))))) (.cons (.refl _) .nil))
  · cases h
noncomputable def env_lidx (l : List AcD) (a : Int) : Env where
  P := Tryz.prog
  ty := tys0
  specs := specsOf [sp_lf1]
  heads := fun | 2 => some { slots := [(8, .int .i64)], boxes := [], inv := fun _ (x : Int × Unit) => 0 ≤ x.1 ∧ x.1 ≤ l.length ∧ idxF (upLf a) l = idxGo (upLf a) (l.drop x.1.toNat) x.1, measure := fun _ (x : Int × Unit) => (l.length - x.1).toNat } | _ => none
def g_lidx_vc (l : List AcD) (a : Int) : Prop :=
  (True ∧ (0 : Int) ≤ (0 : Int) ∧ (0 : Int) ≤ (↑l.length : Int) ∧ idxF (upLf a) l = idxGo (upLf a) (List.drop (Int.toNat (0 : Int)) l) (0 : Int)) ∧ ∀ (x : Int × Unit), (0 : Int) ≤ x.1 ∧ x.1 ≤ (↑l.length : Int) ∧ idxF (upLf a) l = idxGo (upLf a) (List.drop x.1.toNat l) x.1 → (decide (x.1 < (↑l.length : Int)) = true → ((0 : Int) ≤ x.1 ∧ x.1 < (↑l.length : Int)) ∧ ∀ (x_1 : Int × Int × Bool × Bool), l[x.1.toNat]? = some x_1 → True ∧ (upLf a (x_1.1, x_1.2.1, x_1.2.2.1, x_1.2.2.2) = true → (x.1, ()) = (idxF (upLf a) l, ())) ∧ (upLf a (x_1.1, x_1.2.1, x_1.2.2.1, x_1.2.2.2) = false → ((-9223372036854775808 : Int) ≤ x.1 + (1 : Int) ∧ x.1 + (1 : Int) ≤ (9223372036854775807 : Int)) ∧ True ∧ ((0 : Int) ≤ x.1 + (1 : Int) ∧ x.1 + (1 : Int) ≤ (↑l.length : Int) ∧ idxF (upLf a) l = idxGo (upLf a) (List.drop (x.1 + (1 : Int)).toNat l) (x.1 + (1 : Int))) ∧ ((↑l.length : Int) - (x.1 + (1 : Int))).toNat < ((↑l.length : Int) - x.1).toNat)) ∧ (decide (x.1 < (↑l.length : Int)) = false → ((-1 : Int), ()) = (idxF (upLf a) l, ()))
theorem g_lidx_eq (l : List AcD) (a : Int) : Cond (env_lidx l a) Tryz.f121 [.list .tmp AcT l, .fn (.func 97) [] [.fptr [.int .i64 a]]] [.int .i64] (idxF (upLf a) l, ()) = g_lidx_vc l a := by kernel_rfl
theorem g_lidx_ok (l : List AcD) (a : Int) (h : l.length ≤ 1000000000) : g_lidx_vc l a := by
  unfold g_lidx_vc
  simp only [decide_eq_true_eq, decide_eq_false_iff_not]
  refine ⟨⟨trivial, by omega, by omega, rfl⟩, ?_⟩
  rintro ⟨i, ⟨⟩⟩ ⟨h0, h1, hb⟩
  dsimp only at h0 h1 hb ⊢
  rw [hb]
  refine ⟨fun c => ⟨⟨h0, c⟩, fun x hx => ⟨trivial, fun k => ?_, fun k => ⟨by omega, trivial, ⟨by omega, by omega, ?_⟩, by omega⟩⟩⟩, fun c => ?_⟩
  · rw [idx_hit h0 hx k]
  · rw [idx_miss h0 hx k]
  · rw [idx_end c]
theorem lidx_pure (l : List AcD) (a : Int) (h : l.length ≤ 1000000000) : Pure Tryz.prog 121 [.list .tmp AcT l, .fn (.func 97) [] [.fptr [.int .i64 a]]] (.int .i64 (idxF (upLf a) l)) :=
  by have k := Pure.of_cond (g_lidx_eq l a) (g_lidx_ok l a h) (specs_ok rfl [sp_lf1] [] rfl rfl) mixed Tryz.func121; exact k
noncomputable def q_lidx (l : List AcD) (a : Int) : Prop × V := (l.length ≤ 1000000000, (.int .i64 (idxF (upLf a) l)))
noncomputable def sp_lidx : FSpec Tryz.prog where
 f := 121
 run := fun
  | [v0, .fn (.func 97) [] [.fptr [.int .i64 a]]] => (asL AcT v0 : Option (List AcD)).bind fun l => some (q_lidx l a)
  | _ => none
 ok := fun args pre r h hp => by
  split at h
  · rename_i v0 a
    obtain ⟨l, h0, h⟩ := Option.bind_eq_some_iff.1 h
    exact of_q h hp fun h => (lidx_pure l a h).weak (.cons (asL_weak h0) (.cons (.refl _) .nil))
  · cases h
noncomputable def env_lcont (l : List AcD) (a : Int) : Env where
  P := Tryz.prog
  ty := tys0
  specs := specsOf [sp_lidx]
def g_lcont_vc (l : List AcD) (a : Int) : Prop :=
  l.length ≤ (1000000000 : Nat) ∧ (decide ((0 : Int) ≤ idxF (upLf a) l), ()) = (l.any (upLf a), ())
theorem g_lcont_eq (l : List AcD) (a : Int) : Cond (env_lcont l a) Tryz.f96 [.list .tmp AcT l, .fn (.func 97) [] [.fptr [.int .i64 a]]] [.bool] (l.any (upLf a), ()) = g_lcont_vc l a := by kernel_rfl
theorem g_lcont_ok (l : List AcD) (a : Int) (h : l.length ≤ 1000000000) : g_lcont_vc l a := by
  unfold g_lcont_vc
  exact ⟨h, by rw [idx_any]⟩
theorem lcont_pure (l : List AcD) (a : Int) (h : l.length ≤ 1000000000) : Pure Tryz.prog 96 [.list .tmp AcT l, .fn (.func 97) [] [.fptr [.int .i64 a]]] (.bool (l.any (upLf a))) :=
  by have k := Pure.of_cond (g_lcont_eq l a) (g_lcont_ok l a h) (specs_ok rfl [sp_lidx] [] rfl rfl) mixed Tryz.func96; exact k
noncomputable def q_lcont (l : List AcD) (a : Int) : Prop × V := (l.length ≤ 1000000000, (.bool (l.any (upLf a))))
noncomputable def sp_lcont : FSpec Tryz.prog where
 f := 96
 run := fun
  | [v0, .fn (.func 97) [] [.fptr [.int .i64 a]]] => (asL AcT v0 : Option (List AcD)).bind fun l => some (q_lcont l a)
  | _ => none
 ok := fun args pre r h hp => by
  split at h
  · rename_i v0 a
    obtain ⟨l, h0, h⟩ := Option.bind_eq_some_iff.1 h
    exact of_q h hp fun h => (lcont_pure l a h).weak (.cons (asL_weak h0) (.cons (.refl _) .nil))
  · cases h
def leafF (l : List AcD) (a : Int) : Bool := decide (isIn l a) && !l.any (upLf a)
noncomputable def env_leaf (l : List AcD) (a : Int) : Env where
  P := Tryz.prog
  ty := tys0
  specs := specsOf [sp_is, sp_lcont]
def g_leaf_vc (l : List AcD) (a : Int) : Prop :=
  True ∧ (decide (isIn l a) = true → l.length ≤ (1000000000 : Nat) ∧ (!l.any (upLf a), ()) = (leafF l a, ())) ∧ (decide (isIn l a) = !true → (false, ()) = (leafF l a, ()))
theorem g_leaf_eq (l : List AcD) (a : Int) : Cond (env_leaf l a) Tryz.f74 [.list .tmp AcT l, .int .i64 a] [.bool] (leafF l a, ()) = g_leaf_vc l a := by kernel_rfl
theorem g_leaf_ok (l : List AcD) (a : Int) (h : l.length ≤ 1000000000) : g_leaf_vc l a := by
  unfold g_leaf_vc leafF
  refine ⟨trivial, fun c => ⟨h, by rw [c, Bool.true_and]⟩, fun c => ?_⟩
  rw [show decide (isIn l a) = false by simpa using c, Bool.false_and]
theorem leaf_pure (l : List AcD) (a : Int) (h : l.length ≤ 1000000000) : Pure Tryz.prog 74 [.list .tmp AcT l, .int .i64 a] (.bool (leafF l a)) :=
  by have k := Pure.of_cond (g_leaf_eq l a) (g_leaf_ok l a h) (specs_ok rfl [sp_is, sp_lcont] [] rfl rfl) mixed Tryz.func74; exact k
noncomputable def q_leaf (l : List AcD) (a : Int) : Prop × V := (l.length ≤ 1000000000, (.bool (leafF l a)))
noncomputable def sp_leaf : FSpec Tryz.prog where
 f := 74
 run := fun
  | [v0, .int .i64 a] => (asL AcT v0 : Option (List AcD)).bind fun l => some (q_leaf l a)
  | _ => none
 ok := fun args pre r h hp => by
  split at h
  · rename_i v0 a
    obtain ⟨l, h0, h⟩ := Option.bind_eq_some_iff.1 h
    exact of_q h hp fun h => (leaf_pure l a h).weak (.cons (asL_weak h0) (.cons (.refl _) .nil))
  · cases h
noncomputable def env_pleaf (l : List AcD) (a : Int) : Env where
  P := Tryz.prog
  ty := tys0
  specs := specsOf [sp_leaf]
def g_pleaf_vc (l : List AcD) (a : Int) : Prop :=
  l.length ≤ (1000000000 : Nat) ∧ (leafF l a, ()) = (leafF l a, ())
theorem g_pleaf_eq (l : List AcD) (a : Int) : Cond (env_pleaf l a) Tryz.f21 [.list .tmp AcT l, .int .i64 a] [.bool] (leafF l a, ()) = g_pleaf_vc l a := by kernel_rfl
theorem g_pleaf_ok (l : List AcD) (a : Int) (h : l.length ≤ 1000000000) : g_pleaf_vc l a := by
  unfold g_pleaf_vc
  exact ⟨h, rfl⟩
theorem pleaf_pure (l : List AcD) (a : Int) (h : l.length ≤ 1000000000) : Pure Tryz.prog 21 [.list .tmp AcT l, .int .i64 a] (.bool (leafF l a)) :=
  by have k := Pure.of_cond (g_pleaf_eq l a) (g_pleaf_ok l a h) (specs_ok rfl [sp_leaf] [] rfl rfl) mixed Tryz.func21; exact k
noncomputable def q_pleaf (l : List AcD) (a : Int) : Prop × V := (l.length ≤ 1000000000, (.bool (leafF l a)))
noncomputable def sp_pleaf : FSpec Tryz.prog where
 f := 21
 run := fun
  | [v0, .int .i64 a] => (asL AcT v0 : Option (List AcD)).bind fun l => some (q_pleaf l a)
  | _ => none
 ok := fun args pre r h hp => by
  split at h
  · rename_i v0 a
    obtain ⟨l, h0, h⟩ := Option.bind_eq_some_iff.1 h
    exact of_q h hp fun h => (pleaf_pure l a h).weak (.cons (asL_weak h0) (.cons (.refl _) .nil))
  · cases h
noncomputable def env_lv1 (l : List AcD) (a : Int) : Env where
  P := Tryz.prog
  ty := tys0
  specs := specsOf [sp_leaf]
def g_lv1_vc (l : List AcD) (a : Int) : Prop :=
  l.length ≤ (1000000000 : Nat) ∧ (leafF l a, ()) = (leafF l a, ())
theorem g_lv1_eq (l : List AcD) (a : Int) : Cond (env_lv1 l a) Tryz.f103 [.int .i64 a, .fptr [.fn (.func 74) [] []], .fptr [.list .tmp AcT l]] [.bool] (leafF l a, ()) = g_lv1_vc l a := by kernel_rfl
theorem g_lv1_ok (l : List AcD) (a : Int) (h : l.length ≤ 1000000000) : g_lv1_vc l a := by
  unfold g_lv1_vc
  exact ⟨h, rfl⟩
theorem lv1_pure (l : List AcD) (a : Int) (h : l.length ≤ 1000000000) : Pure Tryz.prog 103 [.int .i64 a, .fptr [.fn (.func 74) [] []], .fptr [.list .tmp AcT l]] (.bool (leafF l a)) :=
  by have k := Pure.of_cond (g_lv1_eq l a) (g_lv1_ok l a h) (specs_ok rfl [sp_leaf] [] rfl rfl) mixed Tryz.func103; exact k
noncomputable def q_lv1 (l : List AcD) (a : Int) : Prop × V := (l.length ≤ 1000000000, (.bool (leafF l a)))
noncomputable def sp_lv1 : FSpec Tryz.prog where
 f := 103
 run := fun
  | [.int .i64 a, .fptr [.fn (.func 74) [] []], .fptr [v2_0]] => (asL AcT v2_0 : Option (List AcD)).bind fun l => some (q_lv1 l a)
  | _ => none
 ok := fun args pre r h hp => by
  split at h
  · rename_i a v2_0
    obtain ⟨l, h2_0, h⟩ := Option.bind_eq_some_iff.1 h
    exact of_q h hp fun h => (lv1_pure l a h).weak (.cons (.refl _) (.cons (.refl _) (.cons (weak_fptr (.cons (asL_weak h2_0) .nil)) .nil)))
  · cases h
def thGo (p : Int → Bool) : Nat → Int → List Int
  | 0, _ => []
  | f + 1, i => if p i = true then i :: thGo p f (i + 1) else thGo p f (i + 1)
def thoseF (p : Int → Bool) (n : Nat) : List Int := thGo p n 1
theorem th_hit {p : Int → Bool} {f : Nat} {i : Int} (hf : 0 < f) (h : p i = true) : thGo p f i = i :: thGo p (f - 1) (i + 1) := by
  obtain ⟨g, rfl⟩ : ∃ g, f = g + 1 := ⟨f - 1, by omega⟩
  rw [thGo, if_pos h]; rfl
theorem th_miss {p : Int → Bool} {f : Nat} {i : Int} (hf : 0 < f) (h : p i = false) : thGo p f i = thGo p (f - 1) (i + 1) := by
  obtain ⟨g, rfl⟩ : ∃ g, f = g + 1 := ⟨f - 1, by omega⟩
  rw [thGo, if_neg (by rw [h]; decide)]; rfl
theorem th_len (p : Int → Bool) : ∀ (f : Nat) (i : Int), (thGo p f i).length ≤ f
  | 0, _ => Nat.le_refl _
  | f + 1, i => by
    have := th_len p f (i + 1)
    rw [thGo]; split <;> (try simp only [List.length_cons]) <;> omega
noncomputable def env_thr (l m : List AcD) : Env where
  P := Tryz.prog
  ty := tys0
  specs := specsOf [sp_round]
  heads := fun | 3 => some { slots := [(9, .int .i64), (5, .slc 9000 I)], boxes := [], inv := fun _ (x : Int × List Int × Unit) => 0 ≤ x.1 ∧ x.1 ≤ l.length ∧ x.2.1.length ≤ x.1.toNat ∧ thoseF (roundF m) l.length = x.2.1 ++ thGo (roundF m) (l.length - x.1.toNat) (x.1 + 1), measure := fun _ (x : Int × List Int × Unit) => (l.length - x.1).toNat } | _ => none
def g_thr_vc (l : List AcD) (m : List AcD) : Prop :=
  (True ∧ (0 : Int) ≤ (0 : Int) ∧ (0 : Int) ≤ (↑l.length : Int) ∧ (0 : Nat) ≤ Int.toNat (0 : Int) ∧ thoseF (roundF m) l.length = thGo (roundF m) (l.length - Int.toNat (0 : Int)) ((0 : Int) + (1 : Int))) ∧ ∀ (x : Int × List Int × Unit), (0 : Int) ≤ x.1 ∧ x.1 ≤ (↑l.length : Int) ∧ x.2.1.length ≤ x.1.toNat ∧ thoseF (roundF m) l.length = x.2.1 ++ thGo (roundF m) (l.length - x.1.toNat) (x.1 + (1 : Int)) → (decide (x.1 < (↑l.length : Int)) = true → ((-9223372036854775808 : Int) ≤ x.1 + (1 : Int) ∧ x.1 + (1 : Int) ≤ (9223372036854775807 : Int)) ∧ (isIn m (x.1 + (1 : Int)) ∧ m.length ≤ (1000000000 : Nat)) ∧ (roundF m (x.1 + (1 : Int)) = true → ((-9223372036854775808 : Int) ≤ x.1 + (1 : Int) ∧ x.1 + (1 : Int) ≤ (9223372036854775807 : Int)) ∧ ((x.2.1.length + (1 : Nat)) * (8 : Nat) ≤ (140737488355328 : Nat) ∧ x.2.1.length + (1 : Nat) ≤ (4611686018427387904 : Nat)) ∧ ((-9223372036854775808 : Int) ≤ x.1 + (1 : Int) ∧ x.1 + (1 : Int) ≤ (9223372036854775807 : Int)) ∧ True ∧ ((0 : Int) ≤ x.1 + (1 : Int) ∧ x.1 + (1 : Int) ≤ (↑l.length : Int) ∧ (x.2.1 ++ [x.1 + (1 : Int)]).length ≤ (x.1 + (1 : Int)).toNat ∧ thoseF (roundF m) l.length = x.2.1 ++ [x.1 + (1 : Int)] ++ thGo (roundF m) (l.length - (x.1 + (1 : Int)).toNat) (x.1 + (1 : Int) + (1 : Int))) ∧ ((↑l.length : Int) - (x.1 + (1 : Int))).toNat < ((↑l.length : Int) - x.1).toNat) ∧ (roundF m (x.1 + (1 : Int)) = false → ((-9223372036854775808 : Int) ≤ x.1 + (1 : Int) ∧ x.1 + (1 : Int) ≤ (9223372036854775807 : Int)) ∧ True ∧ ((0 : Int) ≤ x.1 + (1 : Int) ∧ x.1 + (1 : Int) ≤ (↑l.length : Int) ∧ x.2.1.length ≤ (x.1 + (1 : Int)).toNat ∧ thoseF (roundF m) l.length = x.2.1 ++ thGo (roundF m) (l.length - (x.1 + (1 : Int)).toNat) (x.1 + (1 : Int) + (1 : Int))) ∧ ((↑l.length : Int) - (x.1 + (1 : Int))).toNat < ((↑l.length : Int) - x.1).toNat)) ∧ (decide (x.1 < (↑l.length : Int)) = false → (x.2.1, ()) = (thoseF (roundF m) l.length, ()))
theorem g_thr_eq (l m : List AcD) : Cond (env_thr l m) Tryz.f71 [.list .tmp AcT l, .fn (.func 72) [.list .tmp AcT m] []] [.slc 0 I] (thoseF (roundF m) l.length, ()) = g_thr_vc l m := by kernel_rfl
theorem g_thr_ok (l m : List AcD) (h : m = l ∧ l.length ≤ 1000000000) : g_thr_vc l m := by
  obtain ⟨rfl, h⟩ := h
  unfold g_thr_vc
  simp only [decide_eq_true_eq, decide_eq_false_iff_not]
  refine ⟨⟨trivial, by omega, by omega, by omega, by simp [thoseF]⟩, ?_⟩
  rintro ⟨i, out, ⟨⟩⟩ ⟨h0, h1, h2, hb⟩
  dsimp only at h0 h1 h2 hb ⊢
  refine ⟨fun d => ⟨by omega, ⟨⟨by omega, by omega⟩, h⟩, fun k => ⟨by omega, by omega, by omega, trivial, ⟨by omega, by omega, by rw [List.length_append, List.length_singleton]; omega, ?_⟩, by omega⟩, fun k => ⟨by omega, trivial, ⟨by omega, by omega, by omega, ?_⟩, by omega⟩⟩, fun d => ?_⟩
  · rw [hb, th_hit (by omega) k, List.append_assoc, show m.length - (i + 1).toNat = m.length - i.toNat - 1 by omega]; rfl
  · rw [hb, th_miss (by omega) k, show m.length - (i + 1).toNat = m.length - i.toNat - 1 by omega]
  · rw [hb, show m.length - i.toNat = 0 by omega, thGo, List.append_nil]
theorem thr_pure (l m : List AcD) (h : m = l ∧ l.length ≤ 1000000000) : Pure Tryz.prog 71 [.list .tmp AcT l, .fn (.func 72) [.list .tmp AcT m] []] (.olist I (thoseF (roundF m) l.length)) :=
  by have k := Pure.of_cond (g_thr_eq l m) (g_thr_ok l m h) (specs_ok rfl [sp_round] [] rfl rfl) mixed Tryz.func71; exact k
noncomputable def q_thr (l m : List AcD) : Prop × V := (m = l ∧ l.length ≤ 1000000000, (.olist I (thoseF (roundF m) l.length)))
noncomputable def sp_thr : FSpec Tryz.prog where
 f := 71
 run := fun
  | [v0, .fn (.func 72) [v1_f0] []] => (asL AcT v0 : Option (List AcD)).bind fun l => (asL AcT v1_f0 : Option (List AcD)).bind fun m => some (q_thr l m)
  | _ => none
 ok := fun args pre r h hp => by
  split at h
  · rename_i v0 v1_f0
    obtain ⟨l, h0, h⟩ := Option.bind_eq_some_iff.1 h
    obtain ⟨m, h1_f0, h⟩ := Option.bind_eq_some_iff.1 h
    exact of_q h hp fun h => (thr_pure l m h).weak (.cons (asL_weak h0) (.cons (weak_fn (.cons (asL_weak h1_f0) .nil) .nil) .nil))
  · cases h
noncomputable def env_thl (l m : List AcD) : Env where
  P := Tryz.prog
  ty := tys0
  specs := specsOf [sp_lv1]
  heads := fun | 3 => some { slots := [(9, .int .i64), (5, .slc 9000 I)], boxes := [], inv := fun _ (x : Int × List Int × Unit) => 0 ≤ x.1 ∧ x.1 ≤ l.length ∧ x.2.1.length ≤ x.1.toNat ∧ thoseF (leafF m) l.length = x.2.1 ++ thGo (leafF m) (l.length - x.1.toNat) (x.1 + 1), measure := fun _ (x : Int × List Int × Unit) => (l.length - x.1).toNat } | _ => none
def g_thl_vc (l : List AcD) (m : List AcD) : Prop :=
  (True ∧ (0 : Int) ≤ (0 : Int) ∧ (0 : Int) ≤ (↑l.length : Int) ∧ (0 : Nat) ≤ Int.toNat (0 : Int) ∧ thoseF (leafF m) l.length = thGo (leafF m) (l.length - Int.toNat (0 : Int)) ((0 : Int) + (1 : Int))) ∧ ∀ (x : Int × List Int × Unit), (0 : Int) ≤ x.1 ∧ x.1 ≤ (↑l.length : Int) ∧ x.2.1.length ≤ x.1.toNat ∧ thoseF (leafF m) l.length = x.2.1 ++ thGo (leafF m) (l.length - x.1.toNat) (x.1 + (1 : Int)) → (decide (x.1 < (↑l.length : Int)) = true → ((-9223372036854775808 : Int) ≤ x.1 + (1 : Int) ∧ x.1 + (1 : Int) ≤ (9223372036854775807 : Int)) ∧ m.length ≤ (1000000000 : Nat) ∧ (leafF m (x.1 + (1 : Int)) = true → ((-9223372036854775808 : Int) ≤ x.1 + (1 : Int) ∧ x.1 + (1 : Int) ≤ (9223372036854775807 : Int)) ∧ ((x.2.1.length + (1 : Nat)) * (8 : Nat) ≤ (140737488355328 : Nat) ∧ x.2.1.length + (1 : Nat) ≤ (4611686018427387904 : Nat)) ∧ ((-9223372036854775808 : Int) ≤ x.1 + (1 : Int) ∧ x.1 + (1 : Int) ≤ (9223372036854775807 : Int)) ∧ True ∧ ((0 : Int) ≤ x.1 + (1 : Int) ∧ x.1 + (1 : Int) ≤ (↑l.length : Int) ∧ (x.2.1 ++ [x.1 + (1 : Int)]).length ≤ (x.1 + (1 : Int)).toNat ∧ thoseF (leafF m) l.length = x.2.1 ++ [x.1 + (1 : Int)] ++ thGo (leafF m) (l.length - (x.1 + (1 : Int)).toNat) (x.1 + (1 : Int) + (1 : Int))) ∧ ((↑l.length : Int) - (x.1 + (1 : Int))).toNat < ((↑l.length : Int) - x.1).toNat) ∧ (leafF m (x.1 + (1 : Int)) = false → ((-9223372036854775808 : Int) ≤ x.1 + (1 : Int) ∧ x.1 + (1 : Int) ≤ (9223372036854775807 : Int)) ∧ True ∧ ((0 : Int) ≤ x.1 + (1 : Int) ∧ x.1 + (1 : Int) ≤ (↑l.length : Int) ∧ x.2.1.length ≤ (x.1 + (1 : Int)).toNat ∧ thoseF (leafF m) l.length = x.2.1 ++ thGo (leafF m) (l.length - (x.1 + (1 : Int)).toNat) (x.1 + (1 : Int) + (1 : Int))) ∧ ((↑l.length : Int) - (x.1 + (1 : Int))).toNat < ((↑l.length : Int) - x.1).toNat)) ∧ (decide (x.1 < (↑l.length : Int)) = false → (x.2.1, ()) = (thoseF (leafF m) l.length, ()))
theorem g_thl_eq (l m : List AcD) : Cond (env_thl l m) Tryz.f71 [.list .tmp AcT l, .fn (.func 103) [] [.fptr [.fn (.func 74) [] []], .fptr [.list .tmp AcT m]]] [.slc 0 I] (thoseF (leafF m) l.length, ()) = g_thl_vc l m := by kernel_rfl
theorem g_thl_ok (l m : List AcD) (h : m = l ∧ l.length ≤ 1000000000) : g_thl_vc l m := by
  obtain ⟨rfl, h⟩ := h
  unfold g_thl_vc
  simp only [decide_eq_true_eq, decide_eq_false_iff_not]
  refine ⟨⟨trivial, by omega, by omega, by omega, by simp [thoseF]⟩, ?_⟩
  rintro ⟨i, out, ⟨⟩⟩ ⟨h0, h1, h2, hb⟩
  dsimp only at h0 h1 h2 hb ⊢
  refine ⟨fun d => ⟨by omega, h, fun k => ⟨by omega, by omega, by omega, trivial, ⟨by omega, by omega, by rw [List.length_append, List.length_singleton]; omega, ?_⟩, by omega⟩, fun k => ⟨by omega, trivial, ⟨by omega, by omega, by omega, ?_⟩, by omega⟩⟩, fun d => ?_⟩
  · rw [hb, th_hit (by omega) k, List.append_assoc, show m.length - (i + 1).toNat = m.length - i.toNat - 1 by omega]; rfl
  · rw [hb, th_miss (by omega) k, show m.length - (i + 1).toNat = m.length - i.toNat - 1 by omega]
  · rw [hb, show m.length - i.toNat = 0 by omega, thGo, List.append_nil]
theorem thl_pure (l m : List AcD) (h : m = l ∧ l.length ≤ 1000000000) : Pure Tryz.prog 71 [.list .tmp AcT l, .fn (.func 103) [] [.fptr [.fn (.func 74) [] []], .fptr [.list .tmp AcT m]]] (.olist I (thoseF (leafF m) l.length)) :=
  by have k := Pure.of_cond (g_thl_eq l m) (g_thl_ok l m h) (specs_ok rfl [sp_lv1] [] rfl rfl) mixed Tryz.func71; exact k
noncomputable def q_thl (l m : List AcD) : Prop × V := (m = l ∧ l.length ≤ 1000000000, (.olist I (thoseF (leafF m) l.length)))
noncomputable def sp_thl : FSpec Tryz.prog where
 f := 71
 run := fun
  | [v0, .fn (.func 103) [] [.fptr [.fn (.func 74) [] []], .fptr [v1_c1_0]]] => (asL AcT v0 : Option (List AcD)).bind fun l => (asL AcT v1_c1_0 : Option (List AcD)).bind fun m => some (q_thl l m)
  | _ => none
 ok := fun args pre r h hp => by
  split at h
  · rename_i v0 v1_c1_0
    obtain ⟨l, h0, h⟩ := Option.bind_eq_some_iff.1 h
    obtain ⟨m, h1_c1_0, h⟩ := Option.bind_eq_some_iff.1 h
    exact of_q h hp fun h => (thl_pure l m h).weak (.cons (asL_weak h0) (.cons (weak_fn .nil (.cons (.refl _) (.cons (weak_fptr (.cons (asL_weak h1_c1_0) .nil)) .nil))) .nil))
  · cases h
noncomputable def env_leaves (l : List AcD) : Env where
  P := Tryz.prog
  ty := tys0
  specs := specsOf [sp_thl]
def g_leaves_vc (l : List AcD) : Prop :=
  (l = l ∧ l.length ≤ (1000000000 : Nat)) ∧ (thoseF (leafF l) l.length, ()) = (thoseF (leafF l) l.length, ())
theorem g_leaves_eq (l : List AcD) : Cond (env_leaves l) Tryz.f82 [.list .tmp AcT l] [.slc 0 I] (thoseF (leafF l) l.length, ()) = g_leaves_vc l := by kernel_rfl
theorem g_leaves_ok (l : List AcD) (h : l.length ≤ 1000000000) : g_leaves_vc l := by
  unfold g_leaves_vc
  exact ⟨⟨rfl, h⟩, rfl⟩
theorem leaves_pure (l : List AcD) (h : l.length ≤ 1000000000) : Pure Tryz.prog 82 [.list .tmp AcT l] (.olist I (thoseF (leafF l) l.length)) :=
  by have k := Pure.of_cond (g_leaves_eq l) (g_leaves_ok l h) (specs_ok rfl [sp_thl] [] rfl rfl) mixed Tryz.func82; exact k
noncomputable def q_leaves (l : List AcD) : Prop × V := (l.length ≤ 1000000000, (.olist I (thoseF (leafF l) l.length)))
noncomputable def sp_leaves : FSpec Tryz.prog where
 f := 82
 run := fun
  | [v0] => (asL AcT v0 : Option (List AcD)).bind fun l => some (q_leaves l)
  | _ => none
 ok := fun args pre r h hp => by
  split at h
  · rename_i v0
    obtain ⟨l, h0, h⟩ := Option.bind_eq_some_iff.1 h
    exact of_q h hp fun h => (leaves_pure l h).weak (.cons (asL_weak h0) .nil)
  · cases h
end Go.Proofs.YtgjpehgnagfghaaGreat.Acc
