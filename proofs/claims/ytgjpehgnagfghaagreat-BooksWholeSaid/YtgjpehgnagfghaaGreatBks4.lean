/-
  Whether books may be.
-/
import Derived.Test.YtgjpehgnagfghaaGreatBks3
namespace Go.Proofs.YtgjpehgnagfghaaGreat.Bks
open Go.Vm
noncomputable def env_check (E : List Int) (A : List Acc.AcD) (S : List Ln) (R : List Rts.Rt) (K : List Lck.Lk) (N : List En) : Env where
  P := Tryz.prog
  ty := tys0
  specs := specsOf [sp_ck1, sp_ck2, sp_ck3, sp_ck4, sp_ck5, sp_ck6]
  asRows := fun | 25 => true | _ => false
  heads := fun | 3 => some { slots := [(27, .int .i64)], boxes := [], keep := [1, 5], inv := fun _ (x : Int × Unit) => 0 ≤ x.1 ∧ x.1 ≤ 6 ∧ checkF E A S R K N = restF E A S R K N x.1, measure := fun _ (x : Int × Unit) => (6 - x.1).toNat } | _ => none
abbrev bx_check_1 (E : List Int) (A : List Acc.AcD) (S : List Ln) (R : List Rts.Rt) (K : List Lck.Lk) (N : List En) : _root_.Go.Vm.Obj := Obj.box [V.list LK.tmp I E, V.list LK.tmp AcT A, V.list LK.tmp LnT S, V.list LK.tmp RTy R, V.list LK.tmp Vl K, V.list LK.tmp EnT N]
def g_check_vc (E : List Int) (A : List Acc.AcD) (S : List Ln) (R : List Rts.Rt) (K : List Lck.Lk) (N : List En) : Prop :=
  ((some (bx_check_1 E A S R K N) = some (bx_check_1 E A S R K N) ∧ some (Obj.box [V.int IntKind.i64 (↑E.length : Int)]) = some (Obj.box [V.int IntKind.i64 (↑E.length : Int)]) ∧ True) ∧ (0 : Int) ≤ (0 : Int) ∧ (0 : Int) ≤ (6 : Int) ∧ checkF E A S R K N = restF E A S R K N (0 : Int)) ∧ ∀ (x : Int × Unit), (0 : Int) ≤ x.1 ∧ x.1 ≤ (6 : Int) ∧ checkF E A S R K N = restF E A S R K N x.1 → (decide (x.1 < (↑(6 : Nat) : Int)) = true → ((0 : Int) ≤ x.1 ∧ x.1 < (↑(6 : Nat) : Int)) ∧ (x.1 = (↑(0 : Nat) : Int) → Sm E A S R K N ∧ ((!decide ((Cur.checkF E).2 = (0 : Int))) = true → ((1 : Int), (Cur.checkF E).1, (Cur.checkF E).2, ()) = ((checkF E A S R K N).1, (checkF E A S R K N).2.1, (checkF E A S R K N).2.2, ())) ∧ ((!decide ((Cur.checkF E).2 = (0 : Int))) = false → ((-9223372036854775808 : Int) ≤ x.1 + (1 : Int) ∧ x.1 + (1 : Int) ≤ (9223372036854775807 : Int)) ∧ (some (bx_check_1 E A S R K N) = some (bx_check_1 E A S R K N) ∧ some (Obj.box [V.int IntKind.i64 (↑E.length : Int)]) = some (Obj.box [V.int IntKind.i64 (↑E.length : Int)]) ∧ True) ∧ ((0 : Int) ≤ x.1 + (1 : Int) ∧ x.1 + (1 : Int) ≤ (6 : Int) ∧ checkF E A S R K N = restF E A S R K N (x.1 + (1 : Int))) ∧ ((6 : Int) - (x.1 + (1 : Int))).toNat < ((6 : Int) - x.1).toNat)) ∧ (x.1 = (↑(1 : Nat) : Int) → Sm E A S R K N ∧ ((!decide ((Acc.checkF A).2 = (0 : Int))) = true → ((2 : Int), (Acc.checkF A).1, (Acc.checkF A).2, ()) = ((checkF E A S R K N).1, (checkF E A S R K N).2.1, (checkF E A S R K N).2.2, ())) ∧ ((!decide ((Acc.checkF A).2 = (0 : Int))) = false → ((-9223372036854775808 : Int) ≤ x.1 + (1 : Int) ∧ x.1 + (1 : Int) ≤ (9223372036854775807 : Int)) ∧ (some (bx_check_1 E A S R K N) = some (bx_check_1 E A S R K N) ∧ some (Obj.box [V.int IntKind.i64 (↑E.length : Int)]) = some (Obj.box [V.int IntKind.i64 (↑E.length : Int)]) ∧ True) ∧ ((0 : Int) ≤ x.1 + (1 : Int) ∧ x.1 + (1 : Int) ≤ (6 : Int) ∧ checkF E A S R K N = restF E A S R K N (x.1 + (1 : Int))) ∧ ((6 : Int) - (x.1 + (1 : Int))).toNat < ((6 : Int) - x.1).toNat)) ∧ (x.1 = (↑(2 : Nat) : Int) → Sm E A S R K N ∧ ((!decide ((Stk.checkF S (↑E.length : Int)).2 = (0 : Int))) = true → ((3 : Int), (Stk.checkF S (↑E.length : Int)).1, (Stk.checkF S (↑E.length : Int)).2, ()) = ((checkF E A S R K N).1, (checkF E A S R K N).2.1, (checkF E A S R K N).2.2, ())) ∧ ((!decide ((Stk.checkF S (↑E.length : Int)).2 = (0 : Int))) = false → ((-9223372036854775808 : Int) ≤ x.1 + (1 : Int) ∧ x.1 + (1 : Int) ≤ (9223372036854775807 : Int)) ∧ (some (bx_check_1 E A S R K N) = some (bx_check_1 E A S R K N) ∧ some (Obj.box [V.int IntKind.i64 (↑E.length : Int)]) = some (Obj.box [V.int IntKind.i64 (↑E.length : Int)]) ∧ True) ∧ ((0 : Int) ≤ x.1 + (1 : Int) ∧ x.1 + (1 : Int) ≤ (6 : Int) ∧ checkF E A S R K N = restF E A S R K N (x.1 + (1 : Int))) ∧ ((6 : Int) - (x.1 + (1 : Int))).toNat < ((6 : Int) - x.1).toNat)) ∧ (x.1 = (↑(3 : Nat) : Int) → Sm E A S R K N ∧ ((!decide ((Rts.checkF R).2 = (0 : Int))) = true → ((4 : Int), (Rts.checkF R).1, (Rts.checkF R).2, ()) = ((checkF E A S R K N).1, (checkF E A S R K N).2.1, (checkF E A S R K N).2.2, ())) ∧ ((!decide ((Rts.checkF R).2 = (0 : Int))) = false → ((-9223372036854775808 : Int) ≤ x.1 + (1 : Int) ∧ x.1 + (1 : Int) ≤ (9223372036854775807 : Int)) ∧ (some (bx_check_1 E A S R K N) = some (bx_check_1 E A S R K N) ∧ some (Obj.box [V.int IntKind.i64 (↑E.length : Int)]) = some (Obj.box [V.int IntKind.i64 (↑E.length : Int)]) ∧ True) ∧ ((0 : Int) ≤ x.1 + (1 : Int) ∧ x.1 + (1 : Int) ≤ (6 : Int) ∧ checkF E A S R K N = restF E A S R K N (x.1 + (1 : Int))) ∧ ((6 : Int) - (x.1 + (1 : Int))).toNat < ((6 : Int) - x.1).toNat)) ∧ (x.1 = (↑(4 : Nat) : Int) → Sm E A S R K N ∧ ((!decide ((Lck.checkF K (↑E.length : Int)).2 = (0 : Int))) = true → ((5 : Int), (Lck.checkF K (↑E.length : Int)).1, (Lck.checkF K (↑E.length : Int)).2, ()) = ((checkF E A S R K N).1, (checkF E A S R K N).2.1, (checkF E A S R K N).2.2, ())) ∧ ((!decide ((Lck.checkF K (↑E.length : Int)).2 = (0 : Int))) = false → ((-9223372036854775808 : Int) ≤ x.1 + (1 : Int) ∧ x.1 + (1 : Int) ≤ (9223372036854775807 : Int)) ∧ (some (bx_check_1 E A S R K N) = some (bx_check_1 E A S R K N) ∧ some (Obj.box [V.int IntKind.i64 (↑E.length : Int)]) = some (Obj.box [V.int IntKind.i64 (↑E.length : Int)]) ∧ True) ∧ ((0 : Int) ≤ x.1 + (1 : Int) ∧ x.1 + (1 : Int) ≤ (6 : Int) ∧ checkF E A S R K N = restF E A S R K N (x.1 + (1 : Int))) ∧ ((6 : Int) - (x.1 + (1 : Int))).toNat < ((6 : Int) - x.1).toNat)) ∧ (x.1 = (↑(5 : Nat) : Int) → Sm E A S R K N ∧ ((!decide ((allF N (↑E.length : Int) (↑A.length : Int) (Acc.thoseF (Acc.leafF A) A.length)).2 = (0 : Int))) = true → ((6 : Int), (allF N (↑E.length : Int) (↑A.length : Int) (Acc.thoseF (Acc.leafF A) A.length)).1, (allF N (↑E.length : Int) (↑A.length : Int) (Acc.thoseF (Acc.leafF A) A.length)).2, ()) = ((checkF E A S R K N).1, (checkF E A S R K N).2.1, (checkF E A S R K N).2.2, ())) ∧ ((!decide ((allF N (↑E.length : Int) (↑A.length : Int) (Acc.thoseF (Acc.leafF A) A.length)).2 = (0 : Int))) = false → ((-9223372036854775808 : Int) ≤ x.1 + (1 : Int) ∧ x.1 + (1 : Int) ≤ (9223372036854775807 : Int)) ∧ (some (bx_check_1 E A S R K N) = some (bx_check_1 E A S R K N) ∧ some (Obj.box [V.int IntKind.i64 (↑E.length : Int)]) = some (Obj.box [V.int IntKind.i64 (↑E.length : Int)]) ∧ True) ∧ ((0 : Int) ≤ x.1 + (1 : Int) ∧ x.1 + (1 : Int) ≤ (6 : Int) ∧ checkF E A S R K N = restF E A S R K N (x.1 + (1 : Int))) ∧ ((6 : Int) - (x.1 + (1 : Int))).toNat < ((6 : Int) - x.1).toNat)) ∧ True) ∧ (decide (x.1 < (↑(6 : Nat) : Int)) = false → ((0 : Int), (0 : Int), (0 : Int), ()) = ((checkF E A S R K N).1, (checkF E A S R K N).2.1, (checkF E A S R K N).2.2, ()))
theorem g_check_eq (E : List Int) (A : List Acc.AcD) (S : List Ln) (R : List Rts.Rt) (K : List Lck.Lk) (N : List En) : Cond (env_check E A S R K N) Tryz.f9 [.agg [.list .tmp I E, .list .tmp AcT A, .list .tmp LnT S, .list .tmp RTy R, .list .tmp Vl K, .list .tmp EnT N]] [.int .i64, .int .i64, .int .i64] ((checkF E A S R K N).1, (checkF E A S R K N).2.1, (checkF E A S R K N).2.2, ()) = g_check_vc E A S R K N := by kernel_rfl
theorem rest_0 (E : List Int) (A : List Acc.AcD) (S : List Ln) (R : List Rts.Rt) (K : List Lck.Lk) (N : List En) : restF E A S R K N 0 = stepF 1 (Cur.checkF E) (restF E A S R K N 1) := by simp [restF, checkF]
theorem rest_1 (E : List Int) (A : List Acc.AcD) (S : List Ln) (R : List Rts.Rt) (K : List Lck.Lk) (N : List En) : restF E A S R K N 1 = stepF 2 (Acc.checkF A) (restF E A S R K N 2) := by simp [restF, checkF]
theorem rest_2 (E : List Int) (A : List Acc.AcD) (S : List Ln) (R : List Rts.Rt) (K : List Lck.Lk) (N : List En) : restF E A S R K N 2 = stepF 3 (Stk.checkF S E.length) (restF E A S R K N 3) := by simp [restF, checkF]
theorem rest_3 (E : List Int) (A : List Acc.AcD) (S : List Ln) (R : List Rts.Rt) (K : List Lck.Lk) (N : List En) : restF E A S R K N 3 = stepF 4 (Rts.checkF R) (restF E A S R K N 4) := by simp [restF, checkF]
theorem rest_4 (E : List Int) (A : List Acc.AcD) (S : List Ln) (R : List Rts.Rt) (K : List Lck.Lk) (N : List En) : restF E A S R K N 4 = stepF 5 (Lck.checkF K E.length) (restF E A S R K N 5) := by simp [restF, checkF]
theorem rest_5 (E : List Int) (A : List Acc.AcD) (S : List Ln) (R : List Rts.Rt) (K : List Lck.Lk) (N : List En) : restF E A S R K N 5 = stepF 6 (allF N E.length A.length (Acc.thoseF (Acc.leafF A) A.length)) (restF E A S R K N 6) := by simp [restF, checkF]
theorem rest_6 (E : List Int) (A : List Acc.AcD) (S : List Ln) (R : List Rts.Rt) (K : List Lck.Lk) (N : List En) : restF E A S R K N 6 = (0, 0, 0) := by simp [restF]
theorem g_check_ok (E : List Int) (A : List Acc.AcD) (S : List Ln) (R : List Rts.Rt) (K : List Lck.Lk) (N : List En) (h : Sm E A S R K N) : g_check_vc E A S R K N := by
  unfold g_check_vc
  simp only [Bool.not_eq_true', Bool.not_eq_false', decide_eq_true_eq, decide_eq_false_iff_not]
  refine ⟨⟨⟨trivial, trivial, trivial⟩, by omega, by omega, by rw [restF, if_pos rfl]⟩, ?_⟩
  rintro ⟨i, ⟨⟩⟩ ⟨h0, h1, hb⟩
  dsimp only at h0 h1 hb ⊢
  refine ⟨fun d => ⟨⟨h0, d⟩, fun e => ⟨h, fun k => ?_, fun k => ⟨by omega, ⟨trivial, trivial, trivial⟩, ⟨by omega, by omega, ?_⟩, by omega⟩⟩, fun e => ⟨h, fun k => ?_, fun k => ⟨by omega, ⟨trivial, trivial, trivial⟩, ⟨by omega, by omega, ?_⟩, by omega⟩⟩, fun e => ⟨h, fun k => ?_, fun k => ⟨by omega, ⟨trivial, trivial, trivial⟩, ⟨by omega, by omega, ?_⟩, by omega⟩⟩, fun e => ⟨h, fun k => ?_, fun k => ⟨by omega, ⟨trivial, trivial, trivial⟩, ⟨by omega, by omega, ?_⟩, by omega⟩⟩, fun e => ⟨h, fun k => ?_, fun k => ⟨by omega, ⟨trivial, trivial, trivial⟩, ⟨by omega, by omega, ?_⟩, by omega⟩⟩, fun e => ⟨h, fun k => ?_, fun k => ⟨by omega, ⟨trivial, trivial, trivial⟩, ⟨by omega, by omega, ?_⟩, by omega⟩⟩, trivial⟩, fun d => ?_⟩
  · rw [hb, e, show (((0 : Nat)) : Int) = 0 from rfl, rest_0, step_1 k]
  · rw [hb, e, show (((0 : Nat)) : Int) = 0 from rfl, rest_0, step_0 k]; rfl
  · rw [hb, e, show (((1 : Nat)) : Int) = 1 from rfl, rest_1, step_1 k]
  · rw [hb, e, show (((1 : Nat)) : Int) = 1 from rfl, rest_1, step_0 k]; rfl
  · rw [hb, e, show (((2 : Nat)) : Int) = 2 from rfl, rest_2, step_1 k]
  · rw [hb, e, show (((2 : Nat)) : Int) = 2 from rfl, rest_2, step_0 k]; rfl
  · rw [hb, e, show (((3 : Nat)) : Int) = 3 from rfl, rest_3, step_1 k]
  · rw [hb, e, show (((3 : Nat)) : Int) = 3 from rfl, rest_3, step_0 k]; rfl
  · rw [hb, e, show (((4 : Nat)) : Int) = 4 from rfl, rest_4, step_1 k]
  · rw [hb, e, show (((4 : Nat)) : Int) = 4 from rfl, rest_4, step_0 k]; rfl
  · rw [hb, e, show (((5 : Nat)) : Int) = 5 from rfl, rest_5, step_1 k]
  · rw [hb, e, show (((5 : Nat)) : Int) = 5 from rfl, rest_5, step_0 k]; rfl
  · rw [hb, show i = 6 by omega, rest_6]
set_option maxRecDepth 20000
theorem check_pure (E : List Int) (A : List Acc.AcD) (S : List Ln) (R : List Rts.Rt) (K : List Lck.Lk) (N : List En) (h : Sm E A S R K N) : Pure Tryz.prog 9 [.agg [.list .tmp I E, .list .tmp AcT A, .list .tmp LnT S, .list .tmp RTy R, .list .tmp Vl K, .list .tmp EnT N]] (.tuple [.int .i64 (checkF E A S R K N).1, .int .i64 (checkF E A S R K N).2.1, .int .i64 (checkF E A S R K N).2.2]) :=
  by have k := Pure.of_cond (g_check_eq E A S R K N) (g_check_ok E A S R K N h) (specs_ok rfl [sp_ck1, sp_ck2, sp_ck3, sp_ck4, sp_ck5, sp_ck6] [] rfl rfl) mixed Tryz.func9; exact k
noncomputable def q_check (E : List Int) (A : List Acc.AcD) (S : List Ln) (R : List Rts.Rt) (K : List Lck.Lk) (N : List En) : Prop × V := (Sm E A S R K N, (.tuple [.int .i64 (checkF E A S R K N).1, .int .i64 (checkF E A S R K N).2.1, .int .i64 (checkF E A S R K N).2.2]))
noncomputable def sp_check : FSpec Tryz.prog where
 f := 9
 run := fun
  | [.agg [v0_0, v0_1, v0_2, v0_3, v0_4, v0_5]] => (asL I v0_0 : Option (List Int)).bind fun E => (asL AcT v0_1 : Option (List Acc.AcD)).bind fun A => (asL LnT v0_2 : Option (List Ln)).bind fun S => (asL RTy v0_3 : Option (List Rts.Rt)).bind fun R => (asL Vl v0_4 : Option (List Lck.Lk)).bind fun K => (asL EnT v0_5 : Option (List En)).bind fun N => some (q_check E A S R K N)
  | _ => none
 ok := fun args pre r h hp => by
  split at h
  · rename_i v0_0 v0_1 v0_2 v0_3 v0_4 v0_5
    obtain ⟨E, h0_0, h⟩ := Option.bind_eq_some_iff.1 h
    obtain ⟨A, h0_1, h⟩ := Option.bind_eq_some_iff.1 h
    obtain ⟨S, h0_2, h⟩ := Option.bind_eq_some_iff.1 h
    obtain ⟨R, h0_3, h⟩ := Option.bind_eq_some_iff.1 h
    obtain ⟨K, h0_4, h⟩ := Option.bind_eq_some_iff.1 h
    obtain ⟨N, h0_5, h⟩ := Option.bind_eq_some_iff.1 h
    exact of_q h hp fun h => (check_pure E A S R K N h).weak (.cons (Weak.agg (.cons (asL_weak h0_0) (.cons (asL_weak h0_1) (.cons (asL_weak h0_2) (.cons (asL_weak h0_3) (.cons (asL_weak h0_4) (.cons (asL_weak h0_5) .nil))))))) .nil)
  · cases h
end Go.Proofs.YtgjpehgnagfghaaGreat.Bks
