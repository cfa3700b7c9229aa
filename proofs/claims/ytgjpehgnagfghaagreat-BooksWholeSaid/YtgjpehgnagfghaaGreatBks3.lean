/-
  Whether books may be: all parts.
-/
import Derived.Test.YtgjpehgnagfghaaGreatBks2
namespace Go.Proofs.YtgjpehgnagfghaaGreat.Bks
open Go.Vm
noncomputable def env_ck1 (E : List Int) (A : List Acc.AcD) (S : List Ln) (R : List Rts.Rt) (K : List Lck.Lk) (N : List En) : Env where
  P := Tryz.prog
  ty := tys0
  specs := specsOf [Cur.sp_check]
def g_ck1_vc (E : List Int) (A : List Acc.AcD) (S : List Ln) (R : List Rts.Rt) (K : List Lck.Lk) (N : List En) : Prop :=
  E.length ≤ (1000000000 : Nat) ∧ ((Cur.checkF E).1, (Cur.checkF E).2, ()) = ((Cur.checkF E).1, (Cur.checkF E).2, ())
theorem g_ck1_eq (E : List Int) (A : List Acc.AcD) (S : List Ln) (R : List Rts.Rt) (K : List Lck.Lk) (N : List En) : Cond (env_ck1 E A S R K N) Tryz.f25 [.fptr [.list .tmp I E, .list .tmp AcT A, .list .tmp LnT S, .list .tmp RTy R, .list .tmp Vl K, .list .tmp EnT N]] [.int .i64, .int .i64] ((Cur.checkF E).1, (Cur.checkF E).2, ()) = g_ck1_vc E A S R K N := by kernel_rfl
theorem g_ck1_ok (E : List Int) (A : List Acc.AcD) (S : List Ln) (R : List Rts.Rt) (K : List Lck.Lk) (N : List En) (h : Sm E A S R K N) : g_ck1_vc E A S R K N := by
  unfold g_ck1_vc
  obtain ⟨l1, l2, l3, l4, l5, l6, hi⟩ := h; exact ⟨by omega, rfl⟩
set_option maxRecDepth 20000
theorem ck1_pure (E : List Int) (A : List Acc.AcD) (S : List Ln) (R : List Rts.Rt) (K : List Lck.Lk) (N : List En) (h : Sm E A S R K N) : Pure Tryz.prog 25 [.fptr [.list .tmp I E, .list .tmp AcT A, .list .tmp LnT S, .list .tmp RTy R, .list .tmp Vl K, .list .tmp EnT N]] (.tuple [.int .i64 (Cur.checkF E).1, .int .i64 (Cur.checkF E).2]) :=
  by have k := Pure.of_cond (g_ck1_eq E A S R K N) (g_ck1_ok E A S R K N h) (specs_ok rfl [Cur.sp_check] [] rfl rfl) mixed Tryz.func25; exact k
noncomputable def q_ck1 (E : List Int) (A : List Acc.AcD) (S : List Ln) (R : List Rts.Rt) (K : List Lck.Lk) (N : List En) : Prop × V := (Sm E A S R K N, (.tuple [.int .i64 (Cur.checkF E).1, .int .i64 (Cur.checkF E).2]))
noncomputable def sp_ck1 : FSpec Tryz.prog where
 f := 25
 run := fun
  | [.fptr [v0_0, v0_1, v0_2, v0_3, v0_4, v0_5]] => (asL I v0_0 : Option (List Int)).bind fun E => (asL AcT v0_1 : Option (List Acc.AcD)).bind fun A => (asL LnT v0_2 : Option (List Ln)).bind fun S => (asL RTy v0_3 : Option (List Rts.Rt)).bind fun R => (asL Vl v0_4 : Option (List Lck.Lk)).bind fun K => (asL EnT v0_5 : Option (List En)).bind fun N => some (q_ck1 E A S R K N)
  | _ => none
 ok := fun args pre r h hp => by
  split at h
  · rename_i v0_0 v0_1 v0_2 v0_3 v0_4 v0_5
    obtain ⟨E, h0_0, h⟩ := Option.bind_eq_some_iff.1 h
    obtain ⟨A, h0_1, h⟩ := Option.bind_eq_some_iff.1 h
    obtain ⟨S, h0_2, h⟩ := Option.bind_eq_some_iff.1 h
    obtain ⟨R, h0_3, h⟩ := Option.bind_eq_some_iff.1 h
    obtain ⟨K, h0_4, h⟩ := Option.bind_eq_some_iff.1 h
    obtain ⟨N, h0_5, h⟩ := Option.bind_eq_some_iff.1 h
    exact of_q h hp fun h => (ck1_pure E A S R K N h).weak (.cons (weak_fptr (.cons (asL_weak h0_0) (.cons (asL_weak h0_1) (.cons (asL_weak h0_2) (.cons (asL_weak h0_3) (.cons (asL_weak h0_4) (.cons (asL_weak h0_5) .nil))))))) .nil)
  · cases h
noncomputable def env_ck2 (E : List Int) (A : List Acc.AcD) (S : List Ln) (R : List Rts.Rt) (K : List Lck.Lk) (N : List En) : Env where
  P := Tryz.prog
  ty := tys0
  specs := specsOf [Acc.sp_check]
def g_ck2_vc (E : List Int) (A : List Acc.AcD) (S : List Ln) (R : List Rts.Rt) (K : List Lck.Lk) (N : List En) : Prop :=
  A.length ≤ (1000000000 : Nat) ∧ ((Acc.checkF A).1, (Acc.checkF A).2, ()) = ((Acc.checkF A).1, (Acc.checkF A).2, ())
theorem g_ck2_eq (E : List Int) (A : List Acc.AcD) (S : List Ln) (R : List Rts.Rt) (K : List Lck.Lk) (N : List En) : Cond (env_ck2 E A S R K N) Tryz.f27 [.fptr [.list .tmp I E, .list .tmp AcT A, .list .tmp LnT S, .list .tmp RTy R, .list .tmp Vl K, .list .tmp EnT N]] [.int .i64, .int .i64] ((Acc.checkF A).1, (Acc.checkF A).2, ()) = g_ck2_vc E A S R K N := by kernel_rfl
theorem g_ck2_ok (E : List Int) (A : List Acc.AcD) (S : List Ln) (R : List Rts.Rt) (K : List Lck.Lk) (N : List En) (h : Sm E A S R K N) : g_ck2_vc E A S R K N := by
  unfold g_ck2_vc
  obtain ⟨l1, l2, l3, l4, l5, l6, hi⟩ := h; exact ⟨by omega, rfl⟩
theorem ck2_pure (E : List Int) (A : List Acc.AcD) (S : List Ln) (R : List Rts.Rt) (K : List Lck.Lk) (N : List En) (h : Sm E A S R K N) : Pure Tryz.prog 27 [.fptr [.list .tmp I E, .list .tmp AcT A, .list .tmp LnT S, .list .tmp RTy R, .list .tmp Vl K, .list .tmp EnT N]] (.tuple [.int .i64 (Acc.checkF A).1, .int .i64 (Acc.checkF A).2]) :=
  by have k := Pure.of_cond (g_ck2_eq E A S R K N) (g_ck2_ok E A S R K N h) (specs_ok rfl [Acc.sp_check] [] rfl rfl) mixed Tryz.func27; exact k
noncomputable def q_ck2 (E : List Int) (A : List Acc.AcD) (S : List Ln) (R : List Rts.Rt) (K : List Lck.Lk) (N : List En) : Prop × V := (Sm E A S R K N, (.tuple [.int .i64 (Acc.checkF A).1, .int .i64 (Acc.checkF A).2]))
noncomputable def sp_ck2 : FSpec Tryz.prog where
 f := 27
 run := fun
  | [.fptr [v0_0, v0_1, v0_2, v0_3, v0_4, v0_5]] => (asL I v0_0 : Option (List Int)).bind fun E => (asL AcT v0_1 : Option (List Acc.AcD)).bind fun A => (asL LnT v0_2 : Option (List Ln)).bind fun S => (asL RTy v0_3 : Option (List Rts.Rt)).bind fun R => (asL Vl v0_4 : Option (List Lck.Lk)).bind fun K => (asL EnT v0_5 : Option (List En)).bind fun N => some (q_ck2 E A S R K N)
  | _ => none
 ok := fun args pre r h hp => by
  split at h
  · rename_i v0_0 v0_1 v0_2 v0_3 v0_4 v0_5
    obtain ⟨E, h0_0, h⟩ := Option.bind_eq_some_iff.1 h
    obtain ⟨A, h0_1, h⟩ := Option.bind_eq_some_iff.1 h
    obtain ⟨S, h0_2, h⟩ := Option.bind_eq_some_iff.1 h
    obtain ⟨R, h0_3, h⟩ := Option.bind_eq_some_iff.1 h
    obtain ⟨K, h0_4, h⟩ := Option.bind_eq_some_iff.1 h
    obtain ⟨N, h0_5, h⟩ := Option.bind_eq_some_iff.1 h
    exact of_q h hp fun h => (ck2_pure E A S R K N h).weak (.cons (weak_fptr (.cons (asL_weak h0_0) (.cons (asL_weak h0_1) (.cons (asL_weak h0_2) (.cons (asL_weak h0_3) (.cons (asL_weak h0_4) (.cons (asL_weak h0_5) .nil))))))) .nil)
  · cases h
noncomputable def env_ck3 (E : List Int) (A : List Acc.AcD) (S : List Ln) (R : List Rts.Rt) (K : List Lck.Lk) (N : List En) (n : Int) : Env where
  P := Tryz.prog
  ty := tys0
  specs := specsOf [Stk.sp_check]
def g_ck3_vc (E : List Int) (A : List Acc.AcD) (S : List Ln) (R : List Rts.Rt) (K : List Lck.Lk) (N : List En) (n : Int) : Prop :=
  S.length ≤ (1000000000 : Nat) ∧ ((Stk.checkF S n).1, (Stk.checkF S n).2, ()) = ((Stk.checkF S n).1, (Stk.checkF S n).2, ())
theorem g_ck3_eq (E : List Int) (A : List Acc.AcD) (S : List Ln) (R : List Rts.Rt) (K : List Lck.Lk) (N : List En) (n : Int) : Cond (env_ck3 E A S R K N n) Tryz.f28 [.fptr [.list .tmp I E, .list .tmp AcT A, .list .tmp LnT S, .list .tmp RTy R, .list .tmp Vl K, .list .tmp EnT N], .fptr [.int .i64 n]] [.int .i64, .int .i64] ((Stk.checkF S n).1, (Stk.checkF S n).2, ()) = g_ck3_vc E A S R K N n := by kernel_rfl
theorem g_ck3_ok (E : List Int) (A : List Acc.AcD) (S : List Ln) (R : List Rts.Rt) (K : List Lck.Lk) (N : List En) (n : Int) (h : Sm E A S R K N) : g_ck3_vc E A S R K N n := by
  unfold g_ck3_vc
  obtain ⟨l1, l2, l3, l4, l5, l6, hi⟩ := h; exact ⟨by omega, rfl⟩
theorem ck3_pure (E : List Int) (A : List Acc.AcD) (S : List Ln) (R : List Rts.Rt) (K : List Lck.Lk) (N : List En) (n : Int) (h : Sm E A S R K N) : Pure Tryz.prog 28 [.fptr [.list .tmp I E, .list .tmp AcT A, .list .tmp LnT S, .list .tmp RTy R, .list .tmp Vl K, .list .tmp EnT N], .fptr [.int .i64 n]] (.tuple [.int .i64 (Stk.checkF S n).1, .int .i64 (Stk.checkF S n).2]) :=
  by have k := Pure.of_cond (g_ck3_eq E A S R K N n) (g_ck3_ok E A S R K N n h) (specs_ok rfl [Stk.sp_check] [] rfl rfl) mixed Tryz.func28; exact k
noncomputable def q_ck3 (E : List Int) (A : List Acc.AcD) (S : List Ln) (R : List Rts.Rt) (K : List Lck.Lk) (N : List En) (n : Int) : Prop × V := (Sm E A S R K N, (.tuple [.int .i64 (Stk.checkF S n).1, .int .i64 (Stk.checkF S n).2]))
noncomputable def sp_ck3 : FSpec Tryz.prog where
 f := 28
 run := fun
  | [.fptr [v0_0, v0_1, v0_2, v0_3, v0_4, v0_5], .fptr [.int .i64 n]] => (asL I v0_0 : Option (List Int)).bind fun E => (asL AcT v0_1 : Option (List Acc.AcD)).bind fun A => (asL LnT v0_2 : Option (List Ln)).bind fun S => (asL RTy v0_3 : Option (List Rts.Rt)).bind fun R => (asL Vl v0_4 : Option (List Lck.Lk)).bind fun K => (asL EnT v0_5 : Option (List En)).bind fun N => some (q_ck3 E A S R K N n)
  | _ => none
 ok := fun args pre r h hp => by
  split at h
  · rename_i v0_0 v0_1 v0_2 v0_3 v0_4 v0_5 n
    obtain ⟨E, h0_0, h⟩ := Option.bind_eq_some_iff.1 h
    obtain ⟨A, h0_1, h⟩ := Option.bind_eq_some_iff.1 h
    obtain ⟨S, h0_2, h⟩ := Option.bind_eq_some_iff.1 h
    obtain ⟨R, h0_3, h⟩ := Option.bind_eq_some_iff.1 h
    obtain ⟨K, h0_4, h⟩ := Option.bind_eq_some_iff.1 h
    obtain ⟨N, h0_5, h⟩ := Option.bind_eq_some_iff.1 h
    exact of_q h hp fun h => (ck3_pure E A S R K N n h).weak (.cons (weak_fptr (.cons (asL_weak h0_0) (.cons (asL_weak h0_1) (.cons (asL_weak h0_2) (.cons (asL_weak h0_3) (.cons (asL_weak h0_4) (.cons (asL_weak h0_5) .nil))))))) (.cons (.refl _) .nil))
  · cases h
noncomputable def env_ck4 (E : List Int) (A : List Acc.AcD) (S : List Ln) (R : List Rts.Rt) (K : List Lck.Lk) (N : List En) : Env where
  P := Tryz.prog
  ty := tys0
  specs := specsOf [Rts.sp_check]
def g_ck4_vc (E : List Int) (A : List Acc.AcD) (S : List Ln) (R : List Rts.Rt) (K : List Lck.Lk) (N : List En) : Prop :=
  True ∧ ((Rts.checkF R).1, (Rts.checkF R).2, ()) = ((Rts.checkF R).1, (Rts.checkF R).2, ())
theorem g_ck4_eq (E : List Int) (A : List Acc.AcD) (S : List Ln) (R : List Rts.Rt) (K : List Lck.Lk) (N : List En) : Cond (env_ck4 E A S R K N) Tryz.f30 [.fptr [.list .tmp I E, .list .tmp AcT A, .list .tmp LnT S, .list .tmp RTy R, .list .tmp Vl K, .list .tmp EnT N]] [.int .i64, .int .i64] ((Rts.checkF R).1, (Rts.checkF R).2, ()) = g_ck4_vc E A S R K N := by kernel_rfl
theorem g_ck4_ok (E : List Int) (A : List Acc.AcD) (S : List Ln) (R : List Rts.Rt) (K : List Lck.Lk) (N : List En) (h : Sm E A S R K N) : g_ck4_vc E A S R K N := by
  unfold g_ck4_vc
  exact ⟨trivial, rfl⟩
theorem ck4_pure (E : List Int) (A : List Acc.AcD) (S : List Ln) (R : List Rts.Rt) (K : List Lck.Lk) (N : List En) (h : Sm E A S R K N) : Pure Tryz.prog 30 [.fptr [.list .tmp I E, .list .tmp AcT A, .list .tmp LnT S, .list .tmp RTy R, .list .tmp Vl K, .list .tmp EnT N]] (.tuple [.int .i64 (Rts.checkF R).1, .int .i64 (Rts.checkF R).2]) :=
  by have k := Pure.of_cond (g_ck4_eq E A S R K N) (g_ck4_ok E A S R K N h) (specs_ok rfl [Rts.sp_check] [] rfl rfl) mixed Tryz.func30; exact k
noncomputable def q_ck4 (E : List Int) (A : List Acc.AcD) (S : List Ln) (R : List Rts.Rt) (K : List Lck.Lk) (N : List En) : Prop × V := (Sm E A S R K N, (.tuple [.int .i64 (Rts.checkF R).1, .int .i64 (Rts.checkF R).2]))
noncomputable def sp_ck4 : FSpec Tryz.prog where
 f := 30
 run := fun
  | [.fptr [v0_0, v0_1, v0_2, v0_3, v0_4, v0_5]] => (asL I v0_0 : Option (List Int)).bind fun E => (asL AcT v0_1 : Option (List Acc.AcD)).bind fun A => (asL LnT v0_2 : Option (List Ln)).bind fun S => (asL RTy v0_3 : Option (List Rts.Rt)).bind fun R => (asL Vl v0_4 : Option (List Lck.Lk)).bind fun K => (asL EnT v0_5 : Option (List En)).bind fun N => some (q_ck4 E A S R K N)
  | _ => none
 ok := fun args pre r h hp => by
  split at h
  · rename_i v0_0 v0_1 v0_2 v0_3 v0_4 v0_5
    obtain ⟨E, h0_0, h⟩ := Option.bind_eq_some_iff.1 h
    obtain ⟨A, h0_1, h⟩ := Option.bind_eq_some_iff.1 h
    obtain ⟨S, h0_2, h⟩ := Option.bind_eq_some_iff.1 h
    obtain ⟨R, h0_3, h⟩ := Option.bind_eq_some_iff.1 h
    obtain ⟨K, h0_4, h⟩ := Option.bind_eq_some_iff.1 h
    obtain ⟨N, h0_5, h⟩ := Option.bind_eq_some_iff.1 h
    exact of_q h hp fun h => (ck4_pure E A S R K N h).weak (.cons (weak_fptr (.cons (asL_weak h0_0) (.cons (asL_weak h0_1) (.cons (asL_weak h0_2) (.cons (asL_weak h0_3) (.cons (asL_weak h0_4) (.cons (asL_weak h0_5) .nil))))))) .nil)
  · cases h
noncomputable def env_ck5 (E : List Int) (A : List Acc.AcD) (S : List Ln) (R : List Rts.Rt) (K : List Lck.Lk) (N : List En) (n : Int) : Env where
  P := Tryz.prog
  ty := tys0
  specs := specsOf [Lck.sp_check]
def g_ck5_vc (E : List Int) (A : List Acc.AcD) (S : List Ln) (R : List Rts.Rt) (K : List Lck.Lk) (N : List En) (n : Int) : Prop :=
  K.length ≤ (1000000000 : Nat) ∧ ((Lck.checkF K n).1, (Lck.checkF K n).2, ()) = ((Lck.checkF K n).1, (Lck.checkF K n).2, ())
theorem g_ck5_eq (E : List Int) (A : List Acc.AcD) (S : List Ln) (R : List Rts.Rt) (K : List Lck.Lk) (N : List En) (n : Int) : Cond (env_ck5 E A S R K N n) Tryz.f32 [.fptr [.list .tmp I E, .list .tmp AcT A, .list .tmp LnT S, .list .tmp RTy R, .list .tmp Vl K, .list .tmp EnT N], .fptr [.int .i64 n]] [.int .i64, .int .i64] ((Lck.checkF K n).1, (Lck.checkF K n).2, ()) = g_ck5_vc E A S R K N n := by kernel_rfl
theorem g_ck5_ok (E : List Int) (A : List Acc.AcD) (S : List Ln) (R : List Rts.Rt) (K : List Lck.Lk) (N : List En) (n : Int) (h : Sm E A S R K N) : g_ck5_vc E A S R K N n := by
  unfold g_ck5_vc
  obtain ⟨l1, l2, l3, l4, l5, l6, hi⟩ := h; exact ⟨by omega, rfl⟩
theorem ck5_pure (E : List Int) (A : List Acc.AcD) (S : List Ln) (R : List Rts.Rt) (K : List Lck.Lk) (N : List En) (n : Int) (h : Sm E A S R K N) : Pure Tryz.prog 32 [.fptr [.list .tmp I E, .list .tmp AcT A, .list .tmp LnT S, .list .tmp RTy R, .list .tmp Vl K, .list .tmp EnT N], .fptr [.int .i64 n]] (.tuple [.int .i64 (Lck.checkF K n).1, .int .i64 (Lck.checkF K n).2]) :=
  by have k := Pure.of_cond (g_ck5_eq E A S R K N n) (g_ck5_ok E A S R K N n h) (specs_ok rfl [Lck.sp_check] [] rfl rfl) mixed Tryz.func32; exact k
noncomputable def q_ck5 (E : List Int) (A : List Acc.AcD) (S : List Ln) (R : List Rts.Rt) (K : List Lck.Lk) (N : List En) (n : Int) : Prop × V := (Sm E A S R K N, (.tuple [.int .i64 (Lck.checkF K n).1, .int .i64 (Lck.checkF K n).2]))
noncomputable def sp_ck5 : FSpec Tryz.prog where
 f := 32
 run := fun
  | [.fptr [v0_0, v0_1, v0_2, v0_3, v0_4, v0_5], .fptr [.int .i64 n]] => (asL I v0_0 : Option (List Int)).bind fun E => (asL AcT v0_1 : Option (List Acc.AcD)).bind fun A => (asL LnT v0_2 : Option (List Ln)).bind fun S => (asL RTy v0_3 : Option (List Rts.Rt)).bind fun R => (asL Vl v0_4 : Option (List Lck.Lk)).bind fun K => (asL EnT v0_5 : Option (List En)).bind fun N => some (q_ck5 E A S R K N n)
  | _ => none
 ok := fun args pre r h hp => by
  split at h
  · rename_i v0_0 v0_1 v0_2 v0_3 v0_4 v0_5 n
    obtain ⟨E, h0_0, h⟩ := Option.bind_eq_some_iff.1 h
    obtain ⟨A, h0_1, h⟩ := Option.bind_eq_some_iff.1 h
    obtain ⟨S, h0_2, h⟩ := Option.bind_eq_some_iff.1 h
    obtain ⟨R, h0_3, h⟩ := Option.bind_eq_some_iff.1 h
    obtain ⟨K, h0_4, h⟩ := Option.bind_eq_some_iff.1 h
    obtain ⟨N, h0_5, h⟩ := Option.bind_eq_some_iff.1 h
    exact of_q h hp fun h => (ck5_pure E A S R K N n h).weak (.cons (weak_fptr (.cons (asL_weak h0_0) (.cons (asL_weak h0_1) (.cons (asL_weak h0_2) (.cons (asL_weak h0_3) (.cons (asL_weak h0_4) (.cons (asL_weak h0_5) .nil))))))) (.cons (.refl _) .nil))
  · cases h
noncomputable def env_ck6 (E : List Int) (A : List Acc.AcD) (S : List Ln) (R : List Rts.Rt) (K : List Lck.Lk) (N : List En) : Env where
  P := Tryz.prog
  ty := tys0
  specs := specsOf [sp_all]
def g_ck6_vc (E : List Int) (A : List Acc.AcD) (S : List Ln) (R : List Rts.Rt) (K : List Lck.Lk) (N : List En) : Prop :=
  Sm E A S R K N ∧ ((allF N (↑E.length : Int) (↑A.length : Int) (Acc.thoseF (Acc.leafF A) A.length)).1, (allF N (↑E.length : Int) (↑A.length : Int) (Acc.thoseF (Acc.leafF A) A.length)).2, ()) = ((allF N (↑E.length : Int) (↑A.length : Int) (Acc.thoseF (Acc.leafF A) A.length)).1, (allF N (↑E.length : Int) (↑A.length : Int) (Acc.thoseF (Acc.leafF A) A.length)).2, ())
theorem g_ck6_eq (E : List Int) (A : List Acc.AcD) (S : List Ln) (R : List Rts.Rt) (K : List Lck.Lk) (N : List En) : Cond (env_ck6 E A S R K N) Tryz.f34 [.fptr [.list .tmp I E, .list .tmp AcT A, .list .tmp LnT S, .list .tmp RTy R, .list .tmp Vl K, .list .tmp EnT N]] [.int .i64, .int .i64] ((allF N E.length A.length (Acc.thoseF (Acc.leafF A) A.length)).1, (allF N E.length A.length (Acc.thoseF (Acc.leafF A) A.length)).2, ()) = g_ck6_vc E A S R K N := by kernel_rfl
theorem g_ck6_ok (E : List Int) (A : List Acc.AcD) (S : List Ln) (R : List Rts.Rt) (K : List Lck.Lk) (N : List En) (h : Sm E A S R K N) : g_ck6_vc E A S R K N := by
  unfold g_ck6_vc
  exact ⟨h, rfl⟩
theorem ck6_pure (E : List Int) (A : List Acc.AcD) (S : List Ln) (R : List Rts.Rt) (K : List Lck.Lk) (N : List En) (h : Sm E A S R K N) : Pure Tryz.prog 34 [.fptr [.list .tmp I E, .list .tmp AcT A, .list .tmp LnT S, .list .tmp RTy R, .list .tmp Vl K, .list .tmp EnT N]] (.tuple [.int .i64 (allF N E.length A.length (Acc.thoseF (Acc.leafF A) A.length)).1, .int .i64 (allF N E.length A.length (Acc.thoseF (Acc.leafF A) A.length)).2]) :=
  by have k := Pure.of_cond (g_ck6_eq E A S R K N) (g_ck6_ok E A S R K N h) (specs_ok rfl [sp_all] [] rfl rfl) mixed Tryz.func34; exact k
noncomputable def q_ck6 (E : List Int) (A : List Acc.AcD) (S : List Ln) (R : List Rts.Rt) (K : List Lck.Lk) (N : List En) : Prop × V := (Sm E A S R K N, (.tuple [.int .i64 (allF N E.length A.length (Acc.thoseF (Acc.leafF A) A.length)).1, .int .i64 (allF N E.length A.length (Acc.thoseF (Acc.leafF A) A.length)).2]))
noncomputable def sp_ck6 : FSpec Tryz.prog where
 f := 34
 run := fun
  | [.fptr [v0_0, v0_1, v0_2, v0_3, v0_4, v0_5]] => (asL I v0_0 : Option (List Int)).bind fun E => (asL AcT v0_1 : Option (List Acc.AcD)).bind fun A => (asL LnT v0_2 : Option (List Ln)).bind fun S => (asL RTy v0_3 : Option (List Rts.Rt)).bind fun R => (asL Vl v0_4 : Option (List Lck.Lk)).bind fun K => (asL EnT v0_5 : Option (List En)).bind fun N => some (q_ck6 E A S R K N)
  | _ => none
 ok := fun args pre r h hp => by
  split at h
  · rename_i v0_0 v0_1 v0_2 v0_3 v0_4 v0_5
    obtain ⟨E, h0_0, h⟩ := Option.bind_eq_some_iff.1 h
    obtain ⟨A, h0_1, h⟩ := Option.bind_eq_some_iff.1 h
    obtain ⟨S, h0_2, h⟩ := Option.bind_eq_some_iff.1 h
    obtain ⟨R, h0_3, h⟩ := Option.bind_eq_some_iff.1 h
    obtain ⟨K, h0_4, h⟩ := Option.bind_eq_some_iff.1 h
    obtain ⟨N, h0_5, h⟩ := Option.bind_eq_some_iff.1 h
    exact of_q h hp fun h => (ck6_pure E A S R K N h).weak (.cons (weak_fptr (.cons (asL_weak h0_0) (.cons (asL_weak h0_1) (.cons (asL_weak h0_2) (.cons (asL_weak h0_3) (.cons (asL_weak h0_4) (.cons (asL_weak h0_5) .nil))))))) .nil)
  · cases h
def stepF (p : Int) (c : Int × Int) (r : Int × Int × Int) : Int × Int × Int := if c.2 = 0 then r else (p, c.1, c.2)
theorem step_0 {p : Int} {c : Int × Int} {r : Int × Int × Int} (h : c.2 = 0) : stepF p c r = r := by unfold stepF; rw [if_pos h]
theorem step_1 {p : Int} {c : Int × Int} {r : Int × Int × Int} (h : c.2 ≠ 0) : stepF p c r = (p, c.1, c.2) := by unfold stepF; rw [if_neg h]
def checkF (E : List Int) (A : List Acc.AcD) (S : List Ln) (R : List Rts.Rt) (K : List Lck.Lk) (N : List En) : Int × Int × Int := stepF 1 (Cur.checkF E) (stepF 2 (Acc.checkF A) (stepF 3 (Stk.checkF S E.length) (stepF 4 (Rts.checkF R) (stepF 5 (Lck.checkF K E.length) (stepF 6 (allF N E.length A.length (Acc.thoseF (Acc.leafF A) A.length)) (0, 0, 0))))))
def restF (E : List Int) (A : List Acc.AcD) (S : List Ln) (R : List Rts.Rt) (K : List Lck.Lk) (N : List En) (i : Int) : Int × Int × Int :=
  if i = 0 then checkF E A S R K N else if i = 1 then stepF 2 (Acc.checkF A) (stepF 3 (Stk.checkF S E.length) (stepF 4 (Rts.checkF R) (stepF 5 (Lck.checkF K E.length) (stepF 6 (allF N E.length A.length (Acc.thoseF (Acc.leafF A) A.length)) (0, 0, 0)))))
  else if i = 2 then stepF 3 (Stk.checkF S E.length) (stepF 4 (Rts.checkF R) (stepF 5 (Lck.checkF K E.length) (stepF 6 (allF N E.length A.length (Acc.thoseF (Acc.leafF A) A.length)) (0, 0, 0))))
  else if i = 3 then stepF 4 (Rts.checkF R) (stepF 5 (Lck.checkF K E.length) (stepF 6 (allF N E.length A.length (Acc.thoseF (Acc.leafF A) A.length)) (0, 0, 0)))
  else if i = 4 then stepF 5 (Lck.checkF K E.length) (stepF 6 (allF N E.length A.length (Acc.thoseF (Acc.leafF A) A.length)) (0, 0, 0))
  else if i = 5 then stepF 6 (allF N E.length A.length (Acc.thoseF (Acc.leafF A) A.length)) (0, 0, 0)
  else (0, 0, 0)
theorem all_eq (N : List En) (n k : Int) (ls : List Int) : stepF 6 (entriesF N n k ls) (0, 0, 0) = stepF 6 (allF N n k ls) (0, 0, 0) := by
  unfold entriesF allF
  split
  · rfl
  · cases entGo n k ls N N.length 0 with
    | none => rfl
    | some r => rfl
end Go.Proofs.YtgjpehgnagfghaaGreat.Bks
