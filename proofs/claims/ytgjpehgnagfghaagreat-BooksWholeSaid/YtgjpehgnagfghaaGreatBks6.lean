/-
  Books: few, the same; all lines, as the document has them.
-/
import Derived.Test.YtgjpehgnagfghaaGreatBks5
import Derived.Test.YtgjpehgnagfghaaGreatBks4
namespace Go.Proofs.YtgjpehgnagfghaaGreat.Bks
open Go.Vm
instance decLs : DecidableEq (List Ln) := inferInstance
instance decEn : DecidableEq En := @instDecidableEqProd Int (Int × List Ln) inferInstance (@instDecidableEqProd Int (List Ln) inferInstance decLs)
instance decEns : DecidableEq (List En) := @instDecidableEqList En decEn
def few24 (N : List En) : Bool := decide (N.length ≤ 30) && !N.any fun x => decide (60 < x.2.2.length)
noncomputable def env_few24 (N : List En) : Env where
  P := Tryz.prog
  ty := tys0
  heads := fun | 4 => some { slots := [(3, .int .i64)], boxes := [], inv := fun _ (x : Int × Unit) => 0 ≤ x.1 ∧ x.1 ≤ N.length ∧ (N.any fun x => decide (60 < x.2.2.length)) = ((N.drop x.1.toNat).any fun x => decide (60 < x.2.2.length)), measure := fun _ (x : Int × Unit) => (N.length - x.1).toNat } | _ => none
def g_few24_vc (N : List En) : Prop :=
  (decide ((30 : Int) < (↑N.length : Int)) = true → (false, ()) = (few24 N, ())) ∧ (decide ((30 : Int) < (↑N.length : Int)) = false → (True ∧ (0 : Int) ≤ (0 : Int) ∧ (0 : Int) ≤ (↑N.length : Int) ∧ (N.any fun x => decide ((60 : Nat) < x.2.2.length)) = (List.drop (Int.toNat (0 : Int)) N).any fun x => decide ((60 : Nat) < x.2.2.length)) ∧ ∀ (x : Int × Unit), ((0 : Int) ≤ x.1 ∧ x.1 ≤ (↑N.length : Int) ∧ (N.any fun x => decide ((60 : Nat) < x.2.2.length)) = (List.drop x.1.toNat N).any fun x => decide ((60 : Nat) < x.2.2.length)) → (decide (x.1 < (↑N.length : Int)) = true → ((0 : Int) ≤ x.1 ∧ x.1 < (↑N.length : Int)) ∧ ∀ (x_1 : Int × Int × List (Int × Int × Int × Int)), N[x.1.toNat]? = some x_1 → (decide ((60 : Int) < (↑x_1.2.2.length : Int)) = true → (false, ()) = (few24 N, ())) ∧ (decide ((60 : Int) < (↑x_1.2.2.length : Int)) = false → ((-9223372036854775808 : Int) ≤ x.1 + (1 : Int) ∧ x.1 + (1 : Int) ≤ (9223372036854775807 : Int)) ∧ True ∧ ((0 : Int) ≤ x.1 + (1 : Int) ∧ x.1 + (1 : Int) ≤ (↑N.length : Int) ∧ (N.any fun x => decide ((60 : Nat) < x.2.2.length)) = (List.drop (x.1 + (1 : Int)).toNat N).any fun x => decide ((60 : Nat) < x.2.2.length)) ∧ ((↑N.length : Int) - (x.1 + (1 : Int))).toNat < ((↑N.length : Int) - x.1).toNat)) ∧ (decide (x.1 < (↑N.length : Int)) = false → (true, ()) = (few24 N, ())))
theorem g_few24_eq (N : List En) : Cond (env_few24 N) Tryz.f23 [.list .tmp EnT N] [.bool] (few24 N, ()) = g_few24_vc N := by kernel_rfl
theorem g_few24_ok (N : List En) (h : N.length ≤ 9223372036854775807) : g_few24_vc N := by
  unfold g_few24_vc few24
  simp only [decide_eq_true_eq, decide_eq_false_iff_not]
  refine ⟨fun c => by rw [decide_eq_false (by omega), Bool.false_and], fun c => ⟨⟨trivial, by omega, by omega, rfl⟩, ?_⟩⟩
  rintro ⟨i, ⟨⟩⟩ ⟨h0, h1, hb⟩
  dsimp only at h0 h1 hb ⊢
  rw [hb, decide_eq_true (by omega), Bool.true_and]
  refine ⟨fun d => ⟨⟨h0, d⟩, fun x hx => ⟨fun k => ?_, fun k => ⟨by omega, trivial, ⟨by omega, by omega, ?_⟩, by omega⟩⟩⟩, fun d => ?_⟩
  · rw [any_hit hx (by rw [decide_eq_true (by omega)])]; rfl
  · rw [any_miss h0 hx (by rw [decide_eq_false (by omega)])]
  · rw [any_end d]; rfl
set_option maxRecDepth 20000
theorem few24_pure (N : List En) (h : N.length ≤ 9223372036854775807) : Pure Tryz.prog 23 [.list .tmp EnT N] (.bool (few24 N)) :=
  by have k := Pure.of_cond (g_few24_eq N) (g_few24_ok N h) (specs_ok rfl [] [] rfl rfl) mixed Tryz.func23; exact k
noncomputable def q_few24 (N : List En) : Prop × V := (N.length ≤ 9223372036854775807, (.bool (few24 N)))
noncomputable def sp_few24 : FSpec Tryz.prog where
 f := 23
 run := fun
  | [v0] => (asL EnT v0 : Option (List En)).bind fun N => some (q_few24 N)
  | _ => none
 ok := fun args pre r h hp => by
  split at h
  · rename_i v0
    obtain ⟨N, h0, h⟩ := Option.bind_eq_some_iff.1 h
    exact of_q h hp fun h => (few24_pure N h).weak (.cons (asL_weak h0) .nil)
  · cases h
def fewF (E : List Int) (A : List Acc.AcD) (S : List Ln) (R : List Rts.Rt) (K : List Lck.Lk) (N : List En) : Bool := decide (E.length ≤ 50) && (decide (A.length ≤ 65) && (decide (S.length ≤ 20) && (decide (R.length ≤ 60) && (decide (K.length ≤ 60) && few24 N))))
noncomputable def env_few (E : List Int) (A : List Acc.AcD) (S : List Ln) (R : List Rts.Rt) (K : List Lck.Lk) (N : List En) : Env where
  P := Tryz.prog
  ty := tys0
  specs := specsOf [sp_few24]
def g_few_vc (E : List Int) (A : List Acc.AcD) (S : List Ln) (R : List Rts.Rt) (K : List Lck.Lk) (N : List En) : Prop :=
  (decide ((↑E.length : Int) ≤ (50 : Int)) = true → (decide ((↑A.length : Int) ≤ (65 : Int)) = true → (decide ((↑S.length : Int) ≤ (20 : Int)) = true → (decide ((↑R.length : Int) ≤ (60 : Int)) = true → (decide ((↑K.length : Int) ≤ (60 : Int)) = true → N.length ≤ (9223372036854775807 : Nat) ∧ (few24 N, ()) = (fewF E A S R K N, ())) ∧ (decide ((↑K.length : Int) ≤ (60 : Int)) = !true → (false, ()) = (fewF E A S R K N, ()))) ∧ (decide ((↑R.length : Int) ≤ (60 : Int)) = !true → (false, ()) = (fewF E A S R K N, ()))) ∧ (decide ((↑S.length : Int) ≤ (20 : Int)) = !true → (false, ()) = (fewF E A S R K N, ()))) ∧ (decide ((↑A.length : Int) ≤ (65 : Int)) = !true → (false, ()) = (fewF E A S R K N, ()))) ∧ (decide ((↑E.length : Int) ≤ (50 : Int)) = !true → (false, ()) = (fewF E A S R K N, ()))
theorem g_few_eq (E : List Int) (A : List Acc.AcD) (S : List Ln) (R : List Rts.Rt) (K : List Lck.Lk) (N : List En) : Cond (env_few E A S R K N) Tryz.f7 [.agg [.list .tmp I E, .list .tmp AcT A, .list .tmp LnT S, .list .tmp RTy R, .list .tmp Vl K, .list .tmp EnT N]] [.bool] (fewF E A S R K N, ()) = g_few_vc E A S R K N := by kernel_rfl
theorem g_few_ok (E : List Int) (A : List Acc.AcD) (S : List Ln) (R : List Rts.Rt) (K : List Lck.Lk) (N : List En) (h : N.length ≤ 9223372036854775807) : g_few_vc E A S R K N := by
  unfold g_few_vc fewF
  simp only [decide_eq_true_eq, Bool.not_true, decide_eq_false_iff_not]
  refine ⟨fun a => ⟨fun b => ⟨fun c => ⟨fun d => ⟨fun e => ⟨h, ?_⟩, fun e => ?_⟩, fun d => ?_⟩, fun c => ?_⟩, fun b => ?_⟩, fun a => ?_⟩
  · rw [decide_eq_true (show E.length ≤ 50 by omega), decide_eq_true (show A.length ≤ 65 by omega), decide_eq_true (show S.length ≤ 20 by omega), decide_eq_true (show R.length ≤ 60 by omega), decide_eq_true (show K.length ≤ 60 by omega)]; rfl
  · rw [decide_eq_true (show E.length ≤ 50 by omega), decide_eq_true (show A.length ≤ 65 by omega), decide_eq_true (show S.length ≤ 20 by omega), decide_eq_true (show R.length ≤ 60 by omega), decide_eq_false (show ¬ K.length ≤ 60 by omega)]; rfl
  · rw [decide_eq_true (show E.length ≤ 50 by omega), decide_eq_true (show A.length ≤ 65 by omega), decide_eq_true (show S.length ≤ 20 by omega), decide_eq_false (show ¬ R.length ≤ 60 by omega)]; rfl
  · rw [decide_eq_true (show E.length ≤ 50 by omega), decide_eq_true (show A.length ≤ 65 by omega), decide_eq_false (show ¬ S.length ≤ 20 by omega)]; rfl
  · rw [decide_eq_true (show E.length ≤ 50 by omega), decide_eq_false (show ¬ A.length ≤ 65 by omega)]; rfl
  · rw [decide_eq_false (show ¬ E.length ≤ 50 by omega)]; rfl
theorem few_pure (E : List Int) (A : List Acc.AcD) (S : List Ln) (R : List Rts.Rt) (K : List Lck.Lk) (N : List En) (h : N.length ≤ 9223372036854775807) : Pure Tryz.prog 7 [.agg [.list .tmp I E, .list .tmp AcT A, .list .tmp LnT S, .list .tmp RTy R, .list .tmp Vl K, .list .tmp EnT N]] (.bool (fewF E A S R K N)) :=
  by have k := Pure.of_cond (g_few_eq E A S R K N) (g_few_ok E A S R K N h) (specs_ok rfl [sp_few24] [] rfl rfl) mixed Tryz.func7; exact k
noncomputable def q_few (E : List Int) (A : List Acc.AcD) (S : List Ln) (R : List Rts.Rt) (K : List Lck.Lk) (N : List En) : Prop × V := (N.length ≤ 9223372036854775807, (.bool (fewF E A S R K N)))
noncomputable def sp_few : FSpec Tryz.prog where
 f := 7
 run := fun
  | [.agg [v0_0, v0_1, v0_2, v0_3, v0_4, v0_5]] => (asL I v0_0 : Option (List Int)).bind fun E => (asL AcT v0_1 : Option (List Acc.AcD)).bind fun A => (asL LnT v0_2 : Option (List Ln)).bind fun S => (asL RTy v0_3 : Option (List Rts.Rt)).bind fun R => (asL Vl v0_4 : Option (List Lck.Lk)).bind fun K => (asL EnT v0_5 : Option (List En)).bind fun N => some (q_few E A S R K N)
  | _ => none
 ok := fun args pre r h hp => by
  split at h
  · rename_i v0_0 v0_1 v0_2 v0_3 v0_4 v0_5
    obtain ⟨E, h0_0, h⟩ := Option.bind_eq_some_iff.1 h
    obtain ⟨A, h0_1, h⟩ := Option.bind_eq_some_iff.1 h
    obtain ⟨S, h0_2, h⟩ := Option.bind_eq_some_iff.1 h
    obtain ⟨R, h0_3, h⟩ := Option.bind_eq_some_iff.1 h
    obtain ⟨K, h0_4, h⟩ := Option.bind_eq_some_iff.1 h
    obtain ⟨N, h0_5, h⟩ := Option.bind_eq_some_iff.1 h
    exact of_q h hp fun h => (few_pure E A S R K N h).weak (.cons (Weak.agg (.cons (asL_weak h0_0) (.cons (asL_weak h0_1) (.cons (asL_weak h0_2) (.cons (asL_weak h0_3) (.cons (asL_weak h0_4) (.cons (asL_weak h0_5) .nil))))))) .nil)
  · cases h
def sameB (E : List Int) (A : List Acc.AcD) (S : List Ln) (R : List Rts.Rt) (K : List Lck.Lk) (N : List En) (E2 : List Int) (A2 : List Acc.AcD) (S2 : List Ln) (R2 : List Rts.Rt) (K2 : List Lck.Lk) (N2 : List En) : Bool := decide (E = E2) && (decide (A = A2) && (decide (S = S2) && (decide (R = R2) && (decide (K = K2) && decide (N = N2)))))
noncomputable def env_same1 (p r q s : Int) (L M : List Ln) : Env where
  P := Tryz.prog
  ty := tys0
  specs := specsOf [Eql.sp_elin]
def g_same1_vc (p : Int) (r : Int) (q : Int) (s : Int) (L : List Ln) (M : List Ln) : Prop :=
  (decide (p = q) = true → (decide (r = s) = true → L.length ≤ (1000000000 : Nat) ∧ (decide (L = M), ()) = (decide ((p, r, L) = (q, s, M)), ())) ∧ (decide (r = s) = !true → (false, ()) = (decide ((p, r, L) = (q, s, M)), ()))) ∧ (decide (p = q) = !true → (false, ()) = (decide ((p, r, L) = (q, s, M)), ()))
theorem g_same1_eq (p r q s : Int) (L M : List Ln) : Cond (env_same1 p r q s L M) Tryz.f52 [.agg [.int .i64 p, .int .i64 r, .list .tmp LnT L], .agg [.int .i64 q, .int .i64 s, .list .tmp LnT M]] [.bool] (decide ((p, r, L) = (q, s, M)), ()) = g_same1_vc p r q s L M := by kernel_rfl
theorem g_same1_ok (p r q s : Int) (L M : List Ln) (h : L.length ≤ 1000000000) : g_same1_vc p r q s L M := by
  unfold g_same1_vc
  simp only [decide_eq_true_eq, decide_eq_false_iff_not, Bool.not_true, Bool.not_false]
  refine ⟨fun c => ⟨fun d => ⟨h, ?_⟩, fun d => ?_⟩, fun c => ?_⟩
  · subst c d; simp
  · rw [decide_eq_false (fun e => d (by cases e; rfl))]
  · rw [decide_eq_false (fun e => c (by cases e; rfl))]
theorem same1_pure (p r q s : Int) (L M : List Ln) (h : L.length ≤ 1000000000) : Pure Tryz.prog 52 [.agg [.int .i64 p, .int .i64 r, .list .tmp LnT L], .agg [.int .i64 q, .int .i64 s, .list .tmp LnT M]] (.bool (decide ((p, r, L) = (q, s, M)))) :=
  by have k := Pure.of_cond (g_same1_eq p r q s L M) (g_same1_ok p r q s L M h) (specs_ok rfl [Eql.sp_elin] [] rfl rfl) mixed Tryz.func52; exact k
noncomputable def q_same1 (p r q s : Int) (L M : List Ln) : Prop × V := (L.length ≤ 1000000000, (.bool (decide ((p, r, L) = (q, s, M)))))
noncomputable def sp_same1 : FSpec Tryz.prog where
 f := 52
 run := fun
  | [.agg [.int .i64 p, .int .i64 r, v0_2], .agg [.int .i64 q, .int .i64 s, v1_2]] => (asL LnT v0_2 : Option (List Ln)).bind fun L => (asL LnT v1_2 : Option (List Ln)).bind fun M => some (q_same1 p r q s L M)
  | _ => none
 ok := fun args pre r h hp => by
  split at h
  · rename_i p r v0_2 q s v1_2
    obtain ⟨L, h0_2, h⟩ := Option.bind_eq_some_iff.1 h
    obtain ⟨M, h1_2, h⟩ := Option.bind_eq_some_iff.1 h
    exact of_q h hp fun h => (same1_pure p r q s L M h).weak (.cons (Weak.agg (.cons (.refl _) (.cons (.refl _) (.cons (asL_weak h0_2) .nil)))) (.cons (Weak.agg (.cons (.refl _) (.cons (.refl _) (.cons (asL_weak h1_2) .nil)))) .nil))
  · cases h
noncomputable def env_eqf (l m : List En) : Env where
  P := Tryz.prog
  ty := tys0
  specs := specsOf [sp_same1]
  heads := fun | 4 => some { slots := [(17, .int .i64)], boxes := [], inv := fun _ (x : Int × Unit) => 0 ≤ x.1 ∧ x.1 ≤ l.length ∧ l.take x.1.toNat = m.take x.1.toNat, measure := fun _ (x : Int × Unit) => (l.length - x.1).toNat } | _ => none
def g_eqf_vc (l : List En) (m : List En) : Prop :=
  ((!decide ((↑l.length : Int) = (↑m.length : Int))) = true → (false, ()) = (decide (l = m), ())) ∧ ((!decide ((↑l.length : Int) = (↑m.length : Int))) = false → (True ∧ (0 : Int) ≤ (0 : Int) ∧ (0 : Int) ≤ (↑l.length : Int) ∧ List.take (Int.toNat (0 : Int)) l = List.take (Int.toNat (0 : Int)) m) ∧ ∀ (x : Int × Unit), (0 : Int) ≤ x.1 ∧ x.1 ≤ (↑l.length : Int) ∧ List.take x.1.toNat l = List.take x.1.toNat m → (decide (x.1 < (↑l.length : Int)) = true → ((0 : Int) ≤ x.1 ∧ x.1 < (↑l.length : Int)) ∧ ∀ (x_1 : Int × Int × List (Int × Int × Int × Int)), l[x.1.toNat]? = some x_1 → ((0 : Int) ≤ x.1 ∧ x.1 < (↑m.length : Int)) ∧ ∀ (x_2 : Int × Int × List (Int × Int × Int × Int)), m[x.1.toNat]? = some x_2 → x_1.2.2.length ≤ (1000000000 : Nat) ∧ ((!decide ((x_1.1, x_1.2.1, x_1.2.2) = (x_2.1, x_2.2.1, x_2.2.2))) = true → (false, ()) = (decide (l = m), ())) ∧ ((!decide ((x_1.1, x_1.2.1, x_1.2.2) = (x_2.1, x_2.2.1, x_2.2.2))) = false → ((-9223372036854775808 : Int) ≤ x.1 + (1 : Int) ∧ x.1 + (1 : Int) ≤ (9223372036854775807 : Int)) ∧ True ∧ ((0 : Int) ≤ x.1 + (1 : Int) ∧ x.1 + (1 : Int) ≤ (↑l.length : Int) ∧ List.take (x.1 + (1 : Int)).toNat l = List.take (x.1 + (1 : Int)).toNat m) ∧ ((↑l.length : Int) - (x.1 + (1 : Int))).toNat < ((↑l.length : Int) - x.1).toNat)) ∧ (decide (x.1 < (↑l.length : Int)) = false → (true, ()) = (decide (l = m), ())))
theorem g_eqf_eq (l m : List En) : Cond (env_eqf l m) Tryz.f59 [.list .tmp EnT l, .list .tmp EnT m, .fn (.func 52) [] []] [.bool] (decide (l = m), ()) = g_eqf_vc l m := by kernel_rfl
theorem g_eqf_ok (l m : List En) (h : l.length ≤ 1000000000 ∧ InE l) : g_eqf_vc l m := by
  obtain ⟨h, hi⟩ := h
  unfold g_eqf_vc
  simp only [decide_eq_true_eq, decide_eq_false_iff_not, Bool.not_eq_true', Bool.not_eq_false']
  refine ⟨fun k => ?_, fun k => ⟨⟨trivial, by omega, by omega, rfl⟩, ?_⟩⟩
  · rw [decide_eq_false (fun e => k (by rw [e]))]
  rintro ⟨i, ⟨⟩⟩ ⟨i0, i1, ht⟩
  dsimp only at i0 i1 ht ⊢
  refine ⟨fun c => ⟨⟨i0, c⟩, fun x hx => ⟨⟨i0, by omega⟩, fun y hy => ⟨by have := (ine_at hi hx).2; omega, fun d => ?_, fun d => ⟨by omega, trivial, ⟨by omega, by omega, ?_⟩, by omega⟩⟩⟩⟩, fun c => ?_⟩
  · rw [decide_eq_false]
    intro e
    subst e
    rw [hx] at hy
    cases hy
    exact d rfl
  · rw [show (i + 1).toNat = i.toNat + 1 by omega]
    exact Rts.take_eq ht hx hy d
  · rw [List.take_of_length_le (by omega), List.take_of_length_le (by omega)] at ht
    rw [decide_eq_true ht]
theorem eqf_pure (l m : List En) (h : l.length ≤ 1000000000 ∧ InE l) : Pure Tryz.prog 59 [.list .tmp EnT l, .list .tmp EnT m, .fn (.func 52) [] []] (.bool (decide (l = m))) :=
  by have k := Pure.of_cond (g_eqf_eq l m) (g_eqf_ok l m h) (specs_ok rfl [sp_same1] [] rfl rfl) mixed Tryz.func59; exact k
noncomputable def q_eqf (l m : List En) : Prop × V := (l.length ≤ 1000000000 ∧ InE l, (.bool (decide (l = m))))
noncomputable def sp_eqf : FSpec Tryz.prog where
 f := 59
 run := fun
  | [v0, v1, .fn (.func 52) [] []] => (asL EnT v0 : Option (List En)).bind fun l => (asL EnT v1 : Option (List En)).bind fun m => some (q_eqf l m)
  | _ => none
 ok := fun args pre r h hp => by
  split at h
  · rename_i v0 v1
    obtain ⟨l, h0, h⟩ := Option.bind_eq_some_iff.1 h
    obtain ⟨m, h1, h⟩ := Option.bind_eq_some_iff.1 h
    exact of_q h hp fun h => (eqf_pure l m h).weak (.cons (asL_weak h0) (.cons (asL_weak h1) (.cons (.refl _) .nil)))
  · cases h
noncomputable def env_same (E : List Int) (A : List Acc.AcD) (S : List Ln) (R : List Rts.Rt) (K : List Lck.Lk) (N : List En) (E2 : List Int) (A2 : List Acc.AcD) (S2 : List Ln) (R2 : List Rts.Rt) (K2 : List Lck.Lk) (N2 : List En) : Env where
  P := Tryz.prog
  ty := tys0
  specs := specsOf [Eql.sp_eint, Eql.sp_eacc, Eql.sp_estk, Eql.sp_erat, Eql.sp_elck, sp_eqf]
def g_same_vc (E : List Int) (A : List Acc.AcD) (S : List Ln) (R : List Rts.Rt) (K : List Lck.Lk) (N : List En) (E2 : List Int) (A2 : List Acc.AcD) (S2 : List Ln) (R2 : List Rts.Rt) (K2 : List Lck.Lk) (N2 : List En) : Prop :=
  E.length ≤ (1000000000 : Nat) ∧ (decide (E = E2) = true → A.length ≤ (1000000000 : Nat) ∧ (decide (A = A2) = true → S.length ≤ (1000000000 : Nat) ∧ (decide (S = S2) = true → R.length ≤ (1000000000 : Nat) ∧ (decide (R = R2) = true → K.length ≤ (1000000000 : Nat) ∧ (decide (K = K2) = true → (N.length ≤ (1000000000 : Nat) ∧ InE N) ∧ (decide (N = N2), ()) = (sameB E A S R K N E2 A2 S2 R2 K2 N2, ())) ∧ (decide (K = K2) = !true → (false, ()) = (sameB E A S R K N E2 A2 S2 R2 K2 N2, ()))) ∧ (decide (R = R2) = !true → (false, ()) = (sameB E A S R K N E2 A2 S2 R2 K2 N2, ()))) ∧ (decide (S = S2) = !true → (false, ()) = (sameB E A S R K N E2 A2 S2 R2 K2 N2, ()))) ∧ (decide (A = A2) = !true → (false, ()) = (sameB E A S R K N E2 A2 S2 R2 K2 N2, ()))) ∧ (decide (E = E2) = !true → (false, ()) = (sameB E A S R K N E2 A2 S2 R2 K2 N2, ()))
theorem g_same_eq (E : List Int) (A : List Acc.AcD) (S : List Ln) (R : List Rts.Rt) (K : List Lck.Lk) (N : List En) (E2 : List Int) (A2 : List Acc.AcD) (S2 : List Ln) (R2 : List Rts.Rt) (K2 : List Lck.Lk) (N2 : List En) : Cond (env_same E A S R K N E2 A2 S2 R2 K2 N2) Tryz.f16 [.agg [.list .tmp I E, .list .tmp AcT A, .list .tmp LnT S, .list .tmp RTy R, .list .tmp Vl K, .list .tmp EnT N], .agg [.list .tmp I E2, .list .tmp AcT A2, .list .tmp LnT S2, .list .tmp RTy R2, .list .tmp Vl K2, .list .tmp EnT N2]] [.bool] (sameB E A S R K N E2 A2 S2 R2 K2 N2, ()) = g_same_vc E A S R K N E2 A2 S2 R2 K2 N2 := by kernel_rfl
theorem g_same_ok (E : List Int) (A : List Acc.AcD) (S : List Ln) (R : List Rts.Rt) (K : List Lck.Lk) (N : List En) (E2 : List Int) (A2 : List Acc.AcD) (S2 : List Ln) (R2 : List Rts.Rt) (K2 : List Lck.Lk) (N2 : List En) (h : Sm E A S R K N) : g_same_vc E A S R K N E2 A2 S2 R2 K2 N2 := by
  obtain ⟨l1, l2, l3, l4, l5, l6, hi⟩ := h
  unfold g_same_vc sameB
  refine ⟨by omega, fun a => ⟨by omega, fun b => ⟨by omega, fun c => ⟨by omega, fun d => ⟨by omega, fun e => ⟨⟨by omega, hi⟩, ?_⟩, fun e => ?_⟩, fun d => ?_⟩, fun c => ?_⟩, fun b => ?_⟩, fun a => ?_⟩
  · rw [a, b, c, d, e]; rfl
  · rw [a, b, c, d, e]; rfl
  · rw [a, b, c, d]; rfl
  · rw [a, b, c]; rfl
  · rw [a, b]; rfl
  · rw [a]; rfl
theorem same_pure (E : List Int) (A : List Acc.AcD) (S : List Ln) (R : List Rts.Rt) (K : List Lck.Lk) (N : List En) (E2 : List Int) (A2 : List Acc.AcD) (S2 : List Ln) (R2 : List Rts.Rt) (K2 : List Lck.Lk) (N2 : List En) (h : Sm E A S R K N) : Pure Tryz.prog 16 [.agg [.list .tmp I E, .list .tmp AcT A, .list .tmp LnT S, .list .tmp RTy R, .list .tmp Vl K, .list .tmp EnT N], .agg [.list .tmp I E2, .list .tmp AcT A2, .list .tmp LnT S2, .list .tmp RTy R2, .list .tmp Vl K2, .list .tmp EnT N2]] (.bool (sameB E A S R K N E2 A2 S2 R2 K2 N2)) :=
  by have k := Pure.of_cond (g_same_eq E A S R K N E2 A2 S2 R2 K2 N2) (g_same_ok E A S R K N E2 A2 S2 R2 K2 N2 h) (specs_ok rfl [Eql.sp_eint, Eql.sp_eacc, Eql.sp_estk, Eql.sp_erat, Eql.sp_elck, sp_eqf] [] rfl rfl) mixed Tryz.func16; exact k
noncomputable def q_same (E : List Int) (A : List Acc.AcD) (S : List Ln) (R : List Rts.Rt) (K : List Lck.Lk) (N : List En) (E2 : List Int) (A2 : List Acc.AcD) (S2 : List Ln) (R2 : List Rts.Rt) (K2 : List Lck.Lk) (N2 : List En) : Prop × V := (Sm E A S R K N, (.bool (sameB E A S R K N E2 A2 S2 R2 K2 N2)))
noncomputable def sp_same : FSpec Tryz.prog where
 f := 16
 run := fun
  | [.agg [v0_0, v0_1, v0_2, v0_3, v0_4, v0_5], .agg [v1_0, v1_1, v1_2, v1_3, v1_4, v1_5]] => (asL I v0_0 : Option (List Int)).bind fun E => (asL AcT v0_1 : Option (List Acc.AcD)).bind fun A => (asL LnT v0_2 : Option (List Ln)).bind fun S => (asL RTy v0_3 : Option (List Rts.Rt)).bind fun R => (asL Vl v0_4 : Option (List Lck.Lk)).bind fun K => (asL EnT v0_5 : Option (List En)).bind fun N => (asL I v1_0 : Option (List Int)).bind fun E2 => (asL AcT v1_1 : Option (List Acc.AcD)).bind fun A2 => (asL LnT v1_2 : Option (List Ln)).bind fun S2 => (asL RTy v1_3 : Option (List Rts.Rt)).bind fun R2 => (asL Vl v1_4 : Option (List Lck.Lk)).bind fun K2 => (asL EnT v1_5 : Option (List En)).bind fun N2 => some (q_same E A S R K N E2 A2 S2 R2 K2 N2)
  | _ => none
 ok := fun args pre r h hp => by
  split at h
  · rename_i v0_0 v0_1 v0_2 v0_3 v0_4 v0_5 v1_0 v1_1 v1_2 v1_3 v1_4 v1_5
    obtain ⟨E, h0_0, h⟩ := Option.bind_eq_some_iff.1 h
    obtain ⟨A, h0_1, h⟩ := Option.bind_eq_some_iff.1 h
    obtain ⟨S, h0_2, h⟩ := Option.bind_eq_some_iff.1 h
    obtain ⟨R, h0_3, h⟩ := Option.bind_eq_some_iff.1 h
    obtain ⟨K, h0_4, h⟩ := Option.bind_eq_some_iff.1 h
    obtain ⟨N, h0_5, h⟩ := Option.bind_eq_some_iff.1 h
    obtain ⟨E2, h1_0, h⟩ := Option.bind_eq_some_iff.1 h
    obtain ⟨A2, h1_1, h⟩ := Option.bind_eq_some_iff.1 h
    obtain ⟨S2, h1_2, h⟩ := Option.bind_eq_some_iff.1 h
    obtain ⟨R2, h1_3, h⟩ := Option.bind_eq_some_iff.1 h
    obtain ⟨K2, h1_4, h⟩ := Option.bind_eq_some_iff.1 h
    obtain ⟨N2, h1_5, h⟩ := Option.bind_eq_some_iff.1 h
    exact of_q h hp fun h => (same_pure E A S R K N E2 A2 S2 R2 K2 N2 h).weak (.cons (Weak.agg (.cons (asL_weak h0_0) (.cons (asL_weak h0_1) (.cons (asL_weak h0_2) (.cons (asL_weak h0_3) (.cons (asL_weak h0_4) (.cons (asL_weak h0_5) .nil))))))) (.cons (Weak.agg (.cons (asL_weak h1_0) (.cons (asL_weak h1_1) (.cons (asL_weak h1_2) (.cons (asL_weak h1_3) (.cons (asL_weak h1_4) (.cons (asL_weak h1_5) .nil))))))) .nil))
  · cases h
noncomputable def env_rsame (E : List Int) (A : List Acc.AcD) (S : List Ln) (R : List Rts.Rt) (K : List Lck.Lk) (N : List En) (E2 : List Int) (A2 : List Acc.AcD) (S2 : List Ln) (R2 : List Rts.Rt) (K2 : List Lck.Lk) (N2 : List En) : Env where
  P := Tryz.prog
  ty := tys0
  specs := specsOf [Stk.sp_sameInts, Eql.sp_racc, Stk.sp_same, Rts.sp_rsame, Eql.sp_rlck, Ent.sp_same]
  frz := fun | 70 => true | _ => false
  heads := fun | 4 => some { slots := [(5, .int .i64)], boxes := [], keep := [2, 3], inv := fun _ (x : Int × Unit) => 0 ≤ x.1 ∧ x.1 ≤ N.length ∧ N.take x.1.toNat = N2.take x.1.toNat, measure := fun _ (x : Int × Unit) => (N.length - x.1).toNat } | _ => none
abbrev bx_rsame_1 (E2 : List Int) (A2 : List Acc.AcD) (S2 : List Ln) (R2 : List Rts.Rt) (K2 : List Lck.Lk) (N2 : List En) : _root_.Go.Vm.Obj := Obj.box [V.list LK.tmp I E2, V.list LK.tmp AcT A2, V.list LK.tmp LnT S2, V.list LK.tmp RTy R2, V.list LK.tmp Vl K2, V.list LK.tmp EnT N2]
abbrev bx_rsame_2 (E : List Int) (A : List Acc.AcD) (S : List Ln) (R : List Rts.Rt) (K : List Lck.Lk) (N : List En) : _root_.Go.Vm.Obj := Obj.box [V.list LK.tmp I E, V.list LK.tmp AcT A, V.list LK.tmp LnT S, V.list LK.tmp RTy R, V.list LK.tmp Vl K, V.list LK.tmp EnT N]
def g_rsame_vc (E : List Int) (A : List Acc.AcD) (S : List Ln) (R : List Rts.Rt) (K : List Lck.Lk) (N : List En) (E2 : List Int) (A2 : List Acc.AcD) (S2 : List Ln) (R2 : List Rts.Rt) (K2 : List Lck.Lk) (N2 : List En) : Prop :=
  E.length ≤ (1000000000 : Nat) ∧ ((!decide (E = E2)) = false → A.length ≤ (1000000000 : Nat) ∧ ((!decide (A = A2)) = false → S.length ≤ (1000000000 : Nat) ∧ ((!decide (S = S2)) = false → (R.length ≤ (1000000 : Nat) ∧ R2.length ≤ (1000000 : Nat)) ∧ ((!decide (R = R2)) = false → K.length ≤ (1000000000 : Nat) ∧ ((!decide (K = K2)) = false → ((!decide ((↑N.length : Int) = (↑N2.length : Int))) = true → (false, ()) = (sameB E A S R K N E2 A2 S2 R2 K2 N2, ())) ∧ ((!decide ((↑N.length : Int) = (↑N2.length : Int))) = false → ((some (bx_rsame_2 E A S R K N) = some (bx_rsame_2 E A S R K N) ∧ some (bx_rsame_1 E2 A2 S2 R2 K2 N2) = some (bx_rsame_1 E2 A2 S2 R2 K2 N2) ∧ True) ∧ (0 : Int) ≤ (0 : Int) ∧ (0 : Int) ≤ (↑N.length : Int) ∧ List.take (Int.toNat (0 : Int)) N = List.take (Int.toNat (0 : Int)) N2) ∧ ∀ (x : Int × Unit), (0 : Int) ≤ x.1 ∧ x.1 ≤ (↑N.length : Int) ∧ List.take x.1.toNat N = List.take x.1.toNat N2 → (decide (x.1 < (↑N.length : Int)) = true → ((0 : Int) ≤ x.1 ∧ x.1 < (↑N.length : Int)) ∧ ∀ (x_1 : Int × Int × List (Int × Int × Int × Int)), N[x.1.toNat]? = some x_1 → ((0 : Int) ≤ x.1 ∧ x.1 < (↑N2.length : Int)) ∧ ∀ (x_2 : Int × Int × List (Int × Int × Int × Int)), N2[x.1.toNat]? = some x_2 → x_1.2.2.length ≤ (1000000000 : Nat) ∧ ((!Ent.sameE x_1.1 x_1.2.1 x_1.2.2 x_2.1 x_2.2.1 x_2.2.2) = true → (false, ()) = (sameB E A S R K N E2 A2 S2 R2 K2 N2, ())) ∧ ((!Ent.sameE x_1.1 x_1.2.1 x_1.2.2 x_2.1 x_2.2.1 x_2.2.2) = false → ((-9223372036854775808 : Int) ≤ x.1 + (1 : Int) ∧ x.1 + (1 : Int) ≤ (9223372036854775807 : Int)) ∧ (some (bx_rsame_2 E A S R K N) = some (bx_rsame_2 E A S R K N) ∧ some (bx_rsame_1 E2 A2 S2 R2 K2 N2) = some (bx_rsame_1 E2 A2 S2 R2 K2 N2) ∧ True) ∧ ((0 : Int) ≤ x.1 + (1 : Int) ∧ x.1 + (1 : Int) ≤ (↑N.length : Int) ∧ List.take (x.1 + (1 : Int)).toNat N = List.take (x.1 + (1 : Int)).toNat N2) ∧ ((↑N.length : Int) - (x.1 + (1 : Int))).toNat < ((↑N.length : Int) - x.1).toNat)) ∧ (decide (x.1 < (↑N.length : Int)) = false → (true, ()) = (sameB E A S R K N E2 A2 S2 R2 K2 N2, ())))) ∧ ((!decide (K = K2)) = !false → (false, ()) = (sameB E A S R K N E2 A2 S2 R2 K2 N2, ()))) ∧ ((!decide (R = R2)) = !false → (false, ()) = (sameB E A S R K N E2 A2 S2 R2 K2 N2, ()))) ∧ ((!decide (S = S2)) = !false → (false, ()) = (sameB E A S R K N E2 A2 S2 R2 K2 N2, ()))) ∧ ((!decide (A = A2)) = !false → (false, ()) = (sameB E A S R K N E2 A2 S2 R2 K2 N2, ()))) ∧ ((!decide (E = E2)) = !false → (false, ()) = (sameB E A S R K N E2 A2 S2 R2 K2 N2, ()))
theorem g_rsame_eq (E : List Int) (A : List Acc.AcD) (S : List Ln) (R : List Rts.Rt) (K : List Lck.Lk) (N : List En) (E2 : List Int) (A2 : List Acc.AcD) (S2 : List Ln) (R2 : List Rts.Rt) (K2 : List Lck.Lk) (N2 : List En) : Cond (env_rsame E A S R K N E2 A2 S2 R2 K2 N2) Tryz.f13 [.agg [.list .tmp I E, .list .tmp AcT A, .list .tmp LnT S, .list .tmp RTy R, .list .tmp Vl K, .list .tmp EnT N], .agg [.list .tmp I E2, .list .tmp AcT A2, .list .tmp LnT S2, .list .tmp RTy R2, .list .tmp Vl K2, .list .tmp EnT N2]] [.bool] (sameB E A S R K N E2 A2 S2 R2 K2 N2, ()) = g_rsame_vc E A S R K N E2 A2 S2 R2 K2 N2 := by kernel_rfl
theorem g_rsame_ok (E : List Int) (A : List Acc.AcD) (S : List Ln) (R : List Rts.Rt) (K : List Lck.Lk) (N : List En) (E2 : List Int) (A2 : List Acc.AcD) (S2 : List Ln) (R2 : List Rts.Rt) (K2 : List Lck.Lk) (N2 : List En) (h : Sm E A S R K N ∧ Sm E2 A2 S2 R2 K2 N2) : g_rsame_vc E A S R K N E2 A2 S2 R2 K2 N2 := by
  obtain ⟨⟨l1, l2, l3, l4, l5, l6, hi⟩, ⟨m1, m2, m3, m4, m5, m6, mi⟩⟩ := h
  unfold g_rsame_vc sameB
  simp only [Bool.not_eq_true', Bool.not_eq_false', Bool.not_false, Bool.not_true]
  refine ⟨by omega, fun a => ⟨by omega, fun b => ⟨by omega, fun c => ⟨by omega, fun d => ⟨by omega, fun e => ⟨fun f => ?_, fun f => ⟨⟨⟨trivial, trivial, trivial⟩, by omega, by omega, rfl⟩, ?_⟩⟩, fun e => ?_⟩, fun d => ?_⟩, fun c => ?_⟩, fun b => ?_⟩, fun a => ?_⟩
  · have f : (N.length : Int) ≠ N2.length := by simpa using f
    rw [a, b, c, d, e, decide_eq_false (fun k => f (by rw [k]))]; rfl
  · have f : (N.length : Int) = N2.length := by simpa using f
    rw [a, b, c, d, e]
    rintro ⟨i, ⟨⟩⟩ ⟨i0, i1, ht⟩
    dsimp only at i0 i1 ht ⊢
    simp only [decide_eq_true_eq, decide_eq_false_iff_not, Bool.true_and]
    refine ⟨fun c => ⟨⟨i0, c⟩, fun x hx => ⟨⟨i0, by omega⟩, fun y hy => ⟨by have := (ine_at hi hx).2; omega, fun d => ?_, fun d => ⟨by omega, ⟨trivial, trivial, trivial⟩, ⟨by omega, by omega, ?_⟩, by omega⟩⟩⟩⟩, fun c => ?_⟩
    · rw [decide_eq_false]
      intro e
      subst e
      rw [hx] at hy
      cases hy
      simp [Ent.sameE] at d
    · rw [show (i + 1).toNat = i.toNat + 1 by omega]
      simp only [Ent.sameE, decide_eq_true_eq] at d
      exact Rts.take_eq ht hx hy (Prod.ext d.1 (Prod.ext d.2.1 d.2.2))
    · rw [List.take_of_length_le (by omega), List.take_of_length_le (by omega)] at ht
      rw [decide_eq_true ht]
  · rw [a, b, c, d, e]; rfl
  · rw [a, b, c, d]; rfl
  · rw [a, b, c]; rfl
  · rw [a, b]; rfl
  · rw [a]; rfl
theorem rsame_pure (E : List Int) (A : List Acc.AcD) (S : List Ln) (R : List Rts.Rt) (K : List Lck.Lk) (N : List En) (E2 : List Int) (A2 : List Acc.AcD) (S2 : List Ln) (R2 : List Rts.Rt) (K2 : List Lck.Lk) (N2 : List En) (h : Sm E A S R K N ∧ Sm E2 A2 S2 R2 K2 N2) : Pure Tryz.prog 13 [.agg [.list .tmp I E, .list .tmp AcT A, .list .tmp LnT S, .list .tmp RTy R, .list .tmp Vl K, .list .tmp EnT N], .agg [.list .tmp I E2, .list .tmp AcT A2, .list .tmp LnT S2, .list .tmp RTy R2, .list .tmp Vl K2, .list .tmp EnT N2]] (.bool (sameB E A S R K N E2 A2 S2 R2 K2 N2)) :=
  by have k := Pure.of_cond (g_rsame_eq E A S R K N E2 A2 S2 R2 K2 N2) (g_rsame_ok E A S R K N E2 A2 S2 R2 K2 N2 h) (specs_ok rfl [Stk.sp_sameInts, Eql.sp_racc, Stk.sp_same, Rts.sp_rsame, Eql.sp_rlck, Ent.sp_same] [] rfl rfl) mixed Tryz.func13; exact k
noncomputable def q_rsame (E : List Int) (A : List Acc.AcD) (S : List Ln) (R : List Rts.Rt) (K : List Lck.Lk) (N : List En) (E2 : List Int) (A2 : List Acc.AcD) (S2 : List Ln) (R2 : List Rts.Rt) (K2 : List Lck.Lk) (N2 : List En) : Prop × V := (Sm E A S R K N ∧ Sm E2 A2 S2 R2 K2 N2, (.bool (sameB E A S R K N E2 A2 S2 R2 K2 N2)))
noncomputable def sp_rsame : FSpec Tryz.prog where
 f := 13
 run := fun
  | [.agg [v0_0, v0_1, v0_2, v0_3, v0_4, v0_5], .agg [v1_0, v1_1, v1_2, v1_3, v1_4, v1_5]] => (asL I v0_0 : Option (List Int)).bind fun E => (asL AcT v0_1 : Option (List Acc.AcD)).bind fun A => (asL LnT v0_2 : Option (List Ln)).bind fun S => (asL RTy v0_3 : Option (List Rts.Rt)).bind fun R => (asL Vl v0_4 : Option (List Lck.Lk)).bind fun K => (asL EnT v0_5 : Option (List En)).bind fun N => (asL I v1_0 : Option (List Int)).bind fun E2 => (asL AcT v1_1 : Option (List Acc.AcD)).bind fun A2 => (asL LnT v1_2 : Option (List Ln)).bind fun S2 => (asL RTy v1_3 : Option (List Rts.Rt)).bind fun R2 => (asL Vl v1_4 : Option (List Lck.Lk)).bind fun K2 => (asL EnT v1_5 : Option (List En)).bind fun N2 => some (q_rsame E A S R K N E2 A2 S2 R2 K2 N2)
  | _ => none
 ok := fun args pre r h hp => by
  split at h
  · rename_i v0_0 v0_1 v0_2 v0_3 v0_4 v0_5 v1_0 v1_1 v1_2 v1_3 v1_4 v1_5
    obtain ⟨E, h0_0, h⟩ := Option.bind_eq_some_iff.1 h
    obtain ⟨A, h0_1, h⟩ := Option.bind_eq_some_iff.1 h
    obtain ⟨S, h0_2, h⟩ := Option.bind_eq_some_iff.1 h
    obtain ⟨R, h0_3, h⟩ := Option.bind_eq_some_iff.1 h
    obtain ⟨K, h0_4, h⟩ := Option.bind_eq_some_iff.1 h
    obtain ⟨N, h0_5, h⟩ := Option.bind_eq_some_iff.1 h
    obtain ⟨E2, h1_0, h⟩ := Option.bind_eq_some_iff.1 h
    obtain ⟨A2, h1_1, h⟩ := Option.bind_eq_some_iff.1 h
    obtain ⟨S2, h1_2, h⟩ := Option.bind_eq_some_iff.1 h
    obtain ⟨R2, h1_3, h⟩ := Option.bind_eq_some_iff.1 h
    obtain ⟨K2, h1_4, h⟩ := Option.bind_eq_some_iff.1 h
    obtain ⟨N2, h1_5, h⟩ := Option.bind_eq_some_iff.1 h
    exact of_q h hp fun h => (rsame_pure E A S R K N E2 A2 S2 R2 K2 N2 h).weak (.cons (Weak.agg (.cons (asL_weak h0_0) (.cons (asL_weak h0_1) (.cons (asL_weak h0_2) (.cons (asL_weak h0_3) (.cons (asL_weak h0_4) (.cons (asL_weak h0_5) .nil))))))) (.cons (Weak.agg (.cons (asL_weak h1_0) (.cons (asL_weak h1_1) (.cons (asL_weak h1_2) (.cons (asL_weak h1_3) (.cons (asL_weak h1_4) (.cons (asL_weak h1_5) .nil))))))) .nil))
  · cases h
end Go.Proofs.YtgjpehgnagfghaaGreat.Bks
