/-
  Rates: lowest terms, turned round, multiplied.
-/
import Derived.Test.YtccmidojhagppaaDoorRatio2
namespace Go.Proofs.YtccmidojhagppaaDoor
open Go.Vm

noncomputable def normF (n d : Int) : Int × Int := if ratioF n d = 0 then (n.tdiv (gcdI n d), d.tdiv (gcdI n d)) else (0, 0)
noncomputable def env_norm (n d : Int) : Env where
  P := Tryd.prog
  ty := tys0
  specs := specsOf [sp_rcheck, sp_common]
abbrev ann_norm : Ann := { slots := numP 0 [.int .i64, .int .i64], boxes := [], inv := fun _ _ => True }
noncomputable def g_norm (n d : Int) : Prop := vc (env_norm n d) (codeOf Tryd.f26) (start0 Tryd.f26 [.agg [.int .i64 n, .int .i64 d]]) (exitG (env_norm n d).P Tryd.f26.results.toList [some 2] (env_norm n d).pins ann_norm ((normF n d).1, (normF n d).2, ()))
def g_norm_vc (n : Int) (d : Int) : Prop :=
  True ∧
  ((!decide (ratioF n d = (0 : Int))) = true → True ∧ ((0 : Int), (0 : Int), ()) = ((normF n d).fst, (normF n d).snd, ())) ∧
    ((!decide (ratioF n d = (0 : Int))) = false →
      ((0 : Int) ≤ n ∧ n ≤ (18446744073709551615 : Int)) ∧
        ((0 : Int) ≤ d ∧ d ≤ (18446744073709551615 : Int)) ∧
          ((1 : Int) ≤ n ∧ n ≤ (1000000000000 : Int) ∧ (1 : Int) ≤ d ∧ d ≤ (1000000000000 : Int)) ∧
            gcdI n d ≠ (0 : Int) ∧
              ((-9223372036854775808 : Int) ≤ n.tdiv (gcdI n d) ∧ n.tdiv (gcdI n d) ≤ (9223372036854775807 : Int)) ∧
                gcdI n d ≠ (0 : Int) ∧
                  ((-9223372036854775808 : Int) ≤ d.tdiv (gcdI n d) ∧ d.tdiv (gcdI n d) ≤ (9223372036854775807 : Int)) ∧
                    True ∧ (n.tdiv (gcdI n d), d.tdiv (gcdI n d), ()) = ((normF n d).fst, (normF n d).snd, ()))

theorem g_norm_eq (n d : Int) : g_norm n d = g_norm_vc n d := by kernel_rfl
theorem ratio_ok {n d : Int} (h : ratioF n d = 0) : 1 ≤ n ∧ 1 ≤ d ∧ n ≤ 1000000000000 ∧ d ≤ 1000000000000 := by
  unfold ratioF at h
  split at h
  · assumption
  · cases h
theorem ratio_of {n d : Int} (h : 1 ≤ n ∧ 1 ≤ d ∧ n ≤ 1000000000000 ∧ d ≤ 1000000000000) : ratioF n d = 0 := by unfold ratioF; rw [if_pos h]
theorem ratio_bad {n d : Int} (h : ¬ ratioF n d = 0) : ratioF n d = 11 := by
  unfold ratioF at h ⊢
  split
  · rename_i c
    rw [if_pos c] at h
    exact absurd rfl h
  · rfl
theorem quo_in {n g : Int} (hn : 1 ≤ n) (hg : 1 ≤ g) (hl : g ≤ n) : 1 ≤ n.tdiv g ∧ n.tdiv g ≤ n := by
  rw [Int.tdiv_eq_ediv_of_nonneg (by omega)]
  exact ⟨(Int.le_ediv_iff_mul_le (by omega)).2 (by omega), Int.ediv_le_self _ (by omega)⟩
theorem norm_ok {n d : Int} (h : ratioF n d = 0) : ratioF (normF n d).1 (normF n d).2 = 0 := by
  obtain ⟨h1, h2, h3, h4⟩ := ratio_ok h
  obtain ⟨g1, g2, g3, _, _⟩ := gcdI_spec h1 h2
  have a := quo_in h1 g1 g2
  have b := quo_in h2 g1 g3
  unfold normF
  rw [if_pos h]
  exact ratio_of ⟨by omega, by omega, by omega, by omega⟩
theorem g_norm_ok (n d : Int) : g_norm_vc n d := by
  unfold g_norm_vc normF
  simp only [decide_eq_true_eq, decide_eq_false_iff_not, Bool.not_eq_true', Bool.not_eq_false']
  refine ⟨trivial, fun c => ⟨trivial, by rw [if_neg c]⟩, fun c => ?_⟩
  obtain ⟨h1, h2, h3, h4⟩ := ratio_ok c
  obtain ⟨g1, g2, g3, _, _⟩ := gcdI_spec h1 h2
  have a := quo_in h1 g1 g2
  have b := quo_in h2 g1 g3
  exact ⟨by omega, by omega, by omega, by omega, by omega, by omega, by omega, trivial, by rw [if_pos c]⟩
set_option maxRecDepth 20000 in
theorem norm_pure (n d : Int) : Pure Tryd.prog 26 [.agg [.int .i64 n, .int .i64 d]] (.agg [.int .i64 (normF n d).1, .int .i64 (normF n d).2]) :=
  Pure.of_gG (E := env_norm n d) (sh := [some 2]) (ann := ann_norm) (x := ((normF n d).1, (normF n d).2, ())) (fn := Tryd.f26) (c := codeOf Tryd.f26) (specs_ok (P := Tryd.prog) rfl [sp_rcheck, sp_common] [] rfl rfl) mixed Tryd.func26 rfl rfl rfl rfl rfl (g := g_norm n d) (by delta g_norm start0; first | with_reducible exact Eq.refl _ | exact Eq.refl _) (by rw [g_norm_eq n d]; exact g_norm_ok n d)
noncomputable def q_norm (n d : Int) : Prop × V := (True, (.agg [.int .i64 (normF n d).1, .int .i64 (normF n d).2]))
noncomputable def sp_norm : FSpec Tryd.prog where
  f := 26
  run := fun args => match args with
    | [.agg [.int .i64 n, .int .i64 d]] => some (q_norm n d)
    | _ => none
  ok := fun args pre r h hp => by
    try dsimp only at h
    split at h
    · rename_i n d
      have h := Option.some.inj h
      unfold q_norm at h
      cases h
      exact (norm_pure n d).weak (.cons (Weak.refl _) .nil)
    · cases h

noncomputable def invF (n d : Int) : (Int × Int) × Int := if ratioF n d = 0 then (normF d n, 0) else ((0, 0), ratioF n d)
noncomputable def env_inv (n d : Int) : Env where
  P := Tryd.prog
  ty := tys0
  specs := specsOf [sp_rcheck, sp_norm]
abbrev ann_inv : Ann := { slots := numP 0 [.int .i64, .int .i64, .int .i64], boxes := [], inv := fun _ _ => True }
noncomputable def g_inv (n d : Int) : Prop := vc (env_inv n d) (codeOf Tryd.f15) (start0 Tryd.f15 [.agg [.int .i64 n, .int .i64 d]]) (exitG (env_inv n d).P Tryd.f15.results.toList [some 2, none] (env_inv n d).pins ann_inv ((invF n d).1.1, (invF n d).1.2, (invF n d).2, ()))
def g_inv_vc (n : Int) (d : Int) : Prop :=
  True ∧
  ((!decide (ratioF n d = (0 : Int))) = true → True ∧ ((0 : Int), (0 : Int), ratioF n d, ()) = ((invF n d).fst.fst, (invF n d).fst.snd, (invF n d).snd, ())) ∧
    ((!decide (ratioF n d = (0 : Int))) = false → True ∧ True ∧ ((normF d n).fst, (normF d n).snd, (0 : Int), ()) = ((invF n d).fst.fst, (invF n d).fst.snd, (invF n d).snd, ()))

theorem g_inv_eq (n d : Int) : g_inv n d = g_inv_vc n d := by kernel_rfl
theorem g_inv_ok (n d : Int) : g_inv_vc n d := by
  unfold g_inv_vc invF
  simp only [decide_eq_true_eq, decide_eq_false_iff_not, Bool.not_eq_true', Bool.not_eq_false']
  exact ⟨trivial, fun c => ⟨trivial, by rw [if_neg c]⟩, fun c => ⟨trivial, trivial, by rw [if_pos c]⟩⟩
set_option maxRecDepth 20000 in
theorem inv_pure (n d : Int) : Pure Tryd.prog 15 [.agg [.int .i64 n, .int .i64 d]] (.tuple [.agg [.int .i64 (invF n d).1.1, .int .i64 (invF n d).1.2], .int .i64 (invF n d).2]) :=
  Pure.of_gG (E := env_inv n d) (sh := [some 2, none]) (ann := ann_inv) (x := ((invF n d).1.1, (invF n d).1.2, (invF n d).2, ())) (fn := Tryd.f15) (c := codeOf Tryd.f15) (specs_ok (P := Tryd.prog) rfl [sp_rcheck, sp_norm] [] rfl rfl) mixed Tryd.func15 rfl rfl rfl rfl rfl (g := g_inv n d) (by delta g_inv start0; first | with_reducible exact Eq.refl _ | exact Eq.refl _) (by rw [g_inv_eq n d]; exact g_inv_ok n d)
noncomputable def q_inv (n d : Int) : Prop × V := (True, (.tuple [.agg [.int .i64 (invF n d).1.1, .int .i64 (invF n d).1.2], .int .i64 (invF n d).2]))
noncomputable def sp_inv : FSpec Tryd.prog where
  f := 15
  run := fun args => match args with
    | [.agg [.int .i64 n, .int .i64 d]] => some (q_inv n d)
    | _ => none
  ok := fun args pre r h hp => by
    try dsimp only at h
    split at h
    · rename_i n d
      have h := Option.some.inj h
      unfold q_inv at h
      cases h
      exact (inv_pure n d).weak (.cons (Weak.refl _) .nil)
    · cases h

/-- A product of what is in range, or over. -/
def prodF (n m p q : Int) : (Int × Int) × Int := if faultB (n * m) = 0 ∧ faultB (p * q) = 0 ∧ intB (n * m) ≤ 1000000000000 ∧ intB (p * q) ≤ 1000000000000 then ((intB (n * m), intB (p * q)), 0) else ((0, 0), 10)
noncomputable def timesF (a b c d : Int) : (Int × Int) × Int :=
  if ratioF a b = 0 ∧ ratioF c d = 0 then
    prodF (normF (normF a b).1 (normF c d).2).1 (normF (normF c d).1 (normF a b).2).1 (normF (normF a b).1 (normF c d).2).2 (normF (normF c d).1 (normF a b).2).2 else ((0, 0), 11)
noncomputable def env_rtimes (a b c d : Int) : Env where
  P := Tryd.prog
  ty := tys0
  specs := specsOf [sp_rcheck, sp_norm, sp_wmul, sp_wint]
  frz := fun | 22 => true | 24 => true | 30 => true | 36 => true | _ => false
abbrev ann_rtimes : Ann := { slots := numP 0 [.int .i64, .int .i64, .int .i64], boxes := [], inv := fun _ _ => True }
noncomputable def g_rtimes (a b c d : Int) : Prop := vc (env_rtimes a b c d) (codeOf Tryd.f25) (start0 Tryd.f25 [.agg [.int .i64 a, .int .i64 b], .agg [.int .i64 c, .int .i64 d]]) (exitG (env_rtimes a b c d).P Tryd.f25.results.toList [some 2, none] (env_rtimes a b c d).pins ann_rtimes ((timesF a b c d).1.1, (timesF a b c d).1.2, (timesF a b c d).2, ()))
def g_rtimes_vc (a : Int) (b : Int) (c : Int) (d : Int) : Prop :=
  True ∧
  ((!decide (ratioF a b = (0 : Int))) = false →
      True ∧
        ((!decide (ratioF c d = (0 : Int))) = true → True ∧ ((0 : Int), (0 : Int), (11 : Int), ()) = ((timesF a b c d).fst.fst, (timesF a b c d).fst.snd, (timesF a b c d).snd, ())) ∧
          ((!decide (ratioF c d = (0 : Int))) = false →
            True ∧
              True ∧
                True ∧
                  True ∧
                    (InI (normF (normF a b).fst (normF c d).snd).fst ∧ InI (normF (normF c d).fst (normF a b).snd).fst) ∧
                      (InI (hiZ ((normF (normF a b).fst (normF c d).snd).fst * (normF (normF c d).fst (normF a b).snd).fst)) ∧
                          InW (loZ ((normF (normF a b).fst (normF c d).snd).fst * (normF (normF c d).fst (normF a b).snd).fst))) ∧
                        (InI (normF (normF a b).fst (normF c d).snd).snd ∧ InI (normF (normF c d).fst (normF a b).snd).snd) ∧
                          (InI (hiZ ((normF (normF a b).fst (normF c d).snd).snd * (normF (normF c d).fst (normF a b).snd).snd)) ∧
                              InW (loZ ((normF (normF a b).fst (normF c d).snd).snd * (normF (normF c d).fst (normF a b).snd).snd))) ∧
                            ((!decide
                                      (faultB
                                          (wz (hiZ ((normF (normF a b).fst (normF c d).snd).fst * (normF (normF c d).fst (normF a b).snd).fst))
                                            (loZ ((normF (normF a b).fst (normF c d).snd).fst * (normF (normF c d).fst (normF a b).snd).fst))) =
                                        (0 : Int))) =
                                  false →
                                ((!decide
                                          (faultB
                                              (wz (hiZ ((normF (normF a b).fst (normF c d).snd).snd * (normF (normF c d).fst (normF a b).snd).snd))
                                                (loZ ((normF (normF a b).fst (normF c d).snd).snd * (normF (normF c d).fst (normF a b).snd).snd))) =
                                            (0 : Int))) =
                                      false →
                                    (decide
                                            ((1000000000000 : Int) <
                                              mmI true
                                                (intB
                                                  (wz (hiZ ((normF (normF a b).fst (normF c d).snd).fst * (normF (normF c d).fst (normF a b).snd).fst))
                                                    (loZ ((normF (normF a b).fst (normF c d).snd).fst * (normF (normF c d).fst (normF a b).snd).fst))))
                                                (intB
                                                  (wz (hiZ ((normF (normF a b).fst (normF c d).snd).snd * (normF (normF c d).fst (normF a b).snd).snd))
                                                    (loZ ((normF (normF a b).fst (normF c d).snd).snd * (normF (normF c d).fst (normF a b).snd).snd))))) =
                                          true →
                                        True ∧ ((0 : Int), (0 : Int), (10 : Int), ()) = ((timesF a b c d).fst.fst, (timesF a b c d).fst.snd, (timesF a b c d).snd, ())) ∧
                                      (decide
                                            ((1000000000000 : Int) <
                                              mmI true
                                                (intB
                                                  (wz (hiZ ((normF (normF a b).fst (normF c d).snd).fst * (normF (normF c d).fst (normF a b).snd).fst))
                                                    (loZ ((normF (normF a b).fst (normF c d).snd).fst * (normF (normF c d).fst (normF a b).snd).fst))))
                                                (intB
                                                  (wz (hiZ ((normF (normF a b).fst (normF c d).snd).snd * (normF (normF c d).fst (normF a b).snd).snd))
                                                    (loZ ((normF (normF a b).fst (normF c d).snd).snd * (normF (normF c d).fst (normF a b).snd).snd))))) =
                                          false →
                                        True ∧
                                          (intB
                                                (wz (hiZ ((normF (normF a b).fst (normF c d).snd).fst * (normF (normF c d).fst (normF a b).snd).fst))
                                                  (loZ ((normF (normF a b).fst (normF c d).snd).fst * (normF (normF c d).fst (normF a b).snd).fst))),
                                              intB
                                                (wz (hiZ ((normF (normF a b).fst (normF c d).snd).snd * (normF (normF c d).fst (normF a b).snd).snd))
                                                  (loZ ((normF (normF a b).fst (normF c d).snd).snd * (normF (normF c d).fst (normF a b).snd).snd))),
                                              (0 : Int), ()) =
                                            ((timesF a b c d).fst.fst, (timesF a b c d).fst.snd, (timesF a b c d).snd, ()))) ∧
                                  ((!decide
                                          (faultB
                                              (wz (hiZ ((normF (normF a b).fst (normF c d).snd).snd * (normF (normF c d).fst (normF a b).snd).snd))
                                                (loZ ((normF (normF a b).fst (normF c d).snd).snd * (normF (normF c d).fst (normF a b).snd).snd))) =
                                            (0 : Int))) =
                                      !false →
                                    True ∧ ((0 : Int), (0 : Int), (10 : Int), ()) = ((timesF a b c d).fst.fst, (timesF a b c d).fst.snd, (timesF a b c d).snd, ()))) ∧
                              ((!decide
                                      (faultB
                                          (wz (hiZ ((normF (normF a b).fst (normF c d).snd).fst * (normF (normF c d).fst (normF a b).snd).fst))
                                            (loZ ((normF (normF a b).fst (normF c d).snd).fst * (normF (normF c d).fst (normF a b).snd).fst))) =
                                        (0 : Int))) =
                                  !false →
                                True ∧ ((0 : Int), (0 : Int), (10 : Int), ()) = ((timesF a b c d).fst.fst, (timesF a b c d).fst.snd, (timesF a b c d).snd, ())))) ∧
    ((!decide (ratioF a b = (0 : Int))) = !false → True ∧ ((0 : Int), (0 : Int), (11 : Int), ()) = ((timesF a b c d).fst.fst, (timesF a b c d).fst.snd, (timesF a b c d).snd, ()))

theorem g_rtimes_eq (a b c d : Int) : g_rtimes a b c d = g_rtimes_vc a b c d := by kernel_rfl
theorem norm_in (n d : Int) : InI (normF n d).1 ∧ InI (normF n d).2 := by
  by_cases h : ratioF n d = 0
  · obtain ⟨h1, h2, h3, h4⟩ := ratio_ok (norm_ok h)
    exact ⟨⟨by omega, by omega⟩, by omega, by omega⟩
  · have : normF n d = (0, 0) := by unfold normF; rw [if_neg h]
    rw [this]
    exact ⟨⟨by decide, by decide⟩, by decide, by decide⟩
theorem prod_over {n m p q : Int} (h : ¬ (faultB (n * m) = 0 ∧ faultB (p * q) = 0 ∧ intB (n * m) ≤ 1000000000000 ∧ intB (p * q) ≤ 1000000000000)) : prodF n m p q = ((0, 0), 10) := by unfold prodF; rw [if_neg h]
theorem prod_in {n m p q : Int} (h : faultB (n * m) = 0 ∧ faultB (p * q) = 0 ∧ intB (n * m) ≤ 1000000000000 ∧ intB (p * q) ≤ 1000000000000) : prodF n m p q = ((intB (n * m), intB (p * q)), 0) := by unfold prodF; rw [if_pos h]
theorem g_rtimes_ok (a b c d : Int) : g_rtimes_vc a b c d := by
  obtain ⟨x1, x2⟩ := norm_in (normF a b).1 (normF c d).2
  obtain ⟨y1, y2⟩ := norm_in (normF c d).1 (normF a b).2
  unfold g_rtimes_vc timesF
  simp only [wz_hilo]
  generalize normF (normF a b).1 (normF c d).2 = X at *
  generalize normF (normF c d).1 (normF a b).2 = Y at *
  obtain ⟨n, p⟩ := X
  obtain ⟨m, q⟩ := Y
  dsimp only at *
  obtain ⟨w1, w2⟩ := inz_words (mul_in x1 y1)
  obtain ⟨v1, v2⟩ := inz_words (mul_in x2 y2)
  have mx : ∀ u v : Int, 1000000000000 < mmI true u v ↔ ¬ (u ≤ 1000000000000 ∧ v ≤ 1000000000000) := by
    intro u v
    unfold mmI
    simp only [if_true]
    split <;> omega
  simp only [decide_eq_true_eq, decide_eq_false_iff_not, Bool.not_eq_true', Bool.not_eq_false', Bool.not_false, mx]
  refine ⟨trivial, fun k1 => ⟨trivial, fun k2 => ⟨trivial, ?_⟩, fun k2 => ⟨trivial, trivial, trivial, trivial, ⟨x1, y1⟩, ⟨w1, w2⟩, ⟨x2, y2⟩, ⟨v1, v2⟩,
    fun f1 => ⟨fun f2 => ⟨fun o => ⟨trivial, ?_⟩, fun o => ⟨trivial, ?_⟩⟩, fun f2 => ⟨trivial, ?_⟩⟩, fun f1 => ⟨trivial, ?_⟩⟩⟩, fun k1 => ⟨trivial, ?_⟩⟩
  · rw [if_neg (fun h => k2 h.2)]
  · rw [if_pos ⟨k1, k2⟩, prod_over (fun h => o ⟨h.2.2.1, h.2.2.2⟩)]
  · have o := Decidable.not_not.1 o
    rw [if_pos ⟨k1, k2⟩, prod_in ⟨f1, f2, o.1, o.2⟩]
  · rw [if_pos ⟨k1, k2⟩, prod_over (fun h => f2 h.2.1)]
  · rw [if_pos ⟨k1, k2⟩, prod_over (fun h => f1 h.1)]
  · rw [if_neg (fun h => k1 h.1)]
set_option maxRecDepth 20000 in
theorem rtimes_pure (a b c d : Int) : Pure Tryd.prog 25 [.agg [.int .i64 a, .int .i64 b], .agg [.int .i64 c, .int .i64 d]] (.tuple [.agg [.int .i64 (timesF a b c d).1.1, .int .i64 (timesF a b c d).1.2], .int .i64 (timesF a b c d).2]) :=
  Pure.of_gG (E := env_rtimes a b c d) (sh := [some 2, none]) (ann := ann_rtimes) (x := ((timesF a b c d).1.1, (timesF a b c d).1.2, (timesF a b c d).2, ())) (fn := Tryd.f25) (c := codeOf Tryd.f25) (specs_ok (P := Tryd.prog) rfl [sp_rcheck, sp_norm, sp_wmul, sp_wint] [] rfl rfl) mixed Tryd.func25 rfl rfl rfl rfl rfl (g := g_rtimes a b c d) (by delta g_rtimes start0; first | with_reducible exact Eq.refl _ | exact Eq.refl _) (by rw [g_rtimes_eq a b c d]; exact g_rtimes_ok a b c d)
noncomputable def q_rtimes (a b c d : Int) : Prop × V := (True, (.tuple [.agg [.int .i64 (timesF a b c d).1.1, .int .i64 (timesF a b c d).1.2], .int .i64 (timesF a b c d).2]))
noncomputable def sp_rtimes : FSpec Tryd.prog where
  f := 25
  run := fun args => match args with
    | [.agg [.int .i64 a, .int .i64 b], .agg [.int .i64 c, .int .i64 d]] => some (q_rtimes a b c d)
    | _ => none
  ok := fun args pre r h hp => by
    try dsimp only at h
    split at h
    · rename_i a b c d
      have h := Option.some.inj h
      unfold q_rtimes at h
      cases h
      exact (rtimes_pure a b c d).weak (.cons (Weak.refl _) (.cons (Weak.refl _) .nil))
    · cases h
/-- What is told without a fault may be. -/
theorem inv_may {n d : Int} (h : (invF n d).2 = 0) : ratioF (invF n d).1.1 (invF n d).1.2 = 0 := by
  unfold invF at h ⊢
  by_cases c : ratioF n d = 0
  · rw [if_pos c]
    obtain ⟨h1, h2, h3, h4⟩ := ratio_ok c
    exact norm_ok (ratio_of ⟨h2, h1, h4, h3⟩)
  · rw [if_neg c] at h
    exact absurd h c
theorem int_B {z : Int} (h : faultB z = 0) : intB z = z := by
  unfold faultB at h
  cases k : okB z with
  | false => rw [k] at h; cases h
  | true =>
    unfold okB at k
    rw [Bool.and_eq_true, decide_eq_true_eq, decide_eq_true_eq] at k
    unfold intB
    rw [if_pos k]
theorem times_may {a b c d : Int} (h : (timesF a b c d).2 = 0) : ratioF (timesF a b c d).1.1 (timesF a b c d).1.2 = 0 := by
  unfold timesF at h ⊢
  by_cases k : ratioF a b = 0 ∧ ratioF c d = 0
  · rw [if_pos k] at h ⊢
    obtain ⟨a1, a2, a3, a4⟩ := ratio_ok (norm_ok k.1)
    obtain ⟨b1, b2, b3, b4⟩ := ratio_ok (norm_ok k.2)
    obtain ⟨x1, x2, x3, x4⟩ := ratio_ok (norm_ok (ratio_of (n := (normF a b).1) (d := (normF c d).2) ⟨a1, b2, a3, b4⟩))
    obtain ⟨y1, y2, y3, y4⟩ := ratio_ok (norm_ok (ratio_of (n := (normF c d).1) (d := (normF a b).2) ⟨b1, a2, b3, a4⟩))
    generalize normF (normF a b).1 (normF c d).2 = X at *
    generalize normF (normF c d).1 (normF a b).2 = Y at *
    by_cases o : faultB (X.1 * Y.1) = 0 ∧ faultB (X.2 * Y.2) = 0 ∧ intB (X.1 * Y.1) ≤ 1000000000000 ∧ intB (X.2 * Y.2) ≤ 1000000000000
    · rw [prod_in o]
      obtain ⟨o1, o2, o3, o4⟩ := o
      dsimp only
      rw [int_B o1] at o3 ⊢
      rw [int_B o2] at o4 ⊢
      have p1 : 1 * 1 ≤ X.1 * Y.1 := Int.mul_le_mul x1 y1 (by decide) (by omega)
      have p2 : 1 * 1 ≤ X.2 * Y.2 := Int.mul_le_mul x2 y2 (by decide) (by omega)
      exact ratio_of ⟨by omega, by omega, o3, o4⟩
    · rw [prod_over o] at h
      cases h
  · rw [if_neg k] at h
    cases h

end Go.Proofs.YtccmidojhagppaaDoor
