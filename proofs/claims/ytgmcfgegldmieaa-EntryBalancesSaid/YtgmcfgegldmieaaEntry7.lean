/-
  Lines that may be, rules, faults.
-/
import Derived.Test.YtgmcfgegldmieaaEntry6
namespace Go.Proofs.Ytgmcfgegldmieaa
open Go.Vm

abbrev M128 : Int := 340282366920938463463374607431768211456
def prW (s : Int × Int) : Int := s.1 * M64 + s.2
theorem addW_pr {s : Int × Int} {n : Int} (hn : InI n) : ∃ k, prW (addW s n) = prW s + n + k * M128 := by
  obtain ⟨h1, h2⟩ := hn
  obtain ⟨a, b⟩ := s
  simp only [prW, addW, hiW, M64, M128]
  split
  · exact ⟨1 - (a + 18446744073709551615 + (b + n % 18446744073709551616) / 18446744073709551616) / 18446744073709551616, by omega⟩
  · exact ⟨0 - (a + 0 + (b + n % 18446744073709551616) / 18446744073709551616) / 18446744073709551616, by omega⟩
theorem fold_pr : ∀ {l : List Int} {s : Int × Int}, (∀ n ∈ l, InI n) → ∃ k, prW (l.foldl addW s) = prW s + l.foldl (· + ·) 0 + k * M128
  | [], s, _ => ⟨0, by simp⟩
  | n :: r, s, h => by
    obtain ⟨k1, e1⟩ := addW_pr (s := s) (h n (by simp))
    obtain ⟨k2, e2⟩ := fold_pr (l := r) (s := addW s n) (fun x hx => h x (by simp [hx]))
    have e3 : ∀ (l : List Int) (a : Int), l.foldl (· + ·) a = a + l.foldl (· + ·) 0 := by
      intro l
      induction l with
      | nil => intro a; simp
      | cons x r ih => intro a; simp only [List.foldl_cons]; rw [ih (a + x), ih (0 + x)]; omega
    refine ⟨k1 + k2, ?_⟩
    simp only [List.foldl_cons, Int.zero_add]
    rw [e2, e1, e3 r n, Int.add_mul]
    omega
theorem netF_law {l : List Int} (h : ∀ n ∈ l, InI n) (z : Int) (hz : z = l.foldl (· + ·) 0) (hb : -1267650600228229401496703205376 ≤ z ∧ z ≤ 1267650600228229401496703205376) : netF l [] = (intB z, faultB z) := by
  obtain ⟨k, hk⟩ := fold_pr (s := (0, 0)) h
  have h0 : InW 0 := ⟨by decide, by decide⟩
  obtain ⟨⟨w1, w2⟩, w3, w4⟩ := addW_w (l := l) (s := (0, 0)) ⟨h0, h0⟩
  rw [← hz] at hk
  unfold netF sumW
  simp only [List.foldl_nil]
  generalize l.foldl addW (0, 0) = s at *
  obtain ⟨a, b⟩ := s
  simp only [prW, M64, M128, Int.zero_mul, Int.zero_add] at *
  have hw := IntKind.wrap_i64 b
  unfold intF intB faultB okB
  generalize IntKind.i64.wrap b = n at hw
  simp only [M64]
  by_cases hin : -9223372036854775808 ≤ z ∧ z ≤ 9223372036854775807
  · have hc : hiW n = a ∧ n % 18446744073709551616 = b := by
      unfold hiW
      split <;> omega
    have en : n = z := by
      obtain ⟨c1, c2⟩ := hc
      unfold hiW at c1
      split at c1 <;> omega
    rw [if_pos hc, if_pos hin, decide_eq_true hin.1, decide_eq_true hin.2, en]
    rfl
  · have hc : ¬ (hiW n = a ∧ n % 18446744073709551616 = b) := by
      rintro ⟨c1, c2⟩
      unfold hiW at c1
      split at c1 <;> omega
    have hd : (decide (-9223372036854775808 ≤ z) && decide (z ≤ 9223372036854775807)) = false := by
      rw [Bool.and_eq_false_iff, decide_eq_false_iff_not, decide_eq_false_iff_not]
      omega
    rw [if_neg hc, if_neg hin, hd]
    rfl
theorem amts_in {L : List Ln} (h : InL L) (e : Int) : ∀ n ∈ amtsL L e, InI n := by
  intro n hn
  simp only [amtsL, List.mem_map, List.mem_filter] at hn
  obtain ⟨x, ⟨hx, _⟩, rfl⟩ := hn
  exact h x hx
theorem total_law {L : List Ln} (h : InL L) (hl : L.length ≤ 1000) (e : Int) : netF (amtsL L e) [] = (intB (wholeF L e), faultB (wholeF L e)) := by
  have hb := wholeF_bound h e L.length
  rw [List.take_length] at hb
  exact netF_law (amts_in h e) _ rfl (by omega)

/-! A pair of lines. -/
noncomputable def env_pairE (n m : Int) : Env where
  P := Try.prog
  ty := tys
abbrev ann_pairE : Ann := { slots := numP 0 [.int .i64, .int .i64, .list .part LTy], boxes := [], inv := fun _ _ => True }
noncomputable def g_pairE (n m : Int) : Prop := vc (env_pairE n m) (codeOf Try.f22) (start0 Try.f22 [.int .i64 n, .int .i64 m]) (exitG (env_pairE n m).P Try.f22.results.toList [some 3] (env_pairE n m).pins ann_pairE ((1 : Int), (0 : Int), [((1 : Int), (4 : Int), (0 : Int), n), ((1 : Int), (5 : Int), (2 : Int), m)], ()))
def g_pairE_vc (n : Int) (m : Int) : Prop :=
  True ∧
  ((1 : Int), (0 : Int), [((1 : Int), (4 : Int), (0 : Int), n), ((1 : Int), (5 : Int), (2 : Int), m)], ()) =
    ((1 : Int), (0 : Int), [((1 : Int), (4 : Int), (0 : Int), n), ((1 : Int), (5 : Int), (2 : Int), m)], ())

theorem g_pairE_eq (n m : Int) : g_pairE n m = g_pairE_vc n m := by kernel_rfl
theorem g_pairE_ok (n m : Int) : g_pairE_vc n m := by
  exact ⟨trivial, rfl⟩
set_option maxRecDepth 20000 in
theorem pairE_pure (n m : Int) : Pure Try.prog 22 [.int .i64 n, .int .i64 m] (.agg [.int .i64 1, .int .i64 0, .list .part LTy [((1 : Int), (4 : Int), (0 : Int), n), ((1 : Int), (5 : Int), (2 : Int), m)]]) :=
  Pure.of_gG (E := env_pairE n m) (sh := [some 3]) (ann := ann_pairE) (x := ((1 : Int), (0 : Int), [((1 : Int), (4 : Int), (0 : Int), n), ((1 : Int), (5 : Int), (2 : Int), m)], ())) (fn := Try.f22) (c := codeOf Try.f22) (specs_ok (P := Try.prog) rfl [] [] rfl rfl) mixed Try.func22 rfl rfl rfl rfl rfl (g := g_pairE n m) (by delta g_pairE start0; first | with_reducible exact Eq.refl _ | exact Eq.refl _) (by rw [g_pairE_eq n m]; exact g_pairE_ok n m)
def q_pairE (n m : Int) : Prop × V := (True, (.agg [.int .i64 1, .int .i64 0, .list .part LTy [((1 : Int), (4 : Int), (0 : Int), n), ((1 : Int), (5 : Int), (2 : Int), m)]]))
noncomputable def sp_pairE : FSpec Try.prog where
  f := 22
  run := fun args => match args with
    | [.int .i64 n, .int .i64 m] => some (q_pairE n m)
    | _ => none
  ok := fun args pre r h hp => by
    try dsimp only at h
    split at h
    · rename_i n m
      have h := Option.some.inj h
      unfold q_pairE at h
      cases h
      exact (pairE_pure n m).weak (.cons (Weak.refl _) (.cons (Weak.refl _) .nil))
    · cases h

/-! The rules. -/
def lineF (x : Ln) (n m : Int) : Int :=
  if x.1 < 1 ∨ n < x.1 then 20 else if x.2.1 < 1 ∨ m < x.2.1 then 21 else if x.2.2.1 < 0 ∨ n < x.2.2.1 ∨ x.2.2.1 = x.1 then 24 else if x.2.2.2 = 0 then 31 else 0
noncomputable def env_line (e a p m n k : Int) : Env where
  P := Try.prog
  ty := tys
noncomputable def g_line (e a p m n k : Int) : Prop := vc (env_line e a p m n k) (codeOf Try.f24) (start0 Try.f24 [.agg [.int .i64 e, .int .i64 a, .int .i64 p, .int .i64 m], .int .i64 n, .int .i64 k]) (exitK (tsOf Try.f24) [.int .i64] (lineF (e, a, p, m) n k, ()))
def g_line_vc (e : Int) (a : Int) (p : Int) (m : Int) (n : Int) (k : Int) : Prop :=
  (decide (e < (1 : Int)) = false →
    (decide (n < e) = true → ((20 : Int), ()) = (lineF (e, a, p, m) n k, ())) ∧
      (decide (n < e) = false →
        (decide (a < (1 : Int)) = false →
            (decide (k < a) = true → ((21 : Int), ()) = (lineF (e, a, p, m) n k, ())) ∧
              (decide (k < a) = false →
                (decide (p < (0 : Int)) = false →
                    (decide (n < p) = false →
                        (decide (p = e) = true → ((24 : Int), ()) = (lineF (e, a, p, m) n k, ())) ∧
                          (decide (p = e) = false →
                            (decide (m = (0 : Int)) = true → ((31 : Int), ()) = (lineF (e, a, p, m) n k, ())) ∧ (decide (m = (0 : Int)) = false → ((0 : Int), ()) = (lineF (e, a, p, m) n k, ())))) ∧
                      (decide (n < p) = !false → ((24 : Int), ()) = (lineF (e, a, p, m) n k, ()))) ∧
                  (decide (p < (0 : Int)) = !false → ((24 : Int), ()) = (lineF (e, a, p, m) n k, ())))) ∧
          (decide (a < (1 : Int)) = !false → ((21 : Int), ()) = (lineF (e, a, p, m) n k, ())))) ∧
  (decide (e < (1 : Int)) = !false → ((20 : Int), ()) = (lineF (e, a, p, m) n k, ()))

theorem g_line_eq (e a p m n k : Int) : g_line e a p m n k = g_line_vc e a p m n k := by kernel_rfl
theorem g_line_ok (e a p m n k : Int) : g_line_vc e a p m n k := by
  unfold g_line_vc lineF
  dsimp only
  simp only [decide_eq_true_eq, decide_eq_false_iff_not, Bool.not_false]
  refine ⟨fun c1 => ⟨fun c2 => ?_, fun c2 => ⟨fun c3 => ⟨fun c4 => ?_, fun c4 => ⟨fun c5 => ⟨fun c6 => ⟨fun c7 => ?_, fun c7 => ⟨fun c8 => ?_, fun c8 => ?_⟩⟩, fun c6 => ?_⟩, fun c5 => ?_⟩⟩, fun c3 => ?_⟩⟩, fun c1 => ?_⟩
  · rw [if_pos (by omega)]
  · rw [if_neg (by omega), if_pos (by omega)]
  · rw [if_neg (by omega), if_neg (by omega), if_pos (by omega)]
  · rw [if_neg (by omega), if_neg (by omega), if_neg (by omega), if_pos c8]
  · rw [if_neg (by omega), if_neg (by omega), if_neg (by omega), if_neg c8]
  · rw [if_neg (by omega), if_neg (by omega), if_pos (by omega)]
  · rw [if_neg (by omega), if_neg (by omega), if_pos (by omega)]
  · rw [if_neg (by omega), if_pos (by omega)]
  · rw [if_pos (by omega)]
set_option maxRecDepth 20000 in
theorem line_pure (e a p m n k : Int) : Pure Try.prog 24 [.agg [.int .i64 e, .int .i64 a, .int .i64 p, .int .i64 m], .int .i64 n, .int .i64 k] (.int .i64 (lineF (e, a, p, m) n k)) :=
  Pure.of_g (E := env_line e a p m n k) (ts := tsOf Try.f24) (ps := [.int .i64]) (r := (lineF (e, a, p, m) n k, ())) (fn := Try.f24) (c := codeOf Try.f24) (specs_ok (P := Try.prog) rfl [] [] rfl rfl) mixed Try.func24 rfl rfl (g := g_line e a p m n k) (by delta g_line start0; first | with_reducible exact Eq.refl _ | exact Eq.refl _) (by rw [g_line_eq e a p m n k]; exact g_line_ok e a p m n k)
def q_line (e a p m n k : Int) : Prop × V := (True, (.int .i64 (lineF (e, a, p, m) n k)))
noncomputable def sp_line : FSpec Try.prog where
  f := 24
  run := fun args => match args with
    | [.agg [.int .i64 e, .int .i64 a, .int .i64 p, .int .i64 m], .int .i64 n, .int .i64 k] => some (q_line e a p m n k)
    | _ => none
  ok := fun args pre r h hp => by
    try dsimp only at h
    split at h
    · rename_i e a p m n k
      have h := Option.some.inj h
      unfold q_line at h
      cases h
      exact (line_pure e a p m n k).weak (.cons (Weak.refl _) (.cons (Weak.refl _) (.cons (Weak.refl _) .nil)))
    · cases h

noncomputable def env_r1 (e a p m n : Int) : Env where
  P := Try.prog
  ty := tys
noncomputable def g_r1 (e a p m n : Int) : Prop := vc (env_r1 e a p m n) (codeOf Try.f34) (start0 Try.f34 [.agg [.int .i64 e, .int .i64 a, .int .i64 p, .int .i64 m], .fptr [.int .i64 n]]) (exitK (tsOf Try.f34) [.bool] (decide (e < 1 ∨ n < e), ()))
def g_r1_vc (e : Int) (a : Int) (p : Int) (m : Int) (n : Int) : Prop :=
  (decide (e < (1 : Int)) = false → (decide (n < e), ()) = (decide (e < (1 : Int) ∨ n < e), ())) ∧ (decide (e < (1 : Int)) = !false → (true, ()) = (decide (e < (1 : Int) ∨ n < e), ()))

theorem g_r1_eq (e a p m n : Int) : g_r1 e a p m n = g_r1_vc e a p m n := by kernel_rfl
theorem g_r1_ok (e a p m n : Int) : g_r1_vc e a p m n := by
  unfold g_r1_vc
  simp only [decide_eq_false_iff_not, Bool.not_false, decide_eq_true_eq]
  refine ⟨fun c => ?_, fun c => ?_⟩
  · rw [decide_eq_decide.2 (show (n < e) ↔ (e < 1 ∨ n < e) by omega)]
  · rw [decide_eq_true (.inl c)]
set_option maxRecDepth 20000 in
theorem r1_pure (e a p m n : Int) : Pure Try.prog 34 [.agg [.int .i64 e, .int .i64 a, .int .i64 p, .int .i64 m], .fptr [.int .i64 n]] (.bool (decide (e < 1 ∨ n < e))) :=
  Pure.of_g (E := env_r1 e a p m n) (ts := tsOf Try.f34) (ps := [.bool]) (r := (decide (e < 1 ∨ n < e), ())) (fn := Try.f34) (c := codeOf Try.f34) (specs_ok (P := Try.prog) rfl [] [] rfl rfl) mixed Try.func34 rfl rfl (g := g_r1 e a p m n) (by delta g_r1 start0; first | with_reducible exact Eq.refl _ | exact Eq.refl _) (by rw [g_r1_eq e a p m n]; exact g_r1_ok e a p m n)
def q_r1 (e a p m n : Int) : Prop × V := (True, (.bool (decide (e < 1 ∨ n < e))))
noncomputable def sp_r1 : FSpec Try.prog where
  f := 34
  run := fun args => match args with
    | [.agg [.int .i64 e, .int .i64 a, .int .i64 p, .int .i64 m], .fptr [.int .i64 n]] => some (q_r1 e a p m n)
    | _ => none
  ok := fun args pre r h hp => by
    try dsimp only at h
    split at h
    · rename_i e a p m n
      have h := Option.some.inj h
      unfold q_r1 at h
      cases h
      exact (r1_pure e a p m n).weak (.cons (Weak.refl _) (.cons (Weak.refl _) .nil))
    · cases h
noncomputable def env_r2 (e a p m n : Int) : Env where
  P := Try.prog
  ty := tys
noncomputable def g_r2 (e a p m n : Int) : Prop := vc (env_r2 e a p m n) (codeOf Try.f35) (start0 Try.f35 [.agg [.int .i64 e, .int .i64 a, .int .i64 p, .int .i64 m], .fptr [.int .i64 n]]) (exitK (tsOf Try.f35) [.bool] (decide (a < 1 ∨ n < a), ()))
def g_r2_vc (e : Int) (a : Int) (p : Int) (m : Int) (n : Int) : Prop :=
  (decide (a < (1 : Int)) = false → (decide (n < a), ()) = (decide (a < (1 : Int) ∨ n < a), ())) ∧ (decide (a < (1 : Int)) = !false → (true, ()) = (decide (a < (1 : Int) ∨ n < a), ()))

theorem g_r2_eq (e a p m n : Int) : g_r2 e a p m n = g_r2_vc e a p m n := by kernel_rfl
theorem g_r2_ok (e a p m n : Int) : g_r2_vc e a p m n := by
  unfold g_r2_vc
  simp only [decide_eq_false_iff_not, Bool.not_false, decide_eq_true_eq]
  refine ⟨fun c => ?_, fun c => ?_⟩
  · rw [decide_eq_decide.2 (show (n < a) ↔ (a < 1 ∨ n < a) by omega)]
  · rw [decide_eq_true (.inl c)]
set_option maxRecDepth 20000 in
theorem r2_pure (e a p m n : Int) : Pure Try.prog 35 [.agg [.int .i64 e, .int .i64 a, .int .i64 p, .int .i64 m], .fptr [.int .i64 n]] (.bool (decide (a < 1 ∨ n < a))) :=
  Pure.of_g (E := env_r2 e a p m n) (ts := tsOf Try.f35) (ps := [.bool]) (r := (decide (a < 1 ∨ n < a), ())) (fn := Try.f35) (c := codeOf Try.f35) (specs_ok (P := Try.prog) rfl [] [] rfl rfl) mixed Try.func35 rfl rfl (g := g_r2 e a p m n) (by delta g_r2 start0; first | with_reducible exact Eq.refl _ | exact Eq.refl _) (by rw [g_r2_eq e a p m n]; exact g_r2_ok e a p m n)
def q_r2 (e a p m n : Int) : Prop × V := (True, (.bool (decide (a < 1 ∨ n < a))))
noncomputable def sp_r2 : FSpec Try.prog where
  f := 35
  run := fun args => match args with
    | [.agg [.int .i64 e, .int .i64 a, .int .i64 p, .int .i64 m], .fptr [.int .i64 n]] => some (q_r2 e a p m n)
    | _ => none
  ok := fun args pre r h hp => by
    try dsimp only at h
    split at h
    · rename_i e a p m n
      have h := Option.some.inj h
      unfold q_r2 at h
      cases h
      exact (r2_pure e a p m n).weak (.cons (Weak.refl _) (.cons (Weak.refl _) .nil))
    · cases h
noncomputable def env_r3 (e a p m n : Int) : Env where
  P := Try.prog
  ty := tys
noncomputable def g_r3 (e a p m n : Int) : Prop := vc (env_r3 e a p m n) (codeOf Try.f36) (start0 Try.f36 [.agg [.int .i64 e, .int .i64 a, .int .i64 p, .int .i64 m], .fptr [.int .i64 n]]) (exitK (tsOf Try.f36) [.bool] (decide (p < 0 ∨ n < p ∨ p = e), ()))
def g_r3_vc (e : Int) (a : Int) (p : Int) (m : Int) (n : Int) : Prop :=
  (decide (p < (0 : Int)) = false →
    (decide (n < p) = false → (decide (p = e), ()) = (decide (p < (0 : Int) ∨ n < p ∨ p = e), ())) ∧ (decide (n < p) = !false → (true, ()) = (decide (p < (0 : Int) ∨ n < p ∨ p = e), ()))) ∧
  (decide (p < (0 : Int)) = !false → (true, ()) = (decide (p < (0 : Int) ∨ n < p ∨ p = e), ()))

theorem g_r3_eq (e a p m n : Int) : g_r3 e a p m n = g_r3_vc e a p m n := by kernel_rfl
theorem g_r3_ok (e a p m n : Int) : g_r3_vc e a p m n := by
  unfold g_r3_vc
  simp only [decide_eq_false_iff_not, Bool.not_false, decide_eq_true_eq]
  first
    | (refine ⟨fun c => ⟨fun d => ?_, fun d => ?_⟩, fun c => ?_⟩
       · rw [decide_eq_decide.2 (show (p = e) ↔ (p < 0 ∨ n < p ∨ p = e) by omega)]
       · rw [decide_eq_true (.inr (.inl d))]
       · rw [decide_eq_true (.inl c)])
set_option maxRecDepth 20000 in
theorem r3_pure (e a p m n : Int) : Pure Try.prog 36 [.agg [.int .i64 e, .int .i64 a, .int .i64 p, .int .i64 m], .fptr [.int .i64 n]] (.bool (decide (p < 0 ∨ n < p ∨ p = e))) :=
  Pure.of_g (E := env_r3 e a p m n) (ts := tsOf Try.f36) (ps := [.bool]) (r := (decide (p < 0 ∨ n < p ∨ p = e), ())) (fn := Try.f36) (c := codeOf Try.f36) (specs_ok (P := Try.prog) rfl [] [] rfl rfl) mixed Try.func36 rfl rfl (g := g_r3 e a p m n) (by delta g_r3 start0; first | with_reducible exact Eq.refl _ | exact Eq.refl _) (by rw [g_r3_eq e a p m n]; exact g_r3_ok e a p m n)
def q_r3 (e a p m n : Int) : Prop × V := (True, (.bool (decide (p < 0 ∨ n < p ∨ p = e))))
noncomputable def sp_r3 : FSpec Try.prog where
  f := 36
  run := fun args => match args with
    | [.agg [.int .i64 e, .int .i64 a, .int .i64 p, .int .i64 m], .fptr [.int .i64 n]] => some (q_r3 e a p m n)
    | _ => none
  ok := fun args pre r h hp => by
    try dsimp only at h
    split at h
    · rename_i e a p m n
      have h := Option.some.inj h
      unfold q_r3 at h
      cases h
      exact (r3_pure e a p m n).weak (.cons (Weak.refl _) (.cons (Weak.refl _) .nil))
    · cases h
noncomputable def env_r4 (e a p m : Int) : Env where
  P := Try.prog
  ty := tys
noncomputable def g_r4 (e a p m : Int) : Prop := vc (env_r4 e a p m) (codeOf Try.f37) (start0 Try.f37 [.agg [.int .i64 e, .int .i64 a, .int .i64 p, .int .i64 m]]) (exitK (tsOf Try.f37) [.bool] (decide (m = 0), ()))
def g_r4_vc (e : Int) (a : Int) (p : Int) (m : Int) : Prop :=
  (decide (m = (0 : Int)), ()) = (decide (m = (0 : Int)), ())

theorem g_r4_eq (e a p m : Int) : g_r4 e a p m = g_r4_vc e a p m := by kernel_rfl
theorem g_r4_ok (e a p m : Int) : g_r4_vc e a p m := by
  exact rfl
set_option maxRecDepth 20000 in
theorem r4_pure (e a p m : Int) : Pure Try.prog 37 [.agg [.int .i64 e, .int .i64 a, .int .i64 p, .int .i64 m]] (.bool (decide (m = 0))) :=
  Pure.of_g (E := env_r4 e a p m) (ts := tsOf Try.f37) (ps := [.bool]) (r := (decide (m = 0), ())) (fn := Try.f37) (c := codeOf Try.f37) (specs_ok (P := Try.prog) rfl [] [] rfl rfl) mixed Try.func37 rfl rfl (g := g_r4 e a p m) (by delta g_r4 start0; first | with_reducible exact Eq.refl _ | exact Eq.refl _) (by rw [g_r4_eq e a p m]; exact g_r4_ok e a p m)
def q_r4 (e a p m : Int) : Prop × V := (True, (.bool (decide (m = 0))))
noncomputable def sp_r4 : FSpec Try.prog where
  f := 37
  run := fun args => match args with
    | [.agg [.int .i64 e, .int .i64 a, .int .i64 p, .int .i64 m]] => some (q_r4 e a p m)
    | _ => none
  ok := fun args pre r h hp => by
    try dsimp only at h
    split at h
    · rename_i e a p m
      have h := Option.some.inj h
      unfold q_r4 at h
      cases h
      exact (r4_pure e a p m).weak (.cons (Weak.refl _) .nil)
    · cases h
noncomputable def env_rules (n k : Int) : Env where
  P := Try.prog
  ty := tys
  asRows := fun | 12 => true | _ => false
noncomputable def g_rules (n k : Int) : Prop := vc (env_rules n k) (codeOf Try.f23) (start0 Try.f23 [.int .i64 n, .int .i64 k]) (exitZ (tsOf Try.f23) (.rows 2 [.fn (.func 34) [] [.optr [.int .i64 n]], .int .i64 20, .fn (.func 35) [] [.optr [.int .i64 k]], .int .i64 21, .fn (.func 36) [] [.optr [.int .i64 n]], .int .i64 24, .fn (.func 37) [] [], .int .i64 31]))
def g_rules_vc (n : Int) (k : Int) : Prop :=
  some
    (V.rows (2 : Nat)
      [V.fn (Fn.func (34 : Nat)) [] [V.optr [V.int IntKind.i64 n]], V.int IntKind.i64 (20 : Int), V.fn (Fn.func (35 : Nat)) [] [V.optr [V.int IntKind.i64 k]], V.int IntKind.i64 (21 : Int),
        V.fn (Fn.func (36 : Nat)) [] [V.optr [V.int IntKind.i64 n]], V.int IntKind.i64 (24 : Int), V.fn (Fn.func (37 : Nat)) [] [], V.int IntKind.i64 (31 : Int)]) =
  some
    (V.rows (2 : Nat)
      [V.fn (Fn.func (34 : FuncId)) [] [V.optr [V.int IntKind.i64 n]], V.int IntKind.i64 (20 : Int), V.fn (Fn.func (35 : FuncId)) [] [V.optr [V.int IntKind.i64 k]], V.int IntKind.i64 (21 : Int),
        V.fn (Fn.func (36 : FuncId)) [] [V.optr [V.int IntKind.i64 n]], V.int IntKind.i64 (24 : Int), V.fn (Fn.func (37 : FuncId)) [] [], V.int IntKind.i64 (31 : Int)])

theorem g_rules_eq (n k : Int) : g_rules n k = g_rules_vc n k := by kernel_rfl
theorem g_rules_ok (n k : Int) : g_rules_vc n k := by
  exact rfl
set_option maxRecDepth 20000 in
theorem rules_pure (n k : Int) : PureZ Try.prog 23 [.int .i64 n, .int .i64 k] (.rows 2 [.fn (.func 34) [] [.optr [.int .i64 n]], .int .i64 20, .fn (.func 35) [] [.optr [.int .i64 k]], .int .i64 21, .fn (.func 36) [] [.optr [.int .i64 n]], .int .i64 24, .fn (.func 37) [] [], .int .i64 31]) :=
  PureZ.of_g (E := env_rules n k) (ts := tsOf Try.f23) (fn := Try.f23) (c := codeOf Try.f23) (specs_ok (P := Try.prog) rfl [] [] rfl rfl) mixed Try.func23 rfl rfl (g := g_rules n k) (by delta g_rules start0; first | with_reducible exact Eq.refl _ | exact Eq.refl _) (by rw [g_rules_eq n k]; exact g_rules_ok n k)
def q_rules (n k : Int) : Prop × V := (True, (.rows 2 [.fn (.func 34) [] [.optr [.int .i64 n]], .int .i64 20, .fn (.func 35) [] [.optr [.int .i64 k]], .int .i64 21, .fn (.func 36) [] [.optr [.int .i64 n]], .int .i64 24, .fn (.func 37) [] [], .int .i64 31]))
noncomputable def sp_rules : ZSpec Try.prog where
  f := 23
  run := fun args => match args with
    | [.int .i64 n, .int .i64 k] => some (q_rules n k)
    | _ => none
  ok := fun args pre r h hp => by
    try dsimp only at h
    split at h
    · rename_i n k
      have h := Option.some.inj h
      unfold q_rules at h
      cases h
      exact (rules_pure n k).weak (.cons (Weak.refl _) (.cons (Weak.refl _) .nil))
    · cases h


end Go.Proofs.Ytgmcfgegldmieaa
