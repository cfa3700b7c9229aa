/-
  Lines that may be, rules, faults.
-/
import Derived.Test.YtgjpehgnagfghaaGreatEnt6
namespace Go.Proofs.YtgjpehgnagfghaaGreat.Ent
open Go.Vm
abbrev M128 : Int := 340282366920938463463374607431768211456
def prW (s : Int × Int) : Int := s.1 * M64 + s.2
theorem addW_pr {s : Int × Int} {n : Int} (hn : InI n) : ∃ k, prW (addW s n) = prW s + n + k * M128 := by
  obtain ⟨h1, h2⟩ := hn
  obtain ⟨a, b⟩ := s
  simp only [prW, addW, hiW, M64, M128]
  split
  · exact ⟨1 - (a + 18446744073709551615 + (b + n % 18446744073709551616) / 18446744073709551616) / 18446744073709551616, by omega⟩
  · exact ⟨0 - (a + 0 + (b + n % 18446744073709551616) / 18446744073709551616) / 18446744073709551616, by omega⟩
theorem fold_pr : ∀ {l : List Int} {s : Int × Int}, (∀ n ∈ l, InI n) → ∃ k, prW (l.foldl addW s) = prW s + l.foldl (· + ·) 0 + k * M128
  | [], s, _ => ⟨0, by simp⟩
  | n :: r, s, h => by
    obtain ⟨k1, e1⟩ := addW_pr (s := s) (h n (by simp))
    obtain ⟨k2, e2⟩ := fold_pr (l := r) (s := addW s n) (fun x hx => h x (by simp [hx]))
    have e3 : ∀ (l : List Int) (a : Int), l.foldl (· + ·) a = a + l.foldl (· + ·) 0 := by
      intro l
      induction l with
      | nil => intro a; simp
      | cons x r ih => intro a; simp only [List.foldl_cons]; rw [ih (a + x), ih (0 + x)]; omega
    refine ⟨k1 + k2, ?_⟩
    simp only [List.foldl_cons, Int.zero_add]
    rw [e2, e1, e3 r n, Int.add_mul]
    omega
theorem netF_law {l : List Int} (h : ∀ n ∈ l, InI n) (z : Int) (hz : z = l.foldl (· + ·) 0) (hb : -1267650600228229401496703205376 ≤ z ∧ z ≤ 1267650600228229401496703205376) : netF l [] = (intB z, faultB z) := by
  obtain ⟨k, hk⟩ := fold_pr (s := (0, 0)) h
  have h0 : InW 0 := ⟨by decide, by decide⟩
  obtain ⟨⟨w1, w2⟩, w3, w4⟩ := addW_w (l := l) (s := (0, 0)) ⟨h0, h0⟩
  rw [← hz] at hk
  unfold netF sumW
  simp only [List.foldl_nil]
  generalize l.foldl addW (0, 0) = s at *
  obtain ⟨a, b⟩ := s
  simp only [prW, M64, M128, Int.zero_mul, Int.zero_add] at *
  have hw := IntKind.wrap_i64 b
  unfold intF intB faultB okB
  generalize IntKind.i64.wrap b = n at hw
  simp only [M64]
  by_cases hin : -9223372036854775808 ≤ z ∧ z ≤ 9223372036854775807
  · have hc : hiW n = a ∧ n % 18446744073709551616 = b := by
      unfold hiW
      split <;> omega
    have en : n = z := by
      obtain ⟨c1, c2⟩ := hc
      unfold hiW at c1
      split at c1 <;> omega
    rw [if_pos hc, if_pos hin, decide_eq_true hin.1, decide_eq_true hin.2, en]
    rfl
  · have hc : ¬ (hiW n = a ∧ n % 18446744073709551616 = b) := by
      rintro ⟨c1, c2⟩
      unfold hiW at c1
      split at c1 <;> omega
    have hd : (decide (-9223372036854775808 ≤ z) && decide (z ≤ 9223372036854775807)) = false := by
      rw [Bool.and_eq_false_iff, decide_eq_false_iff_not, decide_eq_false_iff_not]
      omega
    rw [if_neg hc, if_neg hin, hd]
    rfl
theorem amts_in {L : List Ln} (h : InL L) (e : Int) : ∀ n ∈ amtsL L e, InI n := by
  intro n hn
  simp only [amtsL, List.mem_map, List.mem_filter] at hn
  obtain ⟨x, ⟨hx, _⟩, rfl⟩ := hn
  exact h x hx
theorem total_law {L : List Ln} (h : InL L) (hl : L.length ≤ 1000) (e : Int) : netF (amtsL L e) [] = (intB (wholeF L e), faultB (wholeF L e)) := by
  have hb := wholeF_bound h e L.length
  rw [List.take_length] at hb
  exact netF_law (amts_in h e) _ rfl (by omega)
def lineF (x : Ln) (n m : Int) : Int :=
  if x.1 < 1 ∨ n < x.1 then 20 else if x.2.1 < 1 ∨ m < x.2.1 then 21 else if x.2.2.1 < 0 ∨ n < x.2.2.1 ∨ x.2.2.1 = x.1 then 24 else if x.2.2.2 = 0 then 31 else 0
noncomputable def env_line (e a p m n k : Int) : Env where
  P := Tryz.prog
  ty := tys
def g_line_vc (e : Int) (a : Int) (p : Int) (m : Int) (n : Int) (k : Int) : Prop :=
  (decide (e < (1 : Int)) = false → (decide (n < e) = true → ((20 : Int), ()) = (lineF (e, a, p, m) n k, ())) ∧ (decide (n < e) = false → (decide (a < (1 : Int)) = false → (decide (k < a) = true → ((21 : Int), ()) = (lineF (e, a, p, m) n k, ())) ∧ (decide (k < a) = false → (decide (p < (0 : Int)) = false → (decide (n < p) = false → (decide (p = e) = true → ((24 : Int), ()) = (lineF (e, a, p, m) n k, ())) ∧ (decide (p = e) = false → (decide (m = (0 : Int)) = true → ((31 : Int), ()) = (lineF (e, a, p, m) n k, ())) ∧ (decide (m = (0 : Int)) = false → ((0 : Int), ()) = (lineF (e, a, p, m) n k, ())))) ∧ (decide (n < p) = !false → ((24 : Int), ()) = (lineF (e, a, p, m) n k, ()))) ∧ (decide (p < (0 : Int)) = !false → ((24 : Int), ()) = (lineF (e, a, p, m) n k, ())))) ∧ (decide (a < (1 : Int)) = !false → ((21 : Int), ()) = (lineF (e, a, p, m) n k, ())))) ∧ (decide (e < (1 : Int)) = !false → ((20 : Int), ()) = (lineF (e, a, p, m) n k, ()))
theorem g_line_eq (e a p m n k : Int) : Cond (env_line e a p m n k) Tryz.f144 [.agg [.int .i64 e, .int .i64 a, .int .i64 p, .int .i64 m], .int .i64 n, .int .i64 k] [.int .i64] (lineF (e, a, p, m) n k, ()) = g_line_vc e a p m n k := by kernel_rfl
theorem g_line_ok (e a p m n k : Int) : g_line_vc e a p m n k := by
  unfold g_line_vc lineF
  dsimp only
  simp only [decide_eq_true_eq, decide_eq_false_iff_not, Bool.not_false]
  refine ⟨fun c1 => ⟨fun c2 => ?_, fun c2 => ⟨fun c3 => ⟨fun c4 => ?_, fun c4 => ⟨fun c5 => ⟨fun c6 => ⟨fun c7 => ?_, fun c7 => ⟨fun c8 => ?_, fun c8 => ?_⟩⟩, fun c6 => ?_⟩, fun c5 => ?_⟩⟩, fun c3 => ?_⟩⟩, fun c1 => ?_⟩
  · rw [if_pos (by omega)]
  · rw [if_neg (by omega), if_pos (by omega)]
  · rw [if_neg (by omega), if_neg (by omega), if_pos (by omega)]
  · rw [if_neg (by omega), if_neg (by omega), if_neg (by omega), if_pos c8]
  · rw [if_neg (by omega), if_neg (by omega), if_neg (by omega), if_neg c8]
  · rw [if_neg (by omega), if_neg (by omega), if_pos (by omega)]
  · rw [if_neg (by omega), if_neg (by omega), if_pos (by omega)]
  · rw [if_neg (by omega), if_pos (by omega)]
  · rw [if_pos (by omega)]
set_option maxRecDepth 20000
theorem line_pure (e a p m n k : Int) : Pure Tryz.prog 144 [.agg [.int .i64 e, .int .i64 a, .int .i64 p, .int .i64 m], .int .i64 n, .int .i64 k] (.int .i64 (lineF (e, a, p, m) n k)) :=
  by have k := Pure.of_cond (g_line_eq e a p m n k) (g_line_ok e a p m n k) (specs_ok rfl [] [] rfl rfl) mixed Tryz.func144; exact k
noncomputable def q_line (e a p m n k : Int) : Prop × V := (True, (.int .i64 (lineF (e, a, p, m) n k)))
noncomputable def sp_line : FSpec Tryz.prog where
 f := 144
 run := fun
  | [.agg [.int .i64 e, .int .i64 a, .int .i64 p, .int .i64 m], .int .i64 n, .int .i64 k] => some (q_line e a p m n k)
  | _ => none
 ok := fun args pre r h hp => by
  split at h
  · rename_i e a p m n k
    exact of_q h hp fun h => (line_pure e a p m n k).weak (.cons (.refl _) (.cons (.refl _) (.cons (.refl _) .nil)))
  · cases h
noncomputable def env_r1 (e a p m n : Int) : Env where
  P := Tryz.prog
  ty := tys
def g_r1_vc (e : Int) (a : Int) (p : Int) (m : Int) (n : Int) : Prop :=
  (decide (e < (1 : Int)) = false → (decide (n < e), ()) = (decide (e < (1 : Int) ∨ n < e), ())) ∧ (decide (e < (1 : Int)) = !false → (true, ()) = (decide (e < (1 : Int) ∨ n < e), ()))
theorem g_r1_eq (e a p m n : Int) : Cond (env_r1 e a p m n) Tryz.f133 [.agg [.int .i64 e, .int .i64 a, .int .i64 p, .int .i64 m], .fptr [.int .i64 n]] [.bool] (decide (e < 1 ∨ n < e), ()) = g_r1_vc e a p m n := by kernel_rfl
theorem g_r1_ok (e a p m n : Int) : g_r1_vc e a p m n := by
  unfold g_r1_vc
  simp only [decide_eq_false_iff_not, Bool.not_false, decide_eq_true_eq]
  refine ⟨fun c => ?_, fun c => ?_⟩
  · rw [decide_eq_decide.2 (show (n < e) ↔ (e < 1 ∨ n < e) by omega)]
  · rw [decide_eq_true (.inl c)]
theorem r1_pure (e a p m n : Int) : Pure Tryz.prog 133 [.agg [.int .i64 e, .int .i64 a, .int .i64 p, .int .i64 m], .fptr [.int .i64 n]] (.bool (decide (e < 1 ∨ n < e))) :=
  by have k := Pure.of_cond (g_r1_eq e a p m n) (g_r1_ok e a p m n) (specs_ok rfl [] [] rfl rfl) mixed Tryz.func133; exact k
noncomputable def q_r1 (e a p m n : Int) : Prop × V := (True, (.bool (decide (e < 1 ∨ n < e))))
noncomputable def sp_r1 : FSpec Tryz.prog where
 f := 133
 run := fun
  | [.agg [.int .i64 e, .int .i64 a, .int .i64 p, .int .i64 m], .fptr [.int .i64 n]] => some (q_r1 e a p m n)
  | _ => none
 ok := fun args pre r h hp => by
  split at h
  · rename_i e a p m n
    exact of_q h hp fun h => (r1_pure e a p m n).weak (.cons (.refl _) (.cons (.refl _) .nil))
  · cases h
noncomputable def env_r2 (e a p m n : Int) : Env where
  P := Tryz.prog
  ty := tys
def g_r2_vc (e : Int) (a : Int) (p : Int) (m : Int) (n : Int) : Prop :=
  (decide (a < (1 : Int)) = false → (decide (n < a), ()) = (decide (a < (1 : Int) ∨ n < a), ())) ∧ (decide (a < (1 : Int)) = !false → (true, ()) = (decide (a < (1 : Int) ∨ n < a), ()))
theorem g_r2_eq (e a p m n : Int) : Cond (env_r2 e a p m n) Tryz.f134 [.agg [.int .i64 e, .int .i64 a, .int .i64 p, .int .i64 m], .fptr [.int .i64 n]] [.bool] (decide (a < 1 ∨ n < a), ()) = g_r2_vc e a p m n := by kernel_rfl
theorem g_r2_ok (e a p m n : Int) : g_r2_vc e a p m n := by
  unfold g_r2_vc
  simp only [decide_eq_false_iff_not, Bool.not_false, decide_eq_true_eq]
  refine ⟨fun c => ?_, fun c => ?_⟩
  · rw [decide_eq_decide.2 (show (n < a) ↔ (a < 1 ∨ n < a) by omega)]
  · rw [decide_eq_true (.inl c)]
theorem r2_pure (e a p m n : Int) : Pure Tryz.prog 134 [.agg [.int .i64 e, .int .i64 a, .int .i64 p, .int .i64 m], .fptr [.int .i64 n]] (.bool (decide (a < 1 ∨ n < a))) :=
  by have k := Pure.of_cond (g_r2_eq e a p m n) (g_r2_ok e a p m n) (specs_ok rfl [] [] rfl rfl) mixed Tryz.func134; exact k
noncomputable def q_r2 (e a p m n : Int) : Prop × V := (True, (.bool (decide (a < 1 ∨ n < a))))
noncomputable def sp_r2 : FSpec Tryz.prog where
 f := 134
 run := fun
  | [.agg [.int .i64 e, .int .i64 a, .int .i64 p, .int .i64 m], .fptr [.int .i64 n]] => some (q_r2 e a p m n)
  | _ => none
 ok := fun args pre r h hp => by
  split at h
  · rename_i e a p m n
    exact of_q h hp fun h => (r2_pure e a p m n).weak (.cons (.refl _) (.cons (.refl _) .nil))
  · cases h
noncomputable def env_r3 (e a p m n : Int) : Env where
  P := Tryz.prog
  ty := tys
def g_r3_vc (e : Int) (a : Int) (p : Int) (m : Int) (n : Int) : Prop :=
  (decide (p < (0 : Int)) = false → (decide (n < p) = false → (decide (p = e), ()) = (decide (p < (0 : Int) ∨ n < p ∨ p = e), ())) ∧ (decide (n < p) = !false → (true, ()) = (decide (p < (0 : Int) ∨ n < p ∨ p = e), ()))) ∧ (decide (p < (0 : Int)) = !false → (true, ()) = (decide (p < (0 : Int) ∨ n < p ∨ p = e), ()))
theorem g_r3_eq (e a p m n : Int) : Cond (env_r3 e a p m n) Tryz.f135 [.agg [.int .i64 e, .int .i64 a, .int .i64 p, .int .i64 m], .fptr [.int .i64 n]] [.bool] (decide (p < 0 ∨ n < p ∨ p = e), ()) = g_r3_vc e a p m n := by kernel_rfl
theorem g_r3_ok (e a p m n : Int) : g_r3_vc e a p m n := by
  unfold g_r3_vc
  simp only [decide_eq_false_iff_not, Bool.not_false, decide_eq_true_eq]
  first
    | (refine ⟨fun c => ⟨fun d => ?_, fun d => ?_⟩, fun c => ?_⟩
       · rw [decide_eq_decide.2 (show (p = e) ↔ (p < 0 ∨ n < p ∨ p = e) by omega)]
       · rw [decide_eq_true (.inr (.inl d))]
       · rw [decide_eq_true (.inl c)])
theorem r3_pure (e a p m n : Int) : Pure Tryz.prog 135 [.agg [.int .i64 e, .int .i64 a, .int .i64 p, .int .i64 m], .fptr [.int .i64 n]] (.bool (decide (p < 0 ∨ n < p ∨ p = e))) :=
  by have k := Pure.of_cond (g_r3_eq e a p m n) (g_r3_ok e a p m n) (specs_ok rfl [] [] rfl rfl) mixed Tryz.func135; exact k
noncomputable def q_r3 (e a p m n : Int) : Prop × V := (True, (.bool (decide (p < 0 ∨ n < p ∨ p = e))))
noncomputable def sp_r3 : FSpec Tryz.prog where
 f := 135
 run := fun
  | [.agg [.int .i64 e, .int .i64 a, .int .i64 p, .int .i64 m], .fptr [.int .i64 n]] => some (q_r3 e a p m n)
  | _ => none
 ok := fun args pre r h hp => by
  split at h
  · rename_i e a p m n
    exact of_q h hp fun h => (r3_pure e a p m n).weak (.cons (.refl _) (.cons (.refl _) .nil))
  · cases h
noncomputable def env_r4 (e a p m : Int) : Env where
  P := Tryz.prog
  ty := tys
def g_r4_vc (e : Int) (a : Int) (p : Int) (m : Int) : Prop :=
  (decide (m = (0 : Int)), ()) = (decide (m = (0 : Int)), ())
theorem g_r4_eq (e a p m : Int) : Cond (env_r4 e a p m) Tryz.f136 [.agg [.int .i64 e, .int .i64 a, .int .i64 p, .int .i64 m]] [.bool] (decide (m = 0), ()) = g_r4_vc e a p m := by kernel_rfl
theorem g_r4_ok (e a p m : Int) : g_r4_vc e a p m := by
  exact rfl
theorem r4_pure (e a p m : Int) : Pure Tryz.prog 136 [.agg [.int .i64 e, .int .i64 a, .int .i64 p, .int .i64 m]] (.bool (decide (m = 0))) :=
  by have k := Pure.of_cond (g_r4_eq e a p m) (g_r4_ok e a p m) (specs_ok rfl [] [] rfl rfl) mixed Tryz.func136; exact k
noncomputable def q_r4 (e a p m : Int) : Prop × V := (True, (.bool (decide (m = 0))))
noncomputable def sp_r4 : FSpec Tryz.prog where
 f := 136
 run := fun
  | [.agg [.int .i64 e, .int .i64 a, .int .i64 p, .int .i64 m]] => some (q_r4 e a p m)
  | _ => none
 ok := fun args pre r h hp => by
  split at h
  · rename_i e a p m
    exact of_q h hp fun h => (r4_pure e a p m).weak (.cons (.refl _) .nil)
  · cases h
noncomputable def env_rules (n k : Int) : Env where
  P := Tryz.prog
  ty := tys
  asRows := fun | 12 => true | _ => false
def g_rules_vc (n : Int) (k : Int) : Prop :=
  some (V.rows (2 : Nat) [V.fn (Fn.func (133 : Nat)) [] [V.optr [V.int IntKind.i64 n]], V.int IntKind.i64 (20 : Int), V.fn (Fn.func (134 : Nat)) [] [V.optr [V.int IntKind.i64 k]], V.int IntKind.i64 (21 : Int), V.fn (Fn.func (135 : Nat)) [] [V.optr [V.int IntKind.i64 n]], V.int IntKind.i64 (24 : Int), V.fn (Fn.func (136 : Nat)) [] [], V.int IntKind.i64 (31 : Int)]) = some (V.rows (2 : Nat) [V.fn (Fn.func (133 : FuncId)) [] [V.optr [V.int IntKind.i64 n]], V.int IntKind.i64 (20 : Int), V.fn (Fn.func (134 : FuncId)) [] [V.optr [V.int IntKind.i64 k]], V.int IntKind.i64 (21 : Int), V.fn (Fn.func (135 : FuncId)) [] [V.optr [V.int IntKind.i64 n]], V.int IntKind.i64 (24 : Int), V.fn (Fn.func (136 : FuncId)) [] [], V.int IntKind.i64 (31 : Int)])
theorem g_rules_eq (n k : Int) : CondZ (env_rules n k) Tryz.f104 [.int .i64 n, .int .i64 k] (.rows 2 [.fn (.func 133) [] [.optr [.int .i64 n]], .int .i64 20, .fn (.func 134) [] [.optr [.int .i64 k]], .int .i64 21, .fn (.func 135) [] [.optr [.int .i64 n]], .int .i64 24, .fn (.func 136) [] [], .int .i64 31]) = g_rules_vc n k := by kernel_rfl
theorem g_rules_ok (n k : Int) : g_rules_vc n k := by
  exact rfl
theorem rules_pure (n k : Int) : PureZ Tryz.prog 104 [.int .i64 n, .int .i64 k] (.rows 2 [.fn (.func 133) [] [.optr [.int .i64 n]], .int .i64 20, .fn (.func 134) [] [.optr [.int .i64 k]], .int .i64 21, .fn (.func 135) [] [.optr [.int .i64 n]], .int .i64 24, .fn (.func 136) [] [], .int .i64 31]) :=
  by have k := PureZ.of_cond (g_rules_eq n k) (g_rules_ok n k) (specs_ok rfl [] [] rfl rfl) mixed Tryz.func104; exact k
noncomputable def q_rules (n k : Int) : Prop × V := (True, (.rows 2 [.fn (.func 133) [] [.optr [.int .i64 n]], .int .i64 20, .fn (.func 134) [] [.optr [.int .i64 k]], .int .i64 21, .fn (.func 135) [] [.optr [.int .i64 n]], .int .i64 24, .fn (.func 136) [] [], .int .i64 31]))
noncomputable def sp_rules : ZSpec Tryz.prog where
 f := 104
 run := fun
  | [.int .i64 n, .int .i64 k] => some (q_rules n k)
  | _ => none
 ok := fun args pre r h hp => by
  split at h
  · rename_i n k
    exact of_q h hp fun h => (rules_pure n k).weak (.cons (.refl _) (.cons (.refl _) .nil))
  · cases h
end Go.Proofs.YtgjpehgnagfghaaGreat.Ent
