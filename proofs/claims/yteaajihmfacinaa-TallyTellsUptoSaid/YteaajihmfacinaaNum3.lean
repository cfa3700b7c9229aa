/-
  num.Net: the plain law.
-/
import Derived.Test.YteaajihmfacinaaNum2
import Derived.Test.YteaajihmfacinaaBig3
namespace Go.Proofs.Yteaajihmfacinaa
open Go.Vm
abbrev M128 : Int := 340282366920938463463374607431768211456
def prW (s : Int × Int) : Int := s.1 * M64 + s.2
theorem addW_pr {s : Int × Int} {n : Int} (hn : InI n) : ∃ k, prW (addW s n) = prW s + n + k * M128 := by
  obtain ⟨h1, h2⟩ := hn
  obtain ⟨a, b⟩ := s
  simp only [prW, addW, hiW, M64, M128]
  split
  · exact ⟨1 - (a + 18446744073709551615 + (b + n % 18446744073709551616) / 18446744073709551616) / 18446744073709551616, by omega⟩
  · exact ⟨0 - (a + 0 + (b + n % 18446744073709551616) / 18446744073709551616) / 18446744073709551616, by omega⟩
theorem fold_pr : ∀ {l : List Int} {s : Int × Int}, (∀ n ∈ l, InI n) → ∃ k, prW (l.foldl addW s) = prW s + l.foldl (· + ·) 0 + k * M128
  | [], s, _ => ⟨0, by simp⟩
  | n :: r, s, h => by
    obtain ⟨k1, e1⟩ := addW_pr (s := s) (h n (by simp))
    obtain ⟨k2, e2⟩ := fold_pr (l := r) (s := addW s n) (fun x hx => h x (by simp [hx]))
    have e3 : ∀ (l : List Int) (a : Int), l.foldl (· + ·) a = a + l.foldl (· + ·) 0 := by
      intro l
      induction l with
      | nil => intro a; simp
      | cons x r ih => intro a; simp only [List.foldl_cons]; rw [ih (a + x), ih (0 + x)]; omega
    refine ⟨k1 + k2, ?_⟩
    simp only [List.foldl_cons, Int.zero_add]
    rw [e2, e1, e3 r n, Int.add_mul]
    omega
theorem subW_pr {s : Int × Int} {n : Int} (hs : InW s.2) (hn : InI n) : ∃ k, prW (subW s n) = prW s - n + k * M128 := by
  obtain ⟨h1, h2⟩ := hn
  obtain ⟨a, b⟩ := s
  obtain ⟨h3, h4⟩ := hs
  simp only [prW, subW, hiW, lessB, M64, M128] at *
  split <;> split
  · exact ⟨0 - (a - 18446744073709551615 - 1) / 18446744073709551616 - 1, by omega⟩
  · exact ⟨0 - (a - 18446744073709551615 - 0) / 18446744073709551616 - 1, by omega⟩
  · exact ⟨0 - (a - 0 - 1) / 18446744073709551616, by omega⟩
  · exact ⟨0 - (a - 0 - 0) / 18446744073709551616, by omega⟩
theorem fold_sum (l : List Int) : ∀ a : Int, l.foldl (· + ·) a = a + l.foldl (· + ·) 0 := by
  induction l with
  | nil => intro a; simp
  | cons x r ih => intro a; simp only [List.foldl_cons]; rw [ih (a + x), ih (0 + x)]; omega
theorem fold_prM : ∀ {l : List Int} {s : Int × Int}, InW s.2 → (∀ n ∈ l, InI n) → ∃ k, prW (l.foldl subW s) = prW s - l.foldl (· + ·) 0 + k * M128
  | [], s, _, _ => ⟨0, by simp⟩
  | n :: r, s, hs, h => by
    obtain ⟨k1, e1⟩ := subW_pr (s := s) hs (h n (by simp))
    obtain ⟨k2, e2⟩ := fold_prM (l := r) (s := subW s n) (mod_w _) (fun x hx => h x (by simp [hx]))
    refine ⟨k1 + k2, ?_⟩
    simp only [List.foldl_cons, Int.zero_add]
    rw [e2, e1, fold_sum r n, Int.add_mul]
    omega
theorem subW_w {l : List Int} : ∀ {s : Int × Int}, InW s.1 ∧ InW s.2 → InW (l.foldl subW s).1 ∧ InW (l.foldl subW s).2 := by
  induction l with
  | nil => exact fun h => h
  | cons a r ih => exact fun _ => ih ⟨mod_w _, mod_w _⟩
theorem netF_law {l m : List Int} (h : ∀ n ∈ l, InI n) (hm : ∀ n ∈ m, InI n) (z : Int) (hz : z = l.foldl (· + ·) 0 - m.foldl (· + ·) 0) (hb : -1267650600228229401496703205376 ≤ z ∧ z ≤ 1267650600228229401496703205376) : netF l m = (intB z, faultB z) := by
  obtain ⟨k, hk⟩ := fold_pr (s := (0, 0)) h
  have h0 : InW 0 := ⟨by decide, by decide⟩
  obtain ⟨⟨w1, w2⟩, w3, w4⟩ := addW_w (l := l) (s := (0, 0)) ⟨h0, h0⟩
  obtain ⟨k', hk'⟩ := fold_prM (s := l.foldl addW (0, 0)) ⟨w3, w4⟩ hm
  obtain ⟨⟨w5, w6⟩, w7, w8⟩ := subW_w (l := m) (s := l.foldl addW (0, 0)) ⟨⟨w1, w2⟩, w3, w4⟩
  have hk : prW (m.foldl subW (l.foldl addW (0, 0))) = z + (k + k') * M128 := by
    rw [hk', hk, hz, Int.add_mul]
    simp only [prW]
    omega
  clear hk' w1 w2 w3 w4
  generalize k + k' = k at hk
  unfold netF sumW
  generalize m.foldl subW (l.foldl addW (0, 0)) = s at *
  obtain ⟨a, b⟩ := s
  simp only [prW, M64, M128, Int.zero_mul, Int.zero_add] at *
  have hw := IntKind.wrap_i64 b
  unfold intF intB faultB okB
  generalize IntKind.i64.wrap b = n at hw
  simp only [M64]
  by_cases hin : -9223372036854775808 ≤ z ∧ z ≤ 9223372036854775807
  · have hc : hiW n = a ∧ n % 18446744073709551616 = b := by
      unfold hiW
      split <;> omega
    have en : n = z := by
      obtain ⟨c1, c2⟩ := hc
      unfold hiW at c1
      split at c1 <;> omega
    rw [if_pos hc, if_pos hin, decide_eq_true hin.1, decide_eq_true hin.2, en]
    rfl
  · have hc : ¬ (hiW n = a ∧ n % 18446744073709551616 = b) := by
      rintro ⟨c1, c2⟩
      unfold hiW at c1
      split at c1 <;> omega
    have hd : (decide (-9223372036854775808 ≤ z) && decide (z ≤ 9223372036854775807)) = false := by
      rw [Bool.and_eq_false_iff, decide_eq_false_iff_not, decide_eq_false_iff_not]
      omega
    rw [if_neg hc, if_neg hin, hd]
    rfl
end Go.Proofs.Yteaajihmfacinaa
