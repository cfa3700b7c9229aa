/-
  A wide number by a word: the quotient, and what is left.
-/
import Derived.Test.YtkifiopfapnpnaaGreatDoorWide1
namespace Go.Proofs.YtkifiopfapnpnaaGreatDoor
open Go.Vm

/-- A half of the quotient is told too great, or right. -/
def EstInv (u d v1 v0 q r : Int) : Prop := 0 ≤ q ∧ 0 ≤ r ∧ r < 4294967296 ∧ q * v1 + r = u ∧ (u * 4294967296 + d) / (v1 * 4294967296 + v0) ≤ q
/-- What is divided by, in halves; the number above it. -/
def Norm (u d v1 v0 : Int) : Prop := 2147483648 ≤ v1 ∧ v1 < 4294967296 ∧ 0 ≤ v0 ∧ v0 < 4294967296 ∧ 0 ≤ u ∧ u < v1 * 4294967296 + v0 ∧ 0 ≤ d ∧ d < 4294967296
theorem est_quot {u d v1 v0 : Int} (h : Norm u d v1 v0) : 0 ≤ (u * 4294967296 + d) / (v1 * 4294967296 + v0) ∧ (u * 4294967296 + d) / (v1 * 4294967296 + v0) < 4294967296 := by
  obtain ⟨h1, h2, h3, h4, h5, h6, h7, h8⟩ := h
  generalize hv : v1 * 4294967296 + v0 = v at *
  have hv0 : 0 < v := by omega
  refine ⟨Int.ediv_nonneg (by omega) (by omega), ?_⟩
  exact Int.ediv_lt_of_lt_mul hv0 (by omega)
theorem est_0 {u d v1 v0 : Int} (h : Norm u d v1 v0) : EstInv u d v1 v0 (u / v1) (u - u / v1 * v1) := by
  obtain ⟨h1, h2, h3, h4, h5, h6, h7, h8⟩ := h
  have hv0 : 0 < v1 := by omega
  have e : u / v1 * v1 + u % v1 = u := by rw [Int.mul_comm]; exact Int.mul_ediv_add_emod u v1
  have r0 : 0 ≤ u % v1 := Int.emod_nonneg _ (by omega)
  have r1 : u % v1 < v1 := Int.emod_lt_of_pos _ hv0
  have q0 : 0 ≤ u / v1 := Int.ediv_nonneg h5 (by omega)
  refine ⟨q0, by omega, by omega, by omega, ?_⟩
  refine Int.le_of_lt_add_one (Int.ediv_lt_of_lt_mul (by omega) ?_)
  generalize u / v1 = q at *
  generalize u % v1 = r at *
  have : 0 ≤ (q + 1) * v0 := Int.mul_nonneg (by omega) h3
  have e2 : (q + 1) * (v1 * 4294967296 + v0) = (q * v1 + v1) * 4294967296 + (q + 1) * v0 := by grind
  rw [e2]
  omega
theorem est_step {u d v1 v0 q r : Int} (h : Norm u d v1 v0) (hi : EstInv u d v1 v0 q r) (hc : 4294967296 ≤ q ∨ 4294967296 * r + d < q * v0) : 1 ≤ q ∧ (u * 4294967296 + d) / (v1 * 4294967296 + v0) ≤ q - 1 ∧ (q - 1) * v1 + (r + v1) = u := by
  obtain ⟨i1, i2, i3, i4, i5⟩ := hi
  have hq := est_quot h
  obtain ⟨h1, h2, h3, h4, h5, h6, h7, h8⟩ := h
  have e4 : (q - 1) * v1 + (r + v1) = u := by rw [← i4]; grind
  rcases hc with c | c
  · exact ⟨by omega, by omega, e4⟩
  · have q1 : 1 ≤ q := by
      by_cases z : q = 0
      · subst z
        rw [Int.zero_mul] at c
        omega
      · omega
    refine ⟨q1, ?_, e4⟩
    have : (u * 4294967296 + d) / (v1 * 4294967296 + v0) < q := by
      refine Int.ediv_lt_of_lt_mul (by omega) ?_
      have e : q * (v1 * 4294967296 + v0) = q * v1 * 4294967296 + q * v0 := by grind
      rw [e]
      omega
    omega
/-- It is right: what it comes to is no more. -/
theorem est_end {u d v1 v0 q r : Int} (h : Norm u d v1 v0) (hq : (u * 4294967296 + d) / (v1 * 4294967296 + v0) ≤ q) (i4 : q * v1 + r = u) (hc : q * v0 ≤ 4294967296 * r + d) : q = (u * 4294967296 + d) / (v1 * 4294967296 + v0) := by
  obtain ⟨h1, h2, h3, h4, h5, h6, h7, h8⟩ := h
  have : q ≤ (u * 4294967296 + d) / (v1 * 4294967296 + v0) := by
    refine Int.le_ediv_of_mul_le (by omega) ?_
    have e : q * (v1 * 4294967296 + v0) = q * v1 * 4294967296 + q * v0 := by grind
    rw [e]
    omega
  omega
theorem est_far {u d v1 v0 q r : Int} (h : Norm u d v1 v0) (hq : (u * 4294967296 + d) / (v1 * 4294967296 + v0) ≤ q) (i4 : q * v1 + r = u) (hr : 4294967296 ≤ r) (q0 : 0 ≤ q) : q = (u * 4294967296 + d) / (v1 * 4294967296 + v0) := by
  refine est_end h hq i4 ?_
  obtain ⟨h1, h2, h3, h4, h5, h6, h7, h8⟩ := h
  have b : q ≤ 4294967296 := by
    by_cases z : q ≤ 4294967296
    · exact z
    · exfalso
      have : 4294967297 * v1 ≤ q * v1 := Int.mul_le_mul_of_nonneg_right (by omega) (by omega)
      omega
  have m1 : q * v0 ≤ q * 4294967296 := Int.mul_le_mul_of_nonneg_left (by omega) q0
  omega

noncomputable def env_div64 (a l y : Int) : Env where
  P := Tryz.prog
  ty := tys0
  specs := specsOf [sp_lead]
  wrap := fun | 87 => true | 89 => true | 92 => true | 93 => true | 126 => true | 128 => true | 131 => true | 132 => true | _ => false
  heads := fun
    | 17 => some { slots := [(15, .int .u64), (16, .int .u64)], boxes := [], inv := fun st (x : Int × Int × Unit) => EstInv (st.int 11) (st.int 13) (st.int 9) (st.int 10) x.1 x.2.1, measure := fun _ (x : Int × Int × Unit) => (4294967296 - x.2.1).toNat }
    | 24 => some { slots := [(18, .int .u64), (16, .int .u64)], boxes := [], inv := fun st (x : Int × Int × Unit) => EstInv (st.int 17) (st.int 14) (st.int 9) (st.int 10) x.1 x.2.1, measure := fun _ (x : Int × Int × Unit) => (4294967296 - x.2.1).toNat }
    | _ => none
  joins := fun
    | 21 => some { slots := [(15, .int .u64), (16, .any)], boxes := [], inv := fun st (x : Int × Unit × Unit) => x.1 = (st.int 11 * 4294967296 + st.int 13) / (st.int 9 * 4294967296 + st.int 10) }
    | 28 => some { slots := [(18, .int .u64), (16, .any)], boxes := [], inv := fun st (x : Int × Unit × Unit) => x.1 = (st.int 17 * 4294967296 + st.int 14) / (st.int 9 * 4294967296 + st.int 10) }
    | _ => none
noncomputable def g_div64 (a l y : Int) : Prop := vc (env_div64 a l y) (codeOf Tryz.f91) (start0 Tryz.f91 [.int .u64 a, .int .u64 l, .int .u64 y]) (exitK (tsOf Tryz.f91) [.int .u64, .int .u64] (wz a l / y, wz a l % y, ()))
def g_div64_vc (h : Int) (l : Int) (y : Int) : Prop :=
  (decide (y = (0 : Int)) = true → False) ∧
  (decide (y = (0 : Int)) = false →
    (decide (y ≤ h) = true → False) ∧
      (decide (y ≤ h) = false →
        (decide (h = (0 : Int)) = true → y ≠ (0 : Int) ∧ ((0 : Int) ≤ l.tdiv y ∧ l.tdiv y ≤ (18446744073709551615 : Int)) ∧ y ≠ (0 : Int) ∧ (l.tdiv y, l.tmod y, ()) = (wz h l / y, wz h l % y, ())) ∧
          (decide (h = (0 : Int)) = false →
            InW y ∧
              ((0 : Int) ≤ leadZ y ∧ leadZ y ≤ (18446744073709551615 : Int)) ∧
                ((0 : Int) ≤ leadZ y ∧ leadZ y ≤ (↑IntKind.u64.bits : Int)) ∧
                  ((0 : Int) ≤ (32 : Int) ∧ (32 : Int) ≤ (↑IntKind.u64.bits : Int)) ∧
                    ((0 : Int) ≤ leadZ y ∧ leadZ y ≤ (↑IntKind.u64.bits : Int)) ∧
                      ((0 : Int) ≤ (64 : Int) - leadZ y ∧ (64 : Int) - leadZ y ≤ (18446744073709551615 : Int)) ∧
                        ((0 : Int) ≤ (64 : Int) - leadZ y ∧ (64 : Int) - leadZ y ≤ (↑IntKind.u64.bits : Int)) ∧
                          ((0 : Int) ≤ leadZ y ∧ leadZ y ≤ (↑IntKind.u64.bits : Int)) ∧
                            ((0 : Int) ≤ (32 : Int) ∧ (32 : Int) ≤ (↑IntKind.u64.bits : Int)) ∧
                              IntKind.u64.wrap (y * (↑((2 : Nat) ^ (leadZ y).toNat) : Int)) / (↑(4294967296 : Nat) : Int) ≠ (0 : Int) ∧
                                ((0 : Int) ≤
                                      (orI IntKind.u64 (IntKind.u64.wrap (h * (↑((2 : Nat) ^ (leadZ y).toNat) : Int))) (l / (↑((2 : Nat) ^ ((64 : Int) - leadZ y).toNat) : Int))).tdiv
                                        (IntKind.u64.wrap (y * (↑((2 : Nat) ^ (leadZ y).toNat) : Int)) / (↑(4294967296 : Nat) : Int)) ∧
                                    (orI IntKind.u64 (IntKind.u64.wrap (h * (↑((2 : Nat) ^ (leadZ y).toNat) : Int))) (l / (↑((2 : Nat) ^ ((64 : Int) - leadZ y).toNat) : Int))).tdiv
                                        (IntKind.u64.wrap (y * (↑((2 : Nat) ^ (leadZ y).toNat) : Int)) / (↑(4294967296 : Nat) : Int)) ≤
                                      (18446744073709551615 : Int)) ∧
                                  ((0 : Int) ≤
                                        (orI IntKind.u64 (IntKind.u64.wrap (h * (↑((2 : Nat) ^ (leadZ y).toNat) : Int))) (l / (↑((2 : Nat) ^ ((64 : Int) - leadZ y).toNat) : Int))).tdiv
                                            (IntKind.u64.wrap (y * (↑((2 : Nat) ^ (leadZ y).toNat) : Int)) / (↑(4294967296 : Nat) : Int)) *
                                          (IntKind.u64.wrap (y * (↑((2 : Nat) ^ (leadZ y).toNat) : Int)) / (↑(4294967296 : Nat) : Int)) ∧
                                      (orI IntKind.u64 (IntKind.u64.wrap (h * (↑((2 : Nat) ^ (leadZ y).toNat) : Int))) (l / (↑((2 : Nat) ^ ((64 : Int) - leadZ y).toNat) : Int))).tdiv
                                            (IntKind.u64.wrap (y * (↑((2 : Nat) ^ (leadZ y).toNat) : Int)) / (↑(4294967296 : Nat) : Int)) *
                                          (IntKind.u64.wrap (y * (↑((2 : Nat) ^ (leadZ y).toNat) : Int)) / (↑(4294967296 : Nat) : Int)) ≤
                                        (18446744073709551615 : Int)) ∧
                                    ((0 : Int) ≤
                                          orI IntKind.u64 (IntKind.u64.wrap (h * (↑((2 : Nat) ^ (leadZ y).toNat) : Int))) (l / (↑((2 : Nat) ^ ((64 : Int) - leadZ y).toNat) : Int)) -
                                            (orI IntKind.u64 (IntKind.u64.wrap (h * (↑((2 : Nat) ^ (leadZ y).toNat) : Int))) (l / (↑((2 : Nat) ^ ((64 : Int) - leadZ y).toNat) : Int))).tdiv
                                                (IntKind.u64.wrap (y * (↑((2 : Nat) ^ (leadZ y).toNat) : Int)) / (↑(4294967296 : Nat) : Int)) *
                                              (IntKind.u64.wrap (y * (↑((2 : Nat) ^ (leadZ y).toNat) : Int)) / (↑(4294967296 : Nat) : Int)) ∧
                                        orI IntKind.u64 (IntKind.u64.wrap (h * (↑((2 : Nat) ^ (leadZ y).toNat) : Int))) (l / (↑((2 : Nat) ^ ((64 : Int) - leadZ y).toNat) : Int)) -
                                            (orI IntKind.u64 (IntKind.u64.wrap (h * (↑((2 : Nat) ^ (leadZ y).toNat) : Int))) (l / (↑((2 : Nat) ^ ((64 : Int) - leadZ y).toNat) : Int))).tdiv
                                                (IntKind.u64.wrap (y * (↑((2 : Nat) ^ (leadZ y).toNat) : Int)) / (↑(4294967296 : Nat) : Int)) *
                                              (IntKind.u64.wrap (y * (↑((2 : Nat) ^ (leadZ y).toNat) : Int)) / (↑(4294967296 : Nat) : Int)) ≤
                                          (18446744073709551615 : Int)) ∧
                                      ((True ∧
                                            EstInv (orI IntKind.u64 (IntKind.u64.wrap (h * (↑((2 : Nat) ^ (leadZ y).toNat) : Int))) (l / (↑((2 : Nat) ^ ((64 : Int) - leadZ y).toNat) : Int)))
                                              (IntKind.u64.wrap (l * (↑((2 : Nat) ^ (leadZ y).toNat) : Int)) / (↑(4294967296 : Nat) : Int))
                                              (IntKind.u64.wrap (y * (↑((2 : Nat) ^ (leadZ y).toNat) : Int)) / (↑(4294967296 : Nat) : Int))
                                              (andI IntKind.u64 (IntKind.u64.wrap (y * (↑((2 : Nat) ^ (leadZ y).toNat) : Int))) (4294967295 : Int))
                                              ((orI IntKind.u64 (IntKind.u64.wrap (h * (↑((2 : Nat) ^ (leadZ y).toNat) : Int))) (l / (↑((2 : Nat) ^ ((64 : Int) - leadZ y).toNat) : Int))).tdiv
                                                (IntKind.u64.wrap (y * (↑((2 : Nat) ^ (leadZ y).toNat) : Int)) / (↑(4294967296 : Nat) : Int)))
                                              (orI IntKind.u64 (IntKind.u64.wrap (h * (↑((2 : Nat) ^ (leadZ y).toNat) : Int))) (l / (↑((2 : Nat) ^ ((64 : Int) - leadZ y).toNat) : Int)) -
                                                (orI IntKind.u64 (IntKind.u64.wrap (h * (↑((2 : Nat) ^ (leadZ y).toNat) : Int))) (l / (↑((2 : Nat) ^ ((64 : Int) - leadZ y).toNat) : Int))).tdiv
                                                    (IntKind.u64.wrap (y * (↑((2 : Nat) ^ (leadZ y).toNat) : Int)) / (↑(4294967296 : Nat) : Int)) *
                                                  (IntKind.u64.wrap (y * (↑((2 : Nat) ^ (leadZ y).toNat) : Int)) / (↑(4294967296 : Nat) : Int)))) ∧
                                          ∀ (x : Int × Int × Unit),
                                            EstInv (orI IntKind.u64 (IntKind.u64.wrap (h * (↑((2 : Nat) ^ (leadZ y).toNat) : Int))) (l / (↑((2 : Nat) ^ ((64 : Int) - leadZ y).toNat) : Int)))
                                                (IntKind.u64.wrap (l * (↑((2 : Nat) ^ (leadZ y).toNat) : Int)) / (↑(4294967296 : Nat) : Int))
                                                (IntKind.u64.wrap (y * (↑((2 : Nat) ^ (leadZ y).toNat) : Int)) / (↑(4294967296 : Nat) : Int))
                                                (andI IntKind.u64 (IntKind.u64.wrap (y * (↑((2 : Nat) ^ (leadZ y).toNat) : Int))) (4294967295 : Int)) x.fst x.snd.fst →
                                              (decide ((4294967296 : Int) ≤ x.fst) = false →
                                                  ((0 : Int) ≤ x.fst * andI IntKind.u64 (IntKind.u64.wrap (y * (↑((2 : Nat) ^ (leadZ y).toNat) : Int))) (4294967295 : Int) ∧
                                                      x.fst * andI IntKind.u64 (IntKind.u64.wrap (y * (↑((2 : Nat) ^ (leadZ y).toNat) : Int))) (4294967295 : Int) ≤ (18446744073709551615 : Int)) ∧
                                                    ((0 : Int) ≤ (4294967296 : Int) * x.snd.fst ∧ (4294967296 : Int) * x.snd.fst ≤ (18446744073709551615 : Int)) ∧
                                                      ((0 : Int) ≤ (4294967296 : Int) * x.snd.fst + IntKind.u64.wrap (l * (↑((2 : Nat) ^ (leadZ y).toNat) : Int)) / (↑(4294967296 : Nat) : Int) ∧
                                                          (4294967296 : Int) * x.snd.fst + IntKind.u64.wrap (l * (↑((2 : Nat) ^ (leadZ y).toNat) : Int)) / (↑(4294967296 : Nat) : Int) ≤
                                                            (18446744073709551615 : Int)) ∧
                                                        (decide
                                                                ((4294967296 : Int) * x.snd.fst + IntKind.u64.wrap (l * (↑((2 : Nat) ^ (leadZ y).toNat) : Int)) / (↑(4294967296 : Nat) : Int) <
                                                                  x.fst * andI IntKind.u64 (IntKind.u64.wrap (y * (↑((2 : Nat) ^ (leadZ y).toNat) : Int))) (4294967295 : Int)) =
                                                              true →
                                                            ((0 : Int) ≤ x.fst - (1 : Int) ∧ x.fst - (1 : Int) ≤ (18446744073709551615 : Int)) ∧
                                                              ((0 : Int) ≤ x.snd.fst + IntKind.u64.wrap (y * (↑((2 : Nat) ^ (leadZ y).toNat) : Int)) / (↑(4294967296 : Nat) : Int) ∧
                                                                  x.snd.fst + IntKind.u64.wrap (y * (↑((2 : Nat) ^ (leadZ y).toNat) : Int)) / (↑(4294967296 : Nat) : Int) ≤
                                                                    (18446744073709551615 : Int)) ∧
                                                                (decide ((4294967296 : Int) ≤ x.snd.fst + IntKind.u64.wrap (y * (↑((2 : Nat) ^ (leadZ y).toNat) : Int)) / (↑(4294967296 : Nat) : Int)) =
                                                                      true →
                                                                    True ∧
                                                                      x.fst - (1 : Int) =
                                                                        (orI IntKind.u64 (IntKind.u64.wrap (h * (↑((2 : Nat) ^ (leadZ y).toNat) : Int)))
                                                                                (l / (↑((2 : Nat) ^ ((64 : Int) - leadZ y).toNat) : Int)) *
                                                                              (4294967296 : Int) +
                                                                            IntKind.u64.wrap (l * (↑((2 : Nat) ^ (leadZ y).toNat) : Int)) / (↑(4294967296 : Nat) : Int)) /
                                                                          (IntKind.u64.wrap (y * (↑((2 : Nat) ^ (leadZ y).toNat) : Int)) / (↑(4294967296 : Nat) : Int) * (4294967296 : Int) +
                                                                            andI IntKind.u64 (IntKind.u64.wrap (y * (↑((2 : Nat) ^ (leadZ y).toNat) : Int))) (4294967295 : Int))) ∧
                                                                  (decide
                                                                        ((4294967296 : Int) ≤ x.snd.fst + IntKind.u64.wrap (y * (↑((2 : Nat) ^ (leadZ y).toNat) : Int)) / (↑(4294967296 : Nat) : Int)) =
                                                                      false →
                                                                    True ∧
                                                                      EstInv
                                                                          (orI IntKind.u64 (IntKind.u64.wrap (h * (↑((2 : Nat) ^ (leadZ y).toNat) : Int)))
                                                                            (l / (↑((2 : Nat) ^ ((64 : Int) - leadZ y).toNat) : Int)))
                                                                          (IntKind.u64.wrap (l * (↑((2 : Nat) ^ (leadZ y).toNat) : Int)) / (↑(4294967296 : Nat) : Int))
                                                                          (IntKind.u64.wrap (y * (↑((2 : Nat) ^ (leadZ y).toNat) : Int)) / (↑(4294967296 : Nat) : Int))
                                                                          (andI IntKind.u64 (IntKind.u64.wrap (y * (↑((2 : Nat) ^ (leadZ y).toNat) : Int))) (4294967295 : Int)) (x.fst - (1 : Int))
                                                                          (x.snd.fst + IntKind.u64.wrap (y * (↑((2 : Nat) ^ (leadZ y).toNat) : Int)) / (↑(4294967296 : Nat) : Int)) ∧
                                                                        ((4294967296 : Int) -
                                                                              (x.snd.fst + IntKind.u64.wrap (y * (↑((2 : Nat) ^ (leadZ y).toNat) : Int)) / (↑(4294967296 : Nat) : Int))).toNat <
                                                                          ((4294967296 : Int) - x.snd.fst).toNat)) ∧
                                                          (decide
                                                                ((4294967296 : Int) * x.snd.fst + IntKind.u64.wrap (l * (↑((2 : Nat) ^ (leadZ y).toNat) : Int)) / (↑(4294967296 : Nat) : Int) <
                                                                  x.fst * andI IntKind.u64 (IntKind.u64.wrap (y * (↑((2 : Nat) ^ (leadZ y).toNat) : Int))) (4294967295 : Int)) =
                                                              false →
                                                            True ∧
                                                              x.fst =
                                                                (orI IntKind.u64 (IntKind.u64.wrap (h * (↑((2 : Nat) ^ (leadZ y).toNat) : Int)))
                                                                        (l / (↑((2 : Nat) ^ ((64 : Int) - leadZ y).toNat) : Int)) *
                                                                      (4294967296 : Int) +
                                                                    IntKind.u64.wrap (l * (↑((2 : Nat) ^ (leadZ y).toNat) : Int)) / (↑(4294967296 : Nat) : Int)) /
                                                                  (IntKind.u64.wrap (y * (↑((2 : Nat) ^ (leadZ y).toNat) : Int)) / (↑(4294967296 : Nat) : Int) * (4294967296 : Int) +
                                                                    andI IntKind.u64 (IntKind.u64.wrap (y * (↑((2 : Nat) ^ (leadZ y).toNat) : Int))) (4294967295 : Int)))) ∧
                                                (decide ((4294967296 : Int) ≤ x.fst) = !false →
                                                  ((0 : Int) ≤ x.fst - (1 : Int) ∧ x.fst - (1 : Int) ≤ (18446744073709551615 : Int)) ∧
                                                    ((0 : Int) ≤ x.snd.fst + IntKind.u64.wrap (y * (↑((2 : Nat) ^ (leadZ y).toNat) : Int)) / (↑(4294967296 : Nat) : Int) ∧
                                                        x.snd.fst + IntKind.u64.wrap (y * (↑((2 : Nat) ^ (leadZ y).toNat) : Int)) / (↑(4294967296 : Nat) : Int) ≤ (18446744073709551615 : Int)) ∧
                                                      (decide ((4294967296 : Int) ≤ x.snd.fst + IntKind.u64.wrap (y * (↑((2 : Nat) ^ (leadZ y).toNat) : Int)) / (↑(4294967296 : Nat) : Int)) = true →
                                                          True ∧
                                                            x.fst - (1 : Int) =
                                                              (orI IntKind.u64 (IntKind.u64.wrap (h * (↑((2 : Nat) ^ (leadZ y).toNat) : Int)))
                                                                      (l / (↑((2 : Nat) ^ ((64 : Int) - leadZ y).toNat) : Int)) *
                                                                    (4294967296 : Int) +
                                                                  IntKind.u64.wrap (l * (↑((2 : Nat) ^ (leadZ y).toNat) : Int)) / (↑(4294967296 : Nat) : Int)) /
                                                                (IntKind.u64.wrap (y * (↑((2 : Nat) ^ (leadZ y).toNat) : Int)) / (↑(4294967296 : Nat) : Int) * (4294967296 : Int) +
                                                                  andI IntKind.u64 (IntKind.u64.wrap (y * (↑((2 : Nat) ^ (leadZ y).toNat) : Int))) (4294967295 : Int))) ∧
                                                        (decide ((4294967296 : Int) ≤ x.snd.fst + IntKind.u64.wrap (y * (↑((2 : Nat) ^ (leadZ y).toNat) : Int)) / (↑(4294967296 : Nat) : Int)) = false →
                                                          True ∧
                                                            EstInv
                                                                (orI IntKind.u64 (IntKind.u64.wrap (h * (↑((2 : Nat) ^ (leadZ y).toNat) : Int)))
                                                                  (l / (↑((2 : Nat) ^ ((64 : Int) - leadZ y).toNat) : Int)))
                                                                (IntKind.u64.wrap (l * (↑((2 : Nat) ^ (leadZ y).toNat) : Int)) / (↑(4294967296 : Nat) : Int))
                                                                (IntKind.u64.wrap (y * (↑((2 : Nat) ^ (leadZ y).toNat) : Int)) / (↑(4294967296 : Nat) : Int))
                                                                (andI IntKind.u64 (IntKind.u64.wrap (y * (↑((2 : Nat) ^ (leadZ y).toNat) : Int))) (4294967295 : Int)) (x.fst - (1 : Int))
                                                                (x.snd.fst + IntKind.u64.wrap (y * (↑((2 : Nat) ^ (leadZ y).toNat) : Int)) / (↑(4294967296 : Nat) : Int)) ∧
                                                              ((4294967296 : Int) - (x.snd.fst + IntKind.u64.wrap (y * (↑((2 : Nat) ^ (leadZ y).toNat) : Int)) / (↑(4294967296 : Nat) : Int))).toNat <
                                                                ((4294967296 : Int) - x.snd.fst).toNat))) ∧
                                        ∀ (x : Int × Unit × Unit),
                                          x.fst =
                                              (orI IntKind.u64 (IntKind.u64.wrap (h * (↑((2 : Nat) ^ (leadZ y).toNat) : Int))) (l / (↑((2 : Nat) ^ ((64 : Int) - leadZ y).toNat) : Int)) *
                                                    (4294967296 : Int) +
                                                  IntKind.u64.wrap (l * (↑((2 : Nat) ^ (leadZ y).toNat) : Int)) / (↑(4294967296 : Nat) : Int)) /
                                                (IntKind.u64.wrap (y * (↑((2 : Nat) ^ (leadZ y).toNat) : Int)) / (↑(4294967296 : Nat) : Int) * (4294967296 : Int) +
                                                  andI IntKind.u64 (IntKind.u64.wrap (y * (↑((2 : Nat) ^ (leadZ y).toNat) : Int))) (4294967295 : Int)) →
                                            IntKind.u64.wrap (y * (↑((2 : Nat) ^ (leadZ y).toNat) : Int)) / (↑(4294967296 : Nat) : Int) ≠ (0 : Int) ∧
                                              ((0 : Int) ≤
                                                    (IntKind.u64.wrap
                                                          (IntKind.u64.wrap
                                                              (IntKind.u64.wrap
                                                                  (orI IntKind.u64 (IntKind.u64.wrap (h * (↑((2 : Nat) ^ (leadZ y).toNat) : Int)))
                                                                      (l / (↑((2 : Nat) ^ ((64 : Int) - leadZ y).toNat) : Int)) *
                                                                    (4294967296 : Int)) +
                                                                IntKind.u64.wrap (l * (↑((2 : Nat) ^ (leadZ y).toNat) : Int)) / (↑(4294967296 : Nat) : Int)) -
                                                            IntKind.u64.wrap (x.fst * IntKind.u64.wrap (y * (↑((2 : Nat) ^ (leadZ y).toNat) : Int))))).tdiv
                                                      (IntKind.u64.wrap (y * (↑((2 : Nat) ^ (leadZ y).toNat) : Int)) / (↑(4294967296 : Nat) : Int)) ∧
                                                  (IntKind.u64.wrap
                                                          (IntKind.u64.wrap
                                                              (IntKind.u64.wrap
                                                                  (orI IntKind.u64 (IntKind.u64.wrap (h * (↑((2 : Nat) ^ (leadZ y).toNat) : Int)))
                                                                      (l / (↑((2 : Nat) ^ ((64 : Int) - leadZ y).toNat) : Int)) *
                                                                    (4294967296 : Int)) +
                                                                IntKind.u64.wrap (l * (↑((2 : Nat) ^ (leadZ y).toNat) : Int)) / (↑(4294967296 : Nat) : Int)) -
                                                            IntKind.u64.wrap (x.fst * IntKind.u64.wrap (y * (↑((2 : Nat) ^ (leadZ y).toNat) : Int))))).tdiv
                                                      (IntKind.u64.wrap (y * (↑((2 : Nat) ^ (leadZ y).toNat) : Int)) / (↑(4294967296 : Nat) : Int)) ≤
                                                    (18446744073709551615 : Int)) ∧
                                                ((0 : Int) ≤
                                                      (IntKind.u64.wrap
                                                              (IntKind.u64.wrap
                                                                  (IntKind.u64.wrap
                                                                      (orI IntKind.u64 (IntKind.u64.wrap (h * (↑((2 : Nat) ^ (leadZ y).toNat) : Int)))
                                                                          (l / (↑((2 : Nat) ^ ((64 : Int) - leadZ y).toNat) : Int)) *
                                                                        (4294967296 : Int)) +
                                                                    IntKind.u64.wrap (l * (↑((2 : Nat) ^ (leadZ y).toNat) : Int)) / (↑(4294967296 : Nat) : Int)) -
                                                                IntKind.u64.wrap (x.fst * IntKind.u64.wrap (y * (↑((2 : Nat) ^ (leadZ y).toNat) : Int))))).tdiv
                                                          (IntKind.u64.wrap (y * (↑((2 : Nat) ^ (leadZ y).toNat) : Int)) / (↑(4294967296 : Nat) : Int)) *
                                                        (IntKind.u64.wrap (y * (↑((2 : Nat) ^ (leadZ y).toNat) : Int)) / (↑(4294967296 : Nat) : Int)) ∧
                                                    (IntKind.u64.wrap
                                                              (IntKind.u64.wrap
                                                                  (IntKind.u64.wrap
                                                                      (orI IntKind.u64 (IntKind.u64.wrap (h * (↑((2 : Nat) ^ (leadZ y).toNat) : Int)))
                                                                          (l / (↑((2 : Nat) ^ ((64 : Int) - leadZ y).toNat) : Int)) *
                                                                        (4294967296 : Int)) +
                                                                    IntKind.u64.wrap (l * (↑((2 : Nat) ^ (leadZ y).toNat) : Int)) / (↑(4294967296 : Nat) : Int)) -
                                                                IntKind.u64.wrap (x.fst * IntKind.u64.wrap (y * (↑((2 : Nat) ^ (leadZ y).toNat) : Int))))).tdiv
                                                          (IntKind.u64.wrap (y * (↑((2 : Nat) ^ (leadZ y).toNat) : Int)) / (↑(4294967296 : Nat) : Int)) *
                                                        (IntKind.u64.wrap (y * (↑((2 : Nat) ^ (leadZ y).toNat) : Int)) / (↑(4294967296 : Nat) : Int)) ≤
                                                      (18446744073709551615 : Int)) ∧
                                                  ((0 : Int) ≤
                                                        IntKind.u64.wrap
                                                            (IntKind.u64.wrap
                                                                (IntKind.u64.wrap
                                                                    (orI IntKind.u64 (IntKind.u64.wrap (h * (↑((2 : Nat) ^ (leadZ y).toNat) : Int)))
                                                                        (l / (↑((2 : Nat) ^ ((64 : Int) - leadZ y).toNat) : Int)) *
                                                                      (4294967296 : Int)) +
                                                                  IntKind.u64.wrap (l * (↑((2 : Nat) ^ (leadZ y).toNat) : Int)) / (↑(4294967296 : Nat) : Int)) -
                                                              IntKind.u64.wrap (x.fst * IntKind.u64.wrap (y * (↑((2 : Nat) ^ (leadZ y).toNat) : Int)))) -
                                                          (IntKind.u64.wrap
                                                                  (IntKind.u64.wrap
                                                                      (IntKind.u64.wrap
                                                                          (orI IntKind.u64 (IntKind.u64.wrap (h * (↑((2 : Nat) ^ (leadZ y).toNat) : Int)))
                                                                              (l / (↑((2 : Nat) ^ ((64 : Int) - leadZ y).toNat) : Int)) *
                                                                            (4294967296 : Int)) +
                                                                        IntKind.u64.wrap (l * (↑((2 : Nat) ^ (leadZ y).toNat) : Int)) / (↑(4294967296 : Nat) : Int)) -
                                                                    IntKind.u64.wrap (x.fst * IntKind.u64.wrap (y * (↑((2 : Nat) ^ (leadZ y).toNat) : Int))))).tdiv
                                                              (IntKind.u64.wrap (y * (↑((2 : Nat) ^ (leadZ y).toNat) : Int)) / (↑(4294967296 : Nat) : Int)) *
                                                            (IntKind.u64.wrap (y * (↑((2 : Nat) ^ (leadZ y).toNat) : Int)) / (↑(4294967296 : Nat) : Int)) ∧
                                                      IntKind.u64.wrap
                                                            (IntKind.u64.wrap
                                                                (IntKind.u64.wrap
                                                                    (orI IntKind.u64 (IntKind.u64.wrap (h * (↑((2 : Nat) ^ (leadZ y).toNat) : Int)))
                                                                        (l / (↑((2 : Nat) ^ ((64 : Int) - leadZ y).toNat) : Int)) *
                                                                      (4294967296 : Int)) +
                                                                  IntKind.u64.wrap (l * (↑((2 : Nat) ^ (leadZ y).toNat) : Int)) / (↑(4294967296 : Nat) : Int)) -
                                                              IntKind.u64.wrap (x.fst * IntKind.u64.wrap (y * (↑((2 : Nat) ^ (leadZ y).toNat) : Int)))) -
                                                          (IntKind.u64.wrap
                                                                  (IntKind.u64.wrap
                                                                      (IntKind.u64.wrap
                                                                          (orI IntKind.u64 (IntKind.u64.wrap (h * (↑((2 : Nat) ^ (leadZ y).toNat) : Int)))
                                                                              (l / (↑((2 : Nat) ^ ((64 : Int) - leadZ y).toNat) : Int)) *
                                                                            (4294967296 : Int)) +
                                                                        IntKind.u64.wrap (l * (↑((2 : Nat) ^ (leadZ y).toNat) : Int)) / (↑(4294967296 : Nat) : Int)) -
                                                                    IntKind.u64.wrap (x.fst * IntKind.u64.wrap (y * (↑((2 : Nat) ^ (leadZ y).toNat) : Int))))).tdiv
                                                              (IntKind.u64.wrap (y * (↑((2 : Nat) ^ (leadZ y).toNat) : Int)) / (↑(4294967296 : Nat) : Int)) *
                                                            (IntKind.u64.wrap (y * (↑((2 : Nat) ^ (leadZ y).toNat) : Int)) / (↑(4294967296 : Nat) : Int)) ≤
                                                        (18446744073709551615 : Int)) ∧
                                                    ((True ∧
                                                          EstInv
                                                            (IntKind.u64.wrap
                                                              (IntKind.u64.wrap
                                                                  (IntKind.u64.wrap
                                                                      (orI IntKind.u64 (IntKind.u64.wrap (h * (↑((2 : Nat) ^ (leadZ y).toNat) : Int)))
                                                                          (l / (↑((2 : Nat) ^ ((64 : Int) - leadZ y).toNat) : Int)) *
                                                                        (4294967296 : Int)) +
                                                                    IntKind.u64.wrap (l * (↑((2 : Nat) ^ (leadZ y).toNat) : Int)) / (↑(4294967296 : Nat) : Int)) -
                                                                IntKind.u64.wrap (x.fst * IntKind.u64.wrap (y * (↑((2 : Nat) ^ (leadZ y).toNat) : Int)))))
                                                            (andI IntKind.u64 (IntKind.u64.wrap (l * (↑((2 : Nat) ^ (leadZ y).toNat) : Int))) (4294967295 : Int))
                                                            (IntKind.u64.wrap (y * (↑((2 : Nat) ^ (leadZ y).toNat) : Int)) / (↑(4294967296 : Nat) : Int))
                                                            (andI IntKind.u64 (IntKind.u64.wrap (y * (↑((2 : Nat) ^ (leadZ y).toNat) : Int))) (4294967295 : Int))
                                                            ((IntKind.u64.wrap
                                                                  (IntKind.u64.wrap
                                                                      (IntKind.u64.wrap
                                                                          (orI IntKind.u64 (IntKind.u64.wrap (h * (↑((2 : Nat) ^ (leadZ y).toNat) : Int)))
                                                                              (l / (↑((2 : Nat) ^ ((64 : Int) - leadZ y).toNat) : Int)) *
                                                                            (4294967296 : Int)) +
                                                                        IntKind.u64.wrap (l * (↑((2 : Nat) ^ (leadZ y).toNat) : Int)) / (↑(4294967296 : Nat) : Int)) -
                                                                    IntKind.u64.wrap (x.fst * IntKind.u64.wrap (y * (↑((2 : Nat) ^ (leadZ y).toNat) : Int))))).tdiv
                                                              (IntKind.u64.wrap (y * (↑((2 : Nat) ^ (leadZ y).toNat) : Int)) / (↑(4294967296 : Nat) : Int)))
                                                            (IntKind.u64.wrap
                                                                (IntKind.u64.wrap
                                                                    (IntKind.u64.wrap
                                                                        (orI IntKind.u64 (IntKind.u64.wrap (h * (↑((2 : Nat) ^ (leadZ y).toNat) : Int)))
                                                                            (l / (↑((2 : Nat) ^ ((64 : Int) - leadZ y).toNat) : Int)) *
                                                                          (4294967296 : Int)) +
                                                                      IntKind.u64.wrap (l * (↑((2 : Nat) ^ (leadZ y).toNat) : Int)) / (↑(4294967296 : Nat) : Int)) -
                                                                  IntKind.u64.wrap (x.fst * IntKind.u64.wrap (y * (↑((2 : Nat) ^ (leadZ y).toNat) : Int)))) -
                                                              (IntKind.u64.wrap
                                                                      (IntKind.u64.wrap
                                                                          (IntKind.u64.wrap
                                                                              (orI IntKind.u64 (IntKind.u64.wrap (h * (↑((2 : Nat) ^ (leadZ y).toNat) : Int)))
                                                                                  (l / (↑((2 : Nat) ^ ((64 : Int) - leadZ y).toNat) : Int)) *
                                                                                (4294967296 : Int)) +
                                                                            IntKind.u64.wrap (l * (↑((2 : Nat) ^ (leadZ y).toNat) : Int)) / (↑(4294967296 : Nat) : Int)) -
                                                                        IntKind.u64.wrap (x.fst * IntKind.u64.wrap (y * (↑((2 : Nat) ^ (leadZ y).toNat) : Int))))).tdiv
                                                                  (IntKind.u64.wrap (y * (↑((2 : Nat) ^ (leadZ y).toNat) : Int)) / (↑(4294967296 : Nat) : Int)) *
                                                                (IntKind.u64.wrap (y * (↑((2 : Nat) ^ (leadZ y).toNat) : Int)) / (↑(4294967296 : Nat) : Int)))) ∧
                                                        ∀ (x_1 : Int × Int × Unit),
                                                          EstInv
                                                              (IntKind.u64.wrap
                                                                (IntKind.u64.wrap
                                                                    (IntKind.u64.wrap
                                                                        (orI IntKind.u64 (IntKind.u64.wrap (h * (↑((2 : Nat) ^ (leadZ y).toNat) : Int)))
                                                                            (l / (↑((2 : Nat) ^ ((64 : Int) - leadZ y).toNat) : Int)) *
                                                                          (4294967296 : Int)) +
                                                                      IntKind.u64.wrap (l * (↑((2 : Nat) ^ (leadZ y).toNat) : Int)) / (↑(4294967296 : Nat) : Int)) -
                                                                  IntKind.u64.wrap (x.fst * IntKind.u64.wrap (y * (↑((2 : Nat) ^ (leadZ y).toNat) : Int)))))
                                                              (andI IntKind.u64 (IntKind.u64.wrap (l * (↑((2 : Nat) ^ (leadZ y).toNat) : Int))) (4294967295 : Int))
                                                              (IntKind.u64.wrap (y * (↑((2 : Nat) ^ (leadZ y).toNat) : Int)) / (↑(4294967296 : Nat) : Int))
                                                              (andI IntKind.u64 (IntKind.u64.wrap (y * (↑((2 : Nat) ^ (leadZ y).toNat) : Int))) (4294967295 : Int)) x_1.fst x_1.snd.fst →
                                                            (decide ((4294967296 : Int) ≤ x_1.fst) = false →
                                                                ((0 : Int) ≤ x_1.fst * andI IntKind.u64 (IntKind.u64.wrap (y * (↑((2 : Nat) ^ (leadZ y).toNat) : Int))) (4294967295 : Int) ∧
                                                                    x_1.fst * andI IntKind.u64 (IntKind.u64.wrap (y * (↑((2 : Nat) ^ (leadZ y).toNat) : Int))) (4294967295 : Int) ≤
                                                                      (18446744073709551615 : Int)) ∧
                                                                  ((0 : Int) ≤ (4294967296 : Int) * x_1.snd.fst ∧ (4294967296 : Int) * x_1.snd.fst ≤ (18446744073709551615 : Int)) ∧
                                                                    ((0 : Int) ≤
                                                                          (4294967296 : Int) * x_1.snd.fst +
                                                                            andI IntKind.u64 (IntKind.u64.wrap (l * (↑((2 : Nat) ^ (leadZ y).toNat) : Int))) (4294967295 : Int) ∧
                                                                        (4294967296 : Int) * x_1.snd.fst +
                                                                            andI IntKind.u64 (IntKind.u64.wrap (l * (↑((2 : Nat) ^ (leadZ y).toNat) : Int))) (4294967295 : Int) ≤
                                                                          (18446744073709551615 : Int)) ∧
                                                                      (decide
                                                                              ((4294967296 : Int) * x_1.snd.fst +
                                                                                  andI IntKind.u64 (IntKind.u64.wrap (l * (↑((2 : Nat) ^ (leadZ y).toNat) : Int))) (4294967295 : Int) <
                                                                                x_1.fst * andI IntKind.u64 (IntKind.u64.wrap (y * (↑((2 : Nat) ^ (leadZ y).toNat) : Int))) (4294967295 : Int)) =
                                                                            true →
                                                                          ((0 : Int) ≤ x_1.fst - (1 : Int) ∧ x_1.fst - (1 : Int) ≤ (18446744073709551615 : Int)) ∧
                                                                            ((0 : Int) ≤ x_1.snd.fst + IntKind.u64.wrap (y * (↑((2 : Nat) ^ (leadZ y).toNat) : Int)) / (↑(4294967296 : Nat) : Int) ∧
                                                                                x_1.snd.fst + IntKind.u64.wrap (y * (↑((2 : Nat) ^ (leadZ y).toNat) : Int)) / (↑(4294967296 : Nat) : Int) ≤
                                                                                  (18446744073709551615 : Int)) ∧
                                                                              (decide
                                                                                      ((4294967296 : Int) ≤
                                                                                        x_1.snd.fst + IntKind.u64.wrap (y * (↑((2 : Nat) ^ (leadZ y).toNat) : Int)) / (↑(4294967296 : Nat) : Int)) =
                                                                                    true →
                                                                                  True ∧
                                                                                    x_1.fst - (1 : Int) =
                                                                                      (IntKind.u64.wrap
                                                                                              (IntKind.u64.wrap
                                                                                                  (IntKind.u64.wrap
                                                                                                      (orI IntKind.u64 (IntKind.u64.wrap (h * (↑((2 : Nat) ^ (leadZ y).toNat) : Int)))
                                                                                                          (l / (↑((2 : Nat) ^ ((64 : Int) - leadZ y).toNat) : Int)) *
                                                                                                        (4294967296 : Int)) +
                                                                                                    IntKind.u64.wrap (l * (↑((2 : Nat) ^ (leadZ y).toNat) : Int)) / (↑(4294967296 : Nat) : Int)) -
                                                                                                IntKind.u64.wrap (x.fst * IntKind.u64.wrap (y * (↑((2 : Nat) ^ (leadZ y).toNat) : Int)))) *
                                                                                            (4294967296 : Int) +
                                                                                          andI IntKind.u64 (IntKind.u64.wrap (l * (↑((2 : Nat) ^ (leadZ y).toNat) : Int))) (4294967295 : Int)) /
                                                                                        (IntKind.u64.wrap (y * (↑((2 : Nat) ^ (leadZ y).toNat) : Int)) / (↑(4294967296 : Nat) : Int) *
                                                                                            (4294967296 : Int) +
                                                                                          andI IntKind.u64 (IntKind.u64.wrap (y * (↑((2 : Nat) ^ (leadZ y).toNat) : Int))) (4294967295 : Int))) ∧
                                                                                (decide
                                                                                      ((4294967296 : Int) ≤
                                                                                        x_1.snd.fst + IntKind.u64.wrap (y * (↑((2 : Nat) ^ (leadZ y).toNat) : Int)) / (↑(4294967296 : Nat) : Int)) =
                                                                                    false →
                                                                                  True ∧
                                                                                    EstInv
                                                                                        (IntKind.u64.wrap
                                                                                          (IntKind.u64.wrap
                                                                                              (IntKind.u64.wrap
                                                                                                  (orI IntKind.u64 (IntKind.u64.wrap (h * (↑((2 : Nat) ^ (leadZ y).toNat) : Int)))
                                                                                                      (l / (↑((2 : Nat) ^ ((64 : Int) - leadZ y).toNat) : Int)) *
                                                                                                    (4294967296 : Int)) +
                                                                                                IntKind.u64.wrap (l * (↑((2 : Nat) ^ (leadZ y).toNat) : Int)) / (↑(4294967296 : Nat) : Int)) -
                                                                                            IntKind.u64.wrap (x.fst * IntKind.u64.wrap (y * (↑((2 : Nat) ^ (leadZ y).toNat) : Int)))))
                                                                                        (andI IntKind.u64 (IntKind.u64.wrap (l * (↑((2 : Nat) ^ (leadZ y).toNat) : Int))) (4294967295 : Int))
                                                                                        (IntKind.u64.wrap (y * (↑((2 : Nat) ^ (leadZ y).toNat) : Int)) / (↑(4294967296 : Nat) : Int))
                                                                                        (andI IntKind.u64 (IntKind.u64.wrap (y * (↑((2 : Nat) ^ (leadZ y).toNat) : Int))) (4294967295 : Int))
                                                                                        (x_1.fst - (1 : Int))
                                                                                        (x_1.snd.fst + IntKind.u64.wrap (y * (↑((2 : Nat) ^ (leadZ y).toNat) : Int)) / (↑(4294967296 : Nat) : Int)) ∧
                                                                                      ((4294967296 : Int) -
                                                                                            (x_1.snd.fst +
                                                                                              IntKind.u64.wrap (y * (↑((2 : Nat) ^ (leadZ y).toNat) : Int)) / (↑(4294967296 : Nat) : Int))).toNat <
                                                                                        ((4294967296 : Int) - x_1.snd.fst).toNat)) ∧
                                                                        (decide
                                                                              ((4294967296 : Int) * x_1.snd.fst +
                                                                                  andI IntKind.u64 (IntKind.u64.wrap (l * (↑((2 : Nat) ^ (leadZ y).toNat) : Int))) (4294967295 : Int) <
                                                                                x_1.fst * andI IntKind.u64 (IntKind.u64.wrap (y * (↑((2 : Nat) ^ (leadZ y).toNat) : Int))) (4294967295 : Int)) =
                                                                            false →
                                                                          True ∧
                                                                            x_1.fst =
                                                                              (IntKind.u64.wrap
                                                                                      (IntKind.u64.wrap
                                                                                          (IntKind.u64.wrap
                                                                                              (orI IntKind.u64 (IntKind.u64.wrap (h * (↑((2 : Nat) ^ (leadZ y).toNat) : Int)))
                                                                                                  (l / (↑((2 : Nat) ^ ((64 : Int) - leadZ y).toNat) : Int)) *
                                                                                                (4294967296 : Int)) +
                                                                                            IntKind.u64.wrap (l * (↑((2 : Nat) ^ (leadZ y).toNat) : Int)) / (↑(4294967296 : Nat) : Int)) -
                                                                                        IntKind.u64.wrap (x.fst * IntKind.u64.wrap (y * (↑((2 : Nat) ^ (leadZ y).toNat) : Int)))) *
                                                                                    (4294967296 : Int) +
                                                                                  andI IntKind.u64 (IntKind.u64.wrap (l * (↑((2 : Nat) ^ (leadZ y).toNat) : Int))) (4294967295 : Int)) /
                                                                                (IntKind.u64.wrap (y * (↑((2 : Nat) ^ (leadZ y).toNat) : Int)) / (↑(4294967296 : Nat) : Int) * (4294967296 : Int) +
                                                                                  andI IntKind.u64 (IntKind.u64.wrap (y * (↑((2 : Nat) ^ (leadZ y).toNat) : Int))) (4294967295 : Int)))) ∧
                                                              (decide ((4294967296 : Int) ≤ x_1.fst) = !false →
                                                                ((0 : Int) ≤ x_1.fst - (1 : Int) ∧ x_1.fst - (1 : Int) ≤ (18446744073709551615 : Int)) ∧
                                                                  ((0 : Int) ≤ x_1.snd.fst + IntKind.u64.wrap (y * (↑((2 : Nat) ^ (leadZ y).toNat) : Int)) / (↑(4294967296 : Nat) : Int) ∧
                                                                      x_1.snd.fst + IntKind.u64.wrap (y * (↑((2 : Nat) ^ (leadZ y).toNat) : Int)) / (↑(4294967296 : Nat) : Int) ≤
                                                                        (18446744073709551615 : Int)) ∧
                                                                    (decide
                                                                            ((4294967296 : Int) ≤
                                                                              x_1.snd.fst + IntKind.u64.wrap (y * (↑((2 : Nat) ^ (leadZ y).toNat) : Int)) / (↑(4294967296 : Nat) : Int)) =
                                                                          true →
                                                                        True ∧
                                                                          x_1.fst - (1 : Int) =
                                                                            (IntKind.u64.wrap
                                                                                    (IntKind.u64.wrap
                                                                                        (IntKind.u64.wrap
                                                                                            (orI IntKind.u64 (IntKind.u64.wrap (h * (↑((2 : Nat) ^ (leadZ y).toNat) : Int)))
                                                                                                (l / (↑((2 : Nat) ^ ((64 : Int) - leadZ y).toNat) : Int)) *
                                                                                              (4294967296 : Int)) +
                                                                                          IntKind.u64.wrap (l * (↑((2 : Nat) ^ (leadZ y).toNat) : Int)) / (↑(4294967296 : Nat) : Int)) -
                                                                                      IntKind.u64.wrap (x.fst * IntKind.u64.wrap (y * (↑((2 : Nat) ^ (leadZ y).toNat) : Int)))) *
                                                                                  (4294967296 : Int) +
                                                                                andI IntKind.u64 (IntKind.u64.wrap (l * (↑((2 : Nat) ^ (leadZ y).toNat) : Int))) (4294967295 : Int)) /
                                                                              (IntKind.u64.wrap (y * (↑((2 : Nat) ^ (leadZ y).toNat) : Int)) / (↑(4294967296 : Nat) : Int) * (4294967296 : Int) +
                                                                                andI IntKind.u64 (IntKind.u64.wrap (y * (↑((2 : Nat) ^ (leadZ y).toNat) : Int))) (4294967295 : Int))) ∧
                                                                      (decide
                                                                            ((4294967296 : Int) ≤
                                                                              x_1.snd.fst + IntKind.u64.wrap (y * (↑((2 : Nat) ^ (leadZ y).toNat) : Int)) / (↑(4294967296 : Nat) : Int)) =
                                                                          false →
                                                                        True ∧
                                                                          EstInv
                                                                              (IntKind.u64.wrap
                                                                                (IntKind.u64.wrap
                                                                                    (IntKind.u64.wrap
                                                                                        (orI IntKind.u64 (IntKind.u64.wrap (h * (↑((2 : Nat) ^ (leadZ y).toNat) : Int)))
                                                                                            (l / (↑((2 : Nat) ^ ((64 : Int) - leadZ y).toNat) : Int)) *
                                                                                          (4294967296 : Int)) +
                                                                                      IntKind.u64.wrap (l * (↑((2 : Nat) ^ (leadZ y).toNat) : Int)) / (↑(4294967296 : Nat) : Int)) -
                                                                                  IntKind.u64.wrap (x.fst * IntKind.u64.wrap (y * (↑((2 : Nat) ^ (leadZ y).toNat) : Int)))))
                                                                              (andI IntKind.u64 (IntKind.u64.wrap (l * (↑((2 : Nat) ^ (leadZ y).toNat) : Int))) (4294967295 : Int))
                                                                              (IntKind.u64.wrap (y * (↑((2 : Nat) ^ (leadZ y).toNat) : Int)) / (↑(4294967296 : Nat) : Int))
                                                                              (andI IntKind.u64 (IntKind.u64.wrap (y * (↑((2 : Nat) ^ (leadZ y).toNat) : Int))) (4294967295 : Int))
                                                                              (x_1.fst - (1 : Int))
                                                                              (x_1.snd.fst + IntKind.u64.wrap (y * (↑((2 : Nat) ^ (leadZ y).toNat) : Int)) / (↑(4294967296 : Nat) : Int)) ∧
                                                                            ((4294967296 : Int) -
                                                                                  (x_1.snd.fst + IntKind.u64.wrap (y * (↑((2 : Nat) ^ (leadZ y).toNat) : Int)) / (↑(4294967296 : Nat) : Int))).toNat <
                                                                              ((4294967296 : Int) - x_1.snd.fst).toNat))) ∧
                                                      ∀ (x_1 : Int × Unit × Unit),
                                                        x_1.fst =
                                                            (IntKind.u64.wrap
                                                                    (IntKind.u64.wrap
                                                                        (IntKind.u64.wrap
                                                                            (orI IntKind.u64 (IntKind.u64.wrap (h * (↑((2 : Nat) ^ (leadZ y).toNat) : Int)))
                                                                                (l / (↑((2 : Nat) ^ ((64 : Int) - leadZ y).toNat) : Int)) *
                                                                              (4294967296 : Int)) +
                                                                          IntKind.u64.wrap (l * (↑((2 : Nat) ^ (leadZ y).toNat) : Int)) / (↑(4294967296 : Nat) : Int)) -
                                                                      IntKind.u64.wrap (x.fst * IntKind.u64.wrap (y * (↑((2 : Nat) ^ (leadZ y).toNat) : Int)))) *
                                                                  (4294967296 : Int) +
                                                                andI IntKind.u64 (IntKind.u64.wrap (l * (↑((2 : Nat) ^ (leadZ y).toNat) : Int))) (4294967295 : Int)) /
                                                              (IntKind.u64.wrap (y * (↑((2 : Nat) ^ (leadZ y).toNat) : Int)) / (↑(4294967296 : Nat) : Int) * (4294967296 : Int) +
                                                                andI IntKind.u64 (IntKind.u64.wrap (y * (↑((2 : Nat) ^ (leadZ y).toNat) : Int))) (4294967295 : Int)) →
                                                          ((0 : Int) ≤ x.fst * (4294967296 : Int) ∧ x.fst * (4294967296 : Int) ≤ (18446744073709551615 : Int)) ∧
                                                            ((0 : Int) ≤ x.fst * (4294967296 : Int) + x_1.fst ∧ x.fst * (4294967296 : Int) + x_1.fst ≤ (18446744073709551615 : Int)) ∧
                                                              ((0 : Int) ≤ leadZ y ∧ leadZ y ≤ (↑IntKind.u64.bits : Int)) ∧
                                                                (x.fst * (4294967296 : Int) + x_1.fst,
                                                                    IntKind.u64.wrap
                                                                        (IntKind.u64.wrap
                                                                            (IntKind.u64.wrap
                                                                                (IntKind.u64.wrap
                                                                                    (IntKind.u64.wrap
                                                                                        (IntKind.u64.wrap
                                                                                            (orI IntKind.u64 (IntKind.u64.wrap (h * (↑((2 : Nat) ^ (leadZ y).toNat) : Int)))
                                                                                                (l / (↑((2 : Nat) ^ ((64 : Int) - leadZ y).toNat) : Int)) *
                                                                                              (4294967296 : Int)) +
                                                                                          IntKind.u64.wrap (l * (↑((2 : Nat) ^ (leadZ y).toNat) : Int)) / (↑(4294967296 : Nat) : Int)) -
                                                                                      IntKind.u64.wrap (x.fst * IntKind.u64.wrap (y * (↑((2 : Nat) ^ (leadZ y).toNat) : Int)))) *
                                                                                  (4294967296 : Int)) +
                                                                              andI IntKind.u64 (IntKind.u64.wrap (l * (↑((2 : Nat) ^ (leadZ y).toNat) : Int))) (4294967295 : Int)) -
                                                                          IntKind.u64.wrap (x_1.fst * IntKind.u64.wrap (y * (↑((2 : Nat) ^ (leadZ y).toNat) : Int)))) /
                                                                      (↑((2 : Nat) ^ (leadZ y).toNat) : Int),
                                                                    ()) =
                                                                  (wz h l / y, wz h l % y, ()))))

theorem g_div64_eq (a l y : Int) : g_div64 a l y = g_div64_vc a l y := by kernel_rfl
theorem loop_law {u d v1 v0 q r : Int} (h : Norm u d v1 v0) (hi : EstInv u d v1 v0 q r) :
    (¬ 4294967296 ≤ q → (0 ≤ q * v0 ∧ q * v0 ≤ 18446744073709551615) ∧ (0 ≤ 4294967296 * r ∧ 4294967296 * r ≤ 18446744073709551615) ∧ (0 ≤ 4294967296 * r + d ∧ 4294967296 * r + d ≤ 18446744073709551615) ∧
      (4294967296 * r + d < q * v0 → (0 ≤ q - 1 ∧ q - 1 ≤ 18446744073709551615) ∧ (0 ≤ r + v1 ∧ r + v1 ≤ 18446744073709551615) ∧ (4294967296 ≤ r + v1 → True ∧ q - 1 = (u * 4294967296 + d) / (v1 * 4294967296 + v0)) ∧
        (¬ 4294967296 ≤ r + v1 → True ∧ EstInv u d v1 v0 (q - 1) (r + v1) ∧ (4294967296 - (r + v1)).toNat < (4294967296 - r).toNat)) ∧
      (¬ 4294967296 * r + d < q * v0 → True ∧ q = (u * 4294967296 + d) / (v1 * 4294967296 + v0))) ∧
    (4294967296 ≤ q → (0 ≤ q - 1 ∧ q - 1 ≤ 18446744073709551615) ∧ (0 ≤ r + v1 ∧ r + v1 ≤ 18446744073709551615) ∧ (4294967296 ≤ r + v1 → True ∧ q - 1 = (u * 4294967296 + d) / (v1 * 4294967296 + v0)) ∧
        (¬ 4294967296 ≤ r + v1 → True ∧ EstInv u d v1 v0 (q - 1) (r + v1) ∧ (4294967296 - (r + v1)).toNat < (4294967296 - r).toNat)) := by
  have hi' := hi
  obtain ⟨i1, i2, i3, i4, i5⟩ := hi
  have hn := h
  obtain ⟨h1, h2, h3, h4, h5, h6, h7, h8⟩ := h
  have qv : q ≤ 18446744073709551615 := by
    have : 1 * q ≤ v1 * q := Int.mul_le_mul_of_nonneg_right (by omega) i1
    rw [Int.mul_comm v1 q] at this
    omega
  have step : (4294967296 ≤ q ∨ 4294967296 * r + d < q * v0) → (0 ≤ q - 1 ∧ q - 1 ≤ 18446744073709551615) ∧ (0 ≤ r + v1 ∧ r + v1 ≤ 18446744073709551615) ∧ (4294967296 ≤ r + v1 → True ∧ q - 1 = (u * 4294967296 + d) / (v1 * 4294967296 + v0)) ∧
        (¬ 4294967296 ≤ r + v1 → True ∧ EstInv u d v1 v0 (q - 1) (r + v1) ∧ (4294967296 - (r + v1)).toNat < (4294967296 - r).toNat) := by
    intro c
    obtain ⟨s1, s2, s3⟩ := est_step hn hi' c
    exact ⟨by omega, by omega, fun e => ⟨trivial, est_far hn s2 s3 e (by omega)⟩, fun e => ⟨trivial, ⟨by omega, by omega, by omega, s3, s2⟩, by omega⟩⟩
  refine ⟨fun c => ⟨⟨Int.mul_nonneg i1 h3, ?_⟩, by omega, by omega, fun e => step (.inr e), fun e => ⟨trivial, est_end hn i5 i4 (by omega)⟩⟩, fun c => step (.inl c)⟩
  have : q * v0 ≤ 4294967296 * 4294967295 := Int.mul_le_mul (by omega) (by omega) h3 (by omega)
  omega
/-- What is left of a half, as it wraps round. -/
theorem left_half {u d Y q : Int} (hY : 0 < Y ∧ Y < M64) (hq : q = (u * 4294967296 + d) / Y) : ((u * 4294967296 % M64 + d) % M64 - q * Y % M64) % M64 = (u * 4294967296 + d) % Y := by
  have e : q * Y + (u * 4294967296 + d) % Y = u * 4294967296 + d := by rw [hq, Int.mul_comm]; exact Int.mul_ediv_add_emod _ _
  have r0 : 0 ≤ (u * 4294967296 + d) % Y := Int.emod_nonneg _ (by omega)
  have r1 : (u * 4294967296 + d) % Y < Y := Int.emod_lt_of_pos _ hY.1
  generalize (u * 4294967296 + d) % Y = r at *
  generalize q * Y = p at *
  simp only [M64] at *
  omega
theorem est_checks {u d v1 v0 : Int} (h : Norm u d v1 v0) : v1 ≠ 0 ∧ (0 ≤ u.tdiv v1 ∧ u.tdiv v1 ≤ 18446744073709551615) ∧ (0 ≤ u.tdiv v1 * v1 ∧ u.tdiv v1 * v1 ≤ 18446744073709551615) ∧ (0 ≤ u - u.tdiv v1 * v1 ∧ u - u.tdiv v1 * v1 ≤ 18446744073709551615) ∧ EstInv u d v1 v0 (u.tdiv v1) (u - u.tdiv v1 * v1) := by
  have e0 := est_0 h
  obtain ⟨h1, h2, h3, h4, h5, h6, h7, h8⟩ := h
  rw [Int.tdiv_eq_ediv_of_nonneg h5]
  have q0 : 0 ≤ u / v1 := Int.ediv_nonneg h5 (by omega)
  have q1 : u / v1 ≤ u := Int.ediv_le_self _ h5
  have m0 : 0 ≤ u / v1 * v1 := Int.mul_nonneg q0 (by omega)
  have m1 : u / v1 * v1 ≤ u := Int.ediv_mul_le _ (by omega)
  exact ⟨by omega, by omega, by omega, by omega, e0⟩
theorem both_halves {u w Y q1 q0 r1 : Int} (hY : 0 < Y) (e1 : q1 = (u * 4294967296 + w / 4294967296) / Y) (er : r1 = (u * 4294967296 + w / 4294967296) % Y) (e0 : q0 = (r1 * 4294967296 + w % 4294967296) / Y) :
    (u * M64 + w) / Y = q1 * 4294967296 + q0 ∧ (u * M64 + w) % Y = (r1 * 4294967296 + w % 4294967296) % Y := by
  have a1 : q1 * Y + r1 = u * 4294967296 + w / 4294967296 := by rw [e1, er, Int.mul_comm]; exact Int.mul_ediv_add_emod _ _
  have a0 : q0 * Y + (r1 * 4294967296 + w % 4294967296) % Y = r1 * 4294967296 + w % 4294967296 := by rw [e0, Int.mul_comm]; exact Int.mul_ediv_add_emod _ _
  have b0 : 0 ≤ (r1 * 4294967296 + w % 4294967296) % Y := Int.emod_nonneg _ (by omega)
  have b1 : (r1 * 4294967296 + w % 4294967296) % Y < Y := Int.emod_lt_of_pos _ hY
  generalize (r1 * 4294967296 + w % 4294967296) % Y = r0 at *
  have e : u * M64 + w = r0 + (q1 * 4294967296 + q0) * Y := by
    have c : (q1 * 4294967296 + q0) * Y = q1 * Y * 4294967296 + q0 * Y := by grind
    rw [c]
    simp only [M64]
    omega
  rw [e, Int.add_mul_ediv_right _ _ (by omega), Int.add_mul_emod_self_right, Int.ediv_eq_zero_of_lt b0 b1, Int.emod_eq_of_lt b0 b1]
  exact ⟨by omega, rfl⟩
theorem g_div64_ok (h l y : Int) (hh : InW l ∧ InW y ∧ 0 ≤ h ∧ h < y) : g_div64_vc h l y := by
  obtain ⟨hl, hy, h0, h1⟩ := hh
  unfold g_div64_vc
  simp only [decide_eq_true_eq, decide_eq_false_iff_not, Bool.not_false]
  refine ⟨fun c => by omega, fun c0 => ⟨fun c => by omega, fun c1 => ⟨fun c => ?_, fun c => ?_⟩⟩⟩
  · subst c
    have e : wz 0 l = l := by unfold wz; omega
    rw [e, Int.tdiv_eq_ediv_of_nonneg hl.1, Int.tmod_eq_emod_of_nonneg hl.1]
    have q0 : 0 ≤ l / y := Int.ediv_nonneg hl.1 (by omega)
    have q1 : l / y ≤ l := Int.ediv_le_self _ hl.1
    have := hl.2
    simp only [M64] at this
    exact ⟨by omega, by omega, by omega, rfl⟩
  · obtain ⟨k0, k1, n0, n1⟩ := lead_law hy (by omega)
    obtain ⟨k, hk⟩ : ∃ k : Nat, leadZ y = (k : Int) := ⟨(leadZ y).toNat, by omega⟩
    have hk63 : k ≤ 63 := by omega
    have e64 : ((64 : Int) - leadZ y).toNat = 64 - k := by omega
    have ek : (leadZ y).toNat = k := by omega
    rw [ek] at n0 n1
    simp only [e64, ek]
    have hST : ((2 ^ k : Nat) : Int) * ((2 ^ (64 - k) : Nat) : Int) = M64 := by
      have : 2 ^ k * 2 ^ (64 - k) = 2 ^ 64 := by rw [← Nat.pow_add]; congr 1; omega
      rw [← Int.natCast_mul, this]; rfl
    have hS : (0 : Int) < ((2 ^ k : Nat) : Int) := Int.natCast_pos.2 (Nat.pow_pos (by omega))
    have hT : (0 : Int) < ((2 ^ (64 - k) : Nat) : Int) := Int.natCast_pos.2 (Nat.pow_pos (by omega))
    have hhS : h * ((2 ^ k : Nat) : Int) < y * ((2 ^ k : Nat) : Int) := Int.mul_lt_mul_of_pos_right h1 hS
    have hhS0 : 0 ≤ h * ((2 ^ k : Nat) : Int) := Int.mul_nonneg h0 (Int.le_of_lt hS)
    have e1 : IntKind.u64.wrap (h * ((2 ^ k : Nat) : Int)) = h * ((2 ^ k : Nat) : Int) := wrap_w ⟨hhS0, by omega⟩
    have e3 : IntKind.u64.wrap (y * ((2 ^ k : Nat) : Int)) = y * ((2 ^ k : Nat) : Int) := wrap_w ⟨by omega, n1⟩
    have lT : l / ((2 ^ (64 - k) : Nat) : Int) < ((2 ^ k : Nat) : Int) := Int.ediv_lt_of_lt_mul hT (by rw [hST]; exact hl.2)
    have lT0 : 0 ≤ l / ((2 ^ (64 - k) : Nat) : Int) := Int.ediv_nonneg hl.1 (Int.le_of_lt hT)
    have hu : h * ((2 ^ k : Nat) : Int) + l / ((2 ^ (64 - k) : Nat) : Int) < y * ((2 ^ k : Nat) : Int) := by
      have : (h + 1) * ((2 ^ k : Nat) : Int) ≤ y * ((2 ^ k : Nat) : Int) := Int.mul_le_mul_of_nonneg_right (by omega) (Int.le_of_lt hS)
      rw [Int.add_mul] at this
      omega
    have e2 : orI .u64 (h * ((2 ^ k : Nat) : Int)) (l / ((2 ^ (64 - k) : Nat) : Int)) = h * ((2 ^ k : Nat) : Int) + l / ((2 ^ (64 - k) : Nat) : Int) := or_add h0 lT0 lT (by omega)
    have e4 : andI .u64 (y * ((2 ^ k : Nat) : Int)) 4294967295 = y * ((2 ^ k : Nat) : Int) % 4294967296 := and_mask ⟨by omega, n1⟩
    have e5 : IntKind.u64.wrap (l * ((2 ^ k : Nat) : Int)) = l * ((2 ^ k : Nat) : Int) % M64 := IntKind.wrap_u64 _
    have e6 : andI .u64 (l * ((2 ^ k : Nat) : Int) % M64) 4294967295 = l * ((2 ^ k : Nat) : Int) % M64 % 4294967296 := and_mask (mod_w _)
    have hU : wz h l * ((2 ^ k : Nat) : Int) = (h * ((2 ^ k : Nat) : Int) + l / ((2 ^ (64 - k) : Nat) : Int)) * M64 + l * ((2 ^ k : Nat) : Int) % M64 := by
      have a1 : l * ((2 ^ k : Nat) : Int) / M64 = l / ((2 ^ (64 - k) : Nat) : Int) := by
        rw [← hST, Int.mul_comm l, Int.mul_ediv_mul_of_pos _ _ hS]
      have a2 : M64 * (l * ((2 ^ k : Nat) : Int) / M64) + l * ((2 ^ k : Nat) : Int) % M64 = l * ((2 ^ k : Nat) : Int) := Int.mul_ediv_add_emod _ _
      rw [a1] at a2
      unfold wz
      rw [Int.add_mul, Int.add_mul, ← a2]
      generalize l / ((2 ^ (64 - k) : Nat) : Int) = A
      generalize ((2 ^ k : Nat) : Int) = B
      grind
    have w0 : InW (l * ((2 ^ k : Nat) : Int) % M64) := mod_w _
    have k0' : 0 ≤ leadZ y ∧ leadZ y ≤ 64 := by omega
    have hu0 : 0 ≤ h * ((2 ^ k : Nat) : Int) + l / ((2 ^ (64 - k) : Nat) : Int) := by omega
    simp only [e1, e2, e3, e4, e5, e6, IntKind.wrap_u64]
    have hY : 9223372036854775808 ≤ y * ((2 ^ k : Nat) : Int) := n0
    have hdiv : wz h l / y = wz h l * ((2 ^ k : Nat) : Int) / (y * ((2 ^ k : Nat) : Int)) := (Int.mul_ediv_mul_of_pos_left _ _ hS).symm
    have hmod : wz h l % y = wz h l * ((2 ^ k : Nat) : Int) % (y * ((2 ^ k : Nat) : Int)) / ((2 ^ k : Nat) : Int) := by
      rw [Int.mul_comm (wz h l), Int.mul_comm y, Int.mul_emod_mul_of_pos _ _ hS, Int.mul_ediv_cancel_left _ (by omega)]
    rw [hdiv, hmod, hU]
    clear hdiv hmod hU e1 e2 e3 e4 e5 e6 hST hT
    generalize h * ((2 ^ k : Nat) : Int) + l / ((2 ^ (64 - k) : Nat) : Int) = u at *
    generalize l * ((2 ^ k : Nat) : Int) % M64 = w at *
    generalize y * ((2 ^ k : Nat) : Int) = Y at *
    have hbits : ((IntKind.u64.bits : Nat) : Int) = 64 := rfl
    have h32 : ((4294967296 : Nat) : Int) = 4294967296 := rfl
    simp only [hbits, h32]
    have hYe : Y / 4294967296 * 4294967296 + Y % 4294967296 = Y := by omega
    simp only [hYe]
    have hw0 := w0.1
    have hw1 := w0.2
    simp only [M64] at n1 hw1
    have N1 : Norm u (w / 4294967296) (Y / 4294967296) (Y % 4294967296) := ⟨by omega, by omega, by omega, by omega, hu0, by omega, by omega, by omega⟩
    obtain ⟨a1, a2, a3, a4, a5⟩ := est_checks N1
    refine ⟨hy, by omega, k0', by omega, k0', by omega, by omega, k0', by omega, a1, a2, a3, a4, ⟨⟨trivial, a5⟩, fun x hx => ?_⟩, fun x hx => ?_⟩
    · have := loop_law N1 hx
      rw [hYe] at this
      exact this
    · have q1 := est_quot N1
      rw [hYe, ← hx] at q1
      have r0 : 0 ≤ (u * 4294967296 + w / 4294967296) % Y := Int.emod_nonneg _ (by omega)
      have r1 : (u * 4294967296 + w / 4294967296) % Y < Y := Int.emod_lt_of_pos _ (by omega)
      rw [show (18446744073709551616 : Int) = M64 from rfl]
      rw [left_half ⟨by omega, by simp only [M64]; omega⟩ hx]
      generalize hr : (u * 4294967296 + w / 4294967296) % Y = r at *
      have N2 : Norm r (w % 4294967296) (Y / 4294967296) (Y % 4294967296) := ⟨by omega, by omega, by omega, by omega, r0, by omega, by omega, by omega⟩
      obtain ⟨b1, b2, b3, b4, b5⟩ := est_checks N2
      refine ⟨b1, b2, b3, b4, ⟨⟨trivial, b5⟩, fun z hz => ?_⟩, fun z hz => ?_⟩
      · have := loop_law N2 hz
        rw [hYe] at this
        exact this
      · have q0 := est_quot N2
        rw [hYe, ← hz] at q0
        rw [left_half ⟨by omega, by simp only [M64]; omega⟩ hz]
        obtain ⟨d1, d2⟩ := both_halves (by omega) hx hr.symm hz
        rw [d1, d2]
        exact ⟨by omega, by omega, k0', rfl⟩
set_option maxRecDepth 20000 in
theorem div64_pure (a l y : Int) (h : InW l ∧ InW y ∧ 0 ≤ a ∧ a < y) : Pure Tryz.prog 91 [.int .u64 a, .int .u64 l, .int .u64 y] (.tuple [.int .u64 (wz a l / y), .int .u64 (wz a l % y)]) :=
  Pure.of_g (E := env_div64 a l y) (ts := tsOf Tryz.f91) (ps := [.int .u64, .int .u64]) (r := (wz a l / y, wz a l % y, ())) (fn := Tryz.f91) (c := codeOf Tryz.f91) (specs_ok (P := Tryz.prog) rfl [sp_lead] [] rfl rfl) mixed Tryz.func91 rfl rfl (g := g_div64 a l y) (by delta g_div64 start0; first | with_reducible exact Eq.refl _ | exact Eq.refl _) (by rw [g_div64_eq a l y]; exact g_div64_ok a l y h)
def q_div64 (a l y : Int) : Prop × V := (InW l ∧ InW y ∧ 0 ≤ a ∧ a < y, (.tuple [.int .u64 (wz a l / y), .int .u64 (wz a l % y)]))
noncomputable def sp_div64 : FSpec Tryz.prog where
  f := 91
  run := fun args => match args with
    | [.int .u64 a, .int .u64 l, .int .u64 y] => some (q_div64 a l y)
    | _ => none
  ok := fun args pre r h hp => by
    try dsimp only at h
    split at h
    · rename_i a l y
      have h := Option.some.inj h
      unfold q_div64 at h
      cases h
      exact (div64_pure a l y hp).weak (.cons (Weak.refl _) (.cons (Weak.refl _) (.cons (Weak.refl _) .nil)))
    · cases h

end Go.Proofs.YtkifiopfapnpnaaGreatDoor
