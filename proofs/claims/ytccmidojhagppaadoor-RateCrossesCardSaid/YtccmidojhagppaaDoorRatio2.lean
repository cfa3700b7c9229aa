/-
  Rates: the greatest common divisor, lowest terms, turned round, multiplied.
-/
import Derived.Test.YtccmidojhagppaaDoorRatio1
namespace Go.Proofs.YtccmidojhagppaaDoor
open Go.Vm

def InvG (a0 b0 a b : Int) : Prop := 1 ≤ a ∧ a ≤ 1000000000000 ∧ 0 ≤ b ∧ b ≤ 1000000000000 ∧ a.toNat % 2 = 1 ∧ Nat.gcd a.toNat b.toNat * 2 ^ (mmI false (tzI a0) (tzI b0)).toNat = Nat.gcd a0.toNat b0.toNat
noncomputable def env_common (a b : Int) : Env where
  P := Tryd.prog
  ty := tys0
  specs := specsOf [sp_tz]
  wrap := fun | 32 => true | _ => false
  heads := fun
    | 3 => some { slots := [(0, .int .u64), (1, .int .u64)], boxes := [], inv := fun _ (x : Int × Int × Unit) => InvG a b x.1 x.2.1, measure := fun _ (x : Int × Int × Unit) => (x.1 + x.2.1).toNat }
    | _ => none
noncomputable def g_common (a b : Int) : Prop := vc (env_common a b) (codeOf Tryd.f35) (start0 Tryd.f35 [.int .u64 a, .int .u64 b]) (exitK (tsOf Tryd.f35) [.int .i64] (gcdI a b, ()))
def g_common_vc (a : Int) (b : Int) : Prop :=
  InW a ∧
  InW b ∧
    InW a ∧
      ((0 : Int) ≤ tzI a ∧ tzI a ≤ (↑IntKind.u64.bits : Int)) ∧
        (True ∧ InvG a b (a / (↑((2 : Nat) ^ (tzI a).toNat) : Int)) b) ∧
          ∀ (x : Int × Int × Unit),
            InvG a b x.fst x.snd.fst →
              ((!decide (x.snd.fst = (0 : Int))) = true →
                  InW x.snd.fst ∧
                    ((0 : Int) ≤ tzI x.snd.fst ∧ tzI x.snd.fst ≤ (↑IntKind.u64.bits : Int)) ∧
                      (decide (x.snd.fst / (↑((2 : Nat) ^ (tzI x.snd.fst).toNat) : Int) < x.fst) = true →
                          ((0 : Int) ≤ x.fst - x.snd.fst / (↑((2 : Nat) ^ (tzI x.snd.fst).toNat) : Int) ∧
                              x.fst - x.snd.fst / (↑((2 : Nat) ^ (tzI x.snd.fst).toNat) : Int) ≤ (18446744073709551615 : Int)) ∧
                            True ∧
                              InvG a b (x.snd.fst / (↑((2 : Nat) ^ (tzI x.snd.fst).toNat) : Int)) (x.fst - x.snd.fst / (↑((2 : Nat) ^ (tzI x.snd.fst).toNat) : Int)) ∧
                                (x.snd.fst / (↑((2 : Nat) ^ (tzI x.snd.fst).toNat) : Int) + (x.fst - x.snd.fst / (↑((2 : Nat) ^ (tzI x.snd.fst).toNat) : Int))).toNat < (x.fst + x.snd.fst).toNat) ∧
                        (decide (x.snd.fst / (↑((2 : Nat) ^ (tzI x.snd.fst).toNat) : Int) < x.fst) = false →
                          ((0 : Int) ≤ x.snd.fst / (↑((2 : Nat) ^ (tzI x.snd.fst).toNat) : Int) - x.fst ∧
                              x.snd.fst / (↑((2 : Nat) ^ (tzI x.snd.fst).toNat) : Int) - x.fst ≤ (18446744073709551615 : Int)) ∧
                            True ∧
                              InvG a b x.fst (x.snd.fst / (↑((2 : Nat) ^ (tzI x.snd.fst).toNat) : Int) - x.fst) ∧
                                (x.fst + (x.snd.fst / (↑((2 : Nat) ^ (tzI x.snd.fst).toNat) : Int) - x.fst)).toNat < (x.fst + x.snd.fst).toNat)) ∧
                ((!decide (x.snd.fst = (0 : Int))) = false →
                  ((0 : Int) ≤ mmI false (tzI a) (tzI b) ∧ mmI false (tzI a) (tzI b) ≤ (↑IntKind.u64.bits : Int)) ∧
                    (IntKind.i64.wrap (IntKind.u64.wrap (x.fst * (↑((2 : Nat) ^ (mmI false (tzI a) (tzI b)).toNat) : Int))), ()) = (gcdI a b, ()))

theorem g_common_eq (a b : Int) : g_common a b = g_common_vc a b := by kernel_rfl
theorem tz_in {a : Int} (h0 : 1 ≤ a) (h1 : a ≤ 1000000000000) : 0 ≤ tzI a ∧ tzI a < 64 ∧ a / ((2 ^ (tzI a).toNat : Nat) : Int) = (oddP a.toNat : Int) := by
  obtain ⟨e, h2, h3, h4⟩ := oddP_spec (x := a.toNat) (by omega) (by omega)
  rw [tzI_eq]
  refine ⟨by omega, by omega, ?_⟩
  unfold oddP
  rw [Int.toNat_natCast, Int.natCast_ediv]
  congr 1
  omega
theorem inv_start {a b : Int} (ha : 1 ≤ a) (ha1 : a ≤ 1000000000000) (hb : 1 ≤ b) (hb1 : b ≤ 1000000000000) : InvG a b (a / ((2 ^ (tzI a).toNat : Nat) : Int)) b := by
  obtain ⟨t1, t2, t3⟩ := tz_in ha ha1
  obtain ⟨u1, u2, u3⟩ := tz_in hb hb1
  obtain ⟨e, h2, h3, h4⟩ := oddP_spec (x := a.toNat) (by omega) (by omega)
  obtain ⟨f, k2, k3, k4⟩ := oddP_spec (x := b.toNat) (by omega) (by omega)
  have ga : (tzI a).toNat = Lib.ctz 64 a.toNat := by rw [tzI_eq]; omega
  have gb : (tzI b).toNat = Lib.ctz 64 b.toNat := by rw [tzI_eq]; omega
  rw [t3]
  refine ⟨by omega, by omega, by omega, by omega, by omega, ?_⟩
  rw [Int.toNat_natCast, ← gcd_round h2 (by omega) (by omega)]
  have hm : (mmI false (tzI a) (tzI b)).toNat = min (Lib.ctz 64 a.toNat) (Lib.ctz 64 b.toNat) := by
    rw [← ga, ← gb]
    unfold mmI
    simp only [Bool.false_eq_true, if_false]
    split <;> omega
  rw [hm]
  have := gcd_both h2 k2 (Lib.ctz 64 a.toNat) (Lib.ctz 64 b.toNat)
  rw [← e, ← f] at this
  rw [this, Nat.mul_comm]
theorem inv_round {a b x y : Int} (h : InvG a b x y) (hy : ¬ y = 0) : ∃ z : Int, y / ((2 ^ (tzI y).toNat : Nat) : Int) = z ∧ 0 ≤ tzI y ∧ tzI y < 64 ∧ 1 ≤ z ∧ z ≤ y ∧ (z < x → InvG a b z (x - z)) ∧ (¬ z < x → InvG a b x (z - x)) := by
  obtain ⟨h1, h2, h3, h4, h5, h6⟩ := h
  obtain ⟨t1, t2, t3⟩ := tz_in (a := y) (by omega) h4
  obtain ⟨e, k2, k3, k4⟩ := oddP_spec (x := y.toNat) (by omega) (by omega)
  have gr := gcd_round h5 (show y.toNat ≠ 0 by omega) (by omega)
  refine ⟨_, t3, t1, t2, by omega, by omega, fun c => ⟨by omega, by omega, by omega, by omega, by omega, ?_⟩, fun c => ⟨h1, h2, by omega, by omega, h5, ?_⟩⟩
  · rw [← h6, ← gr]
    congr 1
    rw [show (x - (oddP y.toNat : Int)).toNat = x.toNat - oddP y.toNat by omega, Int.toNat_natCast, Nat.gcd_sub_self_right (by omega), Nat.gcd_comm]
  · rw [← h6, ← gr]
    congr 1
    rw [show ((oddP y.toNat : Int) - x).toNat = oddP y.toNat - x.toNat by omega, Nat.gcd_sub_self_right (by omega)]
theorem gcdI_spec {a b : Int} (ha : 1 ≤ a) (hb : 1 ≤ b) : 1 ≤ gcdI a b ∧ gcdI a b ≤ a ∧ gcdI a b ≤ b ∧ gcdI a b ∣ a ∧ gcdI a b ∣ b := by
  rw [gcdI_eq]
  have h1 := Nat.gcd_dvd_left a.toNat b.toNat
  have h2 := Nat.gcd_dvd_right a.toNat b.toNat
  have h3 := Nat.le_of_dvd (by omega) h1
  have h4 := Nat.le_of_dvd (by omega) h2
  have h5 : 0 < Nat.gcd a.toNat b.toNat := Nat.gcd_pos_of_pos_left _ (by omega)
  have h6 : ((Nat.gcd a.toNat b.toNat : Nat) : Int) ∣ ((a.toNat : Nat) : Int) := Int.natCast_dvd_natCast.2 h1
  have h7 : ((Nat.gcd a.toNat b.toNat : Nat) : Int) ∣ ((b.toNat : Nat) : Int) := Int.natCast_dvd_natCast.2 h2
  rw [Int.toNat_of_nonneg (by omega)] at h6 h7
  exact ⟨by omega, by omega, by omega, h6, h7⟩
theorem inv_end {a b x y : Int} (ha : 1 ≤ a) (hb : 1 ≤ b) (ha1 : a ≤ 1000000000000) (h : InvG a b x y) (hy : y = 0) : IntKind.i64.wrap (IntKind.u64.wrap (x * ((2 ^ (mmI false (tzI a) (tzI b)).toNat : Nat) : Int))) = gcdI a b := by
  obtain ⟨h1, h2, h3, h4, h5, h6⟩ := h
  subst hy
  have g := gcdI_spec ha hb
  rw [gcdI_eq, ← h6] at g ⊢
  rw [show Nat.gcd x.toNat (Int.toNat 0) = x.toNat from Nat.gcd_zero_right _] at g ⊢
  rw [Int.natCast_mul, Int.toNat_of_nonneg (by omega)] at g ⊢
  generalize x * ((2 ^ (mmI false (tzI a) (tzI b)).toNat : Nat) : Int) = n at g ⊢
  rw [wrap_u, wrap_i]
  omega
theorem g_common_ok (a b : Int) (h : 1 ≤ a ∧ a ≤ 1000000000000 ∧ 1 ≤ b ∧ b ≤ 1000000000000) : g_common_vc a b := by
  obtain ⟨ha, ha1, hb, hb1⟩ := h
  obtain ⟨t1, t2, _⟩ := tz_in ha ha1
  obtain ⟨u1, u2, _⟩ := tz_in hb hb1
  have w : ∀ n : Int, 0 ≤ n → n ≤ 1000000000000 → InW n := fun n h0 h1 => ⟨h0, by simp only [M64]; omega⟩
  have hbits : ((IntKind.u64.bits : Nat) : Int) = 64 := rfl
  unfold g_common_vc
  rw [hbits]
  simp only [decide_eq_true_eq, decide_eq_false_iff_not, Bool.not_eq_true', Bool.not_eq_false']
  refine ⟨w a (by omega) ha1, w b (by omega) hb1, w a (by omega) ha1, by omega, ⟨trivial, inv_start ha ha1 hb hb1⟩, ?_⟩
  rintro ⟨x, y, ⟨⟩⟩ hI
  dsimp only at hI ⊢
  have hI' := hI
  obtain ⟨h1, h2, h3, h4, _⟩ := hI'
  refine ⟨fun c => ?_, fun c => ⟨?_, ?_⟩⟩
  · obtain ⟨z, ez, k1, k2, k3, k4, k5, k6⟩ := inv_round hI c
    rw [ez]
    exact ⟨w y h3 h4, by omega, fun d => ⟨by omega, trivial, k5 d, by omega⟩, fun d => ⟨by omega, trivial, k6 d, by omega⟩⟩
  · unfold mmI
    simp only [Bool.false_eq_true, if_false]
    split <;> omega
  · rw [inv_end ha hb ha1 hI c]
set_option maxRecDepth 20000 in
theorem common_pure (a b : Int) (h : 1 ≤ a ∧ a ≤ 1000000000000 ∧ 1 ≤ b ∧ b ≤ 1000000000000) : Pure Tryd.prog 35 [.int .u64 a, .int .u64 b] (.int .i64 (gcdI a b)) :=
  Pure.of_g (E := env_common a b) (ts := tsOf Tryd.f35) (ps := [.int .i64]) (r := (gcdI a b, ())) (fn := Tryd.f35) (c := codeOf Tryd.f35) (specs_ok (P := Tryd.prog) rfl [sp_tz] [] rfl rfl) mixed Tryd.func35 rfl rfl (g := g_common a b) (by delta g_common start0; first | with_reducible exact Eq.refl _ | exact Eq.refl _) (by rw [g_common_eq a b]; exact g_common_ok a b h)
noncomputable def q_common (a b : Int) : Prop × V := (1 ≤ a ∧ a ≤ 1000000000000 ∧ 1 ≤ b ∧ b ≤ 1000000000000, (.int .i64 (gcdI a b)))
noncomputable def sp_common : FSpec Tryd.prog where
  f := 35
  run := fun args => match args with
    | [.int .u64 a, .int .u64 b] => some (q_common a b)
    | _ => none
  ok := fun args pre r h hp => by
    try dsimp only at h
    split at h
    · rename_i a b
      have h := Option.some.inj h
      unfold q_common at h
      cases h
      exact (common_pure a b hp).weak (.cons (Weak.refl _) (.cons (Weak.refl _) .nil))
    · cases h

end Go.Proofs.YtccmidojhagppaaDoor
