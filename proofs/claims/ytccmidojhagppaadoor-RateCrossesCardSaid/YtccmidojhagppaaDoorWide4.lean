/-
  Quotients, to the nearest.
-/
import Derived.Test.YtccmidojhagppaaDoorWide3
namespace Go.Proofs.YtccmidojhagppaaDoor
open Go.Vm

theorem abs_words {a b : Int} (ha : InI a) (hb : InW b) :
    (0 ≤ a → a = hiZ ((wz a b).natAbs : Int) ∧ b = loZ ((wz a b).natAbs : Int)) ∧
      (a < 0 → (0 - b - 0) % M64 = loZ ((wz a b).natAbs : Int) ∧ (0 - IntKind.u64.wrap a - (if 0 < b + 0 then 1 else 0)) % M64 = hiZ ((wz a b).natAbs : Int)) := by
  obtain ⟨a1, a2⟩ := ha
  obtain ⟨b1, b2⟩ := hb
  simp only [wrap_u, wz, hiZ, loZ, M64] at *
  refine ⟨fun h => ⟨by omega, by omega⟩, fun h => ?_⟩
  split <;> exact ⟨by omega, by omega⟩
theorem words_law {a b d : Int} (ha : InW a) (hb : InW b) (hd : 0 < d) (hd1 : InW d) :
    wz 0 a / d = hiZ (wz a b / d) ∧ wz (wz 0 a % d) b / d = loZ (wz a b / d) ∧ wz (wz 0 a % d) b % d = wz a b % d ∧ 0 ≤ wz 0 a % d ∧ wz 0 a % d < d := by
  have e0 : wz 0 a = a := by unfold wz; omega
  rw [e0]
  have r0 : 0 ≤ a % d := Int.emod_nonneg _ (by omega)
  have r1 : a % d < d := Int.emod_lt_of_pos _ hd
  have ea : d * (a / d) + a % d = a := Int.mul_ediv_add_emod a d
  have s0 : 0 ≤ wz (a % d) b / d := Int.ediv_nonneg (by unfold wz M64; have := hb.1; omega) (by omega)
  have s1 : wz (a % d) b / d < M64 := by
    refine Int.ediv_lt_of_lt_mul hd ?_
    have := hb.2
    unfold wz
    have m : (a % d + 1) * M64 ≤ d * M64 := Int.mul_le_mul_of_nonneg_right (by omega) (by decide)
    rw [Int.add_mul] at m
    rw [Int.mul_comm M64 d]
    omega
  have ew : wz a b = wz (a % d) b + a / d * M64 * d := by
    unfold wz
    have : a * M64 = (d * (a / d) + a % d) * M64 := by rw [ea]
    rw [this]
    generalize a / d = q
    generalize a % d = r
    generalize M64 = m
    grind
  have e1 : wz a b / d = a / d * M64 + wz (a % d) b / d := by
    rw [ew, Int.add_mul_ediv_right _ _ (by omega)]
    omega
  have e2 : wz a b % d = wz (a % d) b % d := by rw [ew, Int.add_mul_emod_self_right]
  have h1 := hi_wz (a := a / d) (b := wz (a % d) b / d) ⟨s0, s1⟩
  have h2 := lo_wz (a := a / d) (b := wz (a % d) b / d) ⟨s0, s1⟩
  have e3 : wz (a / d) (wz (a % d) b / d) = wz a b / d := by rw [e1]; rfl
  rw [e3] at h1 h2
  exact ⟨h1.symm, h2.symm, e2.symm, r0, r1⟩
def bitI (b : Bool) : Int := if b then 1 else 0
theorem below_words {a b : Int} {k : Int} (ha : InW a) (hb : InW b) (hk : k = 0 ∨ k = 1) (hz : InZ (0 - wz a b - k)) :
    (0 - b - k) % M64 = loZ (0 - wz a b - k) ∧ IntKind.i64.wrap ((0 - a - (if 0 < b + k then 1 else 0)) % M64) = hiZ (0 - wz a b - k) := by
  obtain ⟨a1, a2⟩ := ha
  obtain ⟨b1, b2⟩ := hb
  obtain ⟨z1, z2⟩ := hz
  simp only [wrap_i, wz, hiZ, loZ, M64] at *
  rcases hk with rfl | rfl <;> split <;> exact ⟨by omega, by omega⟩
/-- A quotient, what is left, the fault. -/
def quoF (z d : Int) : Int × Int × Int := if d < 1 then (0, 0, 2) else (z / d, z % d, 0)
theorem quo_neg {z d : Int} (hz : z < 0) (hd : 0 < d) : ((z.natAbs : Int) % d = 0 → z / d = 0 - (z.natAbs : Int) / d ∧ z % d = 0) ∧ (¬ (z.natAbs : Int) % d = 0 → z / d = 0 - (z.natAbs : Int) / d - 1 ∧ z % d = d - (z.natAbs : Int) % d) := by
  have e : d * ((z.natAbs : Int) / d) + (z.natAbs : Int) % d = (z.natAbs : Int) := Int.mul_ediv_add_emod _ _
  have r0 : 0 ≤ (z.natAbs : Int) % d := Int.emod_nonneg _ (by omega)
  have r1 : (z.natAbs : Int) % d < d := Int.emod_lt_of_pos _ hd
  have ez : (z.natAbs : Int) = -z := by omega
  generalize (z.natAbs : Int) % d = r at *
  generalize (z.natAbs : Int) / d = q at *
  refine ⟨fun c => ?_, fun c => ?_⟩
  · refine (Int.ediv_emod_unique hd).2 ⟨?_, by omega, hd⟩
    rw [Int.mul_sub]
    omega
  · refine (Int.ediv_emod_unique hd).2 ⟨?_, by omega, by omega⟩
    rw [Int.mul_sub, Int.mul_sub]
    omega
theorem ediv_le_abs {n d : Int} (hn : 0 ≤ n) (hd : 0 < d) : 0 ≤ n / d ∧ n / d ≤ n := ⟨Int.ediv_nonneg hn (by omega), Int.ediv_le_self _ hn⟩
/-- Is the next one the nearest, or even where both are? -/
def upB (r d b : Int) : Bool := decide (d - r < r) || (decide (r = d - r) && decide (andI .u64 b 1 = 1))
/-- The nearest whole number to a quotient; the even one where two are. -/
def nearZ (z d : Int) : Int := if d < 2 * (z % d) ∨ (2 * (z % d) = d ∧ z / d % 2 = 1) then z / d + 1 else z / d
theorem up_near {z d : Int} : upB (z % d) d (loZ (z / d)) = decide (d < 2 * (z % d) ∨ (2 * (z % d) = d ∧ z / d % 2 = 1)) := by
  unfold upB
  rw [and_one (lo_w _), ← Bool.decide_and, ← Bool.decide_or]
  refine decide_eq_decide.2 ?_
  unfold loZ M64
  omega
theorem near_up {z d : Int} : nearZ z d = z / d + bitI (upB (z % d) d (loZ (z / d))) := by
  unfold nearZ bitI
  rw [up_near]
  by_cases c : d < 2 * (z % d) ∨ (2 * (z % d) = d ∧ z / d % 2 = 1)
  · rw [if_pos c, decide_eq_true c, if_pos rfl]
  · rw [if_neg c, decide_eq_false c, if_neg (by decide)]
    omega
def evenF (z d : Int) : Int × Int := if d < 1 then (0, 2) else (intB (nearZ z d), faultB (nearZ z d))
theorem near_in {z d : Int} (hz : InZ z) (hd : 0 < d) : InZ (z / d) ∧ InZ (nearZ z d) := by
  obtain ⟨z1, z2⟩ := hz
  have e : d * (z / d) + z % d = z := Int.mul_ediv_add_emod z d
  have r0 : 0 ≤ z % d := Int.emod_nonneg _ (by omega)
  have r1 : z % d < d := Int.emod_lt_of_pos _ hd
  have q0 : z / d ≤ 170141183460469231731687303715884105727 := by
    refine Int.le_of_lt_add_one (Int.ediv_lt_of_lt_mul hd ?_)
    have : 170141183460469231731687303715884105728 * 1 ≤ 170141183460469231731687303715884105728 * d := Int.mul_le_mul_of_nonneg_left (by omega) (by omega)
    omega
  have q1 : -170141183460469231731687303715884105728 ≤ z / d := by
    refine Int.le_ediv_of_mul_le hd ?_
    have : 170141183460469231731687303715884105728 * 1 ≤ 170141183460469231731687303715884105728 * d := Int.mul_le_mul_of_nonneg_left (by omega) (by omega)
    omega
  refine ⟨⟨q1, q0⟩, ?_⟩
  unfold nearZ InZ
  split
  · rename_i c
    by_cases h1 : d = 1
    · subst h1
      omega
    · have : z / d ≤ 85070591730234615865843651857942052864 := by
        refine Int.le_of_lt_add_one (Int.ediv_lt_of_lt_mul hd ?_)
        have : 85070591730234615865843651857942052865 * 2 ≤ 85070591730234615865843651857942052865 * d := Int.mul_le_mul_of_nonneg_left (by omega) (by omega)
        omega
      omega
  · omega
theorem mul_in {x n : Int} (hx : InI x) (hn : InI n) : InZ (x * n) := by
  obtain ⟨m1, m2⟩ := abs_mul hx hn
  have e : ((x * n).natAbs : Int) = (x.natAbs : Int) * (n.natAbs : Int) := by rw [Int.natAbs_mul]; simp
  unfold InZ
  omega
def ratioF (a b : Int) : Int := if 1 ≤ a ∧ 1 ≤ b ∧ a ≤ 1000000000000 ∧ b ≤ 1000000000000 then 0 else 11
noncomputable def env_rcheck (a b : Int) : Env where
  P := Tryd.prog
  ty := tys0
noncomputable def g_rcheck (a b : Int) : Prop := vc (env_rcheck a b) (codeOf Tryd.f16) (start0 Tryd.f16 [.agg [.int .i64 a, .int .i64 b]]) (exitK (tsOf Tryd.f16) [.int .i64] (ratioF a b, ()))
def g_rcheck_vc (a : Int) (b : Int) : Prop :=
  (decide (mmI false a b < (1 : Int)) = false →
    (decide ((1000000000000 : Int) < mmI true a b) = true → ((11 : Int), ()) = (ratioF a b, ())) ∧ (decide ((1000000000000 : Int) < mmI true a b) = false → ((0 : Int), ()) = (ratioF a b, ()))) ∧
  (decide (mmI false a b < (1 : Int)) = !false → ((11 : Int), ()) = (ratioF a b, ()))

theorem g_rcheck_eq (a b : Int) : g_rcheck a b = g_rcheck_vc a b := by kernel_rfl
theorem g_rcheck_ok (a b : Int) : g_rcheck_vc a b := by
  unfold g_rcheck_vc ratioF mmI
  simp only [decide_eq_true_eq, decide_eq_false_iff_not, if_true, Bool.false_eq_true, if_false, Bool.not_false, Prod.mk.injEq, and_true]
  refine ⟨fun h1 => ⟨fun h2 => ?_, fun h2 => ?_⟩, fun h1 => ?_⟩ <;> split <;> omega
set_option maxRecDepth 20000 in
theorem rcheck_pure (a b : Int) : Pure Tryd.prog 16 [.agg [.int .i64 a, .int .i64 b]] (.int .i64 (ratioF a b)) :=
  Pure.of_g (E := env_rcheck a b) (ts := tsOf Tryd.f16) (ps := [.int .i64]) (r := (ratioF a b, ())) (fn := Tryd.f16) (c := codeOf Tryd.f16) (specs_ok (P := Tryd.prog) rfl [] [] rfl rfl) mixed Tryd.func16 rfl rfl (g := g_rcheck a b) (by delta g_rcheck start0; first | with_reducible exact Eq.refl _ | exact Eq.refl _) (by rw [g_rcheck_eq a b]; exact g_rcheck_ok a b)
def q_rcheck (a b : Int) : Prop × V := (True, (.int .i64 (ratioF a b)))
noncomputable def sp_rcheck : FSpec Tryd.prog where
  f := 16
  run := fun args => match args with
    | [.agg [.int .i64 a, .int .i64 b]] => some (q_rcheck a b)
    | _ => none
  ok := fun args pre r h hp => by
    try dsimp only at h
    split at h
    · rename_i a b
      have h := Option.some.inj h
      unfold q_rcheck at h
      cases h
      exact (rcheck_pure a b).weak (.cons (Weak.refl _) .nil)
    · cases h

end Go.Proofs.YtccmidojhagppaaDoor
