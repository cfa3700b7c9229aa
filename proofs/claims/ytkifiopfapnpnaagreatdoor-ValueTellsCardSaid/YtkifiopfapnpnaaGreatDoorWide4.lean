/-
  Quotients, to the nearest.
-/
import Derived.Test.YtkifiopfapnpnaaGreatDoorWide3
namespace Go.Proofs.YtkifiopfapnpnaaGreatDoor
open Go.Vm

theorem abs_words {a b : Int} (ha : InI a) (hb : InW b) :
    (0 ≤ a → a = hiZ ((wz a b).natAbs : Int) ∧ b = loZ ((wz a b).natAbs : Int)) ∧
      (a < 0 → (0 - b - 0) % M64 = loZ ((wz a b).natAbs : Int) ∧ (0 - IntKind.u64.wrap a - (if 0 < b + 0 then 1 else 0)) % M64 = hiZ ((wz a b).natAbs : Int)) := by
  obtain ⟨a1, a2⟩ := ha
  obtain ⟨b1, b2⟩ := hb
  simp only [wrap_u, wz, hiZ, loZ, M64] at *
  refine ⟨fun h => ⟨by omega, by omega⟩, fun h => ?_⟩
  split <;> exact ⟨by omega, by omega⟩
noncomputable def env_ssize (a b : Int) : Env where
  P := Tryz.prog
  ty := tys0
  ext := extsOf [sp_sub64]
  wrap := fun | 25 => true | _ => false
abbrev ann_ssize : Ann := { slots := numP 0 [.int .u64, .int .u64], boxes := [], inv := fun _ _ => True }
noncomputable def g_ssize (a b : Int) : Prop := vc (env_ssize a b) (codeOf Tryz.f81) (start0 Tryz.f81 [.agg [.int .i64 a, .int .u64 b]]) (exitG (env_ssize a b).P Tryz.f81.results.toList [some 2] (env_ssize a b).pins ann_ssize (hiZ ((wz a b).natAbs : Int), loZ ((wz a b).natAbs : Int), ()))
def g_ssize_vc (a : Int) (b : Int) : Prop :=
  (decide ((0 : Int) ≤ a) = true → ((0 : Int) ≤ a ∧ a ≤ (18446744073709551615 : Int)) ∧ True ∧ (a, b, ()) = (hiZ (↑(wz a b).natAbs : Int), loZ (↑(wz a b).natAbs : Int), ())) ∧
  (decide ((0 : Int) ≤ a) = false →
    (InW (0 : Int) ∧ InW b ∧ (0 : Int) ≤ (0 : Int) ∧ (0 : Int) ≤ (1 : Int)) ∧
      (InW (0 : Int) ∧ InW (IntKind.u64.wrap a) ∧ ((0 : Int) ≤ if (0 : Int) < b + (0 : Int) then (1 : Int) else (0 : Int)) ∧ (if (0 : Int) < b + (0 : Int) then (1 : Int) else (0 : Int)) ≤ (1 : Int)) ∧
        True ∧
          (((0 : Int) - IntKind.u64.wrap a - if (0 : Int) < b + (0 : Int) then (1 : Int) else (0 : Int)) % M64, ((0 : Int) - b - (0 : Int)) % M64, ()) =
            (hiZ (↑(wz a b).natAbs : Int), loZ (↑(wz a b).natAbs : Int), ()))

theorem g_ssize_eq (a b : Int) : g_ssize a b = g_ssize_vc a b := by kernel_rfl
theorem g_ssize_ok (a b : Int) (h : InI a ∧ InW b) : g_ssize_vc a b := by
  obtain ⟨ha, hb⟩ := h
  obtain ⟨e1, e2⟩ := abs_words ha hb
  unfold g_ssize_vc
  simp only [decide_eq_true_eq, decide_eq_false_iff_not]
  refine ⟨fun c => ⟨?_, trivial, ?_⟩, fun c => ⟨⟨in0, hb, by omega, by omega⟩, ⟨in0, wrap_w' _, ?_, ?_⟩, trivial, ?_⟩⟩
  · have := ha.2
    omega
  · obtain ⟨f1, f2⟩ := e1 c
    rw [← f1, ← f2]
  · split <;> omega
  · split <;> omega
  · obtain ⟨f1, f2⟩ := e2 (by omega)
    rw [← f1, ← f2]
set_option maxRecDepth 20000 in
theorem ssize_pure (a b : Int) (h : InI a ∧ InW b) : Pure Tryz.prog 81 [.agg [.int .i64 a, .int .u64 b]] (.agg [.int .u64 (hiZ ((wz a b).natAbs : Int)), .int .u64 (loZ ((wz a b).natAbs : Int))]) :=
  Pure.of_gG (E := env_ssize a b) (sh := [some 2]) (ann := ann_ssize) (x := (hiZ ((wz a b).natAbs : Int), loZ ((wz a b).natAbs : Int), ())) (fn := Tryz.f81) (c := codeOf Tryz.f81) (specs_okx (P := Tryz.prog) rfl [] [] [sp_sub64] rfl rfl rfl) mixed Tryz.func81 rfl rfl rfl rfl rfl (g := g_ssize a b) (by delta g_ssize start0; first | with_reducible exact Eq.refl _ | exact Eq.refl _) (by rw [g_ssize_eq a b]; exact g_ssize_ok a b h)
def q_ssize (a b : Int) : Prop × V := (InI a ∧ InW b, (.agg [.int .u64 (hiZ ((wz a b).natAbs : Int)), .int .u64 (loZ ((wz a b).natAbs : Int))]))
noncomputable def sp_ssize : FSpec Tryz.prog where
  f := 81
  run := fun args => match args with
    | [.agg [.int .i64 a, .int .u64 b]] => some (q_ssize a b)
    | _ => none
  ok := fun args pre r h hp => by
    try dsimp only at h
    split at h
    · rename_i a b
      have h := Option.some.inj h
      unfold q_ssize at h
      cases h
      exact (ssize_pure a b hp).weak (.cons (Weak.refl _) .nil)
    · cases h

noncomputable def env_words (a b d : Int) : Env where
  P := Tryz.prog
  ty := tys0
  specs := specsOf [sp_div64]
  unr := fun | 2000000 => 1 | _ => 0
abbrev ann_words : Ann := { slots := numP 0 [.int .u64, .int .u64, .int .u64], boxes := [], inv := fun _ _ => True }
noncomputable def g_words (a b d : Int) : Prop := vc (env_words a b d) (codeOf Tryz.f80) (start0 Tryz.f80 [.agg [.int .u64 a, .int .u64 b], .int .u64 d]) (exitG (env_words a b d).P Tryz.f80.results.toList [some 2, none] (env_words a b d).pins ann_words (hiZ (wz a b / d), loZ (wz a b / d), wz a b % d, ()))
def g_words_vc (a : Int) (b : Int) (d : Int) : Prop :=
  (InW a ∧ InW d ∧ (0 : Int) ≤ (0 : Int) ∧ (0 : Int) < d) ∧
  ((-9223372036854775808 : Int) ≤ (0 : Int) + (1 : Int) ∧ (0 : Int) + (1 : Int) ≤ (9223372036854775807 : Int)) ∧
    (decide ((0 : Int) + (1 : Int) < (2 : Int)) = true →
        (0 : Nat) = (0 : Nat) ∧
          (InW b ∧ InW d ∧ (0 : Int) ≤ wz (0 : Int) a % d ∧ wz (0 : Int) a % d < d) ∧
            ((-9223372036854775808 : Int) ≤ (0 : Int) + (1 : Int) + (1 : Int) ∧ (0 : Int) + (1 : Int) + (1 : Int) ≤ (9223372036854775807 : Int)) ∧
              (decide ((0 : Int) + (1 : Int) + (1 : Int) < (2 : Int)) = true → (0 : Nat) = (0 : Nat) ∧ False) ∧
                (decide ((0 : Int) + (1 : Int) + (1 : Int) < (2 : Int)) = false →
                  True ∧ (wz (0 : Int) a / d, wz (wz (0 : Int) a % d) b / d, wz (wz (0 : Int) a % d) b % d, ()) = (hiZ (wz a b / d), loZ (wz a b / d), wz a b % d, ()))) ∧
      (decide ((0 : Int) + (1 : Int) < (2 : Int)) = false → True ∧ (wz (0 : Int) a / d, (0 : Int), wz (0 : Int) a % d, ()) = (hiZ (wz a b / d), loZ (wz a b / d), wz a b % d, ()))

theorem g_words_eq (a b d : Int) : g_words a b d = g_words_vc a b d := by kernel_rfl
theorem words_law {a b d : Int} (ha : InW a) (hb : InW b) (hd : 0 < d) (hd1 : InW d) :
    wz 0 a / d = hiZ (wz a b / d) ∧ wz (wz 0 a % d) b / d = loZ (wz a b / d) ∧ wz (wz 0 a % d) b % d = wz a b % d ∧ 0 ≤ wz 0 a % d ∧ wz 0 a % d < d := by
  have e0 : wz 0 a = a := by unfold wz; omega
  rw [e0]
  have r0 : 0 ≤ a % d := Int.emod_nonneg _ (by omega)
  have r1 : a % d < d := Int.emod_lt_of_pos _ hd
  have ea : d * (a / d) + a % d = a := Int.mul_ediv_add_emod a d
  have s0 : 0 ≤ wz (a % d) b / d := Int.ediv_nonneg (by unfold wz M64; have := hb.1; omega) (by omega)
  have s1 : wz (a % d) b / d < M64 := by
    refine Int.ediv_lt_of_lt_mul hd ?_
    have := hb.2
    unfold wz
    have m : (a % d + 1) * M64 ≤ d * M64 := Int.mul_le_mul_of_nonneg_right (by omega) (by decide)
    rw [Int.add_mul] at m
    rw [Int.mul_comm M64 d]
    omega
  have ew : wz a b = wz (a % d) b + a / d * M64 * d := by
    unfold wz
    have : a * M64 = (d * (a / d) + a % d) * M64 := by rw [ea]
    rw [this]
    generalize a / d = q
    generalize a % d = r
    generalize M64 = m
    grind
  have e1 : wz a b / d = a / d * M64 + wz (a % d) b / d := by
    rw [ew, Int.add_mul_ediv_right _ _ (by omega)]
    omega
  have e2 : wz a b % d = wz (a % d) b % d := by rw [ew, Int.add_mul_emod_self_right]
  have h1 := hi_wz (a := a / d) (b := wz (a % d) b / d) ⟨s0, s1⟩
  have h2 := lo_wz (a := a / d) (b := wz (a % d) b / d) ⟨s0, s1⟩
  have e3 : wz (a / d) (wz (a % d) b / d) = wz a b / d := by rw [e1]; rfl
  rw [e3] at h1 h2
  exact ⟨h1.symm, h2.symm, e2.symm, r0, r1⟩
theorem g_words_ok (a b d : Int) (h : InW a ∧ InW b ∧ InW d ∧ 0 < d) : g_words_vc a b d := by
  obtain ⟨ha, hb, hd, h0⟩ := h
  obtain ⟨e1, e2, e3, r0, r1⟩ := words_law ha hb h0 hd
  unfold g_words_vc
  refine ⟨⟨ha, hd, by omega, h0⟩, by omega, fun _ => ⟨rfl, ⟨hb, hd, r0, r1⟩, by omega, fun c => by simp at c, fun _ => ⟨trivial, ?_⟩⟩, fun c => by simp at c⟩
  rw [e1, e2, e3]
set_option maxRecDepth 20000 in
theorem words_pure (a b d : Int) (h : InW a ∧ InW b ∧ InW d ∧ 0 < d) : Pure Tryz.prog 80 [.agg [.int .u64 a, .int .u64 b], .int .u64 d] (.tuple [.agg [.int .u64 (hiZ (wz a b / d)), .int .u64 (loZ (wz a b / d))], .int .u64 (wz a b % d)]) :=
  Pure.of_gG (E := env_words a b d) (sh := [some 2, none]) (ann := ann_words) (x := (hiZ (wz a b / d), loZ (wz a b / d), wz a b % d, ())) (fn := Tryz.f80) (c := codeOf Tryz.f80) (specs_ok (P := Tryz.prog) rfl [sp_div64] [] rfl rfl) mixed Tryz.func80 rfl rfl rfl rfl rfl (g := g_words a b d) (by delta g_words start0; first | with_reducible exact Eq.refl _ | exact Eq.refl _) (by rw [g_words_eq a b d]; exact g_words_ok a b d h)
def q_words (a b d : Int) : Prop × V := (InW a ∧ InW b ∧ InW d ∧ 0 < d, (.tuple [.agg [.int .u64 (hiZ (wz a b / d)), .int .u64 (loZ (wz a b / d))], .int .u64 (wz a b % d)]))
noncomputable def sp_words : FSpec Tryz.prog where
  f := 80
  run := fun args => match args with
    | [.agg [.int .u64 a, .int .u64 b], .int .u64 d] => some (q_words a b d)
    | _ => none
  ok := fun args pre r h hp => by
    try dsimp only at h
    split at h
    · rename_i a b d
      have h := Option.some.inj h
      unfold q_words at h
      cases h
      exact (words_pure a b d hp).weak (.cons (Weak.refl _) (.cons (Weak.refl _) .nil))
    · cases h

def bitI (b : Bool) : Int := if b then 1 else 0
theorem below_words {a b : Int} {k : Int} (ha : InW a) (hb : InW b) (hk : k = 0 ∨ k = 1) (hz : InZ (0 - wz a b - k)) :
    (0 - b - k) % M64 = loZ (0 - wz a b - k) ∧ IntKind.i64.wrap ((0 - a - (if 0 < b + k then 1 else 0)) % M64) = hiZ (0 - wz a b - k) := by
  obtain ⟨a1, a2⟩ := ha
  obtain ⟨b1, b2⟩ := hb
  obtain ⟨z1, z2⟩ := hz
  simp only [wrap_i, wz, hiZ, loZ, M64] at *
  rcases hk with rfl | rfl <;> split <;> exact ⟨by omega, by omega⟩
noncomputable def env_below (a b : Int) (l : Bool) : Env where
  P := Tryz.prog
  ty := tys0
  ext := extsOf [sp_sub64]
  wrap := fun | 26 => true | _ => false
abbrev ann_below : Ann := { slots := numP 0 [.int .i64, .int .u64], boxes := [], inv := fun _ _ => True }
noncomputable def g_below (a b : Int) (l : Bool) : Prop := vc (env_below a b l) (codeOf Tryz.f82) (start0 Tryz.f82 [.agg [.int .u64 a, .int .u64 b], .bool l]) (exitG (env_below a b l).P Tryz.f82.results.toList [some 2] (env_below a b l).pins ann_below (hiZ (0 - wz a b - bitI l), loZ (0 - wz a b - bitI l), ()))
def g_below_vc (a : Int) (b : Int) (l : Bool) : Prop :=
  (l = true →
    (InW (0 : Int) ∧ InW b ∧ (0 : Int) ≤ (1 : Int) ∧ (1 : Int) ≤ (1 : Int)) ∧
      (InW (0 : Int) ∧ InW a ∧ ((0 : Int) ≤ if (0 : Int) < b + (1 : Int) then (1 : Int) else (0 : Int)) ∧ (if (0 : Int) < b + (1 : Int) then (1 : Int) else (0 : Int)) ≤ (1 : Int)) ∧
        True ∧
          (IntKind.i64.wrap (((0 : Int) - a - if (0 : Int) < b + (1 : Int) then (1 : Int) else (0 : Int)) % M64), ((0 : Int) - b - (1 : Int)) % M64, ()) =
            (hiZ ((0 : Int) - wz a b - bitI l), loZ ((0 : Int) - wz a b - bitI l), ())) ∧
  (l = false →
    (InW (0 : Int) ∧ InW b ∧ (0 : Int) ≤ (0 : Int) ∧ (0 : Int) ≤ (1 : Int)) ∧
      (InW (0 : Int) ∧ InW a ∧ ((0 : Int) ≤ if (0 : Int) < b + (0 : Int) then (1 : Int) else (0 : Int)) ∧ (if (0 : Int) < b + (0 : Int) then (1 : Int) else (0 : Int)) ≤ (1 : Int)) ∧
        True ∧
          (IntKind.i64.wrap (((0 : Int) - a - if (0 : Int) < b + (0 : Int) then (1 : Int) else (0 : Int)) % M64), ((0 : Int) - b - (0 : Int)) % M64, ()) =
            (hiZ ((0 : Int) - wz a b - bitI l), loZ ((0 : Int) - wz a b - bitI l), ()))

theorem g_below_eq (a b : Int) (l : Bool) : g_below a b l = g_below_vc a b l := by kernel_rfl
theorem g_below_ok (a b : Int) (l : Bool) (h : InW a ∧ InW b ∧ InZ (0 - wz a b - bitI l)) : g_below_vc a b l := by
  obtain ⟨ha, hb, hz⟩ := h
  unfold g_below_vc
  refine ⟨fun c => ?_, fun c => ?_⟩
  · subst c
    obtain ⟨e1, e2⟩ := below_words (k := 1) ha hb (.inr rfl) hz
    refine ⟨⟨in0, hb, by omega, by omega⟩, ⟨in0, ha, ?_, ?_⟩, trivial, ?_⟩
    · split <;> omega
    · split <;> omega
    · rw [e1, e2]
      rfl
  · subst c
    obtain ⟨e1, e2⟩ := below_words (k := 0) ha hb (.inl rfl) hz
    refine ⟨⟨in0, hb, by omega, by omega⟩, ⟨in0, ha, ?_, ?_⟩, trivial, ?_⟩
    · split <;> omega
    · split <;> omega
    · rw [e1, e2]
      rfl
set_option maxRecDepth 20000 in
theorem below_pure (a b : Int) (l : Bool) (h : InW a ∧ InW b ∧ InZ (0 - wz a b - bitI l)) : Pure Tryz.prog 82 [.agg [.int .u64 a, .int .u64 b], .bool l] (.agg [.int .i64 (hiZ (0 - wz a b - bitI l)), .int .u64 (loZ (0 - wz a b - bitI l))]) :=
  Pure.of_gG (E := env_below a b l) (sh := [some 2]) (ann := ann_below) (x := (hiZ (0 - wz a b - bitI l), loZ (0 - wz a b - bitI l), ())) (fn := Tryz.f82) (c := codeOf Tryz.f82) (specs_okx (P := Tryz.prog) rfl [] [] [sp_sub64] rfl rfl rfl) mixed Tryz.func82 rfl rfl rfl rfl rfl (g := g_below a b l) (by delta g_below start0; first | with_reducible exact Eq.refl _ | exact Eq.refl _) (by rw [g_below_eq a b l]; exact g_below_ok a b l h)
def q_below (a b : Int) (l : Bool) : Prop × V := (InW a ∧ InW b ∧ InZ (0 - wz a b - bitI l), (.agg [.int .i64 (hiZ (0 - wz a b - bitI l)), .int .u64 (loZ (0 - wz a b - bitI l))]))
noncomputable def sp_below : FSpec Tryz.prog where
  f := 82
  run := fun args => match args with
    | [.agg [.int .u64 a, .int .u64 b], v1] => (match boolOf v1 with | some l => some (q_below a b l) | none => none)
    | _ => none
  ok := fun args pre r h hp => by
    try dsimp only at h
    split at h
    · rename_i a b v1
      cases h1 : boolOf v1 with
      | none => rw [h1] at h; cases h
      | some l =>
      rw [h1] at h
      try dsimp only at h
      have h := Option.some.inj h
      unfold q_below at h
      cases h
      exact (below_pure a b l hp).weak (.cons (Weak.refl _) (.cons (boolOf_weak h1) .nil))
    · cases h

/-- A quotient, what is left, the fault. -/
def quoF (z d : Int) : Int × Int × Int := if d < 1 then (0, 0, 2) else (z / d, z % d, 0)
noncomputable def env_quo (a b d : Int) : Env where
  P := Tryz.prog
  ty := tys0
  specs := specsOf [sp_ssize, sp_words, sp_below]
abbrev ann_quo : Ann := { slots := numP 0 [.int .i64, .int .u64, .int .i64, .int .i64], boxes := [], inv := fun _ _ => True }
noncomputable def g_quo (a b d : Int) : Prop := vc (env_quo a b d) (codeOf Tryz.f63) (start0 Tryz.f63 [.agg [.int .i64 a, .int .u64 b], .int .i64 d]) (exitG (env_quo a b d).P Tryz.f63.results.toList [some 2, none, none] (env_quo a b d).pins ann_quo (hiZ (quoF (wz a b) d).1, loZ (quoF (wz a b) d).1, (quoF (wz a b) d).2.1, (quoF (wz a b) d).2.2, ()))
def g_quo_vc (a : Int) (b : Int) (d : Int) : Prop :=
  (decide (d < (1 : Int)) = true →
    True ∧ ((0 : Int), (0 : Int), (0 : Int), (2 : Int), ()) = (hiZ (quoF (wz a b) d).fst, loZ (quoF (wz a b) d).fst, (quoF (wz a b) d).snd.fst, (quoF (wz a b) d).snd.snd, ())) ∧
  (decide (d < (1 : Int)) = false →
    (InI a ∧ InW b) ∧
      ((0 : Int) ≤ d ∧ d ≤ (18446744073709551615 : Int)) ∧
        (InW (hiZ (↑(wz a b).natAbs : Int)) ∧ InW (loZ (↑(wz a b).natAbs : Int)) ∧ InW d ∧ (0 : Int) < d) ∧
          (decide ((0 : Int) ≤ a) = true →
              ((-9223372036854775808 : Int) ≤ hiZ (wz (hiZ (↑(wz a b).natAbs : Int)) (loZ (↑(wz a b).natAbs : Int)) / d) ∧
                  hiZ (wz (hiZ (↑(wz a b).natAbs : Int)) (loZ (↑(wz a b).natAbs : Int)) / d) ≤ (9223372036854775807 : Int)) ∧
                ((-9223372036854775808 : Int) ≤ wz (hiZ (↑(wz a b).natAbs : Int)) (loZ (↑(wz a b).natAbs : Int)) % d ∧
                    wz (hiZ (↑(wz a b).natAbs : Int)) (loZ (↑(wz a b).natAbs : Int)) % d ≤ (9223372036854775807 : Int)) ∧
                  True ∧
                    (hiZ (wz (hiZ (↑(wz a b).natAbs : Int)) (loZ (↑(wz a b).natAbs : Int)) / d), loZ (wz (hiZ (↑(wz a b).natAbs : Int)) (loZ (↑(wz a b).natAbs : Int)) / d),
                        wz (hiZ (↑(wz a b).natAbs : Int)) (loZ (↑(wz a b).natAbs : Int)) % d, (0 : Int), ()) =
                      (hiZ (quoF (wz a b) d).fst, loZ (quoF (wz a b) d).fst, (quoF (wz a b) d).snd.fst, (quoF (wz a b) d).snd.snd, ())) ∧
            (decide ((0 : Int) ≤ a) = false →
              (decide (wz (hiZ (↑(wz a b).natAbs : Int)) (loZ (↑(wz a b).natAbs : Int)) % d = (0 : Int)) = true →
                  (InW (hiZ (wz (hiZ (↑(wz a b).natAbs : Int)) (loZ (↑(wz a b).natAbs : Int)) / d)) ∧
                      InW (loZ (wz (hiZ (↑(wz a b).natAbs : Int)) (loZ (↑(wz a b).natAbs : Int)) / d)) ∧
                        InZ
                          ((0 : Int) - wz (hiZ (wz (hiZ (↑(wz a b).natAbs : Int)) (loZ (↑(wz a b).natAbs : Int)) / d)) (loZ (wz (hiZ (↑(wz a b).natAbs : Int)) (loZ (↑(wz a b).natAbs : Int)) / d)) -
                            bitI false)) ∧
                    True ∧
                      (hiZ
                            ((0 : Int) - wz (hiZ (wz (hiZ (↑(wz a b).natAbs : Int)) (loZ (↑(wz a b).natAbs : Int)) / d)) (loZ (wz (hiZ (↑(wz a b).natAbs : Int)) (loZ (↑(wz a b).natAbs : Int)) / d)) -
                              bitI false),
                          loZ
                            ((0 : Int) - wz (hiZ (wz (hiZ (↑(wz a b).natAbs : Int)) (loZ (↑(wz a b).natAbs : Int)) / d)) (loZ (wz (hiZ (↑(wz a b).natAbs : Int)) (loZ (↑(wz a b).natAbs : Int)) / d)) -
                              bitI false),
                          (0 : Int), (0 : Int), ()) =
                        (hiZ (quoF (wz a b) d).fst, loZ (quoF (wz a b) d).fst, (quoF (wz a b) d).snd.fst, (quoF (wz a b) d).snd.snd, ())) ∧
                (decide (wz (hiZ (↑(wz a b).natAbs : Int)) (loZ (↑(wz a b).natAbs : Int)) % d = (0 : Int)) = false →
                  (InW (hiZ (wz (hiZ (↑(wz a b).natAbs : Int)) (loZ (↑(wz a b).natAbs : Int)) / d)) ∧
                      InW (loZ (wz (hiZ (↑(wz a b).natAbs : Int)) (loZ (↑(wz a b).natAbs : Int)) / d)) ∧
                        InZ
                          ((0 : Int) - wz (hiZ (wz (hiZ (↑(wz a b).natAbs : Int)) (loZ (↑(wz a b).natAbs : Int)) / d)) (loZ (wz (hiZ (↑(wz a b).natAbs : Int)) (loZ (↑(wz a b).natAbs : Int)) / d)) -
                            bitI true)) ∧
                    ((-9223372036854775808 : Int) ≤ wz (hiZ (↑(wz a b).natAbs : Int)) (loZ (↑(wz a b).natAbs : Int)) % d ∧
                        wz (hiZ (↑(wz a b).natAbs : Int)) (loZ (↑(wz a b).natAbs : Int)) % d ≤ (9223372036854775807 : Int)) ∧
                      ((-9223372036854775808 : Int) ≤ d - wz (hiZ (↑(wz a b).natAbs : Int)) (loZ (↑(wz a b).natAbs : Int)) % d ∧
                          d - wz (hiZ (↑(wz a b).natAbs : Int)) (loZ (↑(wz a b).natAbs : Int)) % d ≤ (9223372036854775807 : Int)) ∧
                        True ∧
                          (hiZ
                                ((0 : Int) -
                                    wz (hiZ (wz (hiZ (↑(wz a b).natAbs : Int)) (loZ (↑(wz a b).natAbs : Int)) / d)) (loZ (wz (hiZ (↑(wz a b).natAbs : Int)) (loZ (↑(wz a b).natAbs : Int)) / d)) -
                                  bitI true),
                              loZ
                                ((0 : Int) -
                                    wz (hiZ (wz (hiZ (↑(wz a b).natAbs : Int)) (loZ (↑(wz a b).natAbs : Int)) / d)) (loZ (wz (hiZ (↑(wz a b).natAbs : Int)) (loZ (↑(wz a b).natAbs : Int)) / d)) -
                                  bitI true),
                              d - wz (hiZ (↑(wz a b).natAbs : Int)) (loZ (↑(wz a b).natAbs : Int)) % d, (0 : Int), ()) =
                            (hiZ (quoF (wz a b) d).fst, loZ (quoF (wz a b) d).fst, (quoF (wz a b) d).snd.fst, (quoF (wz a b) d).snd.snd, ()))))

theorem g_quo_eq (a b d : Int) : g_quo a b d = g_quo_vc a b d := by kernel_rfl
theorem quo_neg {z d : Int} (hz : z < 0) (hd : 0 < d) : ((z.natAbs : Int) % d = 0 → z / d = 0 - (z.natAbs : Int) / d ∧ z % d = 0) ∧ (¬ (z.natAbs : Int) % d = 0 → z / d = 0 - (z.natAbs : Int) / d - 1 ∧ z % d = d - (z.natAbs : Int) % d) := by
  have e : d * ((z.natAbs : Int) / d) + (z.natAbs : Int) % d = (z.natAbs : Int) := Int.mul_ediv_add_emod _ _
  have r0 : 0 ≤ (z.natAbs : Int) % d := Int.emod_nonneg _ (by omega)
  have r1 : (z.natAbs : Int) % d < d := Int.emod_lt_of_pos _ hd
  have ez : (z.natAbs : Int) = -z := by omega
  generalize (z.natAbs : Int) % d = r at *
  generalize (z.natAbs : Int) / d = q at *
  refine ⟨fun c => ?_, fun c => ?_⟩
  · refine (Int.ediv_emod_unique hd).2 ⟨?_, by omega, hd⟩
    rw [Int.mul_sub]
    omega
  · refine (Int.ediv_emod_unique hd).2 ⟨?_, by omega, by omega⟩
    rw [Int.mul_sub, Int.mul_sub]
    omega
theorem ediv_le_abs {n d : Int} (hn : 0 ≤ n) (hd : 0 < d) : 0 ≤ n / d ∧ n / d ≤ n := ⟨Int.ediv_nonneg hn (by omega), Int.ediv_le_self _ hn⟩
theorem g_quo_ok (a b d : Int) (h : InI a ∧ InW b ∧ InI d) : g_quo_vc a b d := by
  obtain ⟨ha, hb, hd⟩ := h
  have hz := inz_wz ha hb
  unfold g_quo_vc
  simp only [wz_hilo, decide_eq_true_eq, decide_eq_false_iff_not]
  refine ⟨fun c => ⟨trivial, ?_⟩, fun c => ?_⟩
  · unfold quoF
    rw [if_pos c]
    rfl
  · have hd0 : 0 < d := by omega
    have hdm := hd.2
    have e : quoF (wz a b) d = (wz a b / d, wz a b % d, 0) := by unfold quoF; rw [if_neg c]
    rw [e]
    have sgn : (0 ≤ a → 0 ≤ wz a b) ∧ (¬ 0 ≤ a → wz a b < 0) := by
      obtain ⟨b1, b2⟩ := hb
      unfold wz
      simp only [M64] at *
      exact ⟨by omega, by omega⟩
    generalize wz a b = z at *
    obtain ⟨z1, z2⟩ := hz
    obtain ⟨q0, q1⟩ := ediv_le_abs (n := (z.natAbs : Int)) (by omega) hd0
    have r0 : 0 ≤ (z.natAbs : Int) % d := Int.emod_nonneg _ (by omega)
    have r1 : (z.natAbs : Int) % d < d := Int.emod_lt_of_pos _ hd0
    have hw : InW (hiZ (z.natAbs : Int)) := by unfold InW hiZ M64; omega
    have hq : InW (hiZ ((z.natAbs : Int) / d)) := by
      generalize (z.natAbs : Int) / d = q at *
      unfold InW hiZ M64
      omega
    refine ⟨⟨ha, hb⟩, by omega, ⟨hw, lo_w _, ⟨by omega, by simp only [M64]; omega⟩, hd0⟩, fun k => ?_, fun k => ⟨fun g => ?_, fun g => ?_⟩⟩
    · have ez : (z.natAbs : Int) = z := by have := sgn.1 k; omega
      rw [ez] at q0 q1 r0 r1 ⊢
      refine ⟨?_, by omega, trivial, rfl⟩
      generalize z / d = q at *
      unfold hiZ M64
      omega
    · obtain ⟨e1, e2⟩ := (quo_neg (sgn.2 k) hd0).1 g
      rw [e1, e2]
      have es : 0 - (z.natAbs : Int) / d - bitI false = 0 - (z.natAbs : Int) / d := Int.sub_zero _
      rw [es]
      refine ⟨⟨hq, lo_w _, ?_⟩, trivial, rfl⟩
      generalize (z.natAbs : Int) / d = q at *
      unfold InZ
      omega
    · obtain ⟨e1, e2⟩ := (quo_neg (sgn.2 k) hd0).2 g
      rw [e1, e2]
      refine ⟨⟨hq, lo_w _, ?_⟩, by omega, by omega, trivial, rfl⟩
      have d2 : 2 ≤ d := by
        by_cases h1 : d = 1
        · subst h1
          exfalso
          omega
        · omega
      have half : (z.natAbs : Int) / d ≤ (z.natAbs : Int) / 2 := by
        refine Int.le_ediv_of_mul_le (by omega) ?_
        have : (z.natAbs : Int) / d * 2 ≤ (z.natAbs : Int) / d * d := Int.mul_le_mul_of_nonneg_left d2 q0
        have e3 : d * ((z.natAbs : Int) / d) + (z.natAbs : Int) % d = (z.natAbs : Int) := Int.mul_ediv_add_emod _ _
        rw [Int.mul_comm d] at e3
        omega
      generalize (z.natAbs : Int) / d = q at *
      show InZ (0 - q - 1)
      unfold InZ
      omega
set_option maxRecDepth 20000 in
theorem quo_pure (a b d : Int) (h : InI a ∧ InW b ∧ InI d) : Pure Tryz.prog 63 [.agg [.int .i64 a, .int .u64 b], .int .i64 d] (.tuple [.agg [.int .i64 (hiZ (quoF (wz a b) d).1), .int .u64 (loZ (quoF (wz a b) d).1)], .int .i64 (quoF (wz a b) d).2.1, .int .i64 (quoF (wz a b) d).2.2]) :=
  Pure.of_gG (E := env_quo a b d) (sh := [some 2, none, none]) (ann := ann_quo) (x := (hiZ (quoF (wz a b) d).1, loZ (quoF (wz a b) d).1, (quoF (wz a b) d).2.1, (quoF (wz a b) d).2.2, ())) (fn := Tryz.f63) (c := codeOf Tryz.f63) (specs_ok (P := Tryz.prog) rfl [sp_ssize, sp_words, sp_below] [] rfl rfl) mixed Tryz.func63 rfl rfl rfl rfl rfl (g := g_quo a b d) (by delta g_quo start0; first | with_reducible exact Eq.refl _ | exact Eq.refl _) (by rw [g_quo_eq a b d]; exact g_quo_ok a b d h)
def q_quo (a b d : Int) : Prop × V := (InI a ∧ InW b ∧ InI d, (.tuple [.agg [.int .i64 (hiZ (quoF (wz a b) d).1), .int .u64 (loZ (quoF (wz a b) d).1)], .int .i64 (quoF (wz a b) d).2.1, .int .i64 (quoF (wz a b) d).2.2]))
noncomputable def sp_quo : FSpec Tryz.prog where
  f := 63
  run := fun args => match args with
    | [.agg [.int .i64 a, .int .u64 b], .int .i64 d] => some (q_quo a b d)
    | _ => none
  ok := fun args pre r h hp => by
    try dsimp only at h
    split at h
    · rename_i a b d
      have h := Option.some.inj h
      unfold q_quo at h
      cases h
      exact (quo_pure a b d hp).weak (.cons (Weak.refl _) (.cons (Weak.refl _) .nil))
    · cases h

/-- Is the next one the nearest, or even where both are? -/
def upB (r d b : Int) : Bool := decide (d - r < r) || (decide (r = d - r) && decide (andI .u64 b 1 = 1))
noncomputable def env_up (r d a b : Int) : Env where
  P := Tryz.prog
  ty := tys0
noncomputable def g_up (r d a b : Int) : Prop := vc (env_up r d a b) (codeOf Tryz.f64) (start0 Tryz.f64 [.fptr [.int .i64 r], .fptr [.int .i64 d], .fptr [.int .i64 a, .int .u64 b]]) (exitK (tsOf Tryz.f64) [.bool] (upB r d b, ()))
def g_up_vc (r : Int) (d : Int) (a : Int) (b : Int) : Prop :=
  ((-9223372036854775808 : Int) ≤ d - r ∧ d - r ≤ (9223372036854775807 : Int)) ∧
  (decide (d - r < r) = false →
      ((-9223372036854775808 : Int) ≤ d - r ∧ d - r ≤ (9223372036854775807 : Int)) ∧
        (decide (r = d - r) = true → (decide (andI IntKind.u64 b (1 : Int) = (1 : Int)), ()) = (upB r d b, ())) ∧ (decide (r = d - r) = !true → (false, ()) = (upB r d b, ()))) ∧
    (decide (d - r < r) = !false → (true, ()) = (upB r d b, ()))

theorem g_up_eq (r d a b : Int) : g_up r d a b = g_up_vc r d a b := by kernel_rfl
theorem g_up_ok (r d a b : Int) (h : 0 ≤ r ∧ r < d ∧ InI d) : g_up_vc r d a b := by
  obtain ⟨h1, h2, h3, h4⟩ := h
  unfold g_up_vc upB
  simp only [decide_eq_true_eq, decide_eq_false_iff_not, Bool.not_true, Bool.not_false]
  refine ⟨by omega, fun c => ⟨by omega, fun e => ?_, fun e => ?_⟩, fun c => ?_⟩
  · rw [decide_eq_false c, decide_eq_true e]
    rfl
  · rw [decide_eq_false c, decide_eq_false e]
    rfl
  · rw [decide_eq_true c]
    rfl
set_option maxRecDepth 20000 in
theorem up_pure (r d a b : Int) (h : 0 ≤ r ∧ r < d ∧ InI d) : Pure Tryz.prog 64 [.fptr [.int .i64 r], .fptr [.int .i64 d], .fptr [.int .i64 a, .int .u64 b]] (.bool (upB r d b)) :=
  Pure.of_g (E := env_up r d a b) (ts := tsOf Tryz.f64) (ps := [.bool]) (r := (upB r d b, ())) (fn := Tryz.f64) (c := codeOf Tryz.f64) (specs_ok (P := Tryz.prog) rfl [] [] rfl rfl) mixed Tryz.func64 rfl rfl (g := g_up r d a b) (by delta g_up start0; first | with_reducible exact Eq.refl _ | exact Eq.refl _) (by rw [g_up_eq r d a b]; exact g_up_ok r d a b h)
def q_up (r d a b : Int) : Prop × V := (0 ≤ r ∧ r < d ∧ InI d, (.bool (upB r d b)))
noncomputable def sp_up : FSpec Tryz.prog where
  f := 64
  run := fun args => match args with
    | [.fptr [.int .i64 r], .fptr [.int .i64 d], .fptr [.int .i64 a, .int .u64 b]] => some (q_up r d a b)
    | _ => none
  ok := fun args pre r h hp => by
    try dsimp only at h
    split at h
    · rename_i r d a b
      have h := Option.some.inj h
      unfold q_up at h
      cases h
      exact (up_pure r d a b hp).weak (.cons (Weak.refl _) (.cons (Weak.refl _) (.cons (Weak.refl _) .nil)))
    · cases h

/-- The nearest whole number to a quotient; the even one where two are. -/
def nearZ (z d : Int) : Int := if d < 2 * (z % d) ∨ (2 * (z % d) = d ∧ z / d % 2 = 1) then z / d + 1 else z / d
theorem up_near {z d : Int} : upB (z % d) d (loZ (z / d)) = decide (d < 2 * (z % d) ∨ (2 * (z % d) = d ∧ z / d % 2 = 1)) := by
  unfold upB
  rw [and_one (lo_w _), ← Bool.decide_and, ← Bool.decide_or]
  refine decide_eq_decide.2 ?_
  unfold loZ M64
  omega
theorem near_up {z d : Int} : nearZ z d = z / d + bitI (upB (z % d) d (loZ (z / d))) := by
  unfold nearZ bitI
  rw [up_near]
  by_cases c : d < 2 * (z % d) ∨ (2 * (z % d) = d ∧ z / d % 2 = 1)
  · rw [if_pos c, decide_eq_true c, if_pos rfl]
  · rw [if_neg c, decide_eq_false c, if_neg (by decide)]
    omega
def evenF (z d : Int) : Int × Int := if d < 1 then (0, 2) else (intB (nearZ z d), faultB (nearZ z d))
noncomputable def env_even (a b d : Int) : Env where
  P := Tryz.prog
  ty := tys0
  specs := specsOf [sp_quo, sp_up, sp_wof, sp_wadd, sp_wint]
  frz := fun | 25 => true | 26 => true | _ => false
noncomputable def g_even (a b d : Int) : Prop := vc (env_even a b d) (codeOf Tryz.f50) (start0 Tryz.f50 [.agg [.int .i64 a, .int .u64 b], .int .i64 d]) (exitK (tsOf Tryz.f50) [.int .i64, .int .i64] ((evenF (wz a b) d).1, (evenF (wz a b) d).2, ()))
def g_even_vc (a : Int) (b : Int) (d : Int) : Prop :=
  (InI a ∧ InW b ∧ InI d) ∧
  ((!decide ((quoF (wz a b) d).snd.snd = (0 : Int))) = true → ((0 : Int), (quoF (wz a b) d).snd.snd, ()) = ((evenF (wz a b) d).fst, (evenF (wz a b) d).snd, ())) ∧
    ((!decide ((quoF (wz a b) d).snd.snd = (0 : Int))) = false →
      ((0 : Int) ≤ (quoF (wz a b) d).snd.fst ∧ (quoF (wz a b) d).snd.fst < d ∧ InI d) ∧
        (upB (quoF (wz a b) d).snd.fst d (loZ (quoF (wz a b) d).fst) = true →
            InI (1 : Int) ∧
              (InI (hiZ (quoF (wz a b) d).fst) ∧
                  InW (loZ (quoF (wz a b) d).fst) ∧ InI (hiZ (1 : Int)) ∧ InW (loZ (1 : Int)) ∧ InZ (wz (hiZ (quoF (wz a b) d).fst) (loZ (quoF (wz a b) d).fst) + wz (hiZ (1 : Int)) (loZ (1 : Int)))) ∧
                (InI (hiZ (wz (hiZ (quoF (wz a b) d).fst) (loZ (quoF (wz a b) d).fst) + wz (hiZ (1 : Int)) (loZ (1 : Int)))) ∧
                    InW (loZ (wz (hiZ (quoF (wz a b) d).fst) (loZ (quoF (wz a b) d).fst) + wz (hiZ (1 : Int)) (loZ (1 : Int))))) ∧
                  (intB
                        (wz (hiZ (wz (hiZ (quoF (wz a b) d).fst) (loZ (quoF (wz a b) d).fst) + wz (hiZ (1 : Int)) (loZ (1 : Int))))
                          (loZ (wz (hiZ (quoF (wz a b) d).fst) (loZ (quoF (wz a b) d).fst) + wz (hiZ (1 : Int)) (loZ (1 : Int))))),
                      faultB
                        (wz (hiZ (wz (hiZ (quoF (wz a b) d).fst) (loZ (quoF (wz a b) d).fst) + wz (hiZ (1 : Int)) (loZ (1 : Int))))
                          (loZ (wz (hiZ (quoF (wz a b) d).fst) (loZ (quoF (wz a b) d).fst) + wz (hiZ (1 : Int)) (loZ (1 : Int))))),
                      ()) =
                    ((evenF (wz a b) d).fst, (evenF (wz a b) d).snd, ())) ∧
          (upB (quoF (wz a b) d).snd.fst d (loZ (quoF (wz a b) d).fst) = false →
            (InI (hiZ (quoF (wz a b) d).fst) ∧ InW (loZ (quoF (wz a b) d).fst)) ∧
              (intB (wz (hiZ (quoF (wz a b) d).fst) (loZ (quoF (wz a b) d).fst)), faultB (wz (hiZ (quoF (wz a b) d).fst) (loZ (quoF (wz a b) d).fst)), ()) =
                ((evenF (wz a b) d).fst, (evenF (wz a b) d).snd, ())))

theorem g_even_eq (a b d : Int) : g_even a b d = g_even_vc a b d := by kernel_rfl
theorem near_in {z d : Int} (hz : InZ z) (hd : 0 < d) : InZ (z / d) ∧ InZ (nearZ z d) := by
  obtain ⟨z1, z2⟩ := hz
  have e : d * (z / d) + z % d = z := Int.mul_ediv_add_emod z d
  have r0 : 0 ≤ z % d := Int.emod_nonneg _ (by omega)
  have r1 : z % d < d := Int.emod_lt_of_pos _ hd
  have q0 : z / d ≤ 170141183460469231731687303715884105727 := by
    refine Int.le_of_lt_add_one (Int.ediv_lt_of_lt_mul hd ?_)
    have : 170141183460469231731687303715884105728 * 1 ≤ 170141183460469231731687303715884105728 * d := Int.mul_le_mul_of_nonneg_left (by omega) (by omega)
    omega
  have q1 : -170141183460469231731687303715884105728 ≤ z / d := by
    refine Int.le_ediv_of_mul_le hd ?_
    have : 170141183460469231731687303715884105728 * 1 ≤ 170141183460469231731687303715884105728 * d := Int.mul_le_mul_of_nonneg_left (by omega) (by omega)
    omega
  refine ⟨⟨q1, q0⟩, ?_⟩
  unfold nearZ InZ
  split
  · rename_i c
    by_cases h1 : d = 1
    · subst h1
      omega
    · have : z / d ≤ 85070591730234615865843651857942052864 := by
        refine Int.le_of_lt_add_one (Int.ediv_lt_of_lt_mul hd ?_)
        have : 85070591730234615865843651857942052865 * 2 ≤ 85070591730234615865843651857942052865 * d := Int.mul_le_mul_of_nonneg_left (by omega) (by omega)
        omega
      omega
  · omega
theorem g_even_ok (a b d : Int) (h : InI a ∧ InW b ∧ InI d) : g_even_vc a b d := by
  obtain ⟨ha, hb, hd⟩ := h
  have hz := inz_wz ha hb
  unfold g_even_vc
  simp only [wz_hilo]
  have k1 : InI (1 : Int) := ⟨by decide, by decide⟩
  generalize wz a b = z at *
  by_cases c : d < 1
  · have e : quoF z d = (0, 0, 2) := by unfold quoF; rw [if_pos c]
    have f : evenF z d = (0, 2) := by unfold evenF; rw [if_pos c]
    rw [e, f]
    exact ⟨⟨ha, hb, hd⟩, fun _ => rfl, fun k => (by simp at k)⟩
  · have e : quoF z d = (z / d, z % d, 0) := by unfold quoF; rw [if_neg c]
    have f : evenF z d = (intB (nearZ z d), faultB (nearZ z d)) := by unfold evenF; rw [if_neg c]
    rw [e, f]
    have r0 : 0 ≤ z % d := Int.emod_nonneg _ (by omega)
    have r1 : z % d < d := Int.emod_lt_of_pos _ (by omega)
    obtain ⟨n1, n2⟩ := near_in hz (show 0 < d by omega)
    obtain ⟨w1, w2⟩ := inz_words n1
    obtain ⟨v1, v2⟩ := inz_words n2
    obtain ⟨u1, u2⟩ := inz_words (z := 1) (by unfold InZ; omega)
    refine ⟨⟨ha, hb, hd⟩, fun k => (by simp at k), fun _ => ⟨⟨r0, r1, hd⟩, fun k => ?_, fun k => ?_⟩⟩
    · have en : nearZ z d = z / d + 1 := by rw [near_up, k]; rfl
      rw [en] at n2 v1 v2 ⊢
      exact ⟨k1, ⟨w1, w2, u1, u2, n2⟩, ⟨v1, v2⟩, rfl⟩
    · have en : nearZ z d = z / d := by rw [near_up, k]; exact Int.add_zero _
      rw [en]
      exact ⟨⟨w1, w2⟩, rfl⟩
set_option maxRecDepth 20000 in
theorem even_pure (a b d : Int) (h : InI a ∧ InW b ∧ InI d) : Pure Tryz.prog 50 [.agg [.int .i64 a, .int .u64 b], .int .i64 d] (.tuple [.int .i64 (evenF (wz a b) d).1, .int .i64 (evenF (wz a b) d).2]) :=
  Pure.of_g (E := env_even a b d) (ts := tsOf Tryz.f50) (ps := [.int .i64, .int .i64]) (r := ((evenF (wz a b) d).1, (evenF (wz a b) d).2, ())) (fn := Tryz.f50) (c := codeOf Tryz.f50) (specs_ok (P := Tryz.prog) rfl [sp_quo, sp_up, sp_wof, sp_wadd, sp_wint] [] rfl rfl) mixed Tryz.func50 rfl rfl (g := g_even a b d) (by delta g_even start0; first | with_reducible exact Eq.refl _ | exact Eq.refl _) (by rw [g_even_eq a b d]; exact g_even_ok a b d h)
def q_even (a b d : Int) : Prop × V := (InI a ∧ InW b ∧ InI d, (.tuple [.int .i64 (evenF (wz a b) d).1, .int .i64 (evenF (wz a b) d).2]))
noncomputable def sp_even : FSpec Tryz.prog where
  f := 50
  run := fun args => match args with
    | [.agg [.int .i64 a, .int .u64 b], .int .i64 d] => some (q_even a b d)
    | _ => none
  ok := fun args pre r h hp => by
    try dsimp only at h
    split at h
    · rename_i a b d
      have h := Option.some.inj h
      unfold q_even at h
      cases h
      exact (even_pure a b d hp).weak (.cons (Weak.refl _) (.cons (Weak.refl _) .nil))
    · cases h

noncomputable def env_sscale (x n d : Int) : Env where
  P := Tryz.prog
  ty := tys0
  specs := specsOf [sp_wmul, sp_even]
noncomputable def g_sscale (x n d : Int) : Prop := vc (env_sscale x n d) (codeOf Tryz.f35) (start0 Tryz.f35 [.int .i64 x, .int .i64 n, .int .i64 d]) (exitK (tsOf Tryz.f35) [.int .i64, .int .i64] ((evenF (x * n) d).1, (evenF (x * n) d).2, ()))
def g_sscale_vc (x : Int) (n : Int) (d : Int) : Prop :=
  (InI x ∧ InI n) ∧
  (InI (hiZ (x * n)) ∧ InW (loZ (x * n)) ∧ InI d) ∧
    ((evenF (wz (hiZ (x * n)) (loZ (x * n))) d).fst, (evenF (wz (hiZ (x * n)) (loZ (x * n))) d).snd, ()) = ((evenF (x * n) d).fst, (evenF (x * n) d).snd, ())

theorem g_sscale_eq (x n d : Int) : g_sscale x n d = g_sscale_vc x n d := by kernel_rfl
theorem mul_in {x n : Int} (hx : InI x) (hn : InI n) : InZ (x * n) := by
  obtain ⟨m1, m2⟩ := abs_mul hx hn
  have e : ((x * n).natAbs : Int) = (x.natAbs : Int) * (n.natAbs : Int) := by rw [Int.natAbs_mul]; simp
  unfold InZ
  omega
theorem g_sscale_ok (x n d : Int) (h : InI x ∧ InI n ∧ InI d) : g_sscale_vc x n d := by
  obtain ⟨hx, hn, hd⟩ := h
  obtain ⟨w1, w2⟩ := inz_words (mul_in hx hn)
  unfold g_sscale_vc
  simp only [wz_hilo]
  exact ⟨⟨hx, hn⟩, ⟨w1, w2, hd⟩, trivial⟩
set_option maxRecDepth 20000 in
theorem sscale_pure (x n d : Int) (h : InI x ∧ InI n ∧ InI d) : Pure Tryz.prog 35 [.int .i64 x, .int .i64 n, .int .i64 d] (.tuple [.int .i64 (evenF (x * n) d).1, .int .i64 (evenF (x * n) d).2]) :=
  Pure.of_g (E := env_sscale x n d) (ts := tsOf Tryz.f35) (ps := [.int .i64, .int .i64]) (r := ((evenF (x * n) d).1, (evenF (x * n) d).2, ())) (fn := Tryz.f35) (c := codeOf Tryz.f35) (specs_ok (P := Tryz.prog) rfl [sp_wmul, sp_even] [] rfl rfl) mixed Tryz.func35 rfl rfl (g := g_sscale x n d) (by delta g_sscale start0; first | with_reducible exact Eq.refl _ | exact Eq.refl _) (by rw [g_sscale_eq x n d]; exact g_sscale_ok x n d h)
def q_sscale (x n d : Int) : Prop × V := (InI x ∧ InI n ∧ InI d, (.tuple [.int .i64 (evenF (x * n) d).1, .int .i64 (evenF (x * n) d).2]))
noncomputable def sp_sscale : FSpec Tryz.prog where
  f := 35
  run := fun args => match args with
    | [.int .i64 x, .int .i64 n, .int .i64 d] => some (q_sscale x n d)
    | _ => none
  ok := fun args pre r h hp => by
    try dsimp only at h
    split at h
    · rename_i x n d
      have h := Option.some.inj h
      unfold q_sscale at h
      cases h
      exact (sscale_pure x n d hp).weak (.cons (Weak.refl _) (.cons (Weak.refl _) (.cons (Weak.refl _) .nil)))
    · cases h

def ratioF (a b : Int) : Int := if 1 ≤ a ∧ 1 ≤ b ∧ a ≤ 1000000000000 ∧ b ≤ 1000000000000 then 0 else 11
noncomputable def env_rcheck (a b : Int) : Env where
  P := Tryz.prog
  ty := tys0
noncomputable def g_rcheck (a b : Int) : Prop := vc (env_rcheck a b) (codeOf Tryz.f34) (start0 Tryz.f34 [.agg [.int .i64 a, .int .i64 b]]) (exitK (tsOf Tryz.f34) [.int .i64] (ratioF a b, ()))
def g_rcheck_vc (a : Int) (b : Int) : Prop :=
  (decide (mmI false a b < (1 : Int)) = false →
    (decide ((1000000000000 : Int) < mmI true a b) = true → ((11 : Int), ()) = (ratioF a b, ())) ∧ (decide ((1000000000000 : Int) < mmI true a b) = false → ((0 : Int), ()) = (ratioF a b, ()))) ∧
  (decide (mmI false a b < (1 : Int)) = !false → ((11 : Int), ()) = (ratioF a b, ()))

theorem g_rcheck_eq (a b : Int) : g_rcheck a b = g_rcheck_vc a b := by kernel_rfl
theorem g_rcheck_ok (a b : Int) : g_rcheck_vc a b := by
  unfold g_rcheck_vc ratioF mmI
  simp only [decide_eq_true_eq, decide_eq_false_iff_not, if_true, Bool.false_eq_true, if_false, Bool.not_false, Prod.mk.injEq, and_true]
  refine ⟨fun h1 => ⟨fun h2 => ?_, fun h2 => ?_⟩, fun h1 => ?_⟩ <;> split <;> omega
set_option maxRecDepth 20000 in
theorem rcheck_pure (a b : Int) : Pure Tryz.prog 34 [.agg [.int .i64 a, .int .i64 b]] (.int .i64 (ratioF a b)) :=
  Pure.of_g (E := env_rcheck a b) (ts := tsOf Tryz.f34) (ps := [.int .i64]) (r := (ratioF a b, ())) (fn := Tryz.f34) (c := codeOf Tryz.f34) (specs_ok (P := Tryz.prog) rfl [] [] rfl rfl) mixed Tryz.func34 rfl rfl (g := g_rcheck a b) (by delta g_rcheck start0; first | with_reducible exact Eq.refl _ | exact Eq.refl _) (by rw [g_rcheck_eq a b]; exact g_rcheck_ok a b)
def q_rcheck (a b : Int) : Prop × V := (True, (.int .i64 (ratioF a b)))
noncomputable def sp_rcheck : FSpec Tryz.prog where
  f := 34
  run := fun args => match args with
    | [.agg [.int .i64 a, .int .i64 b]] => some (q_rcheck a b)
    | _ => none
  ok := fun args pre r h hp => by
    try dsimp only at h
    split at h
    · rename_i a b
      have h := Option.some.inj h
      unfold q_rcheck at h
      cases h
      exact (rcheck_pure a b).weak (.cons (Weak.refl _) .nil)
    · cases h

end Go.Proofs.YtkifiopfapnpnaaGreatDoor
