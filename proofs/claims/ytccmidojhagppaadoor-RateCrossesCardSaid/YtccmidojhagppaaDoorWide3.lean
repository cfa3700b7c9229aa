/-
  Wide numbers.
-/
import Derived.Test.YtccmidojhagppaaDoorWide2
namespace Go.Proofs.YtccmidojhagppaaDoor
open Go.Vm

theorem wrap_u (n : Int) : IntKind.u64.wrap n = n % 18446744073709551616 := IntKind.wrap_u64 n
theorem wrap_i (n : Int) : IntKind.i64.wrap n = (n + 9223372036854775808) % 18446744073709551616 - 9223372036854775808 := IntKind.wrap_i64 n

noncomputable def env_usize (n : Int) : Env where
  P := Tryd.prog
  ty := tys0
  wrap := fun | 6 => true | 7 => true | _ => false
noncomputable def g_usize (n : Int) : Prop := vc (env_usize n) (codeOf Tryd.f40) (start0 Tryd.f40 [.int .i64 n]) (exitK (tsOf Tryd.f40) [.int .u64] ((n.natAbs : Int), ()))
def g_usize_vc (n : Int) : Prop :=
  (decide (n < (0 : Int)) = true → (IntKind.u64.wrap ((0 : Int) - IntKind.u64.wrap n), ()) = ((↑n.natAbs : Int), ())) ∧
  (decide (n < (0 : Int)) = false → ((0 : Int) ≤ n ∧ n ≤ (18446744073709551615 : Int)) ∧ (n, ()) = ((↑n.natAbs : Int), ()))

theorem g_usize_eq (n : Int) : g_usize n = g_usize_vc n := by kernel_rfl
theorem g_usize_ok (n : Int) (h : InI n) : g_usize_vc n := by
  obtain ⟨h1, h2⟩ := h
  simp only [g_usize_vc, decide_eq_true_eq, decide_eq_false_iff_not, wrap_u]
  refine ⟨fun c => ?_, fun c => ⟨by omega, ?_⟩⟩
  · refine congrArg (·, ()) ?_
    show _ = (n.natAbs : Int)
    omega
  · refine congrArg (·, ()) ?_
    show n = (n.natAbs : Int)
    omega
set_option maxRecDepth 20000 in
theorem usize_pure (n : Int) (h : InI n) : Pure Tryd.prog 40 [.int .i64 n] (.int .u64 (n.natAbs : Int)) :=
  Pure.of_g (E := env_usize n) (ts := tsOf Tryd.f40) (ps := [.int .u64]) (r := ((n.natAbs : Int), ())) (fn := Tryd.f40) (c := codeOf Tryd.f40) (specs_ok (P := Tryd.prog) rfl [] [] rfl rfl) mixed Tryd.func40 rfl rfl (g := g_usize n) (by delta g_usize start0; first | with_reducible exact Eq.refl _ | exact Eq.refl _) (by rw [g_usize_eq n]; exact g_usize_ok n h)
def q_usize (n : Int) : Prop × V := (InI n, (.int .u64 (n.natAbs : Int)))
noncomputable def sp_usize : FSpec Tryd.prog where
  f := 40
  run := fun args => match args with
    | [.int .i64 n] => some (q_usize n)
    | _ => none
  ok := fun args pre r h hp => by
    try dsimp only at h
    split at h
    · rename_i n
      have h := Option.some.inj h
      unfold q_usize at h
      cases h
      exact (usize_pure n hp).weak (.cons (Weak.refl _) .nil)
    · cases h

noncomputable def env_wof (n : Int) : Env where
  P := Tryd.prog
  ty := tys0
  wrap := fun | 6 => true | _ => false
abbrev ann_wof : Ann := { slots := numP 0 [.int .i64, .int .u64], boxes := [], inv := fun _ _ => True }
noncomputable def g_wof (n : Int) : Prop := vc (env_wof n) (codeOf Tryd.f38) (start0 Tryd.f38 [.int .i64 n]) (exitG (env_wof n).P Tryd.f38.results.toList [some 2] (env_wof n).pins ann_wof (hiZ n, loZ n, ()))
def g_wof_vc (n : Int) : Prop :=
  ((0 : Int) ≤ (63 : Int) ∧ (63 : Int) ≤ (↑IntKind.i64.bits : Int)) ∧ True ∧ (n / (↑(9223372036854775808 : Nat) : Int), IntKind.u64.wrap n, ()) = (hiZ n, loZ n, ())

theorem g_wof_eq (n : Int) : g_wof n = g_wof_vc n := by kernel_rfl
theorem g_wof_ok (n : Int) (h : InI n) : g_wof_vc n := by
  obtain ⟨h1, h2⟩ := h
  simp only [g_wof_vc, wrap_u]
  have e : n / ((9223372036854775808 : Nat) : Int) = hiZ n := by
    unfold hiZ M64
    rw [show ((9223372036854775808 : Nat) : Int) = 9223372036854775808 from rfl]
    omega
  refine ⟨⟨by decide, by decide⟩, trivial, ?_⟩
  rw [e]
  rfl
set_option maxRecDepth 20000 in
theorem wof_pure (n : Int) (h : InI n) : Pure Tryd.prog 38 [.int .i64 n] (.agg [.int .i64 (hiZ n), .int .u64 (loZ n)]) :=
  Pure.of_gG (E := env_wof n) (sh := [some 2]) (ann := ann_wof) (x := (hiZ n, loZ n, ())) (fn := Tryd.f38) (c := codeOf Tryd.f38) (specs_ok (P := Tryd.prog) rfl [] [] rfl rfl) mixed Tryd.func38 rfl rfl rfl rfl rfl (g := g_wof n) (by delta g_wof start0; first | with_reducible exact Eq.refl _ | exact Eq.refl _) (by rw [g_wof_eq n]; exact g_wof_ok n h)
def q_wof (n : Int) : Prop × V := (InI n, (.agg [.int .i64 (hiZ n), .int .u64 (loZ n)]))
noncomputable def sp_wof : FSpec Tryd.prog where
  f := 38
  run := fun args => match args with
    | [.int .i64 n] => some (q_wof n)
    | _ => none
  ok := fun args pre r h hp => by
    try dsimp only at h
    split at h
    · rename_i n
      have h := Option.some.inj h
      unfold q_wof at h
      cases h
      exact (wof_pure n hp).weak (.cons (Weak.refl _) .nil)
    · cases h

theorem neg_words {a b : Int} (ha : InI a) (hb : InW b) (h : -9223372036854775808 < a) :
    (0 - b - 0) % M64 = loZ (0 - wz a b) ∧ IntKind.i64.wrap ((0 - IntKind.u64.wrap a - (if 0 < b + 0 then 1 else 0)) % M64) = hiZ (0 - wz a b) := by
  obtain ⟨a1, a2⟩ := ha
  obtain ⟨b1, b2⟩ := hb
  simp only [wrap_u, wrap_i, wz, hiZ, loZ, M64] at *
  split <;> exact ⟨by omega, by omega⟩
noncomputable def env_wflip (a b : Int) : Env where
  P := Tryd.prog
  ty := tys0
  ext := extsOf [sp_sub64]
  wrap := fun | 16 => true | 22 => true | _ => false
abbrev ann_wflip : Ann := { slots := numP 0 [.int .i64, .int .u64], boxes := [], inv := fun _ _ => True }
noncomputable def g_wflip (a b : Int) : Prop := vc (env_wflip a b) (codeOf Tryd.f42) (start0 Tryd.f42 [.agg [.int .i64 a, .int .u64 b]]) (exitG (env_wflip a b).P Tryd.f42.results.toList [some 2] (env_wflip a b).pins ann_wflip (hiZ (0 - wz a b), loZ (0 - wz a b), ()))
def g_wflip_vc (a : Int) (b : Int) : Prop :=
  (InW (0 : Int) ∧ InW b ∧ (0 : Int) ≤ (0 : Int) ∧ (0 : Int) ≤ (1 : Int)) ∧
  (InW (0 : Int) ∧ InW (IntKind.u64.wrap a) ∧ ((0 : Int) ≤ if (0 : Int) < b + (0 : Int) then (1 : Int) else (0 : Int)) ∧ (if (0 : Int) < b + (0 : Int) then (1 : Int) else (0 : Int)) ≤ (1 : Int)) ∧
    True ∧
      (IntKind.i64.wrap (((0 : Int) - IntKind.u64.wrap a - if (0 : Int) < b + (0 : Int) then (1 : Int) else (0 : Int)) % M64), ((0 : Int) - b - (0 : Int)) % M64, ()) =
        (hiZ ((0 : Int) - wz a b), loZ ((0 : Int) - wz a b), ())

theorem g_wflip_eq (a b : Int) : g_wflip a b = g_wflip_vc a b := by kernel_rfl
theorem in0 : InW 0 := ⟨by decide, by decide⟩
theorem wrap_w' (n : Int) : InW (IntKind.u64.wrap n) := by rw [IntKind.wrap_u64]; exact mod_w n
theorem g_wflip_ok (a b : Int) (h : InI a ∧ InW b ∧ -9223372036854775808 < a) : g_wflip_vc a b := by
  obtain ⟨ha, hb, h⟩ := h
  obtain ⟨e1, e2⟩ := neg_words ha hb h
  unfold g_wflip_vc
  refine ⟨⟨in0, hb, by omega, by omega⟩, ⟨in0, wrap_w' _, ?_, ?_⟩, trivial, ?_⟩
  · split <;> omega
  · split <;> omega
  · rw [← e1, ← e2]
set_option maxRecDepth 20000 in
theorem wflip_pure (a b : Int) (h : InI a ∧ InW b ∧ -9223372036854775808 < a) : Pure Tryd.prog 42 [.agg [.int .i64 a, .int .u64 b]] (.agg [.int .i64 (hiZ (0 - wz a b)), .int .u64 (loZ (0 - wz a b))]) :=
  Pure.of_gG (E := env_wflip a b) (sh := [some 2]) (ann := ann_wflip) (x := (hiZ (0 - wz a b), loZ (0 - wz a b), ())) (fn := Tryd.f42) (c := codeOf Tryd.f42) (specs_okx (P := Tryd.prog) rfl [] [] [sp_sub64] rfl rfl rfl) mixed Tryd.func42 rfl rfl rfl rfl rfl (g := g_wflip a b) (by delta g_wflip start0; first | with_reducible exact Eq.refl _ | exact Eq.refl _) (by rw [g_wflip_eq a b]; exact g_wflip_ok a b h)
def q_wflip (a b : Int) : Prop × V := (InI a ∧ InW b ∧ -9223372036854775808 < a, (.agg [.int .i64 (hiZ (0 - wz a b)), .int .u64 (loZ (0 - wz a b))]))
noncomputable def sp_wflip : FSpec Tryd.prog where
  f := 42
  run := fun args => match args with
    | [.agg [.int .i64 a, .int .u64 b]] => some (q_wflip a b)
    | _ => none
  ok := fun args pre r h hp => by
    try dsimp only at h
    split at h
    · rename_i a b
      have h := Option.some.inj h
      unfold q_wflip at h
      cases h
      exact (wflip_pure a b hp).weak (.cons (Weak.refl _) .nil)
    · cases h

noncomputable def env_same (a b : Int) : Env where
  P := Tryd.prog
  ty := tys0
abbrev ann_same : Ann := { slots := numP 0 [.int .i64, .int .u64], boxes := [], inv := fun _ _ => True }
noncomputable def g_same (a b : Int) : Prop := vc (env_same a b) (codeOf Tryd.f41) (start0 Tryd.f41 [.agg [.int .i64 a, .int .u64 b]]) (exitG (env_same a b).P Tryd.f41.results.toList [some 2] (env_same a b).pins ann_same (a, b, ()))
def g_same_vc (a : Int) (b : Int) : Prop :=
  True ∧ (a, b, ()) = (a, b, ())

theorem g_same_eq (a b : Int) : g_same a b = g_same_vc a b := by kernel_rfl
theorem g_same_ok (a b : Int) : g_same_vc a b := by
  unfold g_same_vc
  exact ⟨trivial, rfl⟩
set_option maxRecDepth 20000 in
theorem same_pure (a b : Int) : Pure Tryd.prog 41 [.agg [.int .i64 a, .int .u64 b]] (.agg [.int .i64 a, .int .u64 b]) :=
  Pure.of_gG (E := env_same a b) (sh := [some 2]) (ann := ann_same) (x := (a, b, ())) (fn := Tryd.f41) (c := codeOf Tryd.f41) (specs_ok (P := Tryd.prog) rfl [] [] rfl rfl) mixed Tryd.func41 rfl rfl rfl rfl rfl (g := g_same a b) (by delta g_same start0; first | with_reducible exact Eq.refl _ | exact Eq.refl _) (by rw [g_same_eq a b]; exact g_same_ok a b)
def q_same (a b : Int) : Prop × V := (True, (.agg [.int .i64 a, .int .u64 b]))
noncomputable def sp_same : FSpec Tryd.prog where
  f := 41
  run := fun args => match args with
    | [.agg [.int .i64 a, .int .u64 b]] => some (q_same a b)
    | _ => none
  ok := fun args pre r h hp => by
    try dsimp only at h
    split at h
    · rename_i a b
      have h := Option.some.inj h
      unfold q_same at h
      cases h
      exact (same_pure a b).weak (.cons (Weak.refl _) .nil)
    · cases h

noncomputable def env_wmul (a b : Int) : Env where
  P := Tryd.prog
  ty := tys0
  specs := specsOf [sp_usize, sp_mul64, sp_same, sp_wflip]
abbrev ann_wmul : Ann := { slots := numP 0 [.int .i64, .int .u64], boxes := [], inv := fun _ _ => True }
noncomputable def g_wmul (a b : Int) : Prop := vc (env_wmul a b) (codeOf Tryd.f34) (start0 Tryd.f34 [.int .i64 a, .int .i64 b]) (exitG (env_wmul a b).P Tryd.f34.results.toList [some 2] (env_wmul a b).pins ann_wmul (hiZ (a * b), loZ (a * b), ()))
def g_wmul_vc (a : Int) (b : Int) : Prop :=
  InI a ∧
  InI b ∧
    (InW (↑a.natAbs : Int) ∧ InW (↑b.natAbs : Int)) ∧
      ((!decide (a < (0 : Int)) == decide (b < (0 : Int))) = true →
          ((-9223372036854775808 : Int) ≤ hiZ ((↑a.natAbs : Int) * (↑b.natAbs : Int)) ∧ hiZ ((↑a.natAbs : Int) * (↑b.natAbs : Int)) ≤ (9223372036854775807 : Int)) ∧
            (InI (hiZ ((↑a.natAbs : Int) * (↑b.natAbs : Int))) ∧ InW (loZ ((↑a.natAbs : Int) * (↑b.natAbs : Int))) ∧ (-9223372036854775808 : Int) < hiZ ((↑a.natAbs : Int) * (↑b.natAbs : Int))) ∧
              True ∧
                (hiZ ((0 : Int) - wz (hiZ ((↑a.natAbs : Int) * (↑b.natAbs : Int))) (loZ ((↑a.natAbs : Int) * (↑b.natAbs : Int)))),
                    loZ ((0 : Int) - wz (hiZ ((↑a.natAbs : Int) * (↑b.natAbs : Int))) (loZ ((↑a.natAbs : Int) * (↑b.natAbs : Int)))), ()) =
                  (hiZ (a * b), loZ (a * b), ())) ∧
        ((!decide (a < (0 : Int)) == decide (b < (0 : Int))) = false →
          ((-9223372036854775808 : Int) ≤ hiZ ((↑a.natAbs : Int) * (↑b.natAbs : Int)) ∧ hiZ ((↑a.natAbs : Int) * (↑b.natAbs : Int)) ≤ (9223372036854775807 : Int)) ∧
            True ∧ True ∧ (hiZ ((↑a.natAbs : Int) * (↑b.natAbs : Int)), loZ ((↑a.natAbs : Int) * (↑b.natAbs : Int)), ()) = (hiZ (a * b), loZ (a * b), ()))

theorem g_wmul_eq (a b : Int) : g_wmul a b = g_wmul_vc a b := by kernel_rfl
theorem abs_mul {a b : Int} (ha : InI a) (hb : InI b) : ((a.natAbs : Int) * (b.natAbs : Int) ≤ 85070591730234615865843651857942052864) ∧ 0 ≤ (a.natAbs : Int) * (b.natAbs : Int) := by
  obtain ⟨a1, a2⟩ := ha
  obtain ⟨b1, b2⟩ := hb
  refine ⟨?_, Int.mul_nonneg (by omega) (by omega)⟩
  have : (a.natAbs : Int) * (b.natAbs : Int) ≤ 9223372036854775808 * 9223372036854775808 := Int.mul_le_mul (by omega) (by omega) (by omega) (by omega)
  omega
theorem g_wmul_ok (a b : Int) (h : InI a ∧ InI b) : g_wmul_vc a b := by
  obtain ⟨ha, hb⟩ := h
  obtain ⟨m1, m2⟩ := abs_mul ha hb
  have wa : InW (a.natAbs : Int) := by unfold InI at ha; unfold InW M64; omega
  have wb : InW (b.natAbs : Int) := by unfold InI at hb; unfold InW M64; omega
  have hh : 0 ≤ hiZ ((a.natAbs : Int) * (b.natAbs : Int)) ∧ hiZ ((a.natAbs : Int) * (b.natAbs : Int)) ≤ 4611686018427387904 := by
    unfold hiZ M64
    omega
  unfold g_wmul_vc
  simp only [wz_hilo]
  have cases4 : ((decide (a < 0) == decide (b < 0)) = true → (a.natAbs : Int) * (b.natAbs : Int) = a * b) ∧ ((decide (a < 0) == decide (b < 0)) = false → 0 - (a.natAbs : Int) * (b.natAbs : Int) = a * b) := by
    by_cases c : a < 0 <;> by_cases d : b < 0
    · rw [decide_eq_true c, decide_eq_true d]
      refine ⟨fun _ => ?_, fun k => (by cases k)⟩
      rw [show (a.natAbs : Int) = -a by omega, show (b.natAbs : Int) = -b by omega, Int.neg_mul_neg]
    · rw [decide_eq_true c, decide_eq_false d]
      refine ⟨fun k => (by cases k), fun _ => ?_⟩
      rw [show (a.natAbs : Int) = -a by omega, show (b.natAbs : Int) = b by omega, Int.neg_mul]
      omega
    · rw [decide_eq_false c, decide_eq_true d]
      refine ⟨fun k => (by cases k), fun _ => ?_⟩
      rw [show (a.natAbs : Int) = a by omega, show (b.natAbs : Int) = -b by omega, Int.mul_neg]
      omega
    · rw [decide_eq_false c, decide_eq_false d]
      refine ⟨fun _ => ?_, fun k => (by cases k)⟩
      rw [show (a.natAbs : Int) = a by omega, show (b.natAbs : Int) = b by omega]
  refine ⟨ha, hb, ⟨wa, wb⟩, fun c => ⟨by omega, ⟨by unfold InI; omega, lo_w _, by omega⟩, trivial, ?_⟩, fun c => ⟨by omega, trivial, trivial, ?_⟩⟩
  · rw [cases4.2 (by simpa using c)]
  · rw [cases4.1 (by simpa using c)]
set_option maxRecDepth 20000 in
theorem wmul_pure (a b : Int) (h : InI a ∧ InI b) : Pure Tryd.prog 34 [.int .i64 a, .int .i64 b] (.agg [.int .i64 (hiZ (a * b)), .int .u64 (loZ (a * b))]) :=
  Pure.of_gG (E := env_wmul a b) (sh := [some 2]) (ann := ann_wmul) (x := (hiZ (a * b), loZ (a * b), ())) (fn := Tryd.f34) (c := codeOf Tryd.f34) (specs_ok (P := Tryd.prog) rfl [sp_usize, sp_mul64, sp_same, sp_wflip] [] rfl rfl) mixed Tryd.func34 rfl rfl rfl rfl rfl (g := g_wmul a b) (by delta g_wmul start0; first | with_reducible exact Eq.refl _ | exact Eq.refl _) (by rw [g_wmul_eq a b]; exact g_wmul_ok a b h)
def q_wmul (a b : Int) : Prop × V := (InI a ∧ InI b, (.agg [.int .i64 (hiZ (a * b)), .int .u64 (loZ (a * b))]))
noncomputable def sp_wmul : FSpec Tryd.prog where
  f := 34
  run := fun args => match args with
    | [.int .i64 a, .int .i64 b] => some (q_wmul a b)
    | _ => none
  ok := fun args pre r h hp => by
    try dsimp only at h
    split at h
    · rename_i a b
      have h := Option.some.inj h
      unfold q_wmul at h
      cases h
      exact (wmul_pure a b hp).weak (.cons (Weak.refl _) (.cons (Weak.refl _) .nil))
    · cases h

theorem add_words {a b c d : Int} (ha : InI a) (hb : InW b) (hc : InI c) (hd : InW d) (hz : InZ (wz a b + wz c d)) :
    (b + d + 0) % M64 = loZ (wz a b + wz c d) ∧ IntKind.i64.wrap ((IntKind.u64.wrap a + IntKind.u64.wrap c + (b + d + 0) / M64) % M64) = hiZ (wz a b + wz c d) ∧
      ((a < 0 ↔ c < 0) → ((hiZ (wz a b + wz c d)) < 0 ↔ a < 0)) := by
  obtain ⟨a1, a2⟩ := ha
  obtain ⟨b1, b2⟩ := hb
  obtain ⟨c1, c2⟩ := hc
  obtain ⟨d1, d2⟩ := hd
  obtain ⟨z1, z2⟩ := hz
  simp only [wrap_u, wrap_i, wz, hiZ, loZ, M64] at *
  exact ⟨by omega, by omega, by omega⟩
noncomputable def env_wint (a b : Int) : Env where
  P := Tryd.prog
  ty := tys0
  specs := specsOf [sp_wof]
  wrap := fun | 7 => true | _ => false
  frz := fun | 9 => true | _ => false
noncomputable def g_wint (a b : Int) : Prop := vc (env_wint a b) (codeOf Tryd.f33) (start0 Tryd.f33 [.agg [.int .i64 a, .int .u64 b]]) (exitK (tsOf Tryd.f33) [.int .i64, .int .i64] (intB (wz a b), faultB (wz a b), ()))
def g_wint_vc (a : Int) (b : Int) : Prop :=
  InI (IntKind.i64.wrap b) ∧
  ((decide (hiZ (IntKind.i64.wrap b) = a) && (decide (loZ (IntKind.i64.wrap b) = b) && true)) = true → (IntKind.i64.wrap b, (0 : Int), ()) = (intB (wz a b), faultB (wz a b), ())) ∧
    ((decide (hiZ (IntKind.i64.wrap b) = a) && (decide (loZ (IntKind.i64.wrap b) = b) && true)) = false → ((0 : Int), (10 : Int), ()) = (intB (wz a b), faultB (wz a b), ()))

theorem g_wint_eq (a b : Int) : g_wint a b = g_wint_vc a b := by kernel_rfl
theorem g_wint_ok (a b : Int) (h : InI a ∧ InW b) : g_wint_vc a b := by
  obtain ⟨ha, hb⟩ := h
  have key : (hiZ (IntKind.i64.wrap b) = a ∧ loZ (IntKind.i64.wrap b) = b) ↔ (-9223372036854775808 ≤ wz a b ∧ wz a b ≤ 9223372036854775807) := by
    obtain ⟨a1, a2⟩ := ha
    obtain ⟨b1, b2⟩ := hb
    simp only [wrap_i, wz, hiZ, loZ, M64] at *
    omega
  have val : (-9223372036854775808 ≤ wz a b ∧ wz a b ≤ 9223372036854775807) → IntKind.i64.wrap b = wz a b := by
    intro k
    obtain ⟨a1, a2⟩ := ha
    obtain ⟨b1, b2⟩ := hb
    simp only [wrap_i, wz, M64] at *
    omega
  unfold g_wint_vc
  simp only [Bool.and_true, Bool.and_eq_true, decide_eq_true_eq, Bool.and_eq_false_iff, decide_eq_false_iff_not]
  refine ⟨?_, fun k => ?_, fun k => ?_⟩
  · unfold InI
    rw [wrap_i]
    omega
  · have k' := key.1 k
    rw [val k']
    simp only [intB, faultB, okB, if_pos k', decide_eq_true k'.1, decide_eq_true k'.2, Bool.and_true, if_true]
  · have k' : ¬ (-9223372036854775808 ≤ wz a b ∧ wz a b ≤ 9223372036854775807) := fun c => by
      have := key.2 c
      rcases k with k | k
      · exact k this.1
      · exact k this.2
    have f : okB (wz a b) = false := by
      unfold okB
      rw [← Bool.decide_and]
      exact decide_eq_false k'
    simp only [intB, faultB, f, if_neg k', Bool.false_eq_true, if_false]
set_option maxRecDepth 20000 in
theorem wint_pure (a b : Int) (h : InI a ∧ InW b) : Pure Tryd.prog 33 [.agg [.int .i64 a, .int .u64 b]] (.tuple [.int .i64 (intB (wz a b)), .int .i64 (faultB (wz a b))]) :=
  Pure.of_g (E := env_wint a b) (ts := tsOf Tryd.f33) (ps := [.int .i64, .int .i64]) (r := (intB (wz a b), faultB (wz a b), ())) (fn := Tryd.f33) (c := codeOf Tryd.f33) (specs_ok (P := Tryd.prog) rfl [sp_wof] [] rfl rfl) mixed Tryd.func33 rfl rfl (g := g_wint a b) (by delta g_wint start0; first | with_reducible exact Eq.refl _ | exact Eq.refl _) (by rw [g_wint_eq a b]; exact g_wint_ok a b h)
def q_wint (a b : Int) : Prop × V := (InI a ∧ InW b, (.tuple [.int .i64 (intB (wz a b)), .int .i64 (faultB (wz a b))]))
noncomputable def sp_wint : FSpec Tryd.prog where
  f := 33
  run := fun args => match args with
    | [.agg [.int .i64 a, .int .u64 b]] => some (q_wint a b)
    | _ => none
  ok := fun args pre r h hp => by
    try dsimp only at h
    split at h
    · rename_i a b
      have h := Option.some.inj h
      unfold q_wint at h
      cases h
      exact (wint_pure a b hp).weak (.cons (Weak.refl _) .nil)
    · cases h

end Go.Proofs.YtccmidojhagppaaDoor
