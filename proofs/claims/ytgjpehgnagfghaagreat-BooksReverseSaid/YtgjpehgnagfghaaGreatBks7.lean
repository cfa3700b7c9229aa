/-
  All lines, as the document has them; books that are new, and some.
-/
import Derived.Test.YtgjpehgnagfghaaGreatBks6
namespace Go.Proofs.YtgjpehgnagfghaaGreat.Bks
open Go.Vm
abbrev Po := Int × Int × Int × Ln
def lnGo (p i : Int) : List Ln → Nat → List Po
  | [], _ => []
  | x :: r, k => (((k + 1 : Nat) : Int), i + 1, p, x) :: lnGo p i r (k + 1)
def poGo : List En → Int → Nat → List Po
  | [], _, _ => []
  | x :: r, i, k => lnGo x.1 i x.2.2 k ++ poGo r (i + 1) (k + x.2.2.length)
def linesF (N : List En) : List Po := poGo N 0 0
theorem ln_next {p i k : Int} {L : List Ln} {n : Nat} {x : Ln} (h0 : 0 ≤ k) (hx : L[k.toNat]? = some x) : lnGo p i (L.drop k.toNat) n = (((n + 1 : Nat) : Int), i + 1, p, x) :: lnGo p i (L.drop (k + 1).toNat) (n + 1) := by
  obtain ⟨h1, h2⟩ := List.getElem?_eq_some_iff.1 hx
  rw [List.drop_eq_getElem_cons h1, h2, show (k + 1).toNat = k.toNat + 1 by omega]
  rfl
theorem ln_end {p i k : Int} {L : List Ln} {n : Nat} (h : ¬ k < (L.length : Int)) : lnGo p i (L.drop k.toNat) n = [] := by
  rw [List.drop_of_length_le (by omega)]
  rfl
theorem po_next {N : List En} {i : Int} {n : Nat} {x : En} (h0 : 0 ≤ i) (hx : N[i.toNat]? = some x) : poGo (N.drop i.toNat) i n = lnGo x.1 i x.2.2 n ++ poGo (N.drop (i + 1).toNat) (i + 1) (n + x.2.2.length) := by
  obtain ⟨h1, h2⟩ := List.getElem?_eq_some_iff.1 hx
  rw [List.drop_eq_getElem_cons h1, h2, show (i + 1).toNat = i.toNat + 1 by omega]
  rfl
theorem po_end {N : List En} {i : Int} {n : Nat} (h : ¬ i < (N.length : Int)) : poGo (N.drop i.toNat) i n = [] := by
  rw [List.drop_of_length_le (by omega)]
  rfl
noncomputable def env_rlines (N : List En) : Env where
  P := Tryz.prog
  ty := tys0
  heads := fun | 3 => some { slots := [(4, .int .i64), (3, .slc 9000 PoT)], boxes := [], inv := fun _ (x : Int × List Po × Unit) => 0 ≤ x.1 ∧ x.1 ≤ N.length ∧ (x.2.1.length : Int) ≤ 1000 * x.1 ∧ linesF N = x.2.1 ++ poGo (N.drop x.1.toNat) x.1 x.2.1.length, measure := fun _ (x : Int × List Po × Unit) => (N.length - x.1).toNat } | 6 => some { slots := [(4, .int .i64), (5, .int .i64), (3, .slc 9000 PoT)], boxes := [], inv := fun st (x : Int × Int × List Po × Unit) => ∃ y, N[x.1.toNat]? = some y ∧ x.1 = st.int 4 ∧ 0 ≤ x.1 ∧ x.1 < N.length ∧ 0 ≤ x.2.1 ∧ x.2.1 ≤ y.2.2.length ∧ (x.2.2.1.length : Int) ≤ 1000 * x.1 + x.2.1 ∧ linesF N = x.2.2.1 ++ (lnGo y.1 x.1 (y.2.2.drop x.2.1.toNat) x.2.2.1.length ++ poGo (N.drop (x.1 + 1).toNat) (x.1 + 1) (x.2.2.1.length + (y.2.2.length - x.2.1.toNat))), measure := fun _ (x : Int × Int × List Po × Unit) => 1000 - x.2.1.toNat } | _ => none
def g_rlines_vc (N : List En) : Prop :=
  (True ∧ (0 : Int) ≤ (0 : Int) ∧ (0 : Int) ≤ (↑N.length : Int) ∧ (↑(0 : Nat) : Int) ≤ (1000 : Int) * (0 : Int) ∧ linesF N = poGo (List.drop (Int.toNat (0 : Int)) N) (0 : Int) (0 : Nat)) ∧ ∀ (x : Int × List (Int × Int × Int × Int × Int × Int × Int) × Unit), (0 : Int) ≤ x.1 ∧ x.1 ≤ (↑N.length : Int) ∧ (↑x.2.1.length : Int) ≤ (1000 : Int) * x.1 ∧ linesF N = x.2.1 ++ poGo (List.drop x.1.toNat N) x.1 x.2.1.length → (decide (x.1 < (↑N.length : Int)) = true → (True ∧ ∃ y, N[x.1.toNat]? = some y ∧ x.1 = x.1 ∧ (0 : Int) ≤ x.1 ∧ x.1 < (↑N.length : Int) ∧ (0 : Int) ≤ (0 : Int) ∧ (0 : Int) ≤ (↑y.2.2.length : Int) ∧ (↑x.2.1.length : Int) ≤ (1000 : Int) * x.1 + (0 : Int) ∧ linesF N = x.2.1 ++ (lnGo y.1 x.1 (List.drop (Int.toNat (0 : Int)) y.2.2) x.2.1.length ++ poGo (List.drop (x.1 + (1 : Int)).toNat N) (x.1 + (1 : Int)) (x.2.1.length + (y.2.2.length - Int.toNat (0 : Int))))) ∧ ∀ (x_1 : Int × Int × List (Int × Int × Int × Int × Int × Int × Int) × Unit), (∃ y, N[x_1.1.toNat]? = some y ∧ x_1.1 = x.1 ∧ (0 : Int) ≤ x_1.1 ∧ x_1.1 < (↑N.length : Int) ∧ (0 : Int) ≤ x_1.2.1 ∧ x_1.2.1 ≤ (↑y.2.2.length : Int) ∧ (↑x_1.2.2.1.length : Int) ≤ (1000 : Int) * x_1.1 + x_1.2.1 ∧ linesF N = x_1.2.2.1 ++ (lnGo y.1 x_1.1 (List.drop x_1.2.1.toNat y.2.2) x_1.2.2.1.length ++ poGo (List.drop (x_1.1 + (1 : Int)).toNat N) (x_1.1 + (1 : Int)) (x_1.2.2.1.length + (y.2.2.length - x_1.2.1.toNat)))) → ((0 : Int) ≤ x_1.1 ∧ x_1.1 < (↑N.length : Int)) ∧ ∀ (x_2 : Int × Int × List (Int × Int × Int × Int)), N[x_1.1.toNat]? = some x_2 → (decide (x_1.2.1 < (↑x_2.2.2.length : Int)) = true → ((-9223372036854775808 : Int) ≤ (↑x_1.2.2.1.length : Int) + (1 : Int) ∧ (↑x_1.2.2.1.length : Int) + (1 : Int) ≤ (9223372036854775807 : Int)) ∧ ((-9223372036854775808 : Int) ≤ x_1.1 + (1 : Int) ∧ x_1.1 + (1 : Int) ≤ (9223372036854775807 : Int)) ∧ ((0 : Int) ≤ x_1.1 ∧ x_1.1 < (↑N.length : Int)) ∧ ∀ (x_3 : Int × Int × List (Int × Int × Int × Int)), N[x_1.1.toNat]? = some x_3 → ((0 : Int) ≤ x_1.1 ∧ x_1.1 < (↑N.length : Int)) ∧ ∀ (x_4 : Int × Int × List (Int × Int × Int × Int)), N[x_1.1.toNat]? = some x_4 → ((0 : Int) ≤ x_1.2.1 ∧ x_1.2.1 < (↑x_4.2.2.length : Int)) ∧ ∀ (x_5 : Int × Int × Int × Int), x_4.2.2[x_1.2.1.toNat]? = some x_5 → ((x_1.2.2.1.length + (1 : Nat)) * (56 : Nat) ≤ (140737488355328 : Nat) ∧ x_1.2.2.1.length + (1 : Nat) ≤ (4611686018427387904 : Nat)) ∧ ((-9223372036854775808 : Int) ≤ x_1.2.1 + (1 : Int) ∧ x_1.2.1 + (1 : Int) ≤ (9223372036854775807 : Int)) ∧ True ∧ (∃ y, N[x_1.1.toNat]? = some y ∧ x_1.1 = x.1 ∧ (0 : Int) ≤ x_1.1 ∧ x_1.1 < (↑N.length : Int) ∧ (0 : Int) ≤ x_1.2.1 + (1 : Int) ∧ x_1.2.1 + (1 : Int) ≤ (↑y.2.2.length : Int) ∧ (↑(x_1.2.2.1 ++ [((↑x_1.2.2.1.length : Int) + (1 : Int), x_1.1 + (1 : Int), x_3.1, x_5.1, x_5.2.1, x_5.2.2.1, x_5.2.2.2)]).length : Int) ≤ (1000 : Int) * x_1.1 + (x_1.2.1 + (1 : Int)) ∧ linesF N = x_1.2.2.1 ++ [((↑x_1.2.2.1.length : Int) + (1 : Int), x_1.1 + (1 : Int), x_3.1, x_5.1, x_5.2.1, x_5.2.2.1, x_5.2.2.2)] ++ (lnGo y.1 x_1.1 (List.drop (x_1.2.1 + (1 : Int)).toNat y.2.2) (x_1.2.2.1 ++ [((↑x_1.2.2.1.length : Int) + (1 : Int), x_1.1 + (1 : Int), x_3.1, x_5.1, x_5.2.1, x_5.2.2.1, x_5.2.2.2)]).length ++ poGo (List.drop (x_1.1 + (1 : Int)).toNat N) (x_1.1 + (1 : Int)) ((x_1.2.2.1 ++ [((↑x_1.2.2.1.length : Int) + (1 : Int), x_1.1 + (1 : Int), x_3.1, x_5.1, x_5.2.1, x_5.2.2.1, x_5.2.2.2)]).length + (y.2.2.length - (x_1.2.1 + (1 : Int)).toNat)))) ∧ (1000 : Nat) - (x_1.2.1 + (1 : Int)).toNat < (1000 : Nat) - x_1.2.1.toNat) ∧ (decide (x_1.2.1 < (↑x_2.2.2.length : Int)) = false → ((-9223372036854775808 : Int) ≤ x_1.1 + (1 : Int) ∧ x_1.1 + (1 : Int) ≤ (9223372036854775807 : Int)) ∧ True ∧ ((0 : Int) ≤ x_1.1 + (1 : Int) ∧ x_1.1 + (1 : Int) ≤ (↑N.length : Int) ∧ (↑x_1.2.2.1.length : Int) ≤ (1000 : Int) * (x_1.1 + (1 : Int)) ∧ linesF N = x_1.2.2.1 ++ poGo (List.drop (x_1.1 + (1 : Int)).toNat N) (x_1.1 + (1 : Int)) x_1.2.2.1.length) ∧ ((↑N.length : Int) - (x_1.1 + (1 : Int))).toNat < ((↑N.length : Int) - x.1).toNat)) ∧ (decide (x.1 < (↑N.length : Int)) = false → (x.2.1, ()) = (linesF N, ()))
theorem g_rlines_eq (N : List En) : Cond (env_rlines N) Tryz.f43 [.list .tmp EnT N] [.slc 0 PoT] (linesF N, ()) = g_rlines_vc N := by kernel_rfl
theorem g_rlines_ok (N : List En) (h : N.length ≤ 1000000 ∧ InE N) : g_rlines_vc N := by
  obtain ⟨h, hi⟩ := h
  unfold g_rlines_vc
  simp only [decide_eq_true_eq, decide_eq_false_iff_not]
  refine ⟨⟨trivial, by omega, by omega, by simp, rfl⟩, ?_⟩
  rintro ⟨i, out, ⟨⟩⟩ ⟨h0, h1, h2, hb⟩
  dsimp only at h0 h1 h2 hb ⊢
  refine ⟨fun c => ⟨⟨trivial, ?_⟩, ?_⟩, fun c => ?_⟩
  · have hx : N[i.toNat]? = some N[i.toNat] := List.getElem?_eq_getElem (by omega)
    exact ⟨_, hx, trivial, h0, c, by omega, by omega, by omega, by rw [hb, po_next h0 hx]; rfl⟩
  · clear hb h0 h1 h2 c
    rintro ⟨j, k, ys, ⟨⟩⟩ ⟨y, hy, e, j0, j1, k0, k1, k2, hb⟩
    dsimp only at hy e j0 j1 k0 k1 k2 hb ⊢
    have hly := (ine_at hi hy).2
    refine ⟨⟨j0, j1⟩, fun x hx => ?_⟩
    rw [hy] at hx; cases hx
    refine ⟨fun c => ⟨by omega, by omega, ⟨j0, j1⟩, fun z hz => ?_⟩, fun c => ?_⟩
    · rw [hy] at hz; cases hz
      refine ⟨⟨j0, j1⟩, fun z hz => ?_⟩
      rw [hy] at hz; cases hz
      refine ⟨⟨k0, c⟩, fun z hz => ⟨⟨by omega, by omega⟩, by omega, trivial, ⟨y, hy, e, j0, j1, by omega, by omega, by simp only [List.length_append, List.length_singleton]; omega, ?_⟩, by omega⟩⟩
      rw [hb, ln_next k0 hz, List.append_assoc, List.length_append, List.length_singleton, show ys.length + 1 + (y.2.2.length - (k + 1).toNat) = ys.length + (y.2.2.length - k.toNat) by omega]
      rfl
    · refine ⟨by omega, trivial, ⟨by omega, by omega, by omega, ?_⟩, by omega⟩
      rw [hb, ln_end c, List.nil_append, show ys.length + (y.2.2.length - k.toNat) = ys.length by omega]
  · rw [hb, po_end c, List.append_nil]
set_option maxRecDepth 20000
theorem rlines_pure (N : List En) (h : N.length ≤ 1000000 ∧ InE N) : Pure Tryz.prog 43 [.list .tmp EnT N] (.olist PoT (linesF N)) :=
  by have k := Pure.of_cond (g_rlines_eq N) (g_rlines_ok N h) (specs_ok rfl [] [] rfl rfl) mixed Tryz.func43; exact k
noncomputable def q_rlines (N : List En) : Prop × V := (N.length ≤ 1000000 ∧ InE N, (.olist PoT (linesF N)))
noncomputable def sp_rlines : FSpec Tryz.prog where
 f := 43
 run := fun
  | [v0] => (asL EnT v0 : Option (List En)).bind fun N => some (q_rlines N)
  | _ => none
 ok := fun args pre r h hp => by
  split at h
  · rename_i v0
    obtain ⟨N, h0, h⟩ := Option.bind_eq_some_iff.1 h
    exact of_q h hp fun h => (rlines_pure N h).weak (.cons (asL_weak h0) .nil)
  · cases h
def accP (a : Int) (x : Po) : Bool := decide (x.2.2.2.2.1 = a)
def usedF (N : List En) (a : Int) : Bool := (linesF N).any (accP a)
theorem ln_len (p i : Int) : ∀ (L : List Ln) (k : Nat), (lnGo p i L k).length = L.length
  | [], _ => rfl
  | x :: r, k => by rw [lnGo, List.length_cons, ln_len p i r, List.length_cons]
theorem po_len : ∀ (N : List En) (i : Int) (k : Nat), InE N → (poGo N i k).length ≤ 1000 * N.length
  | [], _, _, _ => by simp [poGo]
  | x :: r, i, k, h => by
    have h1 := (h x (by simp)).2
    have h2 := po_len r (i + 1) (k + x.2.2.length) (fun y hy => h y (by simp [hy]))
    rw [poGo, List.length_append, ln_len, List.length_cons]
    omega
theorem lines_len {N : List En} (h : InE N) : (linesF N).length ≤ 1000 * N.length := po_len N 0 0 h
noncomputable def env_rused (E : List Int) (A : List Acc.AcD) (S : List Ln) (R : List Rts.Rt) (K : List Lck.Lk) (N : List En) (a : Int) : Env where
  P := Tryz.prog
  ty := tys0
  specs := specsOf [sp_rlines]
  frz := fun | 9 => true | _ => false
  heads := fun | 3 => some { slots := [(6, .int .i64)], boxes := [], keep := [2], inv := fun _ (x : Int × Unit) => 0 ≤ x.1 ∧ x.1 ≤ (linesF N).length ∧ (linesF N).any (accP a) = ((linesF N).drop x.1.toNat).any (accP a), measure := fun _ (x : Int × Unit) => ((linesF N).length - x.1).toNat } | _ => none
abbrev bx_rused_1 (E : List Int) (A : List Acc.AcD) (S : List Ln) (R : List Rts.Rt) (K : List Lck.Lk) (N : List En) : _root_.Go.Vm.Obj := Obj.box [V.list LK.tmp I E, V.list LK.tmp AcT A, V.list LK.tmp LnT S, V.list LK.tmp RTy R, V.list LK.tmp Vl K, V.list LK.tmp EnT N]
def g_rused_vc (E : List Int) (A : List Acc.AcD) (S : List Ln) (R : List Rts.Rt) (K : List Lck.Lk) (N : List En) (a : Int) : Prop :=
  (N.length ≤ (1000000 : Nat) ∧ InE N) ∧ ((some (bx_rused_1 E A S R K N) = some (bx_rused_1 E A S R K N) ∧ True) ∧ (0 : Int) ≤ (0 : Int) ∧ (0 : Int) ≤ (↑(linesF N).length : Int) ∧ (linesF N).any (accP a) = (List.drop (Int.toNat (0 : Int)) (linesF N)).any (accP a)) ∧ ∀ (x : Int × Unit), (0 : Int) ≤ x.1 ∧ x.1 ≤ (↑(linesF N).length : Int) ∧ (linesF N).any (accP a) = (List.drop x.1.toNat (linesF N)).any (accP a) → (decide (x.1 < (↑(linesF N).length : Int)) = true → ((0 : Int) ≤ x.1 ∧ x.1 < (↑(linesF N).length : Int)) ∧ ∀ (x_1 : Int × Int × Int × Int × Int × Int × Int), (linesF N)[x.1.toNat]? = some x_1 → (decide (x_1.2.2.2.2.1 = a) = true → (true, ()) = (usedF N a, ())) ∧ (decide (x_1.2.2.2.2.1 = a) = false → ((-9223372036854775808 : Int) ≤ x.1 + (1 : Int) ∧ x.1 + (1 : Int) ≤ (9223372036854775807 : Int)) ∧ (some (bx_rused_1 E A S R K N) = some (bx_rused_1 E A S R K N) ∧ True) ∧ ((0 : Int) ≤ x.1 + (1 : Int) ∧ x.1 + (1 : Int) ≤ (↑(linesF N).length : Int) ∧ (linesF N).any (accP a) = (List.drop (x.1 + (1 : Int)).toNat (linesF N)).any (accP a)) ∧ ((↑(linesF N).length : Int) - (x.1 + (1 : Int))).toNat < ((↑(linesF N).length : Int) - x.1).toNat)) ∧ (decide (x.1 < (↑(linesF N).length : Int)) = false → (false, ()) = (usedF N a, ()))
theorem g_rused_eq (E : List Int) (A : List Acc.AcD) (S : List Ln) (R : List Rts.Rt) (K : List Lck.Lk) (N : List En) (a : Int) : Cond (env_rused E A S R K N a) Tryz.f12 [.agg [.list .tmp I E, .list .tmp AcT A, .list .tmp LnT S, .list .tmp RTy R, .list .tmp Vl K, .list .tmp EnT N], .int .i64 a] [.bool] (usedF N a, ()) = g_rused_vc E A S R K N a := by kernel_rfl
theorem g_rused_ok (E : List Int) (A : List Acc.AcD) (S : List Ln) (R : List Rts.Rt) (K : List Lck.Lk) (N : List En) (a : Int) (h : Sm E A S R K N) : g_rused_vc E A S R K N a := by
  obtain ⟨l1, l2, l3, l4, l5, l6, hi⟩ := h
  unfold g_rused_vc usedF
  simp only [decide_eq_true_eq, decide_eq_false_iff_not]
  have hll := lines_len hi
  refine ⟨⟨l6, hi⟩, ⟨⟨trivial, trivial⟩, by omega, by omega, rfl⟩, ?_⟩
  rintro ⟨i, ⟨⟩⟩ ⟨h0, h1, hb⟩
  dsimp only at h0 h1 hb ⊢
  rw [hb]
  refine ⟨fun c => ⟨⟨h0, c⟩, fun x hx => ⟨fun k => ?_, fun k => ⟨by omega, ⟨trivial, trivial⟩, ⟨by omega, by omega, ?_⟩, by omega⟩⟩⟩, fun c => ?_⟩
  · rw [any_hit hx (by unfold accP; rw [decide_eq_true k])]
  · rw [any_miss h0 hx (by unfold accP; rw [decide_eq_false k])]
  · rw [any_end c]
theorem rused_pure (E : List Int) (A : List Acc.AcD) (S : List Ln) (R : List Rts.Rt) (K : List Lck.Lk) (N : List En) (a : Int) (h : Sm E A S R K N) : Pure Tryz.prog 12 [.agg [.list .tmp I E, .list .tmp AcT A, .list .tmp LnT S, .list .tmp RTy R, .list .tmp Vl K, .list .tmp EnT N], .int .i64 a] (.bool (usedF N a)) :=
  by have k := Pure.of_cond (g_rused_eq E A S R K N a) (g_rused_ok E A S R K N a h) (specs_ok rfl [sp_rlines] [] rfl rfl) mixed Tryz.func12; exact k
noncomputable def q_rused (E : List Int) (A : List Acc.AcD) (S : List Ln) (R : List Rts.Rt) (K : List Lck.Lk) (N : List En) (a : Int) : Prop × V := (Sm E A S R K N, (.bool (usedF N a)))
noncomputable def sp_rused : FSpec Tryz.prog where
 f := 12
 run := fun
  | [.agg [v0_0, v0_1, v0_2, v0_3, v0_4, v0_5], .int .i64 a] => (asL I v0_0 : Option (List Int)).bind fun E => (asL AcT v0_1 : Option (List Acc.AcD)).bind fun A => (asL LnT v0_2 : Option (List Ln)).bind fun S => (asL RTy v0_3 : Option (List Rts.Rt)).bind fun R => (asL Vl v0_4 : Option (List Lck.Lk)).bind fun K => (asL EnT v0_5 : Option (List En)).bind fun N => some (q_rused E A S R K N a)
  | _ => none
 ok := fun args pre r h hp => by
  split at h
  · rename_i v0_0 v0_1 v0_2 v0_3 v0_4 v0_5 a
    obtain ⟨E, h0_0, h⟩ := Option.bind_eq_some_iff.1 h
    obtain ⟨A, h0_1, h⟩ := Option.bind_eq_some_iff.1 h
    obtain ⟨S, h0_2, h⟩ := Option.bind_eq_some_iff.1 h
    obtain ⟨R, h0_3, h⟩ := Option.bind_eq_some_iff.1 h
    obtain ⟨K, h0_4, h⟩ := Option.bind_eq_some_iff.1 h
    obtain ⟨N, h0_5, h⟩ := Option.bind_eq_some_iff.1 h
    exact of_q h hp fun h => (rused_pure E A S R K N a h).weak (.cons (Weak.agg (.cons (asL_weak h0_0) (.cons (asL_weak h0_1) (.cons (asL_weak h0_2) (.cons (asL_weak h0_3) (.cons (asL_weak h0_4) (.cons (asL_weak h0_5) .nil))))))) (.cons (.refl _) .nil))
  · cases h
end Go.Proofs.YtgjpehgnagfghaaGreat.Bks
