/-
  BooksReverse.
-/
import Derived.Test.YtgjpehgnagfghaaGreatPrt
namespace Go.Proofs.YtgjpehgnagfghaaGreat.Bks
open Go.Vm
theorem turned_ok {A : List En} {r : Int} {L : List Ln} (h : turnedF A r L = 0) (hr : r ≠ 0) : 1 ≤ r ∧ r ≤ A.length ∧ ∃ y, A[(r - 1).toNat]? = some y ∧ y.2.1 = 0 ∧ revF A r = 0 ∧ Ent.hasLeast y.2.2 = false ∧ L = y.2.2.map Ent.negLn := by
  by_cases c : r < 0 ∨ A.length < r
  · unfold turnedF at h
    rw [if_neg hr, if_pos c] at h
    cases h
  · have hy : A[(r - 1).toNat]? = some A[(r - 1).toNat] := List.getElem?_eq_getElem (by omega)
    rw [turned_at hr c hy, turnY] at h
    split at h
    · cases h
    · rename_i h1
      split at h
      · cases h
      · rename_i h2
        refine ⟨by omega, by omega, _, hy, by omega, by omega, ?_, ?_⟩
        · cases hb : Ent.hasLeast A[(r - 1).toNat].2.2 with
          | false => rfl
          | true => exact absurd (.inl (by rw [Ent.oppF_bad hb]; decide)) h2
        · cases hb : Ent.hasLeast A[(r - 1).toNat].2.2 with
          | false => exact Classical.byContradiction fun k => h2 (.inr (by rw [Ent.oppF_good hb]; exact k))
          | true => exact absurd (.inl (by rw [Ent.oppF_bad hb]; decide)) h2
noncomputable def tysB : TypeId → Option Ty := fun | 4 => some .bool | t => tys0 t
def SeenI (N : List En) (i : Int) (s : List Bool) : Prop := s.length = N.length + 1 ∧ ∀ k : Nat, s[k]? = some true → ∃ (j : Nat) (y : En), (j : Int) < i ∧ N[j]? = some y ∧ y.2.1 = k
theorem idx_take {p : En → Bool} : ∀ (l : List En) (k : Nat) (i : Int) (x : En), 0 ≤ i → idxGo p (l.take k) i < 0 → l[k]? = some x → p x = true → idxGo p l i = i + k
  | [], k, i, x, _, _, hx, _ => by simp at hx
  | y :: r, 0, i, x, _, _, hx, hp => by
    cases hx
    rw [idxGo, if_pos hp]
    omega
  | y :: r, k + 1, i, x, h0, h, hx, hp => by
    rw [List.take_succ_cons, idxGo] at h
    by_cases c : p y = true
    · rw [if_pos c] at h; omega
    · rw [if_neg c] at h
      rw [idxGo, if_neg c, idx_take r k (i + 1) x (by omega) h (by simpa using hx) hp]
      omega
theorem rev_none {N : List En} {r : Int} (h1 : 1 ≤ r) (h2 : r ≤ N.length) (h : revF N r = 0) : idxF (revP r) N < 0 := by
  unfold revF at h
  rw [if_neg (by omega)] at h
  omega
theorem rev_at {N : List En} {i : Int} {x : En} (h0 : 0 ≤ i) (hx : N[i.toNat]? = some x) (h1 : 1 ≤ x.2.1) (h2 : x.2.1 ≤ (N.take i.toNat).length) (h : revF (N.take i.toNat) x.2.1 = 0) : revF N x.2.1 = i + 1 := by
  have hn := rev_none h1 h2 h
  have := idx_take N i.toNat 0 x (by omega) hn hx (by simp [revP])
  unfold revF
  rw [List.length_take] at h2
  rw [if_neg (by omega)]
  unfold idxF
  omega
theorem rev_far {N : List En} {i r : Int} {j : Nat} {y : En} (h1 : 1 ≤ r) (h2 : r ≤ (N.take i.toNat).length) (h : revF (N.take i.toNat) r = 0) (hj : (j : Int) < i) (hy : N[j]? = some y) (e : y.2.1 = r) : False := by
  have hn := rev_none h1 h2 h
  have ha := idx_any (revP r) (N.take i.toNat)
  rw [decide_eq_false (by omega)] at ha
  have hm : y ∈ N.take i.toNat := List.mem_of_getElem? (i := j) (by rw [List.getElem?_take, if_pos (by omega)]; exact hy)
  have := List.any_eq_false.1 ha.symm y hm
  exact this (by simp [revP, e])
theorem seen_0 (N : List En) : SeenI N 0 (List.replicate ((N.length : Int) + 1).toNat false) :=
  ⟨by rw [List.length_replicate]; omega, fun k hk => by rw [List.getElem?_replicate] at hk; split at hk <;> cases hk⟩
theorem seen_up {N : List En} {i : Int} {s : List Bool} (h : SeenI N i s) : SeenI N (i + 1) s :=
  ⟨h.1, fun k hk => by obtain ⟨j, y, hj, hy⟩ := h.2 k hk; exact ⟨j, y, by omega, hy⟩⟩
theorem seen_set {N : List En} {i : Int} {s : List Bool} {x : En} (h : SeenI N i s) (h0 : 0 ≤ i) (hx : N[i.toNat]? = some x) (hr : 0 ≤ x.2.1) : SeenI N (i + 1) (s.set x.2.1.toNat true) := by
  refine ⟨by rw [List.length_set]; exact h.1, fun k hk => ?_⟩
  by_cases c : x.2.1.toNat = k
  · exact ⟨i.toNat, x, by omega, hx, by omega⟩
  · rw [List.getElem?_set_ne c] at hk
    exact (seen_up h).2 k hk
theorem neg_at {L : List Ln} {k : Nat} {x y : Ln} (hy : L[k]? = some y) (hx : (L.map Ent.negLn)[k]? = some x) : x = Ent.negLn y := by
  rw [List.getElem?_map, hy] at hx
  exact (Option.some.inj hx).symm
theorem neg_in {L : List Ln} {k : Nat} {y : Ln} (hi : Ent.InL L) (hl : Ent.hasLeast L = false) (hy : L[k]? = some y) : -9223372036854775808 ≤ 0 - y.2.2.2 ∧ 0 - y.2.2.2 ≤ 9223372036854775807 := by
  have h1 := hi y (List.mem_of_getElem? hy)
  have h2 := List.any_eq_false.1 hl y (List.mem_of_getElem? hy)
  simp only [decide_eq_true_eq] at h2
  unfold InI at h1
  omega
noncomputable def env_rever (E : List Int) (A : List Acc.AcD) (S : List Ln) (R : List Rts.Rt) (K : List Lck.Lk) (N : List En) : Env where
  P := Tryz.prog
  ty := tysB
  specs := specsOf [sp_few, sp_awake, sp_check, sp_rev]
  heads := fun | 8 => some { slots := [(7, .int .i64), (30, .slc 30 .bool)], boxes := [], keep := [1], inv := fun _ (x : Int × List Bool × Unit) => 0 ≤ x.1 ∧ x.1 ≤ N.length ∧ SeenI N x.1 x.2.1, measure := fun _ (x : Int × List Bool × Unit) => (N.length - x.1).toNat } | 17 => some { slots := [(7, .int .i64), (11, .int .i64), (30, .slc 30 .bool)], boxes := [], keep := [1], inv := fun st (x : Int × Int × List Bool × Unit) => x.1 = st.int 7 ∧ 0 ≤ x.1 ∧ x.1 < N.length ∧ 0 ≤ x.2.1 ∧ x.2.1 ≤ 1000 ∧ SeenI N (x.1 + 1) x.2.2.1, measure := fun _ (x : Int × Int × List Bool × Unit) => (1001 - x.2.1).toNat } | _ => none
abbrev bx_rever_1 (E : List Int) (A : List Acc.AcD) (S : List Ln) (R : List Rts.Rt) (K : List Lck.Lk) (N : List En) : _root_.Go.Vm.Obj := Obj.box [V.list LK.tmp I E, V.list LK.tmp AcT A, V.list LK.tmp LnT S, V.list LK.tmp RTy R, V.list LK.tmp Vl K, V.list LK.tmp EnT N]
def g_rever_vc (E : List Int) (A : List Acc.AcD) (S : List Ln) (R : List Rts.Rt) (K : List Lck.Lk) (N : List En) : Prop :=
  N.length ≤ (9223372036854775807 : Nat) ∧ ((!fewF E A S R K N) = true → True ∧ (true, ()) = (true, ())) ∧ ((!fewF E A S R K N) = false → Sm E A S R K N ∧ ((!decide ((checkF E A S R K N).2.2 = (0 : Int))) = true → True ∧ (true, ()) = (true, ())) ∧ ((!decide ((checkF E A S R K N).2.2 = (0 : Int))) = false → ((-9223372036854775808 : Int) ≤ (↑N.length : Int) + (1 : Int) ∧ (↑N.length : Int) + (1 : Int) ≤ (9223372036854775807 : Int)) ∧ ((0 : Int) ≤ (↑N.length : Int) + (1 : Int) ∧ (↑N.length : Int) + (1 : Int) ≤ (↑N.length : Int) + (1 : Int) ∧ ((↑N.length : Int) + (1 : Int)) * (↑(1 : Nat) : Int) ≤ (140737488355328 : Int) ∧ (↑N.length : Int) + (1 : Int) ≤ (4611686018427387904 : Int)) ∧ ((some (bx_rever_1 E A S R K N) = some (bx_rever_1 E A S R K N) ∧ True) ∧ (0 : Int) ≤ (0 : Int) ∧ (0 : Int) ≤ (↑N.length : Int) ∧ SeenI N (0 : Int) (List.replicate ((↑N.length : Int) + (1 : Int)).toNat false)) ∧ ∀ (x : Int × List Bool × Unit), (0 : Int) ≤ x.1 ∧ x.1 ≤ (↑N.length : Int) ∧ SeenI N x.1 x.2.1 → (decide (x.1 < (↑N.length : Int)) = true → ((0 : Int) ≤ x.1 ∧ x.1 < (↑N.length : Int)) ∧ ∀ (x_1 : Int × Int × List (Int × Int × Int × Int)), N[x.1.toNat]? = some x_1 → (decide (x_1.2.1 = (0 : Int)) = true → ((-9223372036854775808 : Int) ≤ x.1 + (1 : Int) ∧ x.1 + (1 : Int) ≤ (9223372036854775807 : Int)) ∧ (some (bx_rever_1 E A S R K N) = some (bx_rever_1 E A S R K N) ∧ True) ∧ ((0 : Int) ≤ x.1 + (1 : Int) ∧ x.1 + (1 : Int) ≤ (↑N.length : Int) ∧ SeenI N (x.1 + (1 : Int)) x.2.1) ∧ ((↑N.length : Int) - (x.1 + (1 : Int))).toNat < ((↑N.length : Int) - x.1).toNat) ∧ (decide (x_1.2.1 = (0 : Int)) = false → (decide (x_1.2.1 < (1 : Int)) = false → (decide (x.1 < x_1.2.1) = false → ((0 : Int) ≤ x_1.2.1 ∧ x_1.2.1 < (↑x.2.1.length : Int)) ∧ x_1.2.1.toNat < x.2.1.length ∧ ∀ (x_2 : Bool), x.2.1[x_1.2.1.toNat]? = some x_2 → (x_2 = false → ((-9223372036854775808 : Int) ≤ x_1.2.1 - (1 : Int) ∧ x_1.2.1 - (1 : Int) ≤ (9223372036854775807 : Int)) ∧ ((0 : Int) ≤ x_1.2.1 - (1 : Int) ∧ x_1.2.1 - (1 : Int) < (↑N.length : Int)) ∧ ∀ (x_3 : Int × Int × List (Int × Int × Int × Int)), N[(x_1.2.1 - (1 : Int)).toNat]? = some x_3 → ((!decide (x_3.2.1 = (0 : Int))) = false → N.length ≤ (1000000000 : Nat) ∧ ((-9223372036854775808 : Int) ≤ x.1 + (1 : Int) ∧ x.1 + (1 : Int) ≤ (9223372036854775807 : Int)) ∧ ((!decide (revF N x_1.2.1 = x.1 + (1 : Int))) = true → (false, ()) = (true, ())) ∧ ((!decide (revF N x_1.2.1 = x.1 + (1 : Int))) = false → ((0 : Int) ≤ x_1.2.1 ∧ x_1.2.1 < (↑x.2.1.length : Int)) ∧ x_1.2.1.toNat < x.2.1.length ∧ ∀ (y : Bool), x.2.1[x_1.2.1.toNat]? = some y → ((0 : Int) ≤ x.1 ∧ x.1 < (↑N.length : Int)) ∧ ∀ (x_4 : Int × Int × List (Int × Int × Int × Int)), N[x.1.toNat]? = some x_4 → ((-9223372036854775808 : Int) ≤ x_1.2.1 - (1 : Int) ∧ x_1.2.1 - (1 : Int) ≤ (9223372036854775807 : Int)) ∧ ((0 : Int) ≤ x_1.2.1 - (1 : Int) ∧ x_1.2.1 - (1 : Int) < (↑N.length : Int)) ∧ ∀ (x_5 : Int × Int × List (Int × Int × Int × Int)), N[(x_1.2.1 - (1 : Int)).toNat]? = some x_5 → ((some (bx_rever_1 E A S R K N) = some (bx_rever_1 E A S R K N) ∧ True) ∧ x.1 = x.1 ∧ (0 : Int) ≤ x.1 ∧ x.1 < (↑N.length : Int) ∧ (0 : Int) ≤ (0 : Int) ∧ (0 : Int) ≤ (1000 : Int) ∧ SeenI N (x.1 + (1 : Int)) (x.2.1.set x_1.2.1.toNat true)) ∧ ∀ (x_6 : Int × Int × List Bool × Unit), x_6.1 = x.1 ∧ (0 : Int) ≤ x_6.1 ∧ x_6.1 < (↑N.length : Int) ∧ (0 : Int) ≤ x_6.2.1 ∧ x_6.2.1 ≤ (1000 : Int) ∧ SeenI N (x_6.1 + (1 : Int)) x_6.2.2.1 → (decide (x_6.2.1 < (↑x_4.2.2.length : Int)) = true → (decide (x_6.2.1 < (↑x_5.2.2.length : Int)) = true → ((0 : Int) ≤ x_6.2.1 ∧ x_6.2.1 < (↑x_5.2.2.length : Int)) ∧ ∀ (x_7 : Int × Int × Int × Int), x_5.2.2[x_6.2.1.toNat]? = some x_7 → ((-9223372036854775808 : Int) ≤ (0 : Int) - x_7.2.2.2 ∧ (0 : Int) - x_7.2.2.2 ≤ (9223372036854775807 : Int)) ∧ ((0 : Int) ≤ x_6.2.1 ∧ x_6.2.1 < (↑x_4.2.2.length : Int)) ∧ ∀ (x_8 : Int × Int × Int × Int), x_4.2.2[x_6.2.1.toNat]? = some x_8 → ((!(decide (x_8.1 = x_7.1) && (decide (x_8.2.1 = x_7.2.1) && (decide (x_8.2.2.1 = x_7.2.2.1) && (decide (x_8.2.2.2 = (0 : Int) - x_7.2.2.2) && true))))) = true → (false, ()) = (true, ())) ∧ ((!(decide (x_8.1 = x_7.1) && (decide (x_8.2.1 = x_7.2.1) && (decide (x_8.2.2.1 = x_7.2.2.1) && (decide (x_8.2.2.2 = (0 : Int) - x_7.2.2.2) && true))))) = false → ((-9223372036854775808 : Int) ≤ x_6.2.1 + (1 : Int) ∧ x_6.2.1 + (1 : Int) ≤ (9223372036854775807 : Int)) ∧ (some (bx_rever_1 E A S R K N) = some (bx_rever_1 E A S R K N) ∧ True) ∧ (x_6.1 = x.1 ∧ (0 : Int) ≤ x_6.1 ∧ x_6.1 < (↑N.length : Int) ∧ (0 : Int) ≤ x_6.2.1 + (1 : Int) ∧ x_6.2.1 + (1 : Int) ≤ (1000 : Int) ∧ SeenI N (x_6.1 + (1 : Int)) x_6.2.2.1) ∧ ((1001 : Int) - (x_6.2.1 + (1 : Int))).toNat < ((1001 : Int) - x_6.2.1).toNat)) ∧ (decide (x_6.2.1 < (↑x_5.2.2.length : Int)) = false → ((!decide ((↑x_4.2.2.length : Int) = (↑x_5.2.2.length : Int))) = true → (false, ()) = (true, ())) ∧ ((!decide ((↑x_4.2.2.length : Int) = (↑x_5.2.2.length : Int))) = false → ((-9223372036854775808 : Int) ≤ x_6.1 + (1 : Int) ∧ x_6.1 + (1 : Int) ≤ (9223372036854775807 : Int)) ∧ (some (bx_rever_1 E A S R K N) = some (bx_rever_1 E A S R K N) ∧ True) ∧ ((0 : Int) ≤ x_6.1 + (1 : Int) ∧ x_6.1 + (1 : Int) ≤ (↑N.length : Int) ∧ SeenI N (x_6.1 + (1 : Int)) x_6.2.2.1) ∧ ((↑N.length : Int) - (x_6.1 + (1 : Int))).toNat < ((↑N.length : Int) - x.1).toNat))) ∧ (decide (x_6.2.1 < (↑x_4.2.2.length : Int)) = !true → ((!decide ((↑x_4.2.2.length : Int) = (↑x_5.2.2.length : Int))) = true → (false, ()) = (true, ())) ∧ ((!decide ((↑x_4.2.2.length : Int) = (↑x_5.2.2.length : Int))) = false → ((-9223372036854775808 : Int) ≤ x_6.1 + (1 : Int) ∧ x_6.1 + (1 : Int) ≤ (9223372036854775807 : Int)) ∧ (some (bx_rever_1 E A S R K N) = some (bx_rever_1 E A S R K N) ∧ True) ∧ ((0 : Int) ≤ x_6.1 + (1 : Int) ∧ x_6.1 + (1 : Int) ≤ (↑N.length : Int) ∧ SeenI N (x_6.1 + (1 : Int)) x_6.2.2.1) ∧ ((↑N.length : Int) - (x_6.1 + (1 : Int))).toNat < ((↑N.length : Int) - x.1).toNat)))) ∧ ((!decide (x_3.2.1 = (0 : Int))) = !false → (false, ()) = (true, ()))) ∧ (x_2 = !false → (false, ()) = (true, ()))) ∧ (decide (x.1 < x_1.2.1) = !false → (false, ()) = (true, ()))) ∧ (decide (x_1.2.1 < (1 : Int)) = !false → (false, ()) = (true, ())))) ∧ (decide (x.1 < (↑N.length : Int)) = false → True ∧ (true, ()) = (true, ()))))
theorem g_rever_eq (E : List Int) (A : List Acc.AcD) (S : List Ln) (R : List Rts.Rt) (K : List Lck.Lk) (N : List En) : Cond (env_rever E A S R K N) Tryz.f5 [.agg [.list .tmp I E, .list .tmp AcT A, .list .tmp LnT S, .list .tmp RTy R, .list .tmp Vl K, .list .tmp EnT N]] [.bool] (true, ()) = g_rever_vc E A S R K N := by kernel_rfl
theorem g_rever_ok (E : List Int) (A : List Acc.AcD) (S : List Ln) (R : List Rts.Rt) (K : List Lck.Lk) (N : List En) (h : Ok E A S R K N) : g_rever_vc E A S R K N := by
  unfold g_rever_vc
  simp only [Bool.not_eq_true', Bool.not_eq_false', Bool.not_false, Bool.not_true, decide_eq_true_eq, decide_eq_false_iff_not]
  refine ⟨h.1, fun c => by trivial, fun c => ?_⟩
  have hs := sm_few E A S R K N h c
  refine ⟨hs, fun d => by trivial, fun d => ?_⟩
  have hall := (ok_parts d).2.2.2.2.2
  obtain ⟨l1, l2, l3, l4, l5, l6, hi⟩ := hs
  refine ⟨by omega, by omega, ⟨by trivial, by omega, by omega, seen_0 N⟩, ?_⟩
  rintro ⟨i, s, ⟨⟩⟩ ⟨h0, h1, hsn⟩
  dsimp only at h0 h1 hsn ⊢
  refine ⟨fun e => ⟨⟨h0, e⟩, fun x hx => ⟨fun z => ⟨by omega, by trivial, ⟨by omega, by omega, seen_up hsn⟩, by omega⟩, fun z => ?_⟩⟩, fun e => by trivial⟩
  have ht := (ent_parts (ent_ok hall i.toNat x hx)).2.2
  obtain ⟨r1, r2, y, hy, y0, yr, yl, ym⟩ := turned_ok ht z
  have r3 : x.2.1 ≤ i := by rw [List.length_take] at r2; omega
  have hy : N[(x.2.1 - 1).toNat]? = some y := by
    rw [List.getElem?_take] at hy
    split at hy
    · exact hy
    · cases hy
  have hrv := rev_at h0 hx r1 r2 yr
  have hsl := hsn.1
  obtain ⟨yi, yn⟩ := ine_at hi hy
  obtain ⟨xi, xn⟩ := ine_at hi hx
  have hlen : x.2.2.length = y.2.2.length := by rw [ym, List.length_map]
  refine ⟨fun p => ⟨fun q => ⟨⟨by omega, by omega⟩, by omega, fun b hb => ⟨fun b0 => ⟨by omega, by omega, fun w hw => ?_⟩, fun b1 => ?_⟩⟩, fun q => ?_⟩, fun p => ?_⟩
  · rw [hy] at hw; cases hw
    refine ⟨fun w0 => ⟨by omega, by omega, fun v => absurd hrv v, fun v => ⟨⟨by omega, by omega⟩, by omega, fun _ _ => ⟨⟨h0, e⟩, fun x4 hx4 => ⟨by omega, by omega, fun x5 hx5 => ⟨⟨by trivial, by trivial, h0, e, by omega, by omega, seen_set hsn h0 hx (by omega)⟩, ?_⟩⟩⟩⟩⟩, fun w0 => absurd y0 w0⟩
    rw [hx] at hx4; cases hx4
    rw [hy] at hx5; cases hx5
    rintro ⟨i2, k, s2, ⟨⟩⟩ ⟨e2, k0, k1, k2, k3, hs2⟩
    dsimp only at e2 k0 k1 k2 k3 hs2 ⊢
    refine ⟨fun f => ⟨fun g => ⟨⟨k2, g⟩, fun x7 h7 => ⟨neg_in yi yl h7, ⟨k2, f⟩, fun x8 h8 => ⟨fun t => ?_, fun t => ⟨by omega, by trivial, ⟨e2, k0, k1, by omega, by omega, hs2⟩, by omega⟩⟩⟩⟩, fun g => by omega⟩, fun f => ⟨fun g => by omega, fun g => ⟨by omega, by trivial, ⟨by omega, by omega, hs2⟩, by omega⟩⟩⟩
    exfalso
    rw [ym] at h8
    have := neg_at h7 h8
    subst this
    simp [Ent.negLn] at t
  · exfalso
    subst b1
    obtain ⟨j, y', hj, hy', e'⟩ := hsn.2 _ hb
    exact rev_far r1 r2 yr hj hy' (by omega)
  · omega
  · omega
set_option maxRecDepth 20000
theorem rever_pure (E : List Int) (A : List Acc.AcD) (S : List Ln) (R : List Rts.Rt) (K : List Lck.Lk) (N : List En) (h : Ok E A S R K N) : Pure Tryz.prog 5 [.agg [.list .tmp I E, .list .tmp AcT A, .list .tmp LnT S, .list .tmp RTy R, .list .tmp Vl K, .list .tmp EnT N]] (.bool true) :=
  by have k := Pure.of_cond (g_rever_eq E A S R K N) (g_rever_ok E A S R K N h) (specs_ok rfl [sp_few, sp_awake, sp_check, sp_rev] [] rfl rfl) mixed Tryz.func5; exact k
end Go.Proofs.YtgjpehgnagfghaaGreat.Bks
