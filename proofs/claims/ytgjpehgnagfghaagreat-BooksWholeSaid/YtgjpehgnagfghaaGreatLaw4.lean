/-
  BooksWhole.
-/
import Derived.Test.YtgjpehgnagfghaaGreatUse2
import Derived.Test.YtgjpehgnagfghaaGreatEnt11
import Derived.Test.YtgjpehgnagfghaaGreatPrt
namespace Go.Proofs.YtgjpehgnagfghaaGreat.Bks
open Go.Vm
theorem acc_bad {n : Int} : ∀ (l : List Acc.AcD) (i : Int) (r : Int × Int), Acc.badA n l i = some r → r.2 ≠ 0
  | [], _, _, h => by cases h
  | x :: l, i, r, h => by
    rw [Acc.badA] at h
    split at h
    · exact acc_bad l (i + 1) r h
    · cases h; assumption
theorem acc_at {l : List Acc.AcD} (h : (Acc.checkF l).2 = 0) : (Acc.checkF l).1 = l.length := by
  unfold Acc.checkF Acc.checkG at h ⊢
  split at h
  · cases h
  · split at h
    · cases h
    · rename_i h1 h2
      rw [if_neg h1, if_neg h2]
      cases hb : Acc.badA l.length l 0 with
      | some r =>
        rw [hb] at h
        exact absurd h (acc_bad _ _ _ hb)
      | none =>
        rw [hb] at h
        dsimp only at h ⊢
        unfold Acc.endF Acc.cirF at h ⊢
        split at h
        · rfl
        · cases h
theorem mem_ln {p i : Int} : ∀ (L : List Ln) (k : Nat) (q : Po), q ∈ lnGo p i L k → q.2.2.2 ∈ L
  | [], _, _, h => by cases h
  | x :: r, k, q, h => by
    rcases List.mem_cons.1 h with rfl | h
    · exact List.mem_cons_self
    · exact List.mem_cons_of_mem _ (mem_ln r (k + 1) q h)
theorem mem_po : ∀ (N : List En) (i : Int) (k : Nat) (q : Po), q ∈ poGo N i k → ∃ (j : Nat) (x : En), N[j]? = some x ∧ q.2.2.2 ∈ x.2.2
  | [], _, _, _, h => by cases h
  | x :: r, i, k, q, h => by
    rcases List.mem_append.1 h with h | h
    · exact ⟨0, x, rfl, mem_ln _ _ _ h⟩
    · obtain ⟨j, y, h1, h2⟩ := mem_po r (i + 1) _ q h
      exact ⟨j + 1, y, h1, h2⟩
theorem placed_ok {ls : List Int} {L : List Ln} (h : placedF ls L = 0) {x : Ln} (hx : x ∈ L) : ownP x = false ∧ innP ls x = false := by
  unfold placedF at h
  split at h
  · cases h
  · rename_i h1
    split at h
    · cases h
    · rename_i h2
      exact ⟨by simpa using List.any_eq_false.1 (by simpa using h1) x hx, by simpa using List.any_eq_false.1 (by simpa using h2) x hx⟩
theorem stk_ok {l : List Ln} {n : Int} (h : (Stk.checkF l n).2 = 0) {i : Nat} {x : Ln} (hx : l[i]? = some x) : 1 ≤ x.1 ∧ x.1 ≤ n ∧ x.2.1 ≤ n := by
  have hl := (List.getElem?_eq_some_iff.1 hx).1
  have h0 : Stk.lastF (l.take (i + 1)) n = 0 := by
    unfold Stk.checkF at h
    split at h
    · cases h
    · split at h
      · rename_i j hj
        have := List.find?_some hj
        simp only [Stk.badAt, bne_iff_ne, ne_eq] at this
        exact absurd h this
      · rename_i hj
        have := List.find?_eq_none.1 hj i (List.mem_range.2 hl)
        simpa [Stk.badAt] using this
  have hs : Stk.lastS (l.take (i + 1)) = x := by
    have := Stk.lastS_at (l := l.take (i + 1)) (by rw [List.length_take]; omega)
    rw [List.length_take, show min (i + 1) l.length - 1 = i by omega, List.getElem?_take, if_pos (by omega), hx] at this
    exact (Option.some.inj this).symm
  unfold Stk.lastF at h0
  rw [hs] at h0
  split at h0
  · cases h0
  · omega
noncomputable def env_books_whole (E : List Int) (A : List Acc.AcD) (S : List Ln) (R : List Rts.Rt) (K : List Lck.Lk) (N : List En) : Env where
  P := Tryz.prog
  ty := tys0
  specs := specsOf [sp_few, sp_awake, sp_check, Acc.sp_check, sp_lines, Acc.sp_pleaf, sp_used, Ent.sp_total]
  heads := fun | 11 => some { slots := [(9, .int .i64)], boxes := [], keep := [1], inv := fun _ (x : Int × Unit) => 0 ≤ x.1 ∧ x.1 ≤ (linesF N).length, measure := fun _ (x : Int × Unit) => ((linesF N).length - x.1).toNat } | 17 => some { slots := [(11, .int .i64)], boxes := [], keep := [1], inv := fun _ (x : Int × Unit) => 0 ≤ x.1 ∧ x.1 ≤ N.length, measure := fun _ (x : Int × Unit) => (N.length - x.1).toNat } | 20 => some { slots := [(11, .int .i64), (12, .int .i64)], boxes := [], keep := [1], inv := fun st (x : Int × Int × Unit) => x.1 = st.int 11 ∧ 0 ≤ x.1 ∧ x.1 < N.length ∧ 1 ≤ x.2.1 ∧ x.2.1 ≤ E.length + 1, measure := fun _ (x : Int × Int × Unit) => (E.length + 1 - x.2.1).toNat } | 26 => some { slots := [(15, .int .i64)], boxes := [], keep := [1], inv := fun _ (x : Int × Unit) => 0 ≤ x.1 ∧ x.1 ≤ S.length, measure := fun _ (x : Int × Unit) => (S.length - x.1).toNat } | _ => none
abbrev bx_books_whole_1 (E : List Int) (A : List Acc.AcD) (S : List Ln) (R : List Rts.Rt) (K : List Lck.Lk) (N : List En) : _root_.Go.Vm.Obj := Obj.box [V.list LK.tmp I E, V.list LK.tmp AcT A, V.list LK.tmp LnT S, V.list LK.tmp RTy R, V.list LK.tmp Vl K, V.list LK.tmp EnT N]
def g_books_whole_vc (E : List Int) (A : List Acc.AcD) (S : List Ln) (R : List Rts.Rt) (K : List Lck.Lk) (N : List En) : Prop :=
  N.length ≤ (9223372036854775807 : Nat) ∧ ((!fewF E A S R K N) = true → True ∧ (true, ()) = (true, ())) ∧ ((!fewF E A S R K N) = false → Sm E A S R K N ∧ ((!decide ((checkF E A S R K N).2.2 = (0 : Int))) = true → True ∧ (true, ()) = (true, ())) ∧ ((!decide ((checkF E A S R K N).2.2 = (0 : Int))) = false → A.length ≤ (1000000000 : Nat) ∧ ((!decide ((Acc.checkF A).2 = (0 : Int))) = false → ((!decide ((Acc.checkF A).1 = (↑A.length : Int))) = true → (false, ()) = (true, ())) ∧ ((!decide ((Acc.checkF A).1 = (↑A.length : Int))) = false → (N.length ≤ (1000000 : Nat) ∧ InE N) ∧ ((some (bx_books_whole_1 E A S R K N) = some (bx_books_whole_1 E A S R K N) ∧ True) ∧ (0 : Int) ≤ (0 : Int) ∧ (0 : Int) ≤ (↑(linesF N).length : Int)) ∧ ∀ (x : Int × Unit), (0 : Int) ≤ x.1 ∧ x.1 ≤ (↑(linesF N).length : Int) → (decide (x.1 < (↑(linesF N).length : Int)) = true → ((0 : Int) ≤ x.1 ∧ x.1 < (↑(linesF N).length : Int)) ∧ ∀ (x_1 : Int × Int × Int × Int × Int × Int × Int), (linesF N)[x.1.toNat]? = some x_1 → (decide (x_1.2.2.2.2.1 ≤ (3 : Int)) = false → A.length ≤ (1000000000 : Nat) ∧ ((!Acc.leafF A x_1.2.2.2.2.1) = false → (decide (x_1.2.2.2.1 < (1 : Int)) = false → (decide ((↑E.length : Int) < x_1.2.2.2.1) = false → (decide ((↑E.length : Int) < x_1.2.2.2.2.2.1) = false → Sm E A S R K N ∧ ((!usedF N x_1.2.2.2.2.1) = true → (false, ()) = (true, ())) ∧ ((!usedF N x_1.2.2.2.2.1) = false → ((-9223372036854775808 : Int) ≤ x.1 + (1 : Int) ∧ x.1 + (1 : Int) ≤ (9223372036854775807 : Int)) ∧ (some (bx_books_whole_1 E A S R K N) = some (bx_books_whole_1 E A S R K N) ∧ True) ∧ ((0 : Int) ≤ x.1 + (1 : Int) ∧ x.1 + (1 : Int) ≤ (↑(linesF N).length : Int)) ∧ ((↑(linesF N).length : Int) - (x.1 + (1 : Int))).toNat < ((↑(linesF N).length : Int) - x.1).toNat)) ∧ (decide ((↑E.length : Int) < x_1.2.2.2.2.2.1) = !false → (false, ()) = (true, ()))) ∧ (decide ((↑E.length : Int) < x_1.2.2.2.1) = !false → (false, ()) = (true, ()))) ∧ (decide (x_1.2.2.2.1 < (1 : Int)) = !false → (false, ()) = (true, ()))) ∧ ((!Acc.leafF A x_1.2.2.2.2.1) = !false → (false, ()) = (true, ()))) ∧ (decide (x_1.2.2.2.2.1 ≤ (3 : Int)) = !false → (false, ()) = (true, ()))) ∧ (decide (x.1 < (↑(linesF N).length : Int)) = false → ((some (bx_books_whole_1 E A S R K N) = some (bx_books_whole_1 E A S R K N) ∧ True) ∧ (0 : Int) ≤ (0 : Int) ∧ (0 : Int) ≤ (↑N.length : Int)) ∧ ∀ (x : Int × Unit), (0 : Int) ≤ x.1 ∧ x.1 ≤ (↑N.length : Int) → (decide (x.1 < (↑N.length : Int)) = true → ((some (bx_books_whole_1 E A S R K N) = some (bx_books_whole_1 E A S R K N) ∧ True) ∧ x.1 = x.1 ∧ (0 : Int) ≤ x.1 ∧ x.1 < (↑N.length : Int) ∧ (1 : Int) ≤ (1 : Int) ∧ (1 : Int) ≤ (↑E.length : Int) + (1 : Int)) ∧ ∀ (x_1 : Int × Int × Unit), x_1.1 = x.1 ∧ (0 : Int) ≤ x_1.1 ∧ x_1.1 < (↑N.length : Int) ∧ (1 : Int) ≤ x_1.2.1 ∧ x_1.2.1 ≤ (↑E.length : Int) + (1 : Int) → (decide (x_1.2.1 ≤ (↑E.length : Int)) = true → ((0 : Int) ≤ x_1.1 ∧ x_1.1 < (↑N.length : Int)) ∧ ∀ (x_2 : Int × Int × List (Int × Int × Int × Int)), N[x_1.1.toNat]? = some x_2 → x_2.2.2.length ≤ (1000000000 : Nat) ∧ ((!decide ((netF (Ent.amtsL x_2.2.2 x_1.2.1) []).1 = (0 : Int))) = false → ((!decide ((netF (Ent.amtsL x_2.2.2 x_1.2.1) []).2 = (0 : Int))) = true → (false, ()) = (true, ())) ∧ ((!decide ((netF (Ent.amtsL x_2.2.2 x_1.2.1) []).2 = (0 : Int))) = false → ((-9223372036854775808 : Int) ≤ x_1.2.1 + (1 : Int) ∧ x_1.2.1 + (1 : Int) ≤ (9223372036854775807 : Int)) ∧ (some (bx_books_whole_1 E A S R K N) = some (bx_books_whole_1 E A S R K N) ∧ True) ∧ (x_1.1 = x.1 ∧ (0 : Int) ≤ x_1.1 ∧ x_1.1 < (↑N.length : Int) ∧ (1 : Int) ≤ x_1.2.1 + (1 : Int) ∧ x_1.2.1 + (1 : Int) ≤ (↑E.length : Int) + (1 : Int)) ∧ ((↑E.length : Int) + (1 : Int) - (x_1.2.1 + (1 : Int))).toNat < ((↑E.length : Int) + (1 : Int) - x_1.2.1).toNat)) ∧ ((!decide ((netF (Ent.amtsL x_2.2.2 x_1.2.1) []).1 = (0 : Int))) = !false → (false, ()) = (true, ()))) ∧ (decide (x_1.2.1 ≤ (↑E.length : Int)) = false → ((-9223372036854775808 : Int) ≤ x_1.1 + (1 : Int) ∧ x_1.1 + (1 : Int) ≤ (9223372036854775807 : Int)) ∧ (some (bx_books_whole_1 E A S R K N) = some (bx_books_whole_1 E A S R K N) ∧ True) ∧ ((0 : Int) ≤ x_1.1 + (1 : Int) ∧ x_1.1 + (1 : Int) ≤ (↑N.length : Int)) ∧ ((↑N.length : Int) - (x_1.1 + (1 : Int))).toNat < ((↑N.length : Int) - x.1).toNat)) ∧ (decide (x.1 < (↑N.length : Int)) = false → ((some (bx_books_whole_1 E A S R K N) = some (bx_books_whole_1 E A S R K N) ∧ True) ∧ (0 : Int) ≤ (0 : Int) ∧ (0 : Int) ≤ (↑S.length : Int)) ∧ ∀ (x : Int × Unit), (0 : Int) ≤ x.1 ∧ x.1 ≤ (↑S.length : Int) → (decide (x.1 < (↑S.length : Int)) = true → ((0 : Int) ≤ x.1 ∧ x.1 < (↑S.length : Int)) ∧ ∀ (x_1 : Int × Int × Int × Int), S[x.1.toNat]? = some x_1 → (decide (x_1.1 < (1 : Int)) = false → ((0 : Int) ≤ x.1 ∧ x.1 < (↑S.length : Int)) ∧ ∀ (x_2 : Int × Int × Int × Int), S[x.1.toNat]? = some x_2 → (decide ((↑E.length : Int) < x_2.1) = false → ((0 : Int) ≤ x.1 ∧ x.1 < (↑S.length : Int)) ∧ ∀ (x_3 : Int × Int × Int × Int), S[x.1.toNat]? = some x_3 → (decide ((↑E.length : Int) < x_3.2.1) = true → (false, ()) = (true, ())) ∧ (decide ((↑E.length : Int) < x_3.2.1) = false → ((-9223372036854775808 : Int) ≤ x.1 + (1 : Int) ∧ x.1 + (1 : Int) ≤ (9223372036854775807 : Int)) ∧ (some (bx_books_whole_1 E A S R K N) = some (bx_books_whole_1 E A S R K N) ∧ True) ∧ ((0 : Int) ≤ x.1 + (1 : Int) ∧ x.1 + (1 : Int) ≤ (↑S.length : Int)) ∧ ((↑S.length : Int) - (x.1 + (1 : Int))).toNat < ((↑S.length : Int) - x.1).toNat)) ∧ (decide ((↑E.length : Int) < x_2.1) = !false → (false, ()) = (true, ()))) ∧ (decide (x_1.1 < (1 : Int)) = !false → (false, ()) = (true, ()))) ∧ (decide (x.1 < (↑S.length : Int)) = false → True ∧ (true, ()) = (true, ())))))) ∧ ((!decide ((Acc.checkF A).2 = (0 : Int))) = !false → (false, ()) = (true, ()))))
theorem g_books_whole_eq (E : List Int) (A : List Acc.AcD) (S : List Ln) (R : List Rts.Rt) (K : List Lck.Lk) (N : List En) : Cond (env_books_whole E A S R K N) Tryz.f6 [.agg [.list .tmp I E, .list .tmp AcT A, .list .tmp LnT S, .list .tmp RTy R, .list .tmp Vl K, .list .tmp EnT N]] [.bool] (true, ()) = g_books_whole_vc E A S R K N := by kernel_rfl
theorem g_books_whole_ok (E : List Int) (A : List Acc.AcD) (S : List Ln) (R : List Rts.Rt) (K : List Lck.Lk) (N : List En) (h : Ok E A S R K N) : g_books_whole_vc E A S R K N := by
  unfold g_books_whole_vc
  simp only [Bool.not_eq_true', Bool.not_eq_false', Bool.not_false, Bool.not_true, decide_eq_true_eq, decide_eq_false_iff_not]
  refine ⟨h.1, fun c => by trivial, fun c => ?_⟩
  have hs := sm_few E A S R K N h c
  refine ⟨hs, fun d => by trivial, fun d => ?_⟩
  obtain ⟨-, hacc, hstk, -, -, hall⟩ := ok_parts d
  have hsm := hs
  obtain ⟨l1, l2, l3, l4, l5, l6, hi⟩ := hs
  have hll := lines_len hi
  refine ⟨by omega, fun _ => ⟨fun e => absurd (acc_at hacc) e, fun _ => ⟨⟨l6, hi⟩, ⟨by trivial, by omega, by omega⟩, ?_⟩⟩, fun e => absurd hacc (by simpa using e)⟩
  rintro ⟨i, ⟨⟩⟩ ⟨h0, h1⟩
  dsimp only at h0 h1 ⊢
  refine ⟨fun e => ⟨⟨h0, e⟩, fun q hq => ?_⟩, fun _ => ⟨⟨by trivial, by omega, by omega⟩, ?_⟩⟩
  · obtain ⟨j, x, hx, hm⟩ := mem_po N 0 0 q (List.mem_of_getElem? hq)
    obtain ⟨g1, g2, g3⟩ := ent_parts (ent_ok hall j x hx)
    obtain ⟨p1, p2⟩ := placed_ok g2 hm
    have p1 : ¬ q.2.2.2.2.1 ≤ 3 := by simpa [ownP] using p1
    have p2 : Acc.leafF A q.2.2.2.2.1 = true := by rw [inn_leaf] at p2; simpa using p2
    obtain ⟨z1, z2, z3⟩ := Ent.lineF_ok ((Ent.check_zero.1 g1).2.2.1 _ hm)
    have hu : usedF N q.2.2.2.2.1 = true := List.any_eq_true.2 ⟨q, List.mem_of_getElem? hq, by simp [accP]⟩
    refine ⟨fun _ => ⟨by omega, fun _ => ⟨fun _ => ⟨fun _ => ⟨fun _ => ⟨hsm, fun k => ?_, fun _ => ⟨by omega, by trivial, by omega, by omega⟩⟩, fun k => ?_⟩, fun k => ?_⟩, fun k => ?_⟩, fun k => ?_⟩, fun k => ?_⟩
    all_goals first
      | (exfalso; omega)
      | (exfalso; rw [hu] at k; cases k)
      | (exfalso; rw [p2] at k; cases k)
  clear h0 h1
  rintro ⟨i, ⟨⟩⟩ ⟨h0, h1⟩
  dsimp only at h0 h1 ⊢
  refine ⟨fun e => ⟨⟨by trivial, by trivial, h0, e, by omega, by omega⟩, ?_⟩, fun _ => ⟨⟨by trivial, by omega, by omega⟩, ?_⟩⟩
  · rintro ⟨i2, k, ⟨⟩⟩ ⟨e2, k0, k1, k2, k3⟩
    dsimp only at e2 k0 k1 k2 k3 ⊢
    refine ⟨fun f => ⟨⟨k0, k1⟩, fun x hx => ?_⟩, fun f => ⟨by omega, by trivial, ⟨by omega, by omega⟩, by omega⟩⟩
    obtain ⟨xi, xn⟩ := ine_at hi hx
    have ht := Ent.good_total (Ent.check_zero.1 (ent_parts (ent_ok hall i2.toNat x hx)).1) xi xn k
    rw [ht]
    refine ⟨by omega, fun _ => ⟨fun v => absurd rfl v, fun _ => ⟨by omega, by trivial, ⟨e2, k0, k1, by omega, by omega⟩, by omega⟩⟩, fun v => absurd rfl v⟩
  clear h0 h1
  rintro ⟨i, ⟨⟩⟩ ⟨h0, h1⟩
  dsimp only at h0 h1 ⊢
  refine ⟨fun e => ⟨⟨h0, e⟩, fun x hx => ?_⟩, fun _ => by trivial⟩
  obtain ⟨s1, s2, s3⟩ := stk_ok hstk hx
  refine ⟨fun _ => ⟨⟨h0, e⟩, fun y hy => ?_⟩, fun k => by omega⟩
  rw [hx] at hy; cases hy
  refine ⟨fun _ => ⟨⟨h0, e⟩, fun y hy => ?_⟩, fun k => by omega⟩
  rw [hx] at hy; cases hy
  exact ⟨fun k => by omega, fun _ => ⟨by omega, by trivial, by omega, by omega⟩⟩
set_option maxRecDepth 20000
theorem books_whole_pure (E : List Int) (A : List Acc.AcD) (S : List Ln) (R : List Rts.Rt) (K : List Lck.Lk) (N : List En) (h : Ok E A S R K N) : Pure Tryz.prog 6 [.agg [.list .tmp I E, .list .tmp AcT A, .list .tmp LnT S, .list .tmp RTy R, .list .tmp Vl K, .list .tmp EnT N]] (.bool true) :=
  by have k := Pure.of_cond (g_books_whole_eq E A S R K N) (g_books_whole_ok E A S R K N h) (specs_ok rfl [sp_few, sp_awake, sp_check, Acc.sp_check, sp_lines, Acc.sp_pleaf, sp_used, Ent.sp_total] [] rfl rfl) mixed Tryz.func6; exact k
end Go.Proofs.YtgjpehgnagfghaaGreat.Bks
