/-
  ScanTells, ScanLines: the walks.
-/
import Derived.Test.YtdplodofdfkndaaDoorScan5
namespace Go.Proofs.YtdplodofdfkndaaDoor
open Go.Vm

noncomputable def env_awake : Env where
  P := Tryd.prog
  ty := tys0
  specs := specsOf [sp_num, sp_lit, sp_line, sp_digitsOf]
noncomputable def g_awake  : Prop := vc (env_awake ) (codeOf Tryd.f10) (start0 Tryd.f10 []) (exitK (tsOf Tryd.f10) [.bool] (true, ()))
def g_awake_vc : Prop :=
  (5 : Nat) ≤ (10000 : Nat) ∧
  (5 : Nat) ≤ (10000 : Nat) ∧
    (3 : Nat) ≤ (10000 : Nat) ∧
      (1 : Nat) ≤ (10000 : Nat) ∧
        ((3 : Nat) ≤ (1000000 : Nat) ∧ (2 : Nat) ≤ (1000000 : Nat)) ∧
          ((2 : Nat) ≤ (1000000 : Nat) ∧ (2 : Nat) ≤ (1000000 : Nat)) ∧
            ((2 : Nat) ≤ (1000000 : Nat) ∧ (1 : Nat) ≤ (1000000 : Nat)) ∧
              (5 : Nat) ≤ (1000000 : Nat) ∧
                (4 : Nat) ≤ (1000000 : Nat) ∧
                  ((2 : Nat) ≤ (1000000 : Nat) ∧ (0 : Nat) ≤ (1000000 : Nat)) ∧
                    (decide ((numF [(97 : UInt8), (49 : UInt8), (50 : UInt8), (44 : UInt8), (51 : UInt8)] (1 : Int) (0 : Int) (99 : Int)).fst = (12 : Int)) = true →
                        (decide ((numF [(97 : UInt8), (49 : UInt8), (50 : UInt8), (44 : UInt8), (51 : UInt8)] (1 : Int) (0 : Int) (99 : Int)).snd.fst = (3 : Int)) = true →
                            (decide ((numF [(97 : UInt8), (49 : UInt8), (50 : UInt8), (44 : UInt8), (51 : UInt8)] (1 : Int) (0 : Int) (99 : Int)).snd.snd = (0 : Int)) = true →
                                (decide ((numF [(97 : UInt8), (49 : UInt8), (50 : UInt8), (44 : UInt8), (51 : UInt8)] (1 : Int) (0 : Int) (9 : Int)).snd.snd = (7 : Int)) = true →
                                    (decide ((numF [(48 : UInt8), (48 : UInt8), (55 : UInt8)] (0 : Int) (0 : Int) (9 : Int)).snd.snd = (5 : Int)) = true →
                                        (decide ((numF [(45 : UInt8)] (0 : Int) (0 : Int) (9 : Int)).snd.snd = (4 : Int)) = true →
                                            (decide ((litF [(97 : UInt8), (98 : UInt8), (99 : UInt8)] (1 : Int) [(98 : UInt8), (99 : UInt8)]).fst = (3 : Int)) = true →
                                                (decide ((litF [(97 : UInt8), (98 : UInt8), (99 : UInt8)] (1 : Int) [(98 : UInt8), (99 : UInt8)]).snd = (0 : Int)) = true →
                                                    (decide ((litF [(97 : UInt8), (98 : UInt8)] (1 : Int) [(98 : UInt8), (99 : UInt8)]).snd = (4 : Int)) = true →
                                                        (decide ((litF [(97 : UInt8), (98 : UInt8)] (1 : Int) [(120 : UInt8)]).snd = (8 : Int)) = true →
                                                            (decide ((lineF [(120 : UInt8), (10 : UInt8), (97 : UInt8), (98 : UInt8), (10 : UInt8)] (2 : Int)).fst = [(97 : UInt8), (98 : UInt8)]) =
                                                                  true →
                                                                (decide ((lineF [(120 : UInt8), (10 : UInt8), (97 : UInt8), (98 : UInt8), (10 : UInt8)] (2 : Int)).snd.fst = (5 : Int)) = true →
                                                                    (decide ((lineF [(120 : UInt8), (10 : UInt8), (97 : UInt8), (98 : UInt8), (10 : UInt8)] (2 : Int)).snd.snd = (0 : Int)) = true →
                                                                        (decide ((lineF [(120 : UInt8), (10 : UInt8), (97 : UInt8), (98 : UInt8)] (2 : Int)).snd.snd = (4 : Int)) = true →
                                                                            (decide ((litF [(97 : UInt8), (98 : UInt8)] (3 : Int) []).snd = (2 : Int)) = true →
                                                                                InI (-40 : Int) ∧ (decide (Lib.itoa (-40 : Int) = [(45 : UInt8), (52 : UInt8), (48 : UInt8)]), ()) = (true, ())) ∧
                                                                              (decide ((litF [(97 : UInt8), (98 : UInt8)] (3 : Int) []).snd = (2 : Int)) = !true → (false, ()) = (true, ()))) ∧
                                                                          (decide ((lineF [(120 : UInt8), (10 : UInt8), (97 : UInt8), (98 : UInt8)] (2 : Int)).snd.snd = (4 : Int)) = !true →
                                                                            (false, ()) = (true, ()))) ∧
                                                                      (decide ((lineF [(120 : UInt8), (10 : UInt8), (97 : UInt8), (98 : UInt8), (10 : UInt8)] (2 : Int)).snd.snd = (0 : Int)) = !true →
                                                                        (false, ()) = (true, ()))) ∧
                                                                  (decide ((lineF [(120 : UInt8), (10 : UInt8), (97 : UInt8), (98 : UInt8), (10 : UInt8)] (2 : Int)).snd.fst = (5 : Int)) = !true →
                                                                    (false, ()) = (true, ()))) ∧
                                                              (decide ((lineF [(120 : UInt8), (10 : UInt8), (97 : UInt8), (98 : UInt8), (10 : UInt8)] (2 : Int)).fst = [(97 : UInt8), (98 : UInt8)]) =
                                                                  !true →
                                                                (false, ()) = (true, ()))) ∧
                                                          (decide ((litF [(97 : UInt8), (98 : UInt8)] (1 : Int) [(120 : UInt8)]).snd = (8 : Int)) = !true → (false, ()) = (true, ()))) ∧
                                                      (decide ((litF [(97 : UInt8), (98 : UInt8)] (1 : Int) [(98 : UInt8), (99 : UInt8)]).snd = (4 : Int)) = !true → (false, ()) = (true, ()))) ∧
                                                  (decide ((litF [(97 : UInt8), (98 : UInt8), (99 : UInt8)] (1 : Int) [(98 : UInt8), (99 : UInt8)]).snd = (0 : Int)) = !true →
                                                    (false, ()) = (true, ()))) ∧
                                              (decide ((litF [(97 : UInt8), (98 : UInt8), (99 : UInt8)] (1 : Int) [(98 : UInt8), (99 : UInt8)]).fst = (3 : Int)) = !true → (false, ()) = (true, ()))) ∧
                                          (decide ((numF [(45 : UInt8)] (0 : Int) (0 : Int) (9 : Int)).snd.snd = (4 : Int)) = !true → (false, ()) = (true, ()))) ∧
                                      (decide ((numF [(48 : UInt8), (48 : UInt8), (55 : UInt8)] (0 : Int) (0 : Int) (9 : Int)).snd.snd = (5 : Int)) = !true → (false, ()) = (true, ()))) ∧
                                  (decide ((numF [(97 : UInt8), (49 : UInt8), (50 : UInt8), (44 : UInt8), (51 : UInt8)] (1 : Int) (0 : Int) (9 : Int)).snd.snd = (7 : Int)) = !true →
                                    (false, ()) = (true, ()))) ∧
                              (decide ((numF [(97 : UInt8), (49 : UInt8), (50 : UInt8), (44 : UInt8), (51 : UInt8)] (1 : Int) (0 : Int) (99 : Int)).snd.snd = (0 : Int)) = !true →
                                (false, ()) = (true, ()))) ∧
                          (decide ((numF [(97 : UInt8), (49 : UInt8), (50 : UInt8), (44 : UInt8), (51 : UInt8)] (1 : Int) (0 : Int) (99 : Int)).snd.fst = (3 : Int)) = !true →
                            (false, ()) = (true, ()))) ∧
                      (decide ((numF [(97 : UInt8), (49 : UInt8), (50 : UInt8), (44 : UInt8), (51 : UInt8)] (1 : Int) (0 : Int) (99 : Int)).fst = (12 : Int)) = !true → (false, ()) = (true, ()))

theorem g_awake_eq  : g_awake  = g_awake_vc  := by kernel_rfl
theorem aw1 : numF [(97 : UInt8), (49 : UInt8), (50 : UInt8), (44 : UInt8), (51 : UInt8)] 1 0 99 = (12, 3, 0) := by decide
theorem aw2 : numF [(97 : UInt8), (49 : UInt8), (50 : UInt8), (44 : UInt8), (51 : UInt8)] 1 0 9 = (0, 0, 7) := by decide
theorem aw3 : numF [(48 : UInt8), (48 : UInt8), (55 : UInt8)] 0 0 9 = (0, 0, 5) := by decide
theorem aw4 : numF [(45 : UInt8)] 0 0 9 = (0, 0, 4) := by decide
theorem aw5 : litF [(97 : UInt8), (98 : UInt8), (99 : UInt8)] 1 [(98 : UInt8), (99 : UInt8)] = (3, 0) := by decide
theorem aw6 : litF [(97 : UInt8), (98 : UInt8)] 1 [(98 : UInt8), (99 : UInt8)] = (0, 4) := by decide
theorem aw7 : litF [(97 : UInt8), (98 : UInt8)] 1 [(120 : UInt8)] = (0, 8) := by decide
theorem aw8 : lineF [(120 : UInt8), (10 : UInt8), (97 : UInt8), (98 : UInt8), (10 : UInt8)] 2 = ([(97 : UInt8), (98 : UInt8)], 5, 0) := by decide
theorem aw9 : lineF [(120 : UInt8), (10 : UInt8), (97 : UInt8), (98 : UInt8)] 2 = ([], 0, 4) := by decide
theorem aw10 : litF [(97 : UInt8), (98 : UInt8)] 3 [] = (0, 2) := by decide
theorem aw11 : Lib.itoa (-40) = [(45 : UInt8), (52 : UInt8), (48 : UInt8)] := by
  have h0 : Lib.decDigits 40 = [(52 : UInt8), (48 : UInt8)] := by
    rw [Lib.decDigits, dif_neg (by decide), Lib.decDigits, dif_pos (by decide)]
    rfl
  have h1 : Lib.itoa (-40) = 45 :: Lib.decDigits 40 := rfl
  rw [h1, h0]
theorem aw12 : InI (-40) := ⟨by decide, by decide⟩
theorem g_awake_ok : g_awake_vc := by
  unfold g_awake_vc
  simp only [aw1, aw2, aw3, aw4, aw5, aw6, aw7, aw8, aw9, aw10, aw11, aw12]
  simp
set_option maxRecDepth 20000 in
theorem awake_pure  : Pure Tryd.prog 10 [] (.bool true) :=
  Pure.of_g (E := env_awake ) (ts := tsOf Tryd.f10) (ps := [.bool]) (r := (true, ())) (fn := Tryd.f10) (c := codeOf Tryd.f10) (specs_ok (P := Tryd.prog) rfl [sp_num, sp_lit, sp_line, sp_digitsOf] [] rfl rfl) mixed Tryd.func10 rfl rfl (g := g_awake ) (by delta g_awake start0; first | with_reducible exact Eq.refl _ | exact Eq.refl _) (by rw [g_awake_eq ]; exact g_awake_ok )
def q_awake  : Prop × V := (True, (.bool true))
noncomputable def sp_awake : FSpec Tryd.prog where
  f := 10
  run := fun args => match args with
    | [] => some (q_awake )
    | _ => none
  ok := fun args pre r h hp => by
    try dsimp only at h
    split at h
    ·
      have h := Option.some.inj h
      unfold q_awake at h
      cases h
      exact (awake_pure ).weak .nil
    · cases h

noncomputable def env_tells (s : By) (a lo hi : Int) (w : By) : Env where
  P := Tryd.prog
  ty := tys0
  specs := specsOf [sp_awake, sp_lit, sp_rlit, sp_num, sp_rnum]
noncomputable def g_tells (s : By) (a lo hi : Int) (w : By) : Prop := vc (env_tells s a lo hi w) (codeOf Tryd.f3) (start0 Tryd.f3 [.str s, .agg [.int .i64 a, .int .i64 lo, .int .i64 hi], .str w]) (exitK (tsOf Tryd.f3) [.bool] (true, ()))
def g_tells_vc (s : By) (a : Int) (lo : Int) (hi : Int) (w : By) : Prop :=
  (decide ((500 : Int) < (↑(List.length s) : Int)) = false →
    (decide ((100 : Int) < (↑(List.length w) : Int)) = true → True ∧ (true, ()) = (true, ())) ∧
      (decide ((100 : Int) < (↑(List.length w) : Int)) = false →
        (List.length s ≤ (1000000 : Nat) ∧ List.length w ≤ (1000000 : Nat)) ∧
          (List.length s ≤ (1000000 : Nat) ∧ List.length w ≤ (1000000 : Nat)) ∧
            List.length s ≤ (10000 : Nat) ∧
              List.length s ≤ (10000 : Nat) ∧
                (decide ((litF s a w).fst = (litF s a w).fst) = true →
                    (decide ((litF s a w).snd = (litF s a w).snd) = true →
                        (decide ((numF s a lo hi).fst = (numF s a lo hi).fst) = true →
                            (decide ((numF s a lo hi).snd.fst = (numF s a lo hi).snd.fst) = true →
                                (decide ((numF s a lo hi).snd.snd = (numF s a lo hi).snd.snd) = true → True ∧ (true, ()) = (true, ())) ∧
                                  (decide ((numF s a lo hi).snd.snd = (numF s a lo hi).snd.snd) = !true → (false, ()) = (true, ()))) ∧
                              (decide ((numF s a lo hi).snd.fst = (numF s a lo hi).snd.fst) = !true → (false, ()) = (true, ()))) ∧
                          (decide ((numF s a lo hi).fst = (numF s a lo hi).fst) = !true → (false, ()) = (true, ()))) ∧
                      (decide ((litF s a w).snd = (litF s a w).snd) = !true → (false, ()) = (true, ()))) ∧
                  (decide ((litF s a w).fst = (litF s a w).fst) = !true → (false, ()) = (true, ())))) ∧
  (decide ((500 : Int) < (↑(List.length s) : Int)) = !false → True ∧ (true, ()) = (true, ()))

theorem g_tells_eq (s : By) (a lo hi : Int) (w : By) : g_tells s a lo hi w = g_tells_vc s a lo hi w := by kernel_rfl
theorem g_tells_ok (s : By) (a lo hi : Int) (w : By) : g_tells_vc s a lo hi w := by
  unfold g_tells_vc
  by_cases c : (500 : Int) < (s.length : Int)
  · simp [c]
  · by_cases d : (100 : Int) < (w.length : Int)
    · simp [c, d]
    · have h1 : s.length ≤ 10000 := by omega
      have h2 : s.length ≤ 1000000 := by omega
      have h3 : w.length ≤ 1000000 := by omega
      simp [c, d, h1, h2, h3]
set_option maxRecDepth 20000 in
theorem tells_pure (s : By) (a lo hi : Int) (w : By) : Pure Tryd.prog 3 [.str s, .agg [.int .i64 a, .int .i64 lo, .int .i64 hi], .str w] (.bool true) :=
  Pure.of_g (E := env_tells s a lo hi w) (ts := tsOf Tryd.f3) (ps := [.bool]) (r := (true, ())) (fn := Tryd.f3) (c := codeOf Tryd.f3) (specs_ok (P := Tryd.prog) rfl [sp_awake, sp_lit, sp_rlit, sp_num, sp_rnum] [] rfl rfl) mixed Tryd.func3 rfl rfl (g := g_tells s a lo hi w) (by delta g_tells start0; first | with_reducible exact Eq.refl _ | exact Eq.refl _) (by rw [g_tells_eq s a lo hi w]; exact g_tells_ok s a lo hi w)
def q_tells (s : By) (a lo hi : Int) (w : By) : Prop × V := (True, (.bool true))
noncomputable def sp_tells : FSpec Tryd.prog where
  f := 3
  run := fun args => match args with
    | [.str s, .agg [.int .i64 a, .int .i64 lo, .int .i64 hi], .str w] => some (q_tells s a lo hi w)
    | _ => none
  ok := fun args pre r h hp => by
    try dsimp only at h
    split at h
    · rename_i s a lo hi w
      have h := Option.some.inj h
      unfold q_tells at h
      cases h
      exact (tells_pure s a lo hi w).weak (.cons (Weak.refl _) (.cons (Weak.refl _) (.cons (Weak.refl _) .nil)))
    · cases h

noncomputable def env_lines (s : By) (a : Int) : Env where
  P := Tryd.prog
  ty := tys0
  specs := specsOf [sp_awake, sp_line, sp_rline, sp_digitsOf, sp_rdigitsOf]
noncomputable def g_lines (s : By) (a : Int) : Prop := vc (env_lines s a) (codeOf Tryd.f4) (start0 Tryd.f4 [.str s, .int .i64 a]) (exitK (tsOf Tryd.f4) [.bool] (true, ()))
def g_lines_vc (s : By) (a : Int) : Prop :=
  (decide ((500 : Int) < (↑(List.length s) : Int)) = true → True ∧ (true, ()) = (true, ())) ∧
  (decide ((500 : Int) < (↑(List.length s) : Int)) = false →
    List.length s ≤ (1000000 : Nat) ∧
      List.length s ≤ (1000000 : Nat) ∧
        (decide ((lineF s a).fst = (lineF s a).fst) = true →
            (decide ((lineF s a).snd.fst = (lineF s a).snd.fst) = true →
                (decide ((lineF s a).snd.snd = (lineF s a).snd.snd) = true →
                    InI a ∧ InI a ∧ (decide (Lib.itoa a = Lib.itoa a) = true → True ∧ (true, ()) = (true, ())) ∧ (decide (Lib.itoa a = Lib.itoa a) = !true → (false, ()) = (true, ()))) ∧
                  (decide ((lineF s a).snd.snd = (lineF s a).snd.snd) = !true → (false, ()) = (true, ()))) ∧
              (decide ((lineF s a).snd.fst = (lineF s a).snd.fst) = !true → (false, ()) = (true, ()))) ∧
          (decide ((lineF s a).fst = (lineF s a).fst) = !true → (false, ()) = (true, ())))

theorem g_lines_eq (s : By) (a : Int) : g_lines s a = g_lines_vc s a := by kernel_rfl
theorem g_lines_ok (s : By) (a : Int) (h : InI a) : g_lines_vc s a := by
  unfold g_lines_vc
  by_cases c : (500 : Int) < (s.length : Int)
  · simp [c]
  · have h2 : s.length ≤ 1000000 := by omega
    simp [c, h, h2]
set_option maxRecDepth 20000 in
theorem lines_pure (s : By) (a : Int) (h : InI a) : Pure Tryd.prog 4 [.str s, .int .i64 a] (.bool true) :=
  Pure.of_g (E := env_lines s a) (ts := tsOf Tryd.f4) (ps := [.bool]) (r := (true, ())) (fn := Tryd.f4) (c := codeOf Tryd.f4) (specs_ok (P := Tryd.prog) rfl [sp_awake, sp_line, sp_rline, sp_digitsOf, sp_rdigitsOf] [] rfl rfl) mixed Tryd.func4 rfl rfl (g := g_lines s a) (by delta g_lines start0; first | with_reducible exact Eq.refl _ | exact Eq.refl _) (by rw [g_lines_eq s a]; exact g_lines_ok s a h)
def q_lines (s : By) (a : Int) : Prop × V := (InI a, (.bool true))
noncomputable def sp_lines : FSpec Tryd.prog where
  f := 4
  run := fun args => match args with
    | [.str s, .int .i64 a] => some (q_lines s a)
    | _ => none
  ok := fun args pre r h hp => by
    try dsimp only at h
    split at h
    · rename_i s a
      have h := Option.some.inj h
      unfold q_lines at h
      cases h
      exact (lines_pure s a hp).weak (.cons (Weak.refl _) (.cons (Weak.refl _) .nil))
    · cases h

end Go.Proofs.YtdplodofdfkndaaDoor
