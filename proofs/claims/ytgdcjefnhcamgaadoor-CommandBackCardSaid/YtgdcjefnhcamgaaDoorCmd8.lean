/-
  command: the document's text, and what it reads. The walk.
-/
import Derived.Test.YtgdcjefnhcamgaaDoorCmd7
namespace Go.Proofs.YtgdcjefnhcamgaaDoor
open Go.Vm

theorem nums_in {c : CmD} (h : InC c) (h50 : (linesF c).length ≤ 50) : ∀ n ∈ numsF c, InI n := by
  intro n hn
  unfold numsF at hn
  rw [List.mem_append] at hn
  rcases hn with hn | hn
  · obtain ⟨j, _, rfl⟩ := List.mem_map.1 hn
    exact nthI_in h j
  · split at hn
    · rcases List.mem_cons.1 hn with rfl | hn
      · unfold InI; omega
      · obtain ⟨x, hx, hn⟩ := List.mem_flatMap.1 hn
        exact h.2 x hx n hn
    · cases hn
theorem nums_len {c : CmD} (h50 : (linesF c).length ≤ 50) : (numsF c).length ≤ 300 := by
  unfold numsF
  have h1 := partF_len c.1
  have h2 := lines_len (l := linesF c) (i := (linesF c).length)
  rw [List.take_length] at h2
  rw [List.length_append, List.length_map]
  split
  · rw [List.length_cons]
    omega
  · simp only [List.length_nil]
    omega
noncomputable def env_rprint (k a b c d : Int) (s p : Bool) (n m : Int) (l : List LnD) : Env where
  P := Tryd.prog
  ty := tys0
  specs := specsOf [sp_rcheck, sp_rword, sp_rsaid, sp_rdigitsOf]
  frz := fun | 17 => true | _ => false
  heads := fun
    | 7 => some { slots := [(5, .str), (7, .int .i64)], boxes := [], keep := [1], inv := fun _ (x : By × Int × Unit) => 0 ≤ x.2.1 ∧ x.2.1 ≤ (numsF (k, a, b, c, d, s, p, (n, m), l)).length ∧ x.1 = wordF k ++ sayF ((numsF (k, a, b, c, d, s, p, (n, m), l)).take x.2.1.toNat), measure := fun _ (x : By × Int × Unit) => ((numsF (k, a, b, c, d, s, p, (n, m), l)).length - x.2.1).toNat }
    | _ => none
noncomputable def g_rprint (k a b c d : Int) (s p : Bool) (n m : Int) (l : List LnD) : Prop := vc (env_rprint k a b c d s p n m l) (codeOf Tryd.f8) (start0 Tryd.f8 [.agg [.int .i64 k, .int .i64 a, .int .i64 b, .int .i64 c, .int .i64 d, .bool s, .bool p, .int .i64 n, .int .i64 m, .list .tmp Ln l]]) (exitK (tsOf Tryd.f8) [.str, .int .i64] ((printF (k, a, b, c, d, s, p, (n, m), l)).1, (printF (k, a, b, c, d, s, p, (n, m), l)).2, ()))
def g_rprint_vc (k : Int) (a : Int) (b : Int) (c : Int) (d : Int) (s : Bool) (p : Bool) (n : Int) (m : Int) (l : List LnD) : Prop :=
  True ∧ ((!decide (checkF (k, a, b, c, d, s, p, (n, m), l) = (0 : Int))) = true → ([], checkF (k, a, b, c, d, s, p, (n, m), l), ()) = ((printF (k, a, b, c, d, s, p, (n, m), l)).fst, (printF (k, a, b, c, d, s, p, (n, m), l)).snd, ())) ∧ ((!decide (checkF (k, a, b, c, d, s, p, (n, m), l) = (0 : Int))) = false → ((1 : Int) ≤ k ∧ k ≤ (8 : Int)) ∧ ((1 : Int) ≤ k ∧ k ≤ (8 : Int) ∧ l.length ≤ (50 : Nat)) ∧ ((some (Obj.box [V.int IntKind.i64 k, V.int IntKind.i64 a, V.int IntKind.i64 b, V.int IntKind.i64 c, V.int IntKind.i64 d, V.bool s, V.bool p, V.int IntKind.i64 n, V.int IntKind.i64 m, V.list LK.tmp Ln l]) = some (Obj.box [V.int IntKind.i64 k, V.int IntKind.i64 a, V.int IntKind.i64 b, V.int IntKind.i64 c, V.int IntKind.i64 d, V.bool s, V.bool p, V.int IntKind.i64 n, V.int IntKind.i64 m, V.list LK.tmp Ln l]) ∧ True) ∧ (0 : Int) ≤ (0 : Int) ∧ (0 : Int) ≤ (↑(numsF (k, a, b, c, d, s, p, (n, m), l)).length : Int) ∧ wordF k = wordF k ++ sayF (List.take (Int.toNat (0 : Int)) (numsF (k, a, b, c, d, s, p, (n, m), l)))) ∧ ∀ (x : List UInt8 × Int × Unit), (0 : Int) ≤ x.snd.fst ∧ x.snd.fst ≤ (↑(numsF (k, a, b, c, d, s, p, (n, m), l)).length : Int) ∧ x.fst = wordF k ++ sayF (List.take x.snd.fst.toNat (numsF (k, a, b, c, d, s, p, (n, m), l))) → (decide (x.snd.fst < (↑(numsF (k, a, b, c, d, s, p, (n, m), l)).length : Int)) = true → x.fst.length + (1 : Nat) ≤ (9223372036854775807 : Nat) ∧ ((0 : Int) ≤ x.snd.fst ∧ x.snd.fst < (↑(numsF (k, a, b, c, d, s, p, (n, m), l)).length : Int)) ∧ ∀ (x_1 : Int), (numsF (k, a, b, c, d, s, p, (n, m), l))[x.snd.fst.toNat]? = some x_1 → InI x_1 ∧ (x.fst ++ [(32 : UInt8)]).length + (Lib.itoa x_1).length ≤ (9223372036854775807 : Nat) ∧ ((-9223372036854775808 : Int) ≤ x.snd.fst + (1 : Int) ∧ x.snd.fst + (1 : Int) ≤ (9223372036854775807 : Int)) ∧ (some (Obj.box [V.int IntKind.i64 k, V.int IntKind.i64 a, V.int IntKind.i64 b, V.int IntKind.i64 c, V.int IntKind.i64 d, V.bool s, V.bool p, V.int IntKind.i64 n, V.int IntKind.i64 m, V.list LK.tmp Ln l]) = some (Obj.box [V.int IntKind.i64 k, V.int IntKind.i64 a, V.int IntKind.i64 b, V.int IntKind.i64 c, V.int IntKind.i64 d, V.bool s, V.bool p, V.int IntKind.i64 n, V.int IntKind.i64 m, V.list LK.tmp Ln l]) ∧ True) ∧ ((0 : Int) ≤ x.snd.fst + (1 : Int) ∧ x.snd.fst + (1 : Int) ≤ (↑(numsF (k, a, b, c, d, s, p, (n, m), l)).length : Int) ∧ x.fst ++ [(32 : UInt8)] ++ Lib.itoa x_1 = wordF k ++ sayF (List.take (x.snd.fst + (1 : Int)).toNat (numsF (k, a, b, c, d, s, p, (n, m), l)))) ∧ ((↑(numsF (k, a, b, c, d, s, p, (n, m), l)).length : Int) - (x.snd.fst + (1 : Int))).toNat < ((↑(numsF (k, a, b, c, d, s, p, (n, m), l)).length : Int) - x.snd.fst).toNat) ∧ (decide (x.snd.fst < (↑(numsF (k, a, b, c, d, s, p, (n, m), l)).length : Int)) = false → (x.fst, (0 : Int), ()) = ((printF (k, a, b, c, d, s, p, (n, m), l)).fst, (printF (k, a, b, c, d, s, p, (n, m), l)).snd, ())))
theorem g_rprint_eq (k a b c d : Int) (s p : Bool) (n m : Int) (l : List LnD) : g_rprint k a b c d s p n m l = g_rprint_vc k a b c d s p n m l := by kernel_rfl
theorem g_rprint_ok (k a b c d : Int) (s p : Bool) (n m : Int) (l : List LnD) (h : InC (k, a, b, c, d, s, p, (n, m), l)) : g_rprint_vc k a b c d s p n m l := by
  unfold g_rprint_vc
  simp only [decide_eq_true_eq, decide_eq_false_iff_not, Bool.not_eq_true', Bool.not_eq_false', Bool.not_true, Bool.not_false]
  have hK : checkF (k, a, b, c, d, s, p, (n, m), l) = 0 → 1 ≤ k ∧ k ≤ 8 ∧ l.length ≤ 50 := fun e => checkF_kind e
  have hsl : l.length ≤ 50 → ∀ i : Nat, (wordF k ++ sayF ((numsF (k, a, b, c, d, s, p, (n, m), l)).take i)).length ≤ 1000000 := fun h5 i => by
    have h1 := wordF_len k
    have h2 := say_len (l := (numsF (k, a, b, c, d, s, p, (n, m), l)).take i) fun n hn => nums_in h h5 n (List.mem_of_mem_take hn)
    have h3 := nums_len (c := (k, a, b, c, d, s, p, (n, m), l)) h5
    have h4 := List.length_take_le' i (numsF (k, a, b, c, d, s, p, (n, m), l))
    rw [List.length_append]
    omega
  repeat' (first
    | with_reducible apply And.intro
    | (intro (x : List UInt8 × Int × Unit); obtain ⟨o, i, ⟨⟩⟩ := x; rintro ⟨h0, h1, ho⟩; dsimp only at h0 h1 ho ⊢)
    | intro _)
  all_goals try (first | trivial | rfl | omega)
  · rename_i e
    unfold printF
    rw [if_neg e]
  · simp [sayF]
  · rename_i e _
    have := hsl (hK e).2.2 i.toNat
    rw [← ho] at this
    omega
  · rename_i e _ x hx
    exact nums_in h (hK e).2.2 x (List.mem_of_getElem? hx)
  · rename_i e _ x hx
    have h1 := hsl (hK e).2.2 i.toNat
    rw [← ho] at h1
    have h2 := itoa_len (nums_in h (hK e).2.2 x (List.mem_of_getElem? hx))
    rw [List.length_append]
    simp only [List.length_singleton]
    omega
  · rename_i e _ _ _
    have := nums_len (c := (k, a, b, c, d, s, p, (n, m), l)) (hK e).2.2
    omega
  · rename_i hx
    rw [ho, show (i + 1).toNat = i.toNat + 1 by omega, sayF_next hx]
    simp only [List.append_assoc]
  · rename_i e hi
    unfold printF
    rw [if_pos e, ho, List.take_of_length_le (by omega)]
    rfl
set_option maxRecDepth 20000 in
theorem rprint_pure (k a b c d : Int) (s p : Bool) (n m : Int) (l : List LnD) (h : InC (k, a, b, c, d, s, p, (n, m), l)) : Pure Tryd.prog 8 [.agg [.int .i64 k, .int .i64 a, .int .i64 b, .int .i64 c, .int .i64 d, .bool s, .bool p, .int .i64 n, .int .i64 m, .list .tmp Ln l]] (.tuple [.str (printF (k, a, b, c, d, s, p, (n, m), l)).1, .int .i64 (printF (k, a, b, c, d, s, p, (n, m), l)).2]) :=
  Pure.of_g (E := env_rprint k a b c d s p n m l) (ts := tsOf Tryd.f8) (ps := [.str, .int .i64]) (r := ((printF (k, a, b, c, d, s, p, (n, m), l)).1, (printF (k, a, b, c, d, s, p, (n, m), l)).2, ())) (fn := Tryd.f8) (c := codeOf Tryd.f8) (specs_ok (P := Tryd.prog) rfl [sp_rcheck, sp_rword, sp_rsaid, sp_rdigitsOf] [] rfl rfl) mixed Tryd.func8 rfl rfl (g := g_rprint k a b c d s p n m l) (by delta g_rprint start0; first | with_reducible exact Eq.refl _ | exact Eq.refl _) (by rw [g_rprint_eq k a b c d s p n m l]; exact g_rprint_ok k a b c d s p n m l h)
noncomputable def q_rprint (k a b c d : Int) (s p : Bool) (n m : Int) (l : List LnD) : Prop × V := (InC (k, a, b, c, d, s, p, (n, m), l), (.tuple [.str (printF (k, a, b, c, d, s, p, (n, m), l)).1, .int .i64 (printF (k, a, b, c, d, s, p, (n, m), l)).2]))
noncomputable def sp_rprint : FSpec Tryd.prog where
  f := 8
  run := fun args => match args with
    | [.agg [.int .i64 k, .int .i64 a, .int .i64 b, .int .i64 c, .int .i64 d, v0_5, v0_6, .int .i64 n, .int .i64 m, v0_9]] => (match boolOf v0_5 with | some s => (match boolOf v0_6 with | some p => (match (asL Ln v0_9 : Option (List LnD)) with | some l => some (q_rprint k a b c d s p n m l) | none => none) | none => none) | none => none)
    | _ => none
  ok := fun args pre r h hp => by
    try dsimp only at h
    split at h
    · rename_i k a b c d v0_5 v0_6 n m v0_9
      cases h0_5 : boolOf v0_5 with
      | none => rw [h0_5] at h; cases h
      | some s =>
      rw [h0_5] at h
      try dsimp only at h
      cases h0_6 : boolOf v0_6 with
      | none => rw [h0_6] at h; cases h
      | some p =>
      rw [h0_6] at h
      try dsimp only at h
      cases h0_9 : (asL Ln v0_9 : Option (List LnD)) with
      | none => rw [h0_9] at h; cases h
      | some l =>
      rw [h0_9] at h
      try dsimp only at h
      have h := Option.some.inj h
      unfold q_rprint at h
      cases h
      exact (rprint_pure k a b c d s p n m l hp).weak (.cons (Weak.agg (.cons (Weak.refl _) (.cons (Weak.refl _) (.cons (Weak.refl _) (.cons (Weak.refl _) (.cons (Weak.refl _) (.cons (boolOf_weak h0_5) (.cons (boolOf_weak h0_6) (.cons (Weak.refl _) (.cons (Weak.refl _) (.cons (asL_weak h0_9) .nil))))))))))) .nil)
    · cases h

def rnumF (s : By) (a lo hi : Int) : Int × Int × Int := withinF s a 0 lo hi
theorem litF_zero {s : By} {a : Int} {w : By} (h : ¬ (litF s a w).2 = 0) : (litF s a w).1 = 0 := by
  unfold litF at h ⊢
  repeat' split
  all_goals first | rfl | (rename_i h1 h2; rw [if_neg h1, if_pos h2] at h; exact absurd rfl h)
noncomputable def env_rnumber (s : By) (a lo hi : Int) : Env where
  P := Tryd.prog
  ty := tys0
  specs := specsOf [sp_rlit, sp_rnum]
noncomputable def g_rnumber (s : By) (a lo hi : Int) : Prop := vc (env_rnumber s a lo hi) (codeOf Tryd.f31) (start0 Tryd.f31 [.str s, .int .i64 a, .int .i64 lo, .int .i64 hi]) (exitK (tsOf Tryd.f31) [.int .i64, .int .i64, .int .i64] ((rnumF s a lo hi).1, (rnumF s a lo hi).2.1, (rnumF s a lo hi).2.2, ()))
def g_rnumber_vc (s : By) (a : Int) (lo : Int) (hi : Int) : Prop :=
  (List.length s ≤ (1000000 : Nat) ∧ (1 : Nat) ≤ (1000000 : Nat)) ∧ ((!decide ((litF s a [(32 : UInt8)]).snd = (0 : Int))) = true → ((0 : Int), (0 : Int), (litF s a [(32 : UInt8)]).snd, ()) = ((rnumF s a lo hi).fst, (rnumF s a lo hi).snd.fst, (rnumF s a lo hi).snd.snd, ())) ∧ ((!decide ((litF s a [(32 : UInt8)]).snd = (0 : Int))) = false → List.length s ≤ (10000 : Nat) ∧ ((numF s (litF s a [(32 : UInt8)]).fst lo hi).fst, (numF s (litF s a [(32 : UInt8)]).fst lo hi).snd.fst, (numF s (litF s a [(32 : UInt8)]).fst lo hi).snd.snd, ()) = ((rnumF s a lo hi).fst, (rnumF s a lo hi).snd.fst, (rnumF s a lo hi).snd.snd, ()))
theorem g_rnumber_eq (s : By) (a lo hi : Int) : g_rnumber s a lo hi = g_rnumber_vc s a lo hi := by kernel_rfl
theorem g_rnumber_ok (s : By) (a lo hi : Int) (h : s.length ≤ 10000) : g_rnumber_vc s a lo hi := by
  unfold g_rnumber_vc rnumF withinF
  simp only [decide_eq_true_eq, decide_eq_false_iff_not, Bool.not_eq_true', Bool.not_eq_false', Bool.not_true, Bool.not_false, if_true]
  repeat' (first | with_reducible apply And.intro | intro _)
  all_goals try (first | trivial | rfl | omega)
  · rename_i e
    rw [if_neg e, litF_zero e]
  · rename_i e
    rw [if_pos e]
set_option maxRecDepth 20000 in
theorem rnumber_pure (s : By) (a lo hi : Int) (h : s.length ≤ 10000) : Pure Tryd.prog 31 [.str s, .int .i64 a, .int .i64 lo, .int .i64 hi] (.tuple [.int .i64 (rnumF s a lo hi).1, .int .i64 (rnumF s a lo hi).2.1, .int .i64 (rnumF s a lo hi).2.2]) :=
  Pure.of_g (E := env_rnumber s a lo hi) (ts := tsOf Tryd.f31) (ps := [.int .i64, .int .i64, .int .i64]) (r := ((rnumF s a lo hi).1, (rnumF s a lo hi).2.1, (rnumF s a lo hi).2.2, ())) (fn := Tryd.f31) (c := codeOf Tryd.f31) (specs_ok (P := Tryd.prog) rfl [sp_rlit, sp_rnum] [] rfl rfl) mixed Tryd.func31 rfl rfl (g := g_rnumber s a lo hi) (by delta g_rnumber start0; first | with_reducible exact Eq.refl _ | exact Eq.refl _) (by rw [g_rnumber_eq s a lo hi]; exact g_rnumber_ok s a lo hi h)
noncomputable def q_rnumber (s : By) (a lo hi : Int) : Prop × V := (s.length ≤ 10000, (.tuple [.int .i64 (rnumF s a lo hi).1, .int .i64 (rnumF s a lo hi).2.1, .int .i64 (rnumF s a lo hi).2.2]))
noncomputable def sp_rnumber : FSpec Tryd.prog where
  f := 31
  run := fun args => match args with
    | [.str s, .int .i64 a, .int .i64 lo, .int .i64 hi] => some (q_rnumber s a lo hi)
    | _ => none
  ok := fun args pre r h hp => by
    try dsimp only at h
    split at h
    · rename_i s a lo hi
      have h := Option.some.inj h
      unfold q_rnumber at h
      cases h
      exact (rnumber_pure s a lo hi hp).weak (.cons (Weak.refl _) (.cons (Weak.refl _) (.cons (Weak.refl _) (.cons (Weak.refl _) .nil))))
    · cases h

/-- So many numbers. -/
def rowGo (s : By) : Nat → Int → List Int → List Int × Int × Int
  | 0, a, out => (out, a, 0)
  | n + 1, a, out => if (anyF s a 0).2.2 = 0 then rowGo s n (anyF s a 0).2.1 (out ++ [(anyF s a 0).1]) else ([], 0, (anyF s a 0).2.2)
noncomputable def env_row (s : By) (a n : Int) : Env where
  P := Tryd.prog
  ty := tys0
  specs := specsOf [sp_rnumber]
  heads := fun
    | 3 => some { slots := [(1, .int .i64), (9, .slc 9000 I), (10, .int .i64)], boxes := [], keep := [], inv := fun _ (x : Int × List Int × Int × Unit) => 0 ≤ x.2.2.1 ∧ x.2.2.1 ≤ n ∧ (x.2.1.length : Int) = x.2.2.1 ∧ rowGo s n.toNat a [] = rowGo s (n.toNat - x.2.2.1.toNat) x.1 x.2.1, measure := fun _ (x : Int × List Int × Int × Unit) => (n - x.2.2.1).toNat }
    | _ => none
noncomputable def g_row (s : By) (a n : Int) : Prop := vc (env_row s a n) (codeOf Tryd.f30) (start0 Tryd.f30 [.str s, .int .i64 a, .int .i64 n]) (exitK (tsOf Tryd.f30) [.slc 9001 I, .int .i64, .int .i64] ((rowGo s n.toNat a []).1, (rowGo s n.toNat a []).2.1, (rowGo s n.toNat a []).2.2, ()))
def g_row_vc (s : By) (a : Int) (n : Int) : Prop :=
  (True ∧ (0 : Int) ≤ (0 : Int) ∧ (0 : Int) ≤ n ∧ (↑(0 : Nat) : Int) = (0 : Int) ∧ rowGo s n.toNat a [] = rowGo s (n.toNat - Int.toNat (0 : Int)) a []) ∧ ∀ (x : Int × List Int × Int × Unit), (0 : Int) ≤ x.snd.snd.fst ∧ x.snd.snd.fst ≤ n ∧ (↑x.snd.fst.length : Int) = x.snd.snd.fst ∧ rowGo s n.toNat a [] = rowGo s (n.toNat - x.snd.snd.fst.toNat) x.fst x.snd.fst → (decide (x.snd.snd.fst < n) = true → List.length s ≤ (10000 : Nat) ∧ ((!decide ((rnumF s x.fst (-9223372036854775808 : Int) (9223372036854775807 : Int)).snd.snd = (0 : Int))) = true → ([], (0 : Int), (rnumF s x.fst (-9223372036854775808 : Int) (9223372036854775807 : Int)).snd.snd, ()) = ((rowGo s n.toNat a []).fst, (rowGo s n.toNat a []).snd.fst, (rowGo s n.toNat a []).snd.snd, ())) ∧ ((!decide ((rnumF s x.fst (-9223372036854775808 : Int) (9223372036854775807 : Int)).snd.snd = (0 : Int))) = false → ((x.snd.fst.length + (1 : Nat)) * (8 : Nat) ≤ (140737488355328 : Nat) ∧ x.snd.fst.length + (1 : Nat) ≤ (4611686018427387904 : Nat)) ∧ ((-9223372036854775808 : Int) ≤ x.snd.snd.fst + (1 : Int) ∧ x.snd.snd.fst + (1 : Int) ≤ (9223372036854775807 : Int)) ∧ True ∧ ((0 : Int) ≤ x.snd.snd.fst + (1 : Int) ∧ x.snd.snd.fst + (1 : Int) ≤ n ∧ (↑(x.snd.fst ++ [(rnumF s x.fst (-9223372036854775808 : Int) (9223372036854775807 : Int)).fst]).length : Int) = x.snd.snd.fst + (1 : Int) ∧ rowGo s n.toNat a [] = rowGo s (n.toNat - (x.snd.snd.fst + (1 : Int)).toNat) (rnumF s x.fst (-9223372036854775808 : Int) (9223372036854775807 : Int)).snd.fst (x.snd.fst ++ [(rnumF s x.fst (-9223372036854775808 : Int) (9223372036854775807 : Int)).fst])) ∧ (n - (x.snd.snd.fst + (1 : Int))).toNat < (n - x.snd.snd.fst).toNat)) ∧ (decide (x.snd.snd.fst < n) = false → (x.snd.fst, x.fst, (0 : Int), ()) = ((rowGo s n.toNat a []).fst, (rowGo s n.toNat a []).snd.fst, (rowGo s n.toNat a []).snd.snd, ()))
theorem g_row_eq (s : By) (a n : Int) : g_row s a n = g_row_vc s a n := by kernel_rfl
theorem g_row_ok (s : By) (a n : Int) (h : s.length ≤ 10000 ∧ 0 ≤ n ∧ n ≤ 100) : g_row_vc s a n := by
  unfold g_row_vc
  simp only [decide_eq_true_eq, decide_eq_false_iff_not, Bool.not_eq_true', Bool.not_eq_false', Bool.not_true, Bool.not_false]
  repeat' (first
    | with_reducible apply And.intro
    | (intro (x : Int × List Int × Int × Unit); obtain ⟨at1, o, i, ⟨⟩⟩ := x; rintro ⟨h0, h1, hl, ho⟩; dsimp only at h0 h1 hl ho ⊢)
    | intro _)
  all_goals try (first | trivial | rfl | omega)
  · rename_i hi e
    have e : ¬ (anyF s at1 0).2.2 = 0 := e
    rw [ho, show n.toNat - i.toNat = (n.toNat - (i + 1).toNat) + 1 by omega]
    unfold rowGo
    rw [if_neg e]
    rfl
  · rw [List.length_append, List.length_singleton]
    omega
  · rename_i hi e
    have e : (anyF s at1 0).2.2 = 0 := e
    rw [ho, show n.toNat - i.toNat = (n.toNat - (i + 1).toNat) + 1 by omega]
    show rowGo s ((n.toNat - (i + 1).toNat) + 1) at1 o = _
    rw [rowGo, if_pos e]
    rfl
  · rw [ho, show n.toNat - i.toNat = 0 by omega]
    rfl
set_option maxRecDepth 20000 in
theorem row_pure (s : By) (a n : Int) (h : s.length ≤ 10000 ∧ 0 ≤ n ∧ n ≤ 100) : Pure Tryd.prog 30 [.str s, .int .i64 a, .int .i64 n] (.tuple [.olist I (rowGo s n.toNat a []).1, .int .i64 (rowGo s n.toNat a []).2.1, .int .i64 (rowGo s n.toNat a []).2.2]) :=
  Pure.of_g (E := env_row s a n) (ts := tsOf Tryd.f30) (ps := [.slc 9001 I, .int .i64, .int .i64]) (r := ((rowGo s n.toNat a []).1, (rowGo s n.toNat a []).2.1, (rowGo s n.toNat a []).2.2, ())) (fn := Tryd.f30) (c := codeOf Tryd.f30) (specs_ok (P := Tryd.prog) rfl [sp_rnumber] [] rfl rfl) mixed Tryd.func30 rfl rfl (g := g_row s a n) (by delta g_row start0; first | with_reducible exact Eq.refl _ | exact Eq.refl _) (by rw [g_row_eq s a n]; exact g_row_ok s a n h)
noncomputable def q_row (s : By) (a n : Int) : Prop × V := (s.length ≤ 10000 ∧ 0 ≤ n ∧ n ≤ 100, (.tuple [.olist I (rowGo s n.toNat a []).1, .int .i64 (rowGo s n.toNat a []).2.1, .int .i64 (rowGo s n.toNat a []).2.2]))
noncomputable def sp_row : FSpec Tryd.prog where
  f := 30
  run := fun args => match args with
    | [.str s, .int .i64 a, .int .i64 n] => some (q_row s a n)
    | _ => none
  ok := fun args pre r h hp => by
    try dsimp only at h
    split at h
    · rename_i s a n
      have h := Option.some.inj h
      unfold q_row at h
      cases h
      exact (row_pure s a n hp).weak (.cons (Weak.refl _) (.cons (Weak.refl _) (.cons (Weak.refl _) .nil)))
    · cases h

noncomputable def env_kind (s : By) : Env where
  P := Tryd.prog
  ty := tys0
  specs := specsOf [sp_rlit, sp_rword]
  heads := fun
    | 3 => some { slots := [(5, .int .i64), (6, .int .i64)], boxes := [], keep := [], inv := fun _ (x : Int × Int × Unit) => 1 ≤ x.2.1 ∧ x.2.1 ≤ 9 ∧ kindF s = kindL s (kinds.drop (x.2.1 - 1).toNat) x.1, measure := fun _ (x : Int × Int × Unit) => (9 - x.2.1).toNat }
    | _ => none
noncomputable def g_kind (s : By) : Prop := vc (env_kind s) (codeOf Tryd.f29) (start0 Tryd.f29 [.str s]) (exitK (tsOf Tryd.f29) [.int .i64, .int .i64, .int .i64] ((kindF s).1, (kindF s).2.1, (kindF s).2.2, ()))
def g_kind_vc (s : By) : Prop :=
  (True ∧ (1 : Int) ≤ (1 : Int) ∧ (1 : Int) ≤ (9 : Int) ∧ kindF s = kindL s (List.drop ((1 : Int) - (1 : Int)).toNat kinds) (8 : Int)) ∧ ∀ (x : Int × Int × Unit), (1 : Int) ≤ x.snd.fst ∧ x.snd.fst ≤ (9 : Int) ∧ kindF s = kindL s (List.drop (x.snd.fst - (1 : Int)).toNat kinds) x.fst → (decide (x.snd.fst ≤ (8 : Int)) = true → ((1 : Int) ≤ x.snd.fst ∧ x.snd.fst ≤ (8 : Int)) ∧ (List.length s ≤ (1000000 : Nat) ∧ (wordF x.snd.fst).length ≤ (1000000 : Nat)) ∧ (decide ((litF s (0 : Int) (wordF x.snd.fst)).snd = (0 : Int)) = true → (x.snd.fst, (litF s (0 : Int) (wordF x.snd.fst)).fst, (0 : Int), ()) = ((kindF s).fst, (kindF s).snd.fst, (kindF s).snd.snd, ())) ∧ (decide ((litF s (0 : Int) (wordF x.snd.fst)).snd = (0 : Int)) = false → (decide ((litF s (0 : Int) (wordF x.snd.fst)).snd = (4 : Int)) = true → ((-9223372036854775808 : Int) ≤ x.snd.fst + (1 : Int) ∧ x.snd.fst + (1 : Int) ≤ (9223372036854775807 : Int)) ∧ True ∧ ((1 : Int) ≤ x.snd.fst + (1 : Int) ∧ x.snd.fst + (1 : Int) ≤ (9 : Int) ∧ kindF s = kindL s (List.drop (x.snd.fst + (1 : Int) - (1 : Int)).toNat kinds) (4 : Int)) ∧ ((9 : Int) - (x.snd.fst + (1 : Int))).toNat < ((9 : Int) - x.snd.fst).toNat) ∧ (decide ((litF s (0 : Int) (wordF x.snd.fst)).snd = (4 : Int)) = false → ((-9223372036854775808 : Int) ≤ x.snd.fst + (1 : Int) ∧ x.snd.fst + (1 : Int) ≤ (9223372036854775807 : Int)) ∧ True ∧ ((1 : Int) ≤ x.snd.fst + (1 : Int) ∧ x.snd.fst + (1 : Int) ≤ (9 : Int) ∧ kindF s = kindL s (List.drop (x.snd.fst + (1 : Int) - (1 : Int)).toNat kinds) x.fst) ∧ ((9 : Int) - (x.snd.fst + (1 : Int))).toNat < ((9 : Int) - x.snd.fst).toNat))) ∧ (decide (x.snd.fst ≤ (8 : Int)) = false → ((0 : Int), (0 : Int), x.fst, ()) = ((kindF s).fst, (kindF s).snd.fst, (kindF s).snd.snd, ()))
theorem g_kind_eq (s : By) : g_kind s = g_kind_vc s := by kernel_rfl
theorem g_kind_ok (s : By) (h : s.length ≤ 10000) : g_kind_vc s := by
  unfold g_kind_vc
  simp only [decide_eq_true_eq, decide_eq_false_iff_not, Bool.not_eq_true', Bool.not_eq_false', Bool.not_true, Bool.not_false]
  have step : ∀ (w k : Int), 1 ≤ k → k < 9 → kindF s = kindL s (kinds.drop (k - 1).toNat) w → kindF s = if (litF s 0 (wordF k)).2 = 0 then (k, (litF s 0 (wordF k)).1, 0) else kindL s (kinds.drop k.toNat) (if (litF s 0 (wordF k)).2 = 4 then 4 else w) := fun w k h0 h1 hx => by
    rw [hx, kinds_at (by omega : (k - 1).toNat < 8), show (k - 1).toNat + 1 = k.toNat by omega, show (((k - 1).toNat : Nat) : Int) + 1 = k by omega]
    rfl
  repeat' (first
    | with_reducible apply And.intro
    | (intro (x : Int × Int × Unit); obtain ⟨w, k, ⟨⟩⟩ := x; rintro ⟨h0, h1, ho⟩; dsimp only at h0 h1 ho ⊢; have hwl := wordF_len k; have hst := step w k h0)
    | intro _)
  all_goals try (first | trivial | rfl | omega)
  · rename_i k8 e
    rw [hst (by omega) ho, if_pos e]
  · rename_i k8 e e4
    rw [hst (by omega) ho, if_neg e, if_pos e4, show (k + 1 - 1).toNat = k.toNat by omega]
  · rename_i k8 e e4
    rw [hst (by omega) ho, if_neg e, if_neg e4, show (k + 1 - 1).toNat = k.toNat by omega]
  · rw [ho, show (k - 1).toNat = 8 by omega]
    rfl
set_option maxRecDepth 20000 in
theorem kind_pure (s : By) (h : s.length ≤ 10000) : Pure Tryd.prog 29 [.str s] (.tuple [.int .i64 (kindF s).1, .int .i64 (kindF s).2.1, .int .i64 (kindF s).2.2]) :=
  Pure.of_g (E := env_kind s) (ts := tsOf Tryd.f29) (ps := [.int .i64, .int .i64, .int .i64]) (r := ((kindF s).1, (kindF s).2.1, (kindF s).2.2, ())) (fn := Tryd.f29) (c := codeOf Tryd.f29) (specs_ok (P := Tryd.prog) rfl [sp_rlit, sp_rword] [] rfl rfl) mixed Tryd.func29 rfl rfl (g := g_kind s) (by delta g_kind start0; first | with_reducible exact Eq.refl _ | exact Eq.refl _) (by rw [g_kind_eq s]; exact g_kind_ok s h)
noncomputable def q_kind (s : By) : Prop × V := (s.length ≤ 10000, (.tuple [.int .i64 (kindF s).1, .int .i64 (kindF s).2.1, .int .i64 (kindF s).2.2]))
noncomputable def sp_kind : FSpec Tryd.prog where
  f := 29
  run := fun args => match args with
    | [.str s] => some (q_kind s)
    | _ => none
  ok := fun args pre r h hp => by
    try dsimp only at h
    split at h
    · rename_i s
      have h := Option.some.inj h
      unfold q_kind at h
      cases h
      exact (kind_pure s hp).weak (.cons (Weak.refl _) .nil)
    · cases h

/-- So many lines. -/
def toLn (l : List Int) : LnD := (nthI l 0, nthI l 1, nthI l 2, nthI l 3)
def linesGo (s : By) : Nat → Int → List LnD → List LnD × Int × Int
  | 0, a, out => (out, a, 0)
  | n + 1, a, out => if (rowGo s 4 a []).2.2 = 0 then linesGo s n (rowGo s 4 a []).2.1 (out ++ [toLn (rowGo s 4 a []).1]) else (out, (rowGo s 4 a []).2.1, (rowGo s 4 a []).2.2)
def linesFr (s : By) (a : Int) : List LnD × Int × Int := if (rnumF s a 0 50).2.2 = 0 then linesGo s (rnumF s a 0 50).1.toNat (rnumF s a 0 50).2.1 [] else ([], (rnumF s a 0 50).2.1, (rnumF s a 0 50).2.2)
theorem row_len (s : By) : ∀ (n : Nat) (a : Int) (out : List Int), (rowGo s n a out).2.2 = 0 → (rowGo s n a out).1.length = out.length + n
  | 0, a, out, _ => rfl
  | n + 1, a, out, h => by
    unfold rowGo at h ⊢
    by_cases e : (anyF s a 0).2.2 = 0
    · rw [if_pos e] at h ⊢
      rw [row_len s n _ _ h, List.length_append, List.length_singleton]
      omega
    · rw [if_neg e] at h
      exact absurd h e
noncomputable def env_lines (s : By) (a : Int) : Env where
  P := Tryd.prog
  ty := tys0
  specs := specsOf [sp_rnumber, sp_row]
  frz := fun | 33 => true | _ => false
  heads := fun
    | 4 => some { slots := [(1, .int .i64), (8, .int .i64), (9, .slc 9000 Ln), (10, .int .i64)], boxes := [], keep := [], inv := fun _ (x : Int × Int × List LnD × Int × Unit) => 0 ≤ x.2.2.2.1 ∧ x.2.2.2.1 ≤ (rnumF s a 0 50).1 ∧ (x.2.2.1.length : Int) ≤ x.2.2.2.1 ∧ linesFr s a = (if x.2.1 = 0 then linesGo s ((rnumF s a 0 50).1.toNat - x.2.2.2.1.toNat) x.1 x.2.2.1 else (x.2.2.1, x.1, x.2.1)), measure := fun _ (x : Int × Int × List LnD × Int × Unit) => ((rnumF s a 0 50).1 - x.2.2.2.1).toNat }
    | _ => none
noncomputable def g_lines (s : By) (a : Int) : Prop := vc (env_lines s a) (codeOf Tryd.f32) (start0 Tryd.f32 [.str s, .int .i64 a]) (exitK (tsOf Tryd.f32) [.slc 9001 Ln, .int .i64, .int .i64] ((linesFr s a).1, (linesFr s a).2.1, (linesFr s a).2.2, ()))
def g_lines_vc (s : By) (a : Int) : Prop :=
  List.length s ≤ (10000 : Nat) ∧ (True ∧ (0 : Int) ≤ (0 : Int) ∧ (0 : Int) ≤ (rnumF s a (0 : Int) (50 : Int)).fst ∧ (↑(0 : Nat) : Int) ≤ (0 : Int) ∧ linesFr s a = if (rnumF s a (0 : Int) (50 : Int)).snd.snd = (0 : Int) then linesGo s ((rnumF s a (0 : Int) (50 : Int)).fst.toNat - Int.toNat (0 : Int)) (rnumF s a (0 : Int) (50 : Int)).snd.fst [] else ([], (rnumF s a (0 : Int) (50 : Int)).snd.fst, (rnumF s a (0 : Int) (50 : Int)).snd.snd)) ∧ ∀ (x : Int × Int × List (Int × Int × Int × Int) × Int × Unit), ((0 : Int) ≤ x.snd.snd.snd.fst ∧ x.snd.snd.snd.fst ≤ (rnumF s a (0 : Int) (50 : Int)).fst ∧ (↑x.snd.snd.fst.length : Int) ≤ x.snd.snd.snd.fst ∧ linesFr s a = if x.snd.fst = (0 : Int) then linesGo s ((rnumF s a (0 : Int) (50 : Int)).fst.toNat - x.snd.snd.snd.fst.toNat) x.fst x.snd.snd.fst else (x.snd.snd.fst, x.fst, x.snd.fst)) → (decide (x.snd.snd.snd.fst < (rnumF s a (0 : Int) (50 : Int)).fst) = true → (decide (x.snd.fst = (0 : Int)) = true → (List.length s ≤ (10000 : Nat) ∧ (0 : Int) ≤ (4 : Int) ∧ (4 : Int) ≤ (100 : Int)) ∧ (decide ((rowGo s (Int.toNat (4 : Int)) x.fst []).snd.snd = (0 : Int)) = true → ((0 : Int) ≤ (0 : Int) ∧ (0 : Int) < (↑(rowGo s (Int.toNat (4 : Int)) x.fst []).fst.length : Int)) ∧ ∀ (x_1 : Int), (rowGo s (Int.toNat (4 : Int)) x.fst []).fst[Int.toNat (0 : Int)]? = some x_1 → ((0 : Int) ≤ (1 : Int) ∧ (1 : Int) < (↑(rowGo s (Int.toNat (4 : Int)) x.fst []).fst.length : Int)) ∧ ∀ (x_2 : Int), (rowGo s (Int.toNat (4 : Int)) x.fst []).fst[Int.toNat (1 : Int)]? = some x_2 → ((0 : Int) ≤ (2 : Int) ∧ (2 : Int) < (↑(rowGo s (Int.toNat (4 : Int)) x.fst []).fst.length : Int)) ∧ ∀ (x_3 : Int), (rowGo s (Int.toNat (4 : Int)) x.fst []).fst[Int.toNat (2 : Int)]? = some x_3 → ((0 : Int) ≤ (3 : Int) ∧ (3 : Int) < (↑(rowGo s (Int.toNat (4 : Int)) x.fst []).fst.length : Int)) ∧ ∀ (x_4 : Int), (rowGo s (Int.toNat (4 : Int)) x.fst []).fst[Int.toNat (3 : Int)]? = some x_4 → ((x.snd.snd.fst.length + (1 : Nat)) * (32 : Nat) ≤ (140737488355328 : Nat) ∧ x.snd.snd.fst.length + (1 : Nat) ≤ (4611686018427387904 : Nat)) ∧ ((-9223372036854775808 : Int) ≤ x.snd.snd.snd.fst + (1 : Int) ∧ x.snd.snd.snd.fst + (1 : Int) ≤ (9223372036854775807 : Int)) ∧ True ∧ ((0 : Int) ≤ x.snd.snd.snd.fst + (1 : Int) ∧ x.snd.snd.snd.fst + (1 : Int) ≤ (rnumF s a (0 : Int) (50 : Int)).fst ∧ (↑(x.snd.snd.fst ++ [(x_1, x_2, x_3, x_4)]).length : Int) ≤ x.snd.snd.snd.fst + (1 : Int) ∧ linesFr s a = if (rowGo s (Int.toNat (4 : Int)) x.fst []).snd.snd = (0 : Int) then linesGo s ((rnumF s a (0 : Int) (50 : Int)).fst.toNat - (x.snd.snd.snd.fst + (1 : Int)).toNat) (rowGo s (Int.toNat (4 : Int)) x.fst []).snd.fst (x.snd.snd.fst ++ [(x_1, x_2, x_3, x_4)]) else (x.snd.snd.fst ++ [(x_1, x_2, x_3, x_4)], (rowGo s (Int.toNat (4 : Int)) x.fst []).snd.fst, (rowGo s (Int.toNat (4 : Int)) x.fst []).snd.snd)) ∧ ((rnumF s a (0 : Int) (50 : Int)).fst - (x.snd.snd.snd.fst + (1 : Int))).toNat < ((rnumF s a (0 : Int) (50 : Int)).fst - x.snd.snd.snd.fst).toNat) ∧ (decide ((rowGo s (Int.toNat (4 : Int)) x.fst []).snd.snd = (0 : Int)) = false → ((-9223372036854775808 : Int) ≤ x.snd.snd.snd.fst + (1 : Int) ∧ x.snd.snd.snd.fst + (1 : Int) ≤ (9223372036854775807 : Int)) ∧ True ∧ ((0 : Int) ≤ x.snd.snd.snd.fst + (1 : Int) ∧ x.snd.snd.snd.fst + (1 : Int) ≤ (rnumF s a (0 : Int) (50 : Int)).fst ∧ (↑x.snd.snd.fst.length : Int) ≤ x.snd.snd.snd.fst + (1 : Int) ∧ linesFr s a = if (rowGo s (Int.toNat (4 : Int)) x.fst []).snd.snd = (0 : Int) then linesGo s ((rnumF s a (0 : Int) (50 : Int)).fst.toNat - (x.snd.snd.snd.fst + (1 : Int)).toNat) (rowGo s (Int.toNat (4 : Int)) x.fst []).snd.fst x.snd.snd.fst else (x.snd.snd.fst, (rowGo s (Int.toNat (4 : Int)) x.fst []).snd.fst, (rowGo s (Int.toNat (4 : Int)) x.fst []).snd.snd)) ∧ ((rnumF s a (0 : Int) (50 : Int)).fst - (x.snd.snd.snd.fst + (1 : Int))).toNat < ((rnumF s a (0 : Int) (50 : Int)).fst - x.snd.snd.snd.fst).toNat)) ∧ (decide (x.snd.fst = (0 : Int)) = false → (x.snd.snd.fst, x.fst, x.snd.fst, ()) = ((linesFr s a).fst, (linesFr s a).snd.fst, (linesFr s a).snd.snd, ()))) ∧ (decide (x.snd.snd.snd.fst < (rnumF s a (0 : Int) (50 : Int)).fst) = !true → (x.snd.snd.fst, x.fst, x.snd.fst, ()) = ((linesFr s a).fst, (linesFr s a).snd.fst, (linesFr s a).snd.snd, ()))
theorem g_lines_eq (s : By) (a : Int) : g_lines s a = g_lines_vc s a := by kernel_rfl
theorem g_lines_ok (s : By) (a : Int) (h : s.length ≤ 10000) : g_lines_vc s a := by
  unfold g_lines_vc
  simp only [decide_eq_true_eq, decide_eq_false_iff_not, Bool.not_eq_true', Bool.not_eq_false', Bool.not_true, Bool.not_false]
  have hn50 : 0 ≤ (rnumF s a 0 50).1 ∧ (rnumF s a 0 50).1 ≤ 50 := within_in s a 0
  repeat' (first
    | with_reducible apply And.intro
    | (intro (x : Int × Int × List (Int × Int × Int × Int) × Int × Unit); obtain ⟨at1, e, o, i, ⟨⟩⟩ := x; rintro ⟨h0, h1, hl, ho⟩; dsimp only at h0 h1 hl ho ⊢)
    | intro _)
  all_goals try (first | trivial | rfl | omega)
  all_goals try (
    have h4 := row_len s 4 at1 [] (by assumption)
    rw [List.length_nil] at h4)
  · show 0 < ((rowGo s 4 at1 []).1.length : Int)
    omega
  · show 1 < ((rowGo s 4 at1 []).1.length : Int)
    omega
  · show 2 < ((rowGo s 4 at1 []).1.length : Int)
    omega
  · show 3 < ((rowGo s 4 at1 []).1.length : Int)
    omega
  · rw [List.length_append, List.length_singleton]
    omega
  · rename_i hi e0 er v0 y0 v1 y1 v2 y2 v3 y3
    rw [ho, if_pos e0, if_pos er, show (rnumF s a 0 50).1.toNat - i.toNat = ((rnumF s a 0 50).1.toNat - (i + 1).toNat) + 1 by omega]
    have er : (rowGo s 4 at1 []).2.2 = 0 := er
    rw [linesGo, if_pos er]
    have : toLn (rowGo s 4 at1 []).1 = (v0, v1, v2, v3) := by
      unfold toLn nthI
      rw [show (rowGo s 4 at1 []).1[Int.toNat 0]? = _ from y0, show (rowGo s 4 at1 []).1[Int.toNat 1]? = _ from y1, show (rowGo s 4 at1 []).1[Int.toNat 2]? = _ from y2, show (rowGo s 4 at1 []).1[Int.toNat 3]? = _ from y3]
      rfl
    rw [this]
    rfl
  · rename_i hi e0 er
    rw [ho, if_pos e0, if_neg er, show (rnumF s a 0 50).1.toNat - i.toNat = ((rnumF s a 0 50).1.toNat - (i + 1).toNat) + 1 by omega]
    have er : ¬ (rowGo s 4 at1 []).2.2 = 0 := er
    rw [linesGo, if_neg er]
    rfl
  · rename_i e0
    rw [ho, if_neg e0]
  · rw [ho, show (rnumF s a 0 50).1.toNat - i.toNat = 0 by omega]
    by_cases e0 : e = 0
    · rw [if_pos e0, e0]
      rfl
    · rw [if_neg e0]
set_option maxRecDepth 20000 in
theorem lines_pure (s : By) (a : Int) (h : s.length ≤ 10000) : Pure Tryd.prog 32 [.str s, .int .i64 a] (.tuple [.olist Ln (linesFr s a).1, .int .i64 (linesFr s a).2.1, .int .i64 (linesFr s a).2.2]) :=
  Pure.of_g (E := env_lines s a) (ts := tsOf Tryd.f32) (ps := [.slc 9001 Ln, .int .i64, .int .i64]) (r := ((linesFr s a).1, (linesFr s a).2.1, (linesFr s a).2.2, ())) (fn := Tryd.f32) (c := codeOf Tryd.f32) (specs_ok (P := Tryd.prog) rfl [sp_rnumber, sp_row] [] rfl rfl) mixed Tryd.func32 rfl rfl (g := g_lines s a) (by delta g_lines start0; first | with_reducible exact Eq.refl _ | exact Eq.refl _) (by rw [g_lines_eq s a]; exact g_lines_ok s a h)
noncomputable def q_lines (s : By) (a : Int) : Prop × V := (s.length ≤ 10000, (.tuple [.olist Ln (linesFr s a).1, .int .i64 (linesFr s a).2.1, .int .i64 (linesFr s a).2.2]))
noncomputable def sp_lines : FSpec Tryd.prog where
  f := 32
  run := fun args => match args with
    | [.str s, .int .i64 a] => some (q_lines s a)
    | _ => none
  ok := fun args pre r h hp => by
    try dsimp only at h
    split at h
    · rename_i s a
      have h := Option.some.inj h
      unfold q_lines at h
      cases h
      exact (lines_pure s a hp).weak (.cons (Weak.refl _) (.cons (Weak.refl _) .nil))
    · cases h

end Go.Proofs.YtgdcjefnhcamgaaDoor
