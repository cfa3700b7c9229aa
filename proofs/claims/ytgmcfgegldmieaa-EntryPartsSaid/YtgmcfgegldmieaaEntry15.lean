/-
  EntryBalances, EntryTurns: the walks and the plain laws.
-/
import Derived.Test.YtgmcfgegldmieaaEntry14
namespace Go.Proofs.Ytgmcfgegldmieaa
open Go.Vm

theorem badF_ne : ∀ {L : List Ln} {n k i : Int} {x : Int × Int}, badF L n k i = some x → x.2 ≠ 0
  | [], n, k, i, x, h => by cases h
  | y :: r, n, k, i, x, h => by
    unfold badF at h
    split at h
    · rename_i c
      cases h
      exact c
    · exact badF_ne h
theorem badF_none : ∀ {L : List Ln} {n k i : Int}, badF L n k i = none ↔ ∀ x ∈ L, lineF x n k = 0
  | [], n, k, i => by simp [badF]
  | y :: r, n, k, i => by
    unfold badF
    by_cases c : lineF y n k = 0
    · rw [if_neg (fun g => g c), badF_none]
      simp [c]
    · rw [if_pos c]
      simp [c]
theorem unbal_iff {L : List Ln} : unbal L = false ↔ ∀ e ∈ entsF L, wholeF L e = 0 := by
  simp only [unbal, List.any_eq_false, decide_eq_true_eq, Decidable.not_not]
/-- An entry that may be. -/
def GoodE (p : Int) (L : List Ln) (n k : Int) : Prop := (0 ≤ p ∧ p ≤ 23) ∧ (2 ≤ L.length ∧ L.length ≤ 50) ∧ (∀ x ∈ L, lineF x n k = 0) ∧ ∀ e ∈ entsF L, wholeF L e = 0
theorem check_zero {p : Int} {L : List Ln} {n k : Int} : (checkF p L n k).2 = 0 ↔ GoodE p L n k := by
  unfold GoodE
  by_cases h1 : p < 0 ∨ 23 < p
  · rw [checkF_1 h1]
    constructor
    · intro h; cases h
    · intro h; omega
  by_cases h2 : (L.length : Int) < 2 ∨ 50 < (L.length : Int)
  · rw [checkF_2 h1 h2]
    constructor
    · intro h; cases h
    · intro h; omega
  cases h3 : badF L n k 0 with
  | some x =>
    rw [checkF_3 h1 h2 h3]
    constructor
    · intro h; exact absurd h (badF_ne h3)
    · intro h
      rw [badF_none.2 h.2.2.1] at h3
      cases h3
  | none =>
    cases h4 : unbal L with
    | true =>
      rw [checkF_4 h1 h2 h3 h4]
      constructor
      · intro h; cases h
      · intro h
        rw [unbal_iff.2 h.2.2.2] at h4
        cases h4
    | false =>
      rw [checkF_5 h1 h2 h3 h4]
      constructor
      · intro h; exact ⟨by omega, by omega, badF_none.1 h3, unbal_iff.1 h4⟩
      · intro h; rfl
theorem lineF_zero {x : Ln} {n k : Int} (h : lineF x n k = 0) : 1 ≤ x.1 ∧ x.1 ≤ n ∧ 1 ≤ x.2.1 ∧ x.2.1 ≤ k ∧ x.2.2.2 ≠ 0 := by
  unfold lineF at h
  repeat' (split at h)
  all_goals first
    | (exfalso; omega)
    | omega
noncomputable def env_bal (p r : Int) (L : List Ln) (n k : Int) : Env where
  P := Try.prog
  ty := tys
  specs := specsOf [sp_awake, sp_check, sp_ents, sp_total, sp_has]
  frz := fun | 30 => true | 43 => true | _ => false
  heads := fun
    | 8 => some { slots := [(10, .int .i64), (11, .any), (12, .any)], boxes := [], keep := [3], inv := fun _ (x : Int × Unit × Unit × Unit) => 0 ≤ x.1 ∧ x.1 ≤ (entsF L).length, measure := fun _ (x : Int × Unit × Unit × Unit) => ((entsF L).length - x.1).toNat }
    | 14 => some { slots := [(13, .int .i64)], boxes := [], keep := [3], inv := fun _ (x : Int × Unit) => 0 ≤ x.1 ∧ x.1 ≤ L.length, measure := fun _ (x : Int × Unit) => (L.length - x.1).toNat }
    | _ => none
noncomputable def g_bal (p r : Int) (L : List Ln) (n k : Int) : Prop := vc (env_bal p r L n k) (codeOf Try.f5) (start0 Try.f5 [.agg [.int .i64 p, .int .i64 r, .list .tmp LTy L], .int .i64 n, .int .i64 k]) (exitK (tsOf Try.f5) [.bool] (true, ()))
def g_bal_vc (p : Int) (r : Int) (L : List Ln) (n : Int) (k : Int) : Prop :=
  (decide ((60 : Int) < (↑L.length : Int)) = true → True ∧ (true, ()) = (true, ())) ∧
  (decide ((60 : Int) < (↑L.length : Int)) = false →
    (InL L ∧ L.length ≤ (1000 : Nat)) ∧
      ((!decide ((checkF p L n k).snd = (0 : Int))) = true → True ∧ (true, ()) = (true, ())) ∧
        ((!decide ((checkF p L n k).snd = (0 : Int))) = false →
          L.length ≤ (1000000000 : Nat) ∧
            ((some (Obj.box [V.int IntKind.i64 p, V.int IntKind.i64 r, V.list LK.tmp LTy L]) = some (Obj.box [V.int IntKind.i64 p, V.int IntKind.i64 r, V.list LK.tmp LTy L]) ∧ True) ∧
                (0 : Int) ≤ (0 : Int) ∧ (0 : Int) ≤ (↑(entsF L).length : Int)) ∧
              ∀ (x : Int × Unit × Unit × Unit),
                (0 : Int) ≤ x.fst ∧ x.fst ≤ (↑(entsF L).length : Int) →
                  (decide (x.fst < (↑(entsF L).length : Int)) = true →
                      ((0 : Int) ≤ x.fst ∧ x.fst < (↑(entsF L).length : Int)) ∧
                        ∀ (x_1 : Int),
                          (entsF L)[x.fst.toNat]? = some x_1 →
                            L.length ≤ (1000000000 : Nat) ∧
                              ((!decide ((netF (amtsL L x_1) []).fst = (0 : Int))) = false →
                                  ((!decide ((netF (amtsL L x_1) []).snd = (0 : Int))) = false →
                                      ((0 : Int) ≤ x.fst ∧ x.fst < (↑(entsF L).length : Int)) ∧
                                        ∀ (x_2 : Int),
                                          (entsF L)[x.fst.toNat]? = some x_2 →
                                            (decide (x_2 < (1 : Int)) = false →
                                                ((0 : Int) ≤ x.fst ∧ x.fst < (↑(entsF L).length : Int)) ∧
                                                  ∀ (x_3 : Int),
                                                    (entsF L)[x.fst.toNat]? = some x_3 →
                                                      (decide (n < x_3) = true → (false, ()) = (true, ())) ∧
                                                        (decide (n < x_3) = false →
                                                          ((-9223372036854775808 : Int) ≤ x.fst + (1 : Int) ∧ x.fst + (1 : Int) ≤ (9223372036854775807 : Int)) ∧
                                                            (some (Obj.box [V.int IntKind.i64 p, V.int IntKind.i64 r, V.list LK.tmp LTy L]) =
                                                                  some (Obj.box [V.int IntKind.i64 p, V.int IntKind.i64 r, V.list LK.tmp LTy L]) ∧
                                                                True) ∧
                                                              ((0 : Int) ≤ x.fst + (1 : Int) ∧ x.fst + (1 : Int) ≤ (↑(entsF L).length : Int)) ∧
                                                                ((↑(entsF L).length : Int) - (x.fst + (1 : Int))).toNat < ((↑(entsF L).length : Int) - x.fst).toNat)) ∧
                                              (decide (x_2 < (1 : Int)) = !false → (false, ()) = (true, ()))) ∧
                                    ((!decide ((netF (amtsL L x_1) []).snd = (0 : Int))) = !false → (false, ()) = (true, ()))) ∧
                                ((!decide ((netF (amtsL L x_1) []).fst = (0 : Int))) = !false → (false, ()) = (true, ()))) ∧
                    (decide (x.fst < (↑(entsF L).length : Int)) = false →
                      ((some (Obj.box [V.int IntKind.i64 p, V.int IntKind.i64 r, V.list LK.tmp LTy L]) = some (Obj.box [V.int IntKind.i64 p, V.int IntKind.i64 r, V.list LK.tmp LTy L]) ∧ True) ∧
                          (0 : Int) ≤ (0 : Int) ∧ (0 : Int) ≤ (↑L.length : Int)) ∧
                        ∀ (x : Int × Unit),
                          (0 : Int) ≤ x.fst ∧ x.fst ≤ (↑L.length : Int) →
                            (decide (x.fst < (↑L.length : Int)) = true →
                                ((0 : Int) ≤ x.fst ∧ x.fst < (↑L.length : Int)) ∧
                                  ∀ (x_1 : Int × Int × Int × Int),
                                    L[x.fst.toNat]? = some x_1 →
                                      (entsF L).length ≤ (1000000000 : Nat) ∧
                                        ((!decide (x_1.fst ∈ entsF L)) = false →
                                            ((0 : Int) ≤ x.fst ∧ x.fst < (↑L.length : Int)) ∧
                                              ∀ (x_2 : Int × Int × Int × Int),
                                                L[x.fst.toNat]? = some x_2 →
                                                  (decide (x_2.snd.snd.snd = (0 : Int)) = false →
                                                      ((0 : Int) ≤ x.fst ∧ x.fst < (↑L.length : Int)) ∧
                                                        ∀ (x_3 : Int × Int × Int × Int),
                                                          L[x.fst.toNat]? = some x_3 →
                                                            (decide (k < x_3.snd.fst) = true → (false, ()) = (true, ())) ∧
                                                              (decide (k < x_3.snd.fst) = false →
                                                                ((-9223372036854775808 : Int) ≤ x.fst + (1 : Int) ∧ x.fst + (1 : Int) ≤ (9223372036854775807 : Int)) ∧
                                                                  (some (Obj.box [V.int IntKind.i64 p, V.int IntKind.i64 r, V.list LK.tmp LTy L]) =
                                                                        some (Obj.box [V.int IntKind.i64 p, V.int IntKind.i64 r, V.list LK.tmp LTy L]) ∧
                                                                      True) ∧
                                                                    ((0 : Int) ≤ x.fst + (1 : Int) ∧ x.fst + (1 : Int) ≤ (↑L.length : Int)) ∧
                                                                      ((↑L.length : Int) - (x.fst + (1 : Int))).toNat < ((↑L.length : Int) - x.fst).toNat)) ∧
                                                    (decide (x_2.snd.snd.snd = (0 : Int)) = !false → (false, ()) = (true, ()))) ∧
                                          ((!decide (x_1.fst ∈ entsF L)) = !false → (false, ()) = (true, ()))) ∧
                              (decide (x.fst < (↑L.length : Int)) = false →
                                (decide ((2 : Int) ≤ (↑L.length : Int)) = true → True ∧ (true, ()) = (true, ())) ∧ (decide ((2 : Int) ≤ (↑L.length : Int)) = !true → (false, ()) = (true, ()))))))

theorem g_bal_eq (p r : Int) (L : List Ln) (n k : Int) : g_bal p r L n k = g_bal_vc p r L n k := by kernel_rfl
theorem g_bal_ok (p r : Int) (L : List Ln) (n k : Int) (h : InL L) : g_bal_vc p r L n k := by
  unfold g_bal_vc
  have hel := entsF_len L
  simp only [decide_eq_true_eq, decide_eq_false_iff_not, Bool.not_eq_true', Bool.not_eq_false', Bool.not_true, Bool.not_false]
  refine ⟨fun _ => ⟨by trivial, by trivial⟩, fun c0 => ⟨⟨h, by omega⟩, fun _ => ⟨by trivial, by trivial⟩, fun c1 => ?_⟩⟩
  obtain ⟨hp, hl, hlines, hents⟩ := check_zero.1 c1
  have hent : ∀ e, e ∈ entsF L → 1 ≤ e ∧ e ≤ n := by
    intro e he
    obtain ⟨x, hx, rfl⟩ := mem_entsF.1 he
    have := lineF_zero (hlines x hx)
    omega
  refine ⟨by omega, ⟨⟨by trivial, by trivial⟩, by omega, by omega⟩, fun x hx => ⟨fun c2 => ⟨⟨hx.1, c2⟩, fun e he => ?_⟩, fun c2 => ⟨⟨⟨by trivial, by trivial⟩, by omega, by omega⟩, fun y hy => ⟨fun c3 => ⟨⟨hy.1, c3⟩, fun z hz => ?_⟩, fun c3 => ⟨fun _ => ⟨by trivial, by trivial⟩, fun c4 => ?_⟩⟩⟩⟩⟩
  · have hm := List.mem_of_getElem? he
    obtain ⟨n1, n2⟩ := (netF_zero h (by omega) e).2 (hents e hm)
    have hb := hent e hm
    refine ⟨by omega, fun _ => ⟨fun _ => ⟨⟨hx.1, c2⟩, fun e2 he2 => ?_⟩, fun c => absurd n2 c⟩, fun c => absurd n1 c⟩
    rw [he] at he2
    cases he2
    refine ⟨fun _ => ⟨⟨hx.1, c2⟩, fun e3 he3 => ?_⟩, fun c => by omega⟩
    rw [he] at he3
    cases he3
    exact ⟨fun c => by omega, fun _ => ⟨by omega, ⟨by trivial, by trivial⟩, by omega, by omega⟩⟩
  · have hm := List.mem_of_getElem? hz
    have hb := lineF_zero (hlines z hm)
    refine ⟨by omega, fun _ => ⟨⟨hy.1, c3⟩, fun z2 hz2 => ?_⟩, fun c => absurd (mem_entsF.2 ⟨z, hm, rfl⟩) c⟩
    rw [hz] at hz2
    cases hz2
    refine ⟨fun _ => ⟨⟨hy.1, c3⟩, fun z3 hz3 => ?_⟩, fun c => absurd c hb.2.2.2.2⟩
    rw [hz] at hz3
    cases hz3
    exact ⟨fun c => by omega, fun _ => ⟨by omega, ⟨by trivial, by trivial⟩, by omega, by omega⟩⟩
  · omega
set_option maxRecDepth 20000 in
theorem bal_pure (p r : Int) (L : List Ln) (n k : Int) (h : InL L) : Pure Try.prog 5 [.agg [.int .i64 p, .int .i64 r, .list .tmp LTy L], .int .i64 n, .int .i64 k] (.bool true) :=
  Pure.of_g (E := env_bal p r L n k) (ts := tsOf Try.f5) (ps := [.bool]) (r := (true, ())) (fn := Try.f5) (c := codeOf Try.f5) (specs_ok (P := Try.prog) rfl [sp_awake, sp_check, sp_ents, sp_total, sp_has] [] rfl rfl) mixed Try.func5 rfl rfl (g := g_bal p r L n k) (by delta g_bal start0; first | with_reducible exact Eq.refl _ | exact Eq.refl _) (by rw [g_bal_eq p r L n k]; exact g_bal_ok p r L n k h)
def q_bal (p r : Int) (L : List Ln) (n k : Int) : Prop × V := (InL L, (.bool true))
noncomputable def sp_bal : FSpec Try.prog where
  f := 5
  run := fun args => match args with
    | [.agg [.int .i64 p, .int .i64 r, v0_2], .int .i64 n, .int .i64 k] => (match (asL LTy v0_2 : Option (List Ln)) with | some L => some (q_bal p r L n k) | none => none)
    | _ => none
  ok := fun args pre r h hp => by
    try dsimp only at h
    split at h
    · rename_i p r v0_2 n k
      cases h0_2 : (asL LTy v0_2 : Option (List Ln)) with
      | none => rw [h0_2] at h; cases h
      | some L =>
      rw [h0_2] at h
      try dsimp only at h
      have h := Option.some.inj h
      unfold q_bal at h
      cases h
      exact (bal_pure p r L n k hp).weak (.cons (Weak.agg (.cons (Weak.refl _) (.cons (Weak.refl _) (.cons (asL_weak h0_2) .nil)))) (.cons (Weak.refl _) (.cons (Weak.refl _) .nil)))
    · cases h

theorem neg_neg_map (L : List Ln) : (L.map negLn).map negLn = L := by
  rw [List.map_map]
  have : negLn ∘ negLn = id := by
    funext x
    simp [negLn]
  rw [this, List.map_id]
theorem ents_neg (L : List Ln) : entsF (L.map negLn) = entsF L := by
  unfold entsF entsL
  rw [List.map_map]
  rfl
theorem amts_neg (L : List Ln) (e : Int) : amtsL (L.map negLn) e = (amtsL L e).map (fun n => -n) := by
  unfold amtsL
  rw [List.filter_map, List.map_map, List.map_map]
  rfl
theorem fold_neg : ∀ (l : List Int) (a : Int), (l.map (fun n => -n)).foldl (· + ·) (-a) = -(l.foldl (· + ·) a)
  | [], a => rfl
  | n :: r, a => by
    simp only [List.map_cons, List.foldl_cons]
    rw [← Int.neg_add, fold_neg r]
theorem whole_neg (L : List Ln) (e : Int) : wholeF (L.map negLn) e = -(wholeF L e) := by
  unfold wholeF
  rw [amts_neg]
  exact fold_neg _ 0
theorem line_neg (x : Ln) (n k : Int) : lineF (negLn x) n k = lineF x n k := by
  unfold lineF negLn
  have : (-x.2.2.2 = 0) = (x.2.2.2 = 0) := by simp
  simp only [this]
theorem bad_neg : ∀ (L : List Ln) (n k i : Int), badF (L.map negLn) n k i = badF L n k i
  | [], n, k, i => rfl
  | x :: r, n, k, i => by
    simp only [List.map_cons, badF, line_neg]
    rw [bad_neg r]
theorem unbal_neg (L : List Ln) : unbal (L.map negLn) = unbal L := by
  unfold unbal
  rw [ents_neg]
  congr 1
  funext e
  rw [whole_neg]
  simp
theorem check_neg (p : Int) (L : List Ln) (n k : Int) : checkF p (L.map negLn) n k = checkF p L n k := by
  unfold checkF
  rw [bad_neg, unbal_neg, List.length_map]
theorem inL_neg {L : List Ln} (h : InL L) (hl : hasLeast L = false) : InL (L.map negLn) := by
  intro x hx
  obtain ⟨y, hy, rfl⟩ := List.mem_map.1 hx
  have h1 := h y hy
  simp only [hasLeast, List.any_eq_false, decide_eq_true_eq] at hl
  have h2 := hl y hy
  obtain ⟨h3, h4⟩ := h1
  constructor
  · show -9223372036854775808 ≤ -y.2.2.2
    omega
  · show -y.2.2.2 ≤ 9223372036854775807
    omega
theorem least_neg {L : List Ln} (h : InL L) : hasLeast (L.map negLn) = false := by
  simp only [hasLeast, List.any_eq_false, decide_eq_true_eq]
  intro x hx
  obtain ⟨y, hy, rfl⟩ := List.mem_map.1 hx
  obtain ⟨h3, h4⟩ := h y hy
  show ¬ -y.2.2.2 = -9223372036854775808
  omega
noncomputable def env_turns (p r : Int) (L : List Ln) (n k : Int) : Env where
  P := Try.prog
  ty := tys
  specs := specsOf [sp_awake, sp_check, sp_opp, sp_same]
  frz := fun | _ => false
  heads := fun
    | 12 => some { slots := [(15, .int .i64)], boxes := [], keep := [3, 7, 9], inv := fun _ (x : Int × Unit) => 0 ≤ x.1 ∧ x.1 ≤ L.length, measure := fun _ (x : Int × Unit) => (L.length - x.1).toNat }
    | _ => none
noncomputable def g_turns (p r : Int) (L : List Ln) (n k : Int) : Prop := vc (env_turns p r L n k) (codeOf Try.f6) (start0 Try.f6 [.agg [.int .i64 p, .int .i64 r, .list .tmp LTy L], .int .i64 n, .int .i64 k]) (exitK (tsOf Try.f6) [.bool] (true, ()))
def g_turns_vc (p : Int) (r : Int) (L : List Ln) (n : Int) (k : Int) : Prop :=
  (decide ((60 : Int) < (↑L.length : Int)) = true → True ∧ (true, ()) = (true, ())) ∧
  (decide ((60 : Int) < (↑L.length : Int)) = false →
    (InL L ∧ L.length ≤ (1000 : Nat)) ∧
      ((!decide ((oppF p r L).snd = (0 : Int))) = true →
          (decide ((↑(oppF p r L).fst.snd.snd.length : Int) = (0 : Int)) = true → True ∧ (true, ()) = (true, ())) ∧
            (decide ((↑(oppF p r L).fst.snd.snd.length : Int) = (0 : Int)) = !true → (false, ()) = (true, ()))) ∧
        ((!decide ((oppF p r L).snd = (0 : Int))) = false →
          (InL (oppF p r L).fst.snd.snd ∧ (oppF p r L).fst.snd.snd.length ≤ (1000 : Nat)) ∧
            (InL L ∧ L.length ≤ (1000 : Nat)) ∧
              (InL (oppF p r L).fst.snd.snd ∧ (oppF p r L).fst.snd.snd.length ≤ (1000 : Nat)) ∧
                ((!decide ((oppF (oppF p r L).fst.fst (oppF p r L).fst.snd.fst (oppF p r L).fst.snd.snd).snd = (0 : Int))) = false →
                    (oppF (oppF p r L).fst.fst (oppF p r L).fst.snd.fst (oppF p r L).fst.snd.snd).fst.snd.snd.length ≤ (1000000000 : Nat) ∧
                      ((!sameE (oppF (oppF p r L).fst.fst (oppF p r L).fst.snd.fst (oppF p r L).fst.snd.snd).fst.fst
                                (oppF (oppF p r L).fst.fst (oppF p r L).fst.snd.fst (oppF p r L).fst.snd.snd).fst.snd.fst
                                (oppF (oppF p r L).fst.fst (oppF p r L).fst.snd.fst (oppF p r L).fst.snd.snd).fst.snd.snd p r L) =
                            false →
                          ((!decide ((checkF p L n k).fst = (checkF (oppF p r L).fst.fst (oppF p r L).fst.snd.snd n k).fst)) = false →
                              ((!decide ((checkF p L n k).snd = (checkF (oppF p r L).fst.fst (oppF p r L).fst.snd.snd n k).snd)) = false →
                                  ((!decide ((↑(oppF p r L).fst.snd.snd.length : Int) = (↑L.length : Int))) = true → (false, ()) = (true, ())) ∧
                                    ((!decide ((↑(oppF p r L).fst.snd.snd.length : Int) = (↑L.length : Int))) = false →
                                      ((some (Obj.box [V.int IntKind.i64 p, V.int IntKind.i64 r, V.list LK.tmp LTy L]) =
                                              some (Obj.box [V.int IntKind.i64 p, V.int IntKind.i64 r, V.list LK.tmp LTy L]) ∧
                                            some (Obj.box [V.int IntKind.i64 (oppF p r L).fst.fst, V.int IntKind.i64 (oppF p r L).fst.snd.fst, V.list LK.part LTy (oppF p r L).fst.snd.snd]) =
                                                some (Obj.box [V.int IntKind.i64 (oppF p r L).fst.fst, V.int IntKind.i64 (oppF p r L).fst.snd.fst, V.list LK.part LTy (oppF p r L).fst.snd.snd]) ∧
                                              some
                                                    (Obj.box
                                                      [V.int IntKind.i64 (oppF (oppF p r L).fst.fst (oppF p r L).fst.snd.fst (oppF p r L).fst.snd.snd).fst.fst,
                                                        V.int IntKind.i64 (oppF (oppF p r L).fst.fst (oppF p r L).fst.snd.fst (oppF p r L).fst.snd.snd).fst.snd.fst,
                                                        V.list LK.part LTy (oppF (oppF p r L).fst.fst (oppF p r L).fst.snd.fst (oppF p r L).fst.snd.snd).fst.snd.snd]) =
                                                  some
                                                    (Obj.box
                                                      [V.int IntKind.i64 (oppF (oppF p r L).fst.fst (oppF p r L).fst.snd.fst (oppF p r L).fst.snd.snd).fst.fst,
                                                        V.int IntKind.i64 (oppF (oppF p r L).fst.fst (oppF p r L).fst.snd.fst (oppF p r L).fst.snd.snd).fst.snd.fst,
                                                        V.list LK.part LTy (oppF (oppF p r L).fst.fst (oppF p r L).fst.snd.fst (oppF p r L).fst.snd.snd).fst.snd.snd]) ∧
                                                True) ∧
                                          (0 : Int) ≤ (0 : Int) ∧ (0 : Int) ≤ (↑L.length : Int)) ∧
                                        ∀ (x : Int × Unit),
                                          (0 : Int) ≤ x.fst ∧ x.fst ≤ (↑L.length : Int) →
                                            (decide (x.fst < (↑L.length : Int)) = true →
                                                ((0 : Int) ≤ x.fst ∧ x.fst < (↑L.length : Int)) ∧
                                                  ∀ (x_1 : Int × Int × Int × Int),
                                                    L[x.fst.toNat]? = some x_1 →
                                                      ((0 : Int) ≤ x.fst ∧ x.fst < (↑(oppF p r L).fst.snd.snd.length : Int)) ∧
                                                        ∀ (x_2 : Int × Int × Int × Int),
                                                          (oppF p r L).fst.snd.snd[x.fst.toNat]? = some x_2 →
                                                            ((-9223372036854775808 : Int) ≤ x_1.snd.snd.snd + x_2.snd.snd.snd ∧ x_1.snd.snd.snd + x_2.snd.snd.snd ≤ (9223372036854775807 : Int)) ∧
                                                              ((!decide (x_1.snd.snd.snd + x_2.snd.snd.snd = (0 : Int))) = true → (false, ()) = (true, ())) ∧
                                                                ((!decide (x_1.snd.snd.snd + x_2.snd.snd.snd = (0 : Int))) = false →
                                                                  ((-9223372036854775808 : Int) ≤ x.fst + (1 : Int) ∧ x.fst + (1 : Int) ≤ (9223372036854775807 : Int)) ∧
                                                                    (some (Obj.box [V.int IntKind.i64 p, V.int IntKind.i64 r, V.list LK.tmp LTy L]) =
                                                                          some (Obj.box [V.int IntKind.i64 p, V.int IntKind.i64 r, V.list LK.tmp LTy L]) ∧
                                                                        some
                                                                              (Obj.box
                                                                                [V.int IntKind.i64 (oppF p r L).fst.fst, V.int IntKind.i64 (oppF p r L).fst.snd.fst,
                                                                                  V.list LK.part LTy (oppF p r L).fst.snd.snd]) =
                                                                            some
                                                                              (Obj.box
                                                                                [V.int IntKind.i64 (oppF p r L).fst.fst, V.int IntKind.i64 (oppF p r L).fst.snd.fst,
                                                                                  V.list LK.part LTy (oppF p r L).fst.snd.snd]) ∧
                                                                          some
                                                                                (Obj.box
                                                                                  [V.int IntKind.i64 (oppF (oppF p r L).fst.fst (oppF p r L).fst.snd.fst (oppF p r L).fst.snd.snd).fst.fst,
                                                                                    V.int IntKind.i64 (oppF (oppF p r L).fst.fst (oppF p r L).fst.snd.fst (oppF p r L).fst.snd.snd).fst.snd.fst,
                                                                                    V.list LK.part LTy (oppF (oppF p r L).fst.fst (oppF p r L).fst.snd.fst (oppF p r L).fst.snd.snd).fst.snd.snd]) =
                                                                              some
                                                                                (Obj.box
                                                                                  [V.int IntKind.i64 (oppF (oppF p r L).fst.fst (oppF p r L).fst.snd.fst (oppF p r L).fst.snd.snd).fst.fst,
                                                                                    V.int IntKind.i64 (oppF (oppF p r L).fst.fst (oppF p r L).fst.snd.fst (oppF p r L).fst.snd.snd).fst.snd.fst,
                                                                                    V.list LK.part LTy (oppF (oppF p r L).fst.fst (oppF p r L).fst.snd.fst (oppF p r L).fst.snd.snd).fst.snd.snd]) ∧
                                                                            True) ∧
                                                                      ((0 : Int) ≤ x.fst + (1 : Int) ∧ x.fst + (1 : Int) ≤ (↑L.length : Int)) ∧
                                                                        ((↑L.length : Int) - (x.fst + (1 : Int))).toNat < ((↑L.length : Int) - x.fst).toNat)) ∧
                                              (decide (x.fst < (↑L.length : Int)) = false → True ∧ (true, ()) = (true, ())))) ∧
                                ((!decide ((checkF p L n k).snd = (checkF (oppF p r L).fst.fst (oppF p r L).fst.snd.snd n k).snd)) = !false → (false, ()) = (true, ()))) ∧
                            ((!decide ((checkF p L n k).fst = (checkF (oppF p r L).fst.fst (oppF p r L).fst.snd.snd n k).fst)) = !false → (false, ()) = (true, ()))) ∧
                        ((!sameE (oppF (oppF p r L).fst.fst (oppF p r L).fst.snd.fst (oppF p r L).fst.snd.snd).fst.fst
                                (oppF (oppF p r L).fst.fst (oppF p r L).fst.snd.fst (oppF p r L).fst.snd.snd).fst.snd.fst
                                (oppF (oppF p r L).fst.fst (oppF p r L).fst.snd.fst (oppF p r L).fst.snd.snd).fst.snd.snd p r L) =
                            !false →
                          (false, ()) = (true, ()))) ∧
                  ((!decide ((oppF (oppF p r L).fst.fst (oppF p r L).fst.snd.fst (oppF p r L).fst.snd.snd).snd = (0 : Int))) = !false → (false, ()) = (true, ()))))

theorem g_turns_eq (p r : Int) (L : List Ln) (n k : Int) : g_turns p r L n k = g_turns_vc p r L n k := by kernel_rfl
theorem g_turns_ok (p r : Int) (L : List Ln) (n k : Int) (h : InL L) : g_turns_vc p r L n k := by
  unfold g_turns_vc
  by_cases c0 : (60 : Int) < (L.length : Int)
  · simp [c0]
  cases hb : hasLeast L with
  | true =>
    rw [oppF_bad hb]
    have hl : L.length ≤ 1000 := by omega
    simp [c0, h, hl]
  | false =>
    rw [oppF_good hb]
    dsimp only
    rw [oppF_good (least_neg h), check_neg, neg_neg_map]
    dsimp only
    simp only [decide_eq_true_eq, decide_eq_false_iff_not, Bool.not_eq_true', Bool.not_eq_false', Bool.not_true, Bool.not_false, List.length_map, aw10]
    refine ⟨fun c => absurd c c0, fun _ => ⟨⟨h, by omega⟩, fun c => absurd True.intro c, fun _ => ⟨⟨inL_neg h hb, by omega⟩, ⟨h, by omega⟩, ⟨inL_neg h hb, by omega⟩, fun _ => ⟨by omega, fun _ => ⟨fun _ => ⟨fun _ => ⟨fun c => absurd True.intro c, fun _ => ⟨⟨⟨by trivial, by trivial, by trivial, by trivial⟩, by omega, by omega⟩, fun x hx => ⟨fun c => ⟨⟨hx.1, c⟩, fun y hy => ⟨⟨hx.1, c⟩, fun z hz => ?_⟩⟩, fun _ => ⟨by trivial, by trivial⟩⟩⟩⟩, fun c => absurd True.intro c⟩, fun c => absurd True.intro c⟩, fun c => by cases c⟩, fun c => absurd True.intro c⟩⟩⟩
    rw [List.getElem?_map, hy] at hz
    cases hz
    have e : y.2.2.2 + (negLn y).2.2.2 = 0 := by
      show y.2.2.2 + -y.2.2.2 = 0
      omega
    rw [e]
    exact ⟨by omega, fun c => absurd rfl c, fun _ => ⟨by omega, ⟨by trivial, by trivial, by trivial, by trivial⟩, by omega, by omega⟩⟩
set_option maxRecDepth 20000 in
theorem turns_pure (p r : Int) (L : List Ln) (n k : Int) (h : InL L) : Pure Try.prog 6 [.agg [.int .i64 p, .int .i64 r, .list .tmp LTy L], .int .i64 n, .int .i64 k] (.bool true) :=
  Pure.of_g (E := env_turns p r L n k) (ts := tsOf Try.f6) (ps := [.bool]) (r := (true, ())) (fn := Try.f6) (c := codeOf Try.f6) (specs_ok (P := Try.prog) rfl [sp_awake, sp_check, sp_opp, sp_same] [] rfl rfl) mixed Try.func6 rfl rfl (g := g_turns p r L n k) (by delta g_turns start0; first | with_reducible exact Eq.refl _ | exact Eq.refl _) (by rw [g_turns_eq p r L n k]; exact g_turns_ok p r L n k h)
def q_turns (p r : Int) (L : List Ln) (n k : Int) : Prop × V := (InL L, (.bool true))
noncomputable def sp_turns : FSpec Try.prog where
  f := 6
  run := fun args => match args with
    | [.agg [.int .i64 p, .int .i64 r, v0_2], .int .i64 n, .int .i64 k] => (match (asL LTy v0_2 : Option (List Ln)) with | some L => some (q_turns p r L n k) | none => none)
    | _ => none
  ok := fun args pre r h hp => by
    try dsimp only at h
    split at h
    · rename_i p r v0_2 n k
      cases h0_2 : (asL LTy v0_2 : Option (List Ln)) with
      | none => rw [h0_2] at h; cases h
      | some L =>
      rw [h0_2] at h
      try dsimp only at h
      have h := Option.some.inj h
      unfold q_turns at h
      cases h
      exact (turns_pure p r L n k hp).weak (.cons (Weak.agg (.cons (Weak.refl _) (.cons (Weak.refl _) (.cons (asL_weak h0_2) .nil)))) (.cons (Weak.refl _) (.cons (Weak.refl _) .nil)))
    · cases h

end Go.Proofs.Ytgmcfgegldmieaa
