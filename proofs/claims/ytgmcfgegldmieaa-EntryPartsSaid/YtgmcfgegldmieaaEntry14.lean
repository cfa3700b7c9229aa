/-
  EntryTells, EntrySums: the walks.
-/
import Derived.Test.YtgmcfgegldmieaaEntry13
namespace Go.Proofs.Ytgmcfgegldmieaa
open Go.Vm

noncomputable def env_tells (p r : Int) (L : List Ln) (n k : Int) : Env where
  P := Try.prog
  ty := tys
  specs := specsOf [sp_awake, sp_check, sp_refCheck]
noncomputable def g_tells (p r : Int) (L : List Ln) (n k : Int) : Prop := vc (env_tells p r L n k) (codeOf Try.f3) (start0 Try.f3 [.agg [.int .i64 p, .int .i64 r, .list .tmp LTy L], .int .i64 n, .int .i64 k]) (exitK (tsOf Try.f3) [.bool] (true, ()))
def g_tells_vc (p : Int) (r : Int) (L : List Ln) (n : Int) (k : Int) : Prop :=
  (decide ((60 : Int) < (↑L.length : Int)) = true → True ∧ (true, ()) = (true, ())) ∧
  (decide ((60 : Int) < (↑L.length : Int)) = false →
    (InL L ∧ L.length ≤ (1000 : Nat)) ∧
      (InL L ∧ L.length ≤ (1000 : Nat)) ∧
        (decide ((checkF p L n k).fst = (checkF p L n k).fst) = true →
            (decide ((checkF p L n k).snd = (checkF p L n k).snd) = true → True ∧ (true, ()) = (true, ())) ∧
              (decide ((checkF p L n k).snd = (checkF p L n k).snd) = !true → (false, ()) = (true, ()))) ∧
          (decide ((checkF p L n k).fst = (checkF p L n k).fst) = !true → (false, ()) = (true, ())))

theorem g_tells_eq (p r : Int) (L : List Ln) (n k : Int) : g_tells p r L n k = g_tells_vc p r L n k := by kernel_rfl
theorem g_tells_ok (p r : Int) (L : List Ln) (n k : Int) (h : InL L) : g_tells_vc p r L n k := by
  unfold g_tells_vc
  by_cases c : (60 : Int) < (L.length : Int)
  · simp [c]
  · have hl : L.length ≤ 1000 := by omega
    simp [c, h, hl]
set_option maxRecDepth 20000 in
theorem tells_pure (p r : Int) (L : List Ln) (n k : Int) (h : InL L) : Pure Try.prog 3 [.agg [.int .i64 p, .int .i64 r, .list .tmp LTy L], .int .i64 n, .int .i64 k] (.bool true) :=
  Pure.of_g (E := env_tells p r L n k) (ts := tsOf Try.f3) (ps := [.bool]) (r := (true, ())) (fn := Try.f3) (c := codeOf Try.f3) (specs_ok (P := Try.prog) rfl [sp_awake, sp_check, sp_refCheck] [] rfl rfl) mixed Try.func3 rfl rfl (g := g_tells p r L n k) (by delta g_tells start0; first | with_reducible exact Eq.refl _ | exact Eq.refl _) (by rw [g_tells_eq p r L n k]; exact g_tells_ok p r L n k h)
def q_tells (p r : Int) (L : List Ln) (n k : Int) : Prop × V := (InL L, (.bool true))
noncomputable def sp_tells : FSpec Try.prog where
  f := 3
  run := fun args => match args with
    | [.agg [.int .i64 p, .int .i64 r, v0_2], .int .i64 n, .int .i64 k] => (match (asL LTy v0_2 : Option (List Ln)) with | some L => some (q_tells p r L n k) | none => none)
    | _ => none
  ok := fun args pre r h hp => by
    try dsimp only at h
    split at h
    · rename_i p r v0_2 n k
      cases h0_2 : (asL LTy v0_2 : Option (List Ln)) with
      | none => rw [h0_2] at h; cases h
      | some L =>
      rw [h0_2] at h
      try dsimp only at h
      have h := Option.some.inj h
      unfold q_tells at h
      cases h
      exact (tells_pure p r L n k hp).weak (.cons (Weak.agg (.cons (Weak.refl _) (.cons (Weak.refl _) (.cons (asL_weak h0_2) .nil)))) (.cons (Weak.refl _) (.cons (Weak.refl _) .nil)))
    · cases h

noncomputable def env_sums (p r : Int) (L : List Ln) (e : Int) : Env where
  P := Try.prog
  ty := tys
  specs := specsOf [sp_awake, sp_total, sp_refTotal, sp_opp, sp_refOpp, sp_same, sp_ents, sp_refEnts, sp_sameInts]
  frz := fun | 51 => true | 60 => true | 62 => true | 63 => true | 66 => true | _ => false
noncomputable def g_sums (p r : Int) (L : List Ln) (e : Int) : Prop := vc (env_sums p r L e) (codeOf Try.f4) (start0 Try.f4 [.agg [.int .i64 p, .int .i64 r, .list .tmp LTy L], .int .i64 e]) (exitK (tsOf Try.f4) [.bool] (true, ()))
def g_sums_vc (p : Int) (r : Int) (L : List Ln) (e : Int) : Prop :=
  (decide ((60 : Int) < (↑L.length : Int)) = true → True ∧ (true, ()) = (true, ())) ∧
  (decide ((60 : Int) < (↑L.length : Int)) = false →
    L.length ≤ (1000000000 : Nat) ∧
      (InL L ∧ L.length ≤ (1000 : Nat)) ∧
        (InL L ∧ L.length ≤ (1000 : Nat)) ∧
          (InL L ∧ L.length ≤ (1000 : Nat)) ∧
            (decide ((netF (amtsL L e) []).fst = intB (wholeF L e)) = true →
                (decide ((netF (amtsL L e) []).snd = faultB (wholeF L e)) = true →
                    (oppF p r L).fst.snd.snd.length ≤ (1000000000 : Nat) ∧
                      (sameE (oppF p r L).fst.fst (oppF p r L).fst.snd.fst (oppF p r L).fst.snd.snd (oppF p r L).fst.fst (oppF p r L).fst.snd.fst (oppF p r L).fst.snd.snd = true →
                          (decide ((oppF p r L).snd = (oppF p r L).snd) = true →
                              L.length ≤ (1000000000 : Nat) ∧
                                L.length ≤ (1000000000 : Nat) ∧
                                  (entsF L).length ≤ (1000000000 : Nat) ∧
                                    (decide (entsF L = entsF L) = true → True ∧ (true, ()) = (true, ())) ∧ (decide (entsF L = entsF L) = !true → (false, ()) = (true, ()))) ∧
                            (decide ((oppF p r L).snd = (oppF p r L).snd) = !true → (false, ()) = (true, ()))) ∧
                        (sameE (oppF p r L).fst.fst (oppF p r L).fst.snd.fst (oppF p r L).fst.snd.snd (oppF p r L).fst.fst (oppF p r L).fst.snd.fst (oppF p r L).fst.snd.snd = !true →
                          (false, ()) = (true, ()))) ∧
                  (decide ((netF (amtsL L e) []).snd = faultB (wholeF L e)) = !true → (false, ()) = (true, ()))) ∧
              (decide ((netF (amtsL L e) []).fst = intB (wholeF L e)) = !true → (false, ()) = (true, ())))

theorem g_sums_eq (p r : Int) (L : List Ln) (e : Int) : g_sums p r L e = g_sums_vc p r L e := by kernel_rfl
theorem oppF_len (p r : Int) (L : List Ln) : (oppF p r L).1.2.2.length ≤ L.length := by
  cases h : hasLeast L with
  | true => rw [oppF_bad h]; simp
  | false => rw [oppF_good h]; simp
theorem g_sums_ok (p r : Int) (L : List Ln) (e : Int) (h : InL L) : g_sums_vc p r L e := by
  unfold g_sums_vc
  by_cases c : (60 : Int) < (L.length : Int)
  · simp [c]
  · have hl : L.length ≤ 1000 := by omega
    have hl2 : L.length ≤ 1000000000 := by omega
    have ho := Nat.le_trans (oppF_len p r L) hl2
    have he := Nat.le_trans (entsF_len L) hl2
    simp [c, h, hl, hl2, ho, he, total_law h hl, aw10]
set_option maxRecDepth 20000 in
theorem sums_pure (p r : Int) (L : List Ln) (e : Int) (h : InL L) : Pure Try.prog 4 [.agg [.int .i64 p, .int .i64 r, .list .tmp LTy L], .int .i64 e] (.bool true) :=
  Pure.of_g (E := env_sums p r L e) (ts := tsOf Try.f4) (ps := [.bool]) (r := (true, ())) (fn := Try.f4) (c := codeOf Try.f4) (specs_ok (P := Try.prog) rfl [sp_awake, sp_total, sp_refTotal, sp_opp, sp_refOpp, sp_same, sp_ents, sp_refEnts, sp_sameInts] [] rfl rfl) mixed Try.func4 rfl rfl (g := g_sums p r L e) (by delta g_sums start0; first | with_reducible exact Eq.refl _ | exact Eq.refl _) (by rw [g_sums_eq p r L e]; exact g_sums_ok p r L e h)
def q_sums (p r : Int) (L : List Ln) (e : Int) : Prop × V := (InL L, (.bool true))
noncomputable def sp_sums : FSpec Try.prog where
  f := 4
  run := fun args => match args with
    | [.agg [.int .i64 p, .int .i64 r, v0_2], .int .i64 e] => (match (asL LTy v0_2 : Option (List Ln)) with | some L => some (q_sums p r L e) | none => none)
    | _ => none
  ok := fun args pre r h hp => by
    try dsimp only at h
    split at h
    · rename_i p r v0_2 e
      cases h0_2 : (asL LTy v0_2 : Option (List Ln)) with
      | none => rw [h0_2] at h; cases h
      | some L =>
      rw [h0_2] at h
      try dsimp only at h
      have h := Option.some.inj h
      unfold q_sums at h
      cases h
      exact (sums_pure p r L e hp).weak (.cons (Weak.agg (.cons (Weak.refl _) (.cons (Weak.refl _) (.cons (asL_weak h0_2) .nil)))) (.cons (Weak.refl _) .nil))
    · cases h

end Go.Proofs.Ytgmcfgegldmieaa
