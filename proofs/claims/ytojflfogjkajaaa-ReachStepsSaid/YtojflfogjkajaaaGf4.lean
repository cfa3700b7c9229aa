/-
  law12: same, awake.
-/
import Derived.Test.YtojflfogjkajaaaGf3
namespace Go.Proofs.Ytojflfogjkajaaa.Gr
open Go.Vm

theorem setnil_pure (v : Int) : Vm.Pure Try.prog 27 [.nilp, .int .i64 v, .nils] (.tuple [.int .i64 0, .int .i64 0, .int .i64 1]) := by
  refine pure_calls (fun F w vs hF hr => ?_) rfl rfl
  obtain ⟨u1, r1, rfl, a1, hr⟩ := hr.cons_inv
  obtain ⟨u2, r2, rfl, a2, hr⟩ := hr.cons_inv
  obtain ⟨u3, r3, rfl, a3, hr⟩ := hr.cons_inv
  rw [hr.nil_inv, a2.int_inv, a3.nils_inv]
  cases a1
  refine (callsIn_wide.1 (set_err 20 (by omega) w (.pointer none) v none 0 0 1 (by decide) (may_nil 19 (by omega) w v none 0 0))).mono ?_
  rintro e w' ⟨rfl, hb⟩
  refine ⟨_, rfl, hb, fun _ => .tuple rfl fun j c u hc hu => ?_⟩
  match j, hc, hu with
  | 0, hc, hu => cases hc; cases hu; exact .int
  | 1, hc, hu => cases hc; cases hu; exact .int
  | 2, hc, hu => cases hc; cases hu; exact .int
noncomputable def sp_setnil : FSpec Try.prog where
 f := 27
 run := fun
  | [.nilp, .int .i64 v, .nils] => some (True, .tuple [.int .i64 0, .int .i64 0, .int .i64 1])
  | _ => none
 ok := fun args pre r h hp => by
  split at h
  · rename_i v
    cases h
    exact setnil_pure v
  · cases h

theorem gok_le {R : GI} (h : GOk R) : ∀ x ∈ R, x.length ≤ 1000000000 := fun x hx => by
  obtain ⟨v, hv⟩ := List.getElem?_of_mem hx
  exact g_small h hv
theorem rds_eq {R : GI} (h : GOk R) (v : Int) : rdsF R v = rdGo R v R.length := by
  unfold rdsF
  split
  · rename_i hv
    unfold readersF rdGo
    rw [Int.toNat_of_nonneg hv.1]
  · rename_i hv
    unfold rdGo
    symm
    rw [List.map_eq_nil_iff, List.filter_eq_nil_iff]
    intro i hi
    rw [List.mem_range] at hi
    rw [List.getD_eq_getElem?_getD, List.getElem?_eq_getElem hi]
    intro hc
    have := (h.2 i _ (List.getElem?_eq_getElem hi)).2 v (List.contains_iff_mem.1 hc)
    exact hv ⟨this.1, this.2.1⟩
theorem rds_le {R : GI} (h : GOk R) (v : Int) : (rdsF R v).length ≤ 1000000000 := by
  rw [rds_eq h]
  exact Nat.le_trans (rdGo_le R v _) (by have := h.1; omega)
noncomputable def env_same (R Q : GI) : Env where
  P := Try.prog
  ty := tys0
  specs := specsOf [sp_nodes, sp_edges, sp_reads, sp_readers, sp_redges, sp_rreads, sp_rreaders, sp_sameInts]
  frz := fun | 28 => true | 31 => true | 37 => true | 40 => true | _ => false
  heads := fun | 4 => some { slots := [(5, .int .i64)], boxes := [], keep := [3], inv := fun _ (x : Int × Unit) => 0 ≤ x.1 ∧ x.1 ≤ Q.length, measure := fun _ (x : Int × Unit) => (Q.length - x.1).toNat } | _ => none
def g_same_vc (R : GI) (Q : GI) : Prop :=
  True ∧ ((!decide ((↑(List.length R) : Int) = (↑(List.length Q) : Int))) = false → True ∧ (List.length Q ≤ (20000 : Nat) ∧ ∀ (x : List Int), x ∈ Q → x.length ≤ (1000000000 : Nat)) ∧ ((!decide ((List.map (fun l => (↑l.length : Int)) R).sum = (List.map (fun l => (↑l.length : Int)) Q).sum)) = true → (false, ()) = (true, ())) ∧ ((!decide ((List.map (fun l => (↑l.length : Int)) R).sum = (List.map (fun l => (↑l.length : Int)) Q).sum)) = false → ((some (Obj.box [V.list LK.part LI Q]) = some (Obj.box [V.list LK.part LI Q]) ∧ True) ∧ (0 : Int) ≤ (0 : Int) ∧ (0 : Int) ≤ (↑(List.length Q) : Int)) ∧ ∀ (x : Int × Unit), (0 : Int) ≤ x.1 ∧ x.1 ≤ (↑(List.length Q) : Int) → (decide (x.1 < (↑(List.length Q) : Int)) = true → True ∧ True ∧ (readsF R x.1).length ≤ (1000000000 : Nat) ∧ ((!decide (readsF R x.1 = readsF Q x.1)) = false → True ∧ (List.length Q ≤ (1000000000 : Nat) ∧ ∀ (x : List Int), x ∈ Q → x.length ≤ (1000000000 : Nat)) ∧ (rdsF R x.1).length ≤ (1000000000 : Nat) ∧ ((!decide (rdsF R x.1 = rdGo Q x.1 (List.length Q))) = true → (false, ()) = (true, ())) ∧ ((!decide (rdsF R x.1 = rdGo Q x.1 (List.length Q))) = false → ((-9223372036854775808 : Int) ≤ x.1 + (1 : Int) ∧ x.1 + (1 : Int) ≤ (9223372036854775807 : Int)) ∧ (some (Obj.box [V.list LK.part LI Q]) = some (Obj.box [V.list LK.part LI Q]) ∧ True) ∧ ((0 : Int) ≤ x.1 + (1 : Int) ∧ x.1 + (1 : Int) ≤ (↑(List.length Q) : Int)) ∧ ((↑(List.length Q) : Int) - (x.1 + (1 : Int))).toNat < ((↑(List.length Q) : Int) - x.1).toNat)) ∧ ((!decide (readsF R x.1 = readsF Q x.1)) = !false → (false, ()) = (true, ()))) ∧ (decide (x.1 < (↑(List.length Q) : Int)) = false → (true, ()) = (true, ())))) ∧ ((!decide ((↑(List.length R) : Int) = (↑(List.length Q) : Int))) = !false → (false, ()) = (true, ()))
theorem g_same_eq (R Q : GI) : Cond (env_same R Q) Try.f18 [.fopq .graph R, .agg [.list .part LI Q]] [.bool] (true, ()) = g_same_vc R Q := by kernel_rfl
theorem g_same_ok (R Q : GI) (h : GOk R ∧ Q = R) : g_same_vc R Q := by
  obtain ⟨h, rfl⟩ := h
  unfold g_same_vc
  simp only [decide_eq_true_eq, decide_eq_false_iff_not, Bool.not_eq_true', Bool.not_eq_false', Bool.not_true, Bool.not_false]
  have h1 := h.1
  have h2 := gok_le h
  refine ⟨trivial, fun _ => ⟨trivial, ⟨h1, h2⟩, fun hc => absurd trivial hc, fun _ => ⟨⟨⟨trivial, trivial⟩, by omega, by omega⟩, ?_⟩⟩, fun hc => absurd trivial hc⟩
  rintro ⟨i, ⟨⟩⟩ ⟨h3, h4⟩
  dsimp only at h3 h4 ⊢
  refine ⟨fun hi => ⟨trivial, trivial, reads_le h2, fun _ => ⟨trivial, ⟨by omega, h2⟩, rds_le h i, fun hc => absurd (rds_eq h i) hc, fun _ => ⟨by omega, ⟨trivial, trivial⟩, ⟨by omega, by omega⟩, by omega⟩⟩, fun hc => absurd trivial hc⟩, fun hi => trivial⟩
set_option maxRecDepth 20000
theorem same_pure (R Q : GI) (h : GOk R ∧ Q = R) : Pure Try.prog 18 [.fopq .graph R, .agg [.list .part LI Q]] (.bool true) :=
  by have k := Pure.of_cond (g_same_eq R Q) (g_same_ok R Q h) (specs_ok rfl [sp_nodes, sp_edges, sp_reads, sp_readers, sp_redges, sp_rreads, sp_rreaders, sp_sameInts] [] rfl rfl) mixed Try.func18; exact k
noncomputable def q_same (R Q : GI) : Prop × V := (GOk R ∧ Q = R, (.bool true))
noncomputable def sp_same : FSpec Try.prog where
 f := 18
 run := fun
  | [.fopq .graph R, .agg [v1_0]] => (asP LI v1_0 : Option (GI)).bind fun Q => some (q_same R Q)
  | _ => none
 ok := fun args pre r h hp => by
  split at h
  · rename_i R v1_0
    obtain ⟨Q, h1_0, h⟩ := Option.bind_eq_some_iff.1 h
    exact of_q h hp fun h => (same_pure R Q h).weak (.cons (.refl _) (.cons (Weak.agg (.cons (asP_weak h1_0) .nil)) .nil))
  · cases h
noncomputable def env_awake : Env where
  P := Try.prog
  ty := tys0
  specs := specsOf [sp_nodes, sp_edges, sp_reads, sp_readers, sp_has, sp_sameInts, sp_setnil]
  upd := updsOf [onew.upd, oset.upd]
def g_awake_vc : Prop :=
  True ∧ ((!decide (newE (6 : Int) = (0 : Int))) = false → (decide (List.length (newR (6 : Int)) = (0 : Nat)) = true → (false, ()) = (true, ())) ∧ (decide (List.length (newR (6 : Int)) = (0 : Nat)) = false → (2 : Nat) ≤ (1000000000 : Nat) ∧ (2 : Nat) ≤ (1000000000 : Nat) ∧ (1 : Nat) ≤ (1000000000 : Nat) ∧ (2 : Nat) ≤ (1000000000 : Nat) ∧ (1 : Nat) ≤ (1000000000 : Nat) ∧ True ∧ True ∧ (decide (addedF (newR (6 : Int)) (2 : Int) [(0 : Int), (1 : Int)] = (2 : Int)) = true → (decide (droppedF (newR (6 : Int)) (2 : Int) [(0 : Int), (1 : Int)] = (0 : Int)) = true → (decide (mayF (newR (6 : Int)) (2 : Int) [(0 : Int), (1 : Int)] = (0 : Int)) = true → (decide (addedF (setR (newR (6 : Int)) (2 : Int) [(0 : Int), (1 : Int)]) (2 : Int) [(1 : Int), (5 : Int)] = (1 : Int)) = true → (decide (droppedF (setR (newR (6 : Int)) (2 : Int) [(0 : Int), (1 : Int)]) (2 : Int) [(1 : Int), (5 : Int)] = (1 : Int)) = true → (decide (mayF (setR (newR (6 : Int)) (2 : Int) [(0 : Int), (1 : Int)]) (2 : Int) [(1 : Int), (5 : Int)] = (0 : Int)) = true → (decide (mayF (setR (setR (newR (6 : Int)) (2 : Int) [(0 : Int), (1 : Int)]) (2 : Int) [(1 : Int), (5 : Int)]) (2 : Int) [(2 : Int)] = (26 : Int)) = true → (decide (mayF (setR (setR (setR (newR (6 : Int)) (2 : Int) [(0 : Int), (1 : Int)]) (2 : Int) [(1 : Int), (5 : Int)]) (2 : Int) [(2 : Int)]) (2 : Int) [(0 : Int), (0 : Int)] = (35 : Int)) = true → (decide (mayF (setR (setR (setR (setR (newR (6 : Int)) (2 : Int) [(0 : Int), (1 : Int)]) (2 : Int) [(1 : Int), (5 : Int)]) (2 : Int) [(2 : Int)]) (2 : Int) [(0 : Int), (0 : Int)]) (2 : Int) [(6 : Int)] = (2 : Int)) = true → True ∧ (readsF (setR (setR (setR (setR (setR (newR (6 : Int)) (2 : Int) [(0 : Int), (1 : Int)]) (2 : Int) [(1 : Int), (5 : Int)]) (2 : Int) [(2 : Int)]) (2 : Int) [(0 : Int), (0 : Int)]) (2 : Int) [(6 : Int)]) (2 : Int)).length ≤ (1000000000 : Nat) ∧ (decide (readsF (setR (setR (setR (setR (setR (newR (6 : Int)) (2 : Int) [(0 : Int), (1 : Int)]) (2 : Int) [(1 : Int), (5 : Int)]) (2 : Int) [(2 : Int)]) (2 : Int) [(0 : Int), (0 : Int)]) (2 : Int) [(6 : Int)]) (2 : Int) = [(1 : Int), (5 : Int)]) = true → True ∧ (rdsF (setR (setR (setR (setR (setR (newR (6 : Int)) (2 : Int) [(0 : Int), (1 : Int)]) (2 : Int) [(1 : Int), (5 : Int)]) (2 : Int) [(2 : Int)]) (2 : Int) [(0 : Int), (0 : Int)]) (2 : Int) [(6 : Int)]) (5 : Int)).length ≤ (1000000000 : Nat) ∧ (decide (rdsF (setR (setR (setR (setR (setR (newR (6 : Int)) (2 : Int) [(0 : Int), (1 : Int)]) (2 : Int) [(1 : Int), (5 : Int)]) (2 : Int) [(2 : Int)]) (2 : Int) [(0 : Int), (0 : Int)]) (2 : Int) [(6 : Int)]) (5 : Int) = [(2 : Int)]) = true → True ∧ (decide ((↑(rdsF (setR (setR (setR (setR (setR (newR (6 : Int)) (2 : Int) [(0 : Int), (1 : Int)]) (2 : Int) [(1 : Int), (5 : Int)]) (2 : Int) [(2 : Int)]) (2 : Int) [(0 : Int), (0 : Int)]) (2 : Int) [(6 : Int)]) (0 : Int)).length : Int) = (0 : Int)) = true → True ∧ ((readsF (setR (setR (setR (setR (setR (newR (6 : Int)) (2 : Int) [(0 : Int), (1 : Int)]) (2 : Int) [(1 : Int), (5 : Int)]) (2 : Int) [(2 : Int)]) (2 : Int) [(0 : Int), (0 : Int)]) (2 : Int) [(6 : Int)]) (2 : Int)).contains (1 : Int) = true → True ∧ ((!(readsF (setR (setR (setR (setR (setR (newR (6 : Int)) (2 : Int) [(0 : Int), (1 : Int)]) (2 : Int) [(1 : Int), (5 : Int)]) (2 : Int) [(2 : Int)]) (2 : Int) [(0 : Int), (0 : Int)]) (2 : Int) [(6 : Int)]) (1 : Int)).contains (2 : Int)) = true → True ∧ (decide ((List.map (fun l => (↑l.length : Int)) (setR (setR (setR (setR (setR (newR (6 : Int)) (2 : Int) [(0 : Int), (1 : Int)]) (2 : Int) [(1 : Int), (5 : Int)]) (2 : Int) [(2 : Int)]) (2 : Int) [(0 : Int), (0 : Int)]) (2 : Int) [(6 : Int)])).sum = (2 : Int)) = true → True ∧ (decide ((↑(List.length (setR (setR (setR (setR (setR (newR (6 : Int)) (2 : Int) [(0 : Int), (1 : Int)]) (2 : Int) [(1 : Int), (5 : Int)]) (2 : Int) [(2 : Int)]) (2 : Int) [(0 : Int), (0 : Int)]) (2 : Int) [(6 : Int)])) : Int) = (6 : Int)) = true → (decide ((1 : Int) = (1 : Int)) = true → (decide (newE (0 : Int) = (2 : Int)), ()) = (true, ())) ∧ (decide ((1 : Int) = (1 : Int)) = !true → (false, ()) = (true, ()))) ∧ (decide ((↑(List.length (setR (setR (setR (setR (setR (newR (6 : Int)) (2 : Int) [(0 : Int), (1 : Int)]) (2 : Int) [(1 : Int), (5 : Int)]) (2 : Int) [(2 : Int)]) (2 : Int) [(0 : Int), (0 : Int)]) (2 : Int) [(6 : Int)])) : Int) = (6 : Int)) = !true → (false, ()) = (true, ()))) ∧ (decide ((List.map (fun l => (↑l.length : Int)) (setR (setR (setR (setR (setR (newR (6 : Int)) (2 : Int) [(0 : Int), (1 : Int)]) (2 : Int) [(1 : Int), (5 : Int)]) (2 : Int) [(2 : Int)]) (2 : Int) [(0 : Int), (0 : Int)]) (2 : Int) [(6 : Int)])).sum = (2 : Int)) = !true → (false, ()) = (true, ()))) ∧ ((!(readsF (setR (setR (setR (setR (setR (newR (6 : Int)) (2 : Int) [(0 : Int), (1 : Int)]) (2 : Int) [(1 : Int), (5 : Int)]) (2 : Int) [(2 : Int)]) (2 : Int) [(0 : Int), (0 : Int)]) (2 : Int) [(6 : Int)]) (1 : Int)).contains (2 : Int)) = !true → (false, ()) = (true, ()))) ∧ ((readsF (setR (setR (setR (setR (setR (newR (6 : Int)) (2 : Int) [(0 : Int), (1 : Int)]) (2 : Int) [(1 : Int), (5 : Int)]) (2 : Int) [(2 : Int)]) (2 : Int) [(0 : Int), (0 : Int)]) (2 : Int) [(6 : Int)]) (2 : Int)).contains (1 : Int) = !true → (false, ()) = (true, ()))) ∧ (decide ((↑(rdsF (setR (setR (setR (setR (setR (newR (6 : Int)) (2 : Int) [(0 : Int), (1 : Int)]) (2 : Int) [(1 : Int), (5 : Int)]) (2 : Int) [(2 : Int)]) (2 : Int) [(0 : Int), (0 : Int)]) (2 : Int) [(6 : Int)]) (0 : Int)).length : Int) = (0 : Int)) = !true → (false, ()) = (true, ()))) ∧ (decide (rdsF (setR (setR (setR (setR (setR (newR (6 : Int)) (2 : Int) [(0 : Int), (1 : Int)]) (2 : Int) [(1 : Int), (5 : Int)]) (2 : Int) [(2 : Int)]) (2 : Int) [(0 : Int), (0 : Int)]) (2 : Int) [(6 : Int)]) (5 : Int) = [(2 : Int)]) = !true → (false, ()) = (true, ()))) ∧ (decide (readsF (setR (setR (setR (setR (setR (newR (6 : Int)) (2 : Int) [(0 : Int), (1 : Int)]) (2 : Int) [(1 : Int), (5 : Int)]) (2 : Int) [(2 : Int)]) (2 : Int) [(0 : Int), (0 : Int)]) (2 : Int) [(6 : Int)]) (2 : Int) = [(1 : Int), (5 : Int)]) = !true → (false, ()) = (true, ()))) ∧ (decide (mayF (setR (setR (setR (setR (newR (6 : Int)) (2 : Int) [(0 : Int), (1 : Int)]) (2 : Int) [(1 : Int), (5 : Int)]) (2 : Int) [(2 : Int)]) (2 : Int) [(0 : Int), (0 : Int)]) (2 : Int) [(6 : Int)] = (2 : Int)) = !true → (false, ()) = (true, ()))) ∧ (decide (mayF (setR (setR (setR (newR (6 : Int)) (2 : Int) [(0 : Int), (1 : Int)]) (2 : Int) [(1 : Int), (5 : Int)]) (2 : Int) [(2 : Int)]) (2 : Int) [(0 : Int), (0 : Int)] = (35 : Int)) = !true → (false, ()) = (true, ()))) ∧ (decide (mayF (setR (setR (newR (6 : Int)) (2 : Int) [(0 : Int), (1 : Int)]) (2 : Int) [(1 : Int), (5 : Int)]) (2 : Int) [(2 : Int)] = (26 : Int)) = !true → (false, ()) = (true, ()))) ∧ (decide (mayF (setR (newR (6 : Int)) (2 : Int) [(0 : Int), (1 : Int)]) (2 : Int) [(1 : Int), (5 : Int)] = (0 : Int)) = !true → (false, ()) = (true, ()))) ∧ (decide (droppedF (setR (newR (6 : Int)) (2 : Int) [(0 : Int), (1 : Int)]) (2 : Int) [(1 : Int), (5 : Int)] = (1 : Int)) = !true → (false, ()) = (true, ()))) ∧ (decide (addedF (setR (newR (6 : Int)) (2 : Int) [(0 : Int), (1 : Int)]) (2 : Int) [(1 : Int), (5 : Int)] = (1 : Int)) = !true → (false, ()) = (true, ()))) ∧ (decide (mayF (newR (6 : Int)) (2 : Int) [(0 : Int), (1 : Int)] = (0 : Int)) = !true → (false, ()) = (true, ()))) ∧ (decide (droppedF (newR (6 : Int)) (2 : Int) [(0 : Int), (1 : Int)] = (0 : Int)) = !true → (false, ()) = (true, ()))) ∧ (decide (addedF (newR (6 : Int)) (2 : Int) [(0 : Int), (1 : Int)] = (2 : Int)) = !true → (false, ()) = (true, ())))) ∧ ((!decide (newE (6 : Int) = (0 : Int))) = !false → (false, ()) = (true, ()))
theorem g_awake_eq  : Cond (env_awake ) Try.f16 [] [.bool] (true, ()) = g_awake_vc  := by kernel_rfl
theorem g_awake_ok : g_awake_vc := by
  unfold g_awake_vc
  simp only [decide_eq_true_eq, decide_eq_false_iff_not, Bool.not_eq_true', Bool.not_eq_false', Bool.not_true, Bool.not_false]
  have e0 : newR 6 = [[], [], [], [], [], []] := by decide
  have n6 : newE 6 = 0 := by decide
  have n0 : newE 0 = 2 := by decide
  have m1 : mayF [[], [], [], [], [], []] 2 [0, 1] = 0 := by rw [may_eq (by decide)]; decide
  have e1 : setR [[], [], [], [], [], []] 2 [0, 1] = [[], [], [0, 1], [], [], []] := by rw [setR, m1]; rfl
  have a1 : addedF [[], [], [], [], [], []] 2 [0, 1] = 2 := by rw [addedF, m1]; decide
  have d1 : droppedF [[], [], [], [], [], []] 2 [0, 1] = 0 := by rw [droppedF, m1]; decide
  have m2 : mayF [[], [], [0, 1], [], [], []] 2 [1, 5] = 0 := by rw [may_eq (by decide)]; decide
  have e2 : setR [[], [], [0, 1], [], [], []] 2 [1, 5] = [[], [], [1, 5], [], [], []] := by rw [setR, m2]; rfl
  have a2 : addedF [[], [], [0, 1], [], [], []] 2 [1, 5] = 1 := by rw [addedF, m2]; decide
  have d2 : droppedF [[], [], [0, 1], [], [], []] 2 [1, 5] = 1 := by rw [droppedF, m2]; decide
  have m3 : mayF [[], [], [1, 5], [], [], []] 2 [2] = 26 := by rw [may_eq (by decide)]; decide
  have e3 : setR [[], [], [1, 5], [], [], []] 2 [2] = [[], [], [1, 5], [], [], []] := by rw [setR, m3]; rfl
  have m4 : mayF [[], [], [1, 5], [], [], []] 2 [0, 0] = 35 := by rw [may_eq (by decide)]; decide
  have e4 : setR [[], [], [1, 5], [], [], []] 2 [0, 0] = [[], [], [1, 5], [], [], []] := by rw [setR, m4]; rfl
  have m5 : mayF [[], [], [1, 5], [], [], []] 2 [6] = 2 := by rw [may_eq (by decide)]; decide
  have e5 : setR [[], [], [1, 5], [], [], []] 2 [6] = [[], [], [1, 5], [], [], []] := by rw [setR, m5]; rfl
  have r2 : readsF [[], [], [1, 5], [], [], []] 2 = [1, 5] := by decide
  have r1 : readsF [[], [], [1, 5], [], [], []] 1 = [] := by decide
  have s5 : rdsF [[], [], [1, 5], [], [], []] 5 = [2] := by decide
  have s0 : rdsF [[], [], [1, 5], [], [], []] 0 = [] := by decide
  have ee : edgesF [[], [], [1, 5], [], [], []] = 2 := by decide
  simp only [e0, n6, n0, m1, e1, a1, d1, m2, e2, a2, d2, m3, e3, m4, e4, m5, e5, r2, r1, s5, s0, ee]
  trace_state
  simp
theorem awake_pure  : Pure Try.prog 16 [] (.bool true) :=
  by have k := Pure.of_cond (g_awake_eq ) (g_awake_ok ) (specs_ok rfl [sp_nodes, sp_edges, sp_reads, sp_readers, sp_has, sp_sameInts, sp_setnil] [onew.upd, oset.upd] rfl rfl) mixed Try.func16; exact k
noncomputable def q_awake  : Prop × V := (True, (.bool true))
noncomputable def sp_awake : FSpec Try.prog where
 f := 16
 run := fun
  | [] => some (q_awake )
  | _ => none
 ok := fun args pre r h hp => by
  split at h
  · skip
    exact of_q h hp fun h => (awake_pure ).weak .nil
  · cases h

end Go.Proofs.Ytojflfogjkajaaa.Gr
