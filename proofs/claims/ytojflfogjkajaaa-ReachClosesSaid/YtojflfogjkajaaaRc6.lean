/-
  law13: row, awake, ReachTells.
-/
import Derived.Test.YtojflfogjkajaaaRc5
namespace Go.Proofs.Ytojflfogjkajaaa.Rc
open Go.Vm Go.Proofs.Ytojflfogjkajaaa.Gr

/-- A table, looked through. -/
def tabB (n : Nat) (nx : Int → List Int) (l o : List Int) : Bool :=
  decide (o.length = n) && (List.range n).all fun v => (decide (-1 ≤ atI o v) && (decide (atI o v = 0) == l.contains (v : Int))) &&
    ((decide (atI o v ≤ 0) || (List.range n).any fun u => (nx u).contains (v : Int) && decide (atI o u + 1 = atI o v)) && (decide (atI o v < 0) || (nx v).all fun w => decide (0 ≤ atI o w ∧ atI o w ≤ atI o v + 1)))
theorem tab_of {n : Nat} {nx : Int → List Int} {l o : List Int} (h : tabB n nx l o = true) : Table n nx (Fr n l) o := by
  unfold tabB at h
  rw [Bool.and_eq_true, List.all_eq_true, decide_eq_true_eq] at h
  obtain ⟨hl, h⟩ := h
  have key : ∀ v, Dom n v → -1 ≤ atI o v ∧ (atI o v = 0 ↔ v ∈ l) ∧ (0 < atI o v → ∃ u, Dom n u ∧ v ∈ nx u ∧ atI o u + 1 = atI o v) ∧ (0 ≤ atI o v → ∀ w ∈ nx v, 0 ≤ atI o w ∧ atI o w ≤ atI o v + 1) := by
    intro v hv
    have h1 := h v.toNat (List.mem_range.2 (by unfold Dom at hv; omega))
    rw [Int.toNat_of_nonneg hv.1] at h1
    simp only [Bool.and_eq_true, Bool.or_eq_true, decide_eq_true_eq, beq_iff_eq, List.any_eq_true, List.all_eq_true, List.mem_range] at h1
    obtain ⟨⟨h2, h3⟩, h4, h5⟩ := h1
    refine ⟨h2, ?_, fun hp => ?_, fun hp w hw => ?_⟩
    · rw [← List.contains_iff_mem, ← h3, decide_eq_true_eq]
    · rcases h4 with h4 | ⟨u, a, b, c⟩
      · omega
      · exact ⟨u, ⟨by omega, by omega⟩, List.contains_iff_mem.1 b, c⟩
    · rcases h5 with h5 | h5
      · omega
      · exact h5 w hw
  have hs : ∀ (k : Nat) v, atI o v = k → Pth nx (Fr n l) k v := by
    intro k
    induction k with
    | zero =>
      intro v hv
      have hd := dom_of hl (v := v) (by omega)
      exact .zero ⟨hd, (key v hd).2.1.1 (by omega)⟩
    | succ k ih =>
      intro v hv
      have hd := dom_of hl (v := v) (by omega)
      obtain ⟨u, _, h2, h3⟩ := (key v hd).2.2.1 (by omega)
      exact .succ (ih u (by omega)) h2
  refine ⟨hl, fun v => ?_, fun v hv => (key v hv.1).2.1.2 hv.2, fun v k hk => hs k v hk, fun v w hv hw => (key v (dom_of hl hv)).2.2.2 hv w hw⟩
  by_cases hd : Dom n v
  · exact (key v hd).1
  · rw [atI_out hl hd]
    omega
theorem steps_of {R : GI} {l o : List Int} (hG : GOk R) (h : tabB R.length (rdsF R) l o = true) : stepsF R.length (rdsF R) (Fr R.length l) = o := ((tab_of h).eq fr_dom (rds_dom hG)).symm
theorem needs_of {R : GI} {l o : List Int} (hG : GOk R) (h : tabB R.length (readsF R) l o = true) : stepsF R.length (readsF R) (Fr R.length l) = o := ((tab_of h).eq fr_dom (reads_dom hG)).symm

abbrev rowL : List Ac := [(1, [0]), (2, [1])]
noncomputable def env_row : Env where
  P := Try.prog
  ty := tys0
def g_row_vc : Prop :=
  ([((1 : Int), [(0 : Int)]), ((2 : Int), [(1 : Int)])], ()) = (rowL, ())
theorem g_row_eq  : Cond (env_row ) Try.f63 [] [.list .part AcT] (rowL, ()) = g_row_vc  := by kernel_rfl
theorem g_row_ok : g_row_vc := by
  unfold g_row_vc
  rfl
set_option maxRecDepth 20000
theorem row_pure  : Pure Try.prog 63 [] (.list .part AcT rowL) :=
  by have k := Pure.of_cond (g_row_eq ) (g_row_ok ) (specs_ok rfl [] [] rfl rfl) mixed Try.func63; exact k
noncomputable def q_row  : Prop × V := (True, (.list .part AcT rowL))
noncomputable def sp_row : FSpec Try.prog where
 f := 63
 run := fun
  | [] => some (q_row )
  | _ => none
 ok := fun args pre r h hp => by
  split at h
  · skip
    exact of_q h hp fun h => (row_pure ).weak .nil
  · cases h
theorem weak_nil : Weak .nilp (.fopq .graph ([] : GI)) := fun X u hr => by
  rw [hr.nilp_inv]
  exact .fopq (k := .graph) (o := none) (fun _ => False) (fun _ => rfl) (fun b e => by cases e)
noncomputable def sp_reach2 : FSpec Try.prog where
 f := 31
 run := fun
  | [.nilp, v1] => (asL I v1 : Option (List Int)).bind fun l => some (q_reach [] l)
  | args => sp_reach.run args
 ok := fun args pre r h hp => by
  split at h
  · rename_i v1
    obtain ⟨l, h1, h⟩ := Option.bind_eq_some_iff.1 h
    exact of_q h hp fun h => (reach_pure [] l h).weak (.cons weak_nil (.cons (asL_weak h1) .nil))
  · exact sp_reach.ok _ _ _ h hp
noncomputable def env_awake : Env where
  P := Try.prog
  ty := tys0
  specs := specsOf [sp_row, sp_reach2, sp_needs, sp_steps, sp_sameInts]
  upd := updsOf [so_made.upd]
def g_awake_vc : Prop :=
  True ∧ fewF rowL = true ∧ ((!true) = false → (decide (List.length (actsR (newR (4 : Int)) rowL) = (0 : Nat)) = true → (false, ()) = (true, ())) ∧ (decide (List.length (actsR (newR (4 : Int)) rowL) = (0 : Nat)) = false → ((List.length (actsR (newR (4 : Int)) rowL) ≤ (20000 : Nat) ∧ ∀ (v : Nat) (l : List Int), (actsR (newR (4 : Int)) rowL)[v]? = some l → l.Nodup ∧ ∀ (x : Int), x ∈ l → (0 : Int) ≤ x ∧ x < (↑(List.length (actsR (newR (4 : Int)) rowL)) : Int) ∧ x ≠ (↑v : Int)) ∧ (1 : Nat) ≤ (1000000000 : Nat)) ∧ (metF (stepsF (List.length (actsR (newR (4 : Int)) rowL)) (rdsF (actsR (newR (4 : Int)) rowL)) (Fr (List.length (actsR (newR (4 : Int)) rowL)) [(1 : Int)]))).length ≤ (1000000000 : Nat) ∧ (decide (metF (stepsF (List.length (actsR (newR (4 : Int)) rowL)) (rdsF (actsR (newR (4 : Int)) rowL)) (Fr (List.length (actsR (newR (4 : Int)) rowL)) [(1 : Int)])) = [(1 : Int), (2 : Int)]) = true → ((List.length (actsR (newR (4 : Int)) rowL) ≤ (20000 : Nat) ∧ ∀ (v : Nat) (l : List Int), (actsR (newR (4 : Int)) rowL)[v]? = some l → l.Nodup ∧ ∀ (x : Int), x ∈ l → (0 : Int) ≤ x ∧ x < (↑(List.length (actsR (newR (4 : Int)) rowL)) : Int) ∧ x ≠ (↑v : Int)) ∧ (1 : Nat) ≤ (1000000000 : Nat)) ∧ (metF (stepsF (List.length (actsR (newR (4 : Int)) rowL)) (readsF (actsR (newR (4 : Int)) rowL)) (Fr (List.length (actsR (newR (4 : Int)) rowL)) [(1 : Int)]))).length ≤ (1000000000 : Nat) ∧ (decide (metF (stepsF (List.length (actsR (newR (4 : Int)) rowL)) (readsF (actsR (newR (4 : Int)) rowL)) (Fr (List.length (actsR (newR (4 : Int)) rowL)) [(1 : Int)])) = [(0 : Int), (1 : Int)]) = true → ((List.length (actsR (newR (4 : Int)) rowL) ≤ (20000 : Nat) ∧ ∀ (v : Nat) (l : List Int), (actsR (newR (4 : Int)) rowL)[v]? = some l → l.Nodup ∧ ∀ (x : Int), x ∈ l → (0 : Int) ≤ x ∧ x < (↑(List.length (actsR (newR (4 : Int)) rowL)) : Int) ∧ x ≠ (↑v : Int)) ∧ (1 : Nat) ≤ (1000000000 : Nat)) ∧ (stepsF (List.length (actsR (newR (4 : Int)) rowL)) (rdsF (actsR (newR (4 : Int)) rowL)) (Fr (List.length (actsR (newR (4 : Int)) rowL)) [(0 : Int)])).length ≤ (1000000000 : Nat) ∧ (decide (stepsF (List.length (actsR (newR (4 : Int)) rowL)) (rdsF (actsR (newR (4 : Int)) rowL)) (Fr (List.length (actsR (newR (4 : Int)) rowL)) [(0 : Int)]) = [(0 : Int), (1 : Int), (2 : Int), (-1 : Int)]) = true → (((0 : Nat) ≤ (20000 : Nat) ∧ ∀ (v : Nat) (l : List Int), [][v]? = some l → l.Nodup ∧ ∀ (x : Int), x ∈ l → (0 : Int) ≤ x ∧ x < (↑(0 : Nat) : Int) ∧ x ≠ (↑v : Int)) ∧ (1 : Nat) ≤ (1000000000 : Nat)) ∧ (decide ((↑(metF (stepsF (0 : Nat) (rdsF []) (Fr (0 : Nat) [(0 : Int)]))).length : Int) = (0 : Int)) = true → ((List.length (actsR (newR (4 : Int)) rowL) ≤ (20000 : Nat) ∧ ∀ (v : Nat) (l : List Int), (actsR (newR (4 : Int)) rowL)[v]? = some l → l.Nodup ∧ ∀ (x : Int), x ∈ l → (0 : Int) ≤ x ∧ x < (↑(List.length (actsR (newR (4 : Int)) rowL)) : Int) ∧ x ≠ (↑v : Int)) ∧ (1 : Nat) ≤ (1000000000 : Nat)) ∧ (decide ((↑(metF (stepsF (List.length (actsR (newR (4 : Int)) rowL)) (rdsF (actsR (newR (4 : Int)) rowL)) (Fr (List.length (actsR (newR (4 : Int)) rowL)) [(9 : Int)]))).length : Int) = (0 : Int)), ()) = (true, ())) ∧ (decide ((↑(metF (stepsF (0 : Nat) (rdsF []) (Fr (0 : Nat) [(0 : Int)]))).length : Int) = (0 : Int)) = !true → (false, ()) = (true, ()))) ∧ (decide (stepsF (List.length (actsR (newR (4 : Int)) rowL)) (rdsF (actsR (newR (4 : Int)) rowL)) (Fr (List.length (actsR (newR (4 : Int)) rowL)) [(0 : Int)]) = [(0 : Int), (1 : Int), (2 : Int), (-1 : Int)]) = !true → (false, ()) = (true, ()))) ∧ (decide (metF (stepsF (List.length (actsR (newR (4 : Int)) rowL)) (readsF (actsR (newR (4 : Int)) rowL)) (Fr (List.length (actsR (newR (4 : Int)) rowL)) [(1 : Int)])) = [(0 : Int), (1 : Int)]) = !true → (false, ()) = (true, ()))) ∧ (decide (metF (stepsF (List.length (actsR (newR (4 : Int)) rowL)) (rdsF (actsR (newR (4 : Int)) rowL)) (Fr (List.length (actsR (newR (4 : Int)) rowL)) [(1 : Int)])) = [(1 : Int), (2 : Int)]) = !true → (false, ()) = (true, ())))) ∧ ((!true) = !false → (false, ()) = (true, ()))
theorem g_awake_eq  : Cond (env_awake ) Try.f30 [] [.bool] (true, ()) = g_awake_vc  := by kernel_rfl
theorem g_awake_ok : g_awake_vc := by
  unfold g_awake_vc
  have hR : actsR (newR 4) rowL = [[], [0], [1], []] := by decide
  have hG : GOk (actsR (newR 4) rowL) := gok_acts _ _ (gok_new 4)
  have hf : fewF rowL = true := by simp [fewF]
  have h0 : GOk [] := ⟨by simp, fun v l h => by simp at h⟩
  rw [hR] at hG ⊢
  have e1 : stepsF 4 (rdsF [[], [0], [1], []]) (Fr 4 [1]) = [-1, 0, 1, -1] := steps_of hG (by decide)
  have e2 : stepsF 4 (readsF [[], [0], [1], []]) (Fr 4 [1]) = [1, 0, -1, -1] := needs_of hG (by decide)
  have e3 : stepsF 4 (rdsF [[], [0], [1], []]) (Fr 4 [0]) = [0, 1, 2, -1] := steps_of hG (by decide)
  have e4 : stepsF 0 (rdsF []) (Fr 0 [0]) = [] := steps_of h0 (by decide)
  have e5 : stepsF 4 (rdsF [[], [0], [1], []]) (Fr 4 [9]) = [-1, -1, -1, -1] := steps_of hG (by decide)
  have hl : List.length (α := List Int) [[], [0], [1], []] = 4 := rfl
  have m1 : metF [-1, 0, 1, -1] = [1, 2] := by decide
  have m2 : metF [1, 0, -1, -1] = [0, 1] := by decide
  have m3 : metF [] = [] := by decide
  have m4 : metF [-1, -1, -1, -1] = [] := by decide
  simp only [hl, e1, e2, e3, e4, e5, m1, m2, m3, m4]
  have hG' := hG
  unfold Go.Vm.GOk at hG'
  rw [hl] at hG'
  have h0' := h0
  unfold Go.Vm.GOk at h0'
  refine ⟨trivial, hf, fun _ => ⟨fun h => by simp at h, fun _ => ⟨⟨hG', by omega⟩, by simp, fun _ => ⟨⟨hG', by omega⟩, by simp, fun _ => ⟨⟨hG', by omega⟩, by simp, fun _ => ⟨⟨h0', by omega⟩, fun _ => ⟨⟨hG', by omega⟩, by simp⟩, fun h => by simp at h⟩, fun h => by simp at h⟩, fun h => by simp at h⟩, fun h => by simp at h⟩⟩, fun h => by cases h⟩
theorem awake_pure  : Pure Try.prog 30 [] (.bool true) :=
  by have k := Pure.of_cond (g_awake_eq ) (g_awake_ok ) (specs_ok rfl [sp_row, sp_reach2, sp_needs, sp_steps, sp_sameInts] [so_made.upd] rfl rfl) mixed Try.func30; exact k
noncomputable def q_awake  : Prop × V := (True, (.bool true))
noncomputable def sp_awake : FSpec Try.prog where
 f := 30
 run := fun
  | [] => some (q_awake )
  | _ => none
 ok := fun args pre r h hp => by
  split at h
  · skip
    exact of_q h hp fun h => (awake_pure ).weak .nil
  · cases h
noncomputable def env_tells (m : Int) (l : List Ac) (fr : List Int) : Env where
  P := Try.prog
  ty := tys0
  specs := specsOf [sp_few, sp_awake, sp_reach, sp_needs, sp_steps, sp_rreach, sp_rneeds, sp_rsteps, sp_sameInts]
  upd := updsOf [so_made.upd]
  frz := fun | 37 => true | 40 => true | 45 => true | 48 => true | 54 => true | 57 => true | _ => false
def g_tells_vc (m : Int) (l : List Ac) (fr : List Int) : Prop :=
  True ∧ ((!fewF l) = false → (decide ((12 : Int) < m) = false → (decide ((60 : Int) < (↑fr.length : Int)) = true → True ∧ (true, ()) = (true, ())) ∧ (decide ((60 : Int) < (↑fr.length : Int)) = false → fewF l = true ∧ ((!true) = true → (false, ()) = (true, ())) ∧ ((!true) = false → (decide (List.length (actsR (newR m) l) = (0 : Nat)) = true → True ∧ (true, ()) = (true, ())) ∧ (decide (List.length (actsR (newR m) l) = (0 : Nat)) = false → ((List.length (actsR (newR m) l) ≤ (20000 : Nat) ∧ ∀ (v : Nat) (l_1 : List Int), (actsR (newR m) l)[v]? = some l_1 → l_1.Nodup ∧ ∀ (x : Int), x ∈ l_1 → (0 : Int) ≤ x ∧ x < (↑(List.length (actsR (newR m) l)) : Int) ∧ x ≠ (↑v : Int)) ∧ fr.length ≤ (1000000000 : Nat)) ∧ ((List.length (actsR (newR m) l) ≤ (20000 : Nat) ∧ ∀ (v : Nat) (l_1 : List Int), (actsR (newR m) l)[v]? = some l_1 → l_1.Nodup ∧ ∀ (x : Int), x ∈ l_1 → (0 : Int) ≤ x ∧ x < (↑(List.length (actsR (newR m) l)) : Int) ∧ x ≠ (↑v : Int)) ∧ fr.length ≤ (1000000000 : Nat)) ∧ (metF (stepsF (List.length (actsR (newR m) l)) (rdsF (actsR (newR m) l)) (Fr (List.length (actsR (newR m) l)) fr))).length ≤ (1000000000 : Nat) ∧ (decide (metF (stepsF (List.length (actsR (newR m) l)) (rdsF (actsR (newR m) l)) (Fr (List.length (actsR (newR m) l)) fr)) = metF (stepsF (List.length (actsR (newR m) l)) (rdsF (actsR (newR m) l)) (Fr (List.length (actsR (newR m) l)) fr))) = true → ((List.length (actsR (newR m) l) ≤ (20000 : Nat) ∧ ∀ (v : Nat) (l_1 : List Int), (actsR (newR m) l)[v]? = some l_1 → l_1.Nodup ∧ ∀ (x : Int), x ∈ l_1 → (0 : Int) ≤ x ∧ x < (↑(List.length (actsR (newR m) l)) : Int) ∧ x ≠ (↑v : Int)) ∧ fr.length ≤ (1000000000 : Nat)) ∧ ((List.length (actsR (newR m) l) ≤ (20000 : Nat) ∧ ∀ (v : Nat) (l_1 : List Int), (actsR (newR m) l)[v]? = some l_1 → l_1.Nodup ∧ ∀ (x : Int), x ∈ l_1 → (0 : Int) ≤ x ∧ x < (↑(List.length (actsR (newR m) l)) : Int) ∧ x ≠ (↑v : Int)) ∧ fr.length ≤ (1000000000 : Nat)) ∧ (metF (stepsF (List.length (actsR (newR m) l)) (readsF (actsR (newR m) l)) (Fr (List.length (actsR (newR m) l)) fr))).length ≤ (1000000000 : Nat) ∧ (decide (metF (stepsF (List.length (actsR (newR m) l)) (readsF (actsR (newR m) l)) (Fr (List.length (actsR (newR m) l)) fr)) = metF (stepsF (List.length (actsR (newR m) l)) (readsF (actsR (newR m) l)) (Fr (List.length (actsR (newR m) l)) fr))) = true → ((List.length (actsR (newR m) l) ≤ (20000 : Nat) ∧ ∀ (v : Nat) (l_1 : List Int), (actsR (newR m) l)[v]? = some l_1 → l_1.Nodup ∧ ∀ (x : Int), x ∈ l_1 → (0 : Int) ≤ x ∧ x < (↑(List.length (actsR (newR m) l)) : Int) ∧ x ≠ (↑v : Int)) ∧ fr.length ≤ (1000000000 : Nat)) ∧ ((List.length (actsR (newR m) l) ≤ (20000 : Nat) ∧ ∀ (v : Nat) (l_1 : List Int), (actsR (newR m) l)[v]? = some l_1 → l_1.Nodup ∧ ∀ (x : Int), x ∈ l_1 → (0 : Int) ≤ x ∧ x < (↑(List.length (actsR (newR m) l)) : Int) ∧ x ≠ (↑v : Int)) ∧ fr.length ≤ (1000000000 : Nat)) ∧ (stepsF (List.length (actsR (newR m) l)) (rdsF (actsR (newR m) l)) (Fr (List.length (actsR (newR m) l)) fr)).length ≤ (1000000000 : Nat) ∧ (decide (stepsF (List.length (actsR (newR m) l)) (rdsF (actsR (newR m) l)) (Fr (List.length (actsR (newR m) l)) fr) = stepsF (List.length (actsR (newR m) l)) (rdsF (actsR (newR m) l)) (Fr (List.length (actsR (newR m) l)) fr)) = true → True ∧ (true, ()) = (true, ())) ∧ (decide (stepsF (List.length (actsR (newR m) l)) (rdsF (actsR (newR m) l)) (Fr (List.length (actsR (newR m) l)) fr) = stepsF (List.length (actsR (newR m) l)) (rdsF (actsR (newR m) l)) (Fr (List.length (actsR (newR m) l)) fr)) = !true → (false, ()) = (true, ()))) ∧ (decide (metF (stepsF (List.length (actsR (newR m) l)) (readsF (actsR (newR m) l)) (Fr (List.length (actsR (newR m) l)) fr)) = metF (stepsF (List.length (actsR (newR m) l)) (readsF (actsR (newR m) l)) (Fr (List.length (actsR (newR m) l)) fr))) = !true → (false, ()) = (true, ()))) ∧ (decide (metF (stepsF (List.length (actsR (newR m) l)) (rdsF (actsR (newR m) l)) (Fr (List.length (actsR (newR m) l)) fr)) = metF (stepsF (List.length (actsR (newR m) l)) (rdsF (actsR (newR m) l)) (Fr (List.length (actsR (newR m) l)) fr))) = !true → (false, ()) = (true, ())))))) ∧ (decide ((12 : Int) < m) = !false → True ∧ (true, ()) = (true, ()))) ∧ ((!fewF l) = !false → True ∧ (true, ()) = (true, ()))
theorem g_tells_eq (m : Int) (l : List Ac) (fr : List Int) : Cond (env_tells m l fr) Try.f6 [.int .i64 m, .list .tmp AcT l, .list .tmp I fr] [.bool] (true, ()) = g_tells_vc m l fr := by kernel_rfl
theorem g_tells_ok (m : Int) (l : List Ac) (fr : List Int) : g_tells_vc m l fr := by
  unfold g_tells_vc
  simp only [decide_eq_true_eq, decide_eq_false_iff_not, Bool.not_eq_true', Bool.not_eq_false', Bool.not_true, Bool.not_false]
  have hG := gok_acts l _ (gok_new m)
  generalize actsR (newR m) l = R at hG ⊢
  have hR := hG.1
  have hm : ∀ o, (metF (stepsF R.length o (Fr R.length fr))).length ≤ 1000000000 := fun o => by
    have := ixs_le (fun i => decide (0 ≤ atI (stepsF R.length o (Fr R.length fr)) i)) (stepsF R.length o (Fr R.length fr)).length
    rw [steps_len] at this
    unfold metF
    rw [steps_len]
    omega
  refine ⟨trivial, fun hf => ⟨fun _ => ⟨fun _ => ⟨trivial, trivial⟩, fun h60 => ⟨hf, (fun e => by cases e), fun _ => ⟨fun _ => ⟨trivial, trivial⟩, fun _ => ?_⟩⟩⟩, fun _ => ⟨trivial, trivial⟩⟩, fun _ => ⟨trivial, trivial⟩⟩
  have hfr : fr.length ≤ 1000000000 := by omega
  exact ⟨⟨hG, hfr⟩, ⟨hG, hfr⟩, hm _, fun _ => ⟨⟨hG, hfr⟩, ⟨hG, hfr⟩, hm _, fun _ => ⟨⟨hG, hfr⟩, ⟨hG, hfr⟩, by rw [steps_len]; omega, fun _ => ⟨trivial, trivial⟩, fun hne => absurd trivial hne⟩, fun hne => absurd trivial hne⟩, fun hne => absurd trivial hne⟩
theorem tells_pure (m : Int) (l : List Ac) (fr : List Int) : Pure Try.prog 6 [.int .i64 m, .list .tmp AcT l, .list .tmp I fr] (.bool true) :=
  by have k := Pure.of_cond (g_tells_eq m l fr) (g_tells_ok m l fr) (specs_ok rfl [sp_few, sp_awake, sp_reach, sp_needs, sp_steps, sp_rreach, sp_rneeds, sp_rsteps, sp_sameInts] [so_made.upd] rfl rfl) mixed Try.func6; exact k
noncomputable def q_tells (m : Int) (l : List Ac) (fr : List Int) : Prop × V := (True, (.bool true))
noncomputable def sp_tells : FSpec Try.prog where
 f := 6
 run := fun
  | [.int .i64 m, v1, v2] => (asL AcT v1 : Option (List Ac)).bind fun l => (asL I v2 : Option (List Int)).bind fun fr => some (q_tells m l fr)
  | _ => none
 ok := fun args pre r h hp => by
  split at h
  · rename_i m v1 v2
    obtain ⟨l, h1, h⟩ := Option.bind_eq_some_iff.1 h
    obtain ⟨fr, h2, h⟩ := Option.bind_eq_some_iff.1 h
    exact of_q h hp fun h => (tells_pure m l fr).weak (.cons (.refl _) (.cons (asL_weak h1) (.cons (asL_weak h2) .nil)))
  · cases h

end Go.Proofs.Ytojflfogjkajaaa.Rc
