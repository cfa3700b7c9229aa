/-
  law14: awake, OrderTells.
-/
import Derived.Test.YtojflfogjkajaaaOd13
namespace Go.Proofs.Ytojflfogjkajaaa.Od
open Go.Vm Go.Proofs.Ytojflfogjkajaaa.Gr Go.Proofs.Ytojflfogjkajaaa.Rc
def IR (l : List Int) : Prop := ∀ x ∈ l, -9223372036854775808 ≤ x ∧ x ≤ 9223372036854775807
section
variable {rd : Int → List Int} {all : List Int}
inductive Wt (rd : Int → List Int) (all : List Int) : List (List Int) → Prop
  | nil : Wt rd all []
  | snoc {out : List (List Int)} : Wt rd all out → rowF rd all out.flatten ≠ [] → Wt rd all (out ++ [rowF rd all out.flatten])
theorem wavN_some : ∀ (k : Nat) (out w : List (List Int)), Wt rd all out → wavN rd all k out = some w → Wt rd all w ∧ all.length ≤ w.flatten.length
  | 0, out, w, hb, h => by
    unfold wavN at h
    split at h
    · cases h
      exact ⟨hb, by assumption⟩
    · cases h
  | k + 1, out, w, hb, h => by
    unfold wavN at h
    split at h
    · cases h
      exact ⟨hb, by assumption⟩
    · split at h
      · cases h
      · rename_i hr
        exact wavN_some k _ _ (hb.snoc hr) h
theorem wavN_none : ∀ (k : Nat) (out : List (List Int)), Wt rd all out → all.length - out.flatten.length ≤ k → wavN rd all k out = none → ∃ w, Wt rd all w ∧ rowF rd all w.flatten = [] ∧ w.flatten.length < all.length
  | 0, out, hb, hl, h => by
    unfold wavN at h
    split at h
    · cases h
    · omega
  | k + 1, out, hb, hl, h => by
    unfold wavN at h
    split at h
    · cases h
    · split at h
      · exact ⟨out, hb, by assumption, by omega⟩
      · rename_i hr
        have : 0 < (rowF rd all out.flatten).length := List.length_pos_iff.2 hr
        exact wavN_none k _ (hb.snoc hr) (by rw [flat_snoc, List.length_append]; omega) h
theorem wavR_some {w : List (List Int)} (h : wavR rd all [] = some w) : Wt rd all w ∧ all.length ≤ w.flatten.length := wavN_some _ _ _ .nil h
theorem wavR_none (h : wavR rd all [] = none) : ∃ w, Wt rd all w ∧ rowF rd all w.flatten = [] ∧ w.flatten.length < all.length := wavN_none _ _ .nil (Nat.le_refl _) h
theorem Wt.bt (hn : all.Nodup) {w : List (List Int)} (h : Wt rd all w) : Bt rd all w.flatten := by
  induction h with
  | nil => exact .nil
  | snoc _ _ ih =>
    rw [flat_snoc]
    exact ih.rowF hn
theorem Wt.len {w : List (List Int)} (h : Wt rd all w) : w.length ≤ w.flatten.length ∧ ∀ r ∈ w, r.length ≤ w.flatten.length := by
  induction h with
  | nil => exact ⟨Nat.le_refl _, fun r hr => by cases hr⟩
  | snoc _ hr ih =>
    have := List.length_pos_iff.2 hr
    rw [flat_snoc, List.length_append, List.length_append, List.length_singleton]
    refine ⟨by omega, fun r hr => ?_⟩
    rcases List.mem_append.1 hr with hr | hr
    · have := ih.2 r hr
      omega
    · rw [List.mem_singleton.1 hr]
      omega
end
theorem ordA_len (R : GI) (sm : List Int) : (ordA R sm).length ≤ List.length (α := List Int) R := by
  unfold ordA
  cases h : ordS R sm with
  | none => exact Nat.zero_le _
  | some o =>
    have := (ordR_some h).1.os.le
    have := al_len R sm
    show o.length ≤ _
    omega
theorem wavA_len (R : GI) (sm : List Int) : (wavA R sm).length ≤ List.length (α := List Int) R ∧ ∀ r ∈ wavA R sm, r.length ≤ List.length (α := List Int) R := by
  unfold wavA
  cases h : wavS R sm with
  | none => exact ⟨Nat.zero_le _, fun r hr => by cases hr⟩
  | some w =>
    have h1 := (wavR_some h).1
    have h2 : w.flatten.length ≤ (AL R sm).length := (h1.bt (all_up _ _).nodup).os.le
    have h3 := al_len R sm
    have h4 := h1.len
    exact ⟨by show w.length ≤ _; omega, fun r hr => by have := h4.2 r hr; omega⟩
noncomputable def env_oawake : Env where
  P := Try.prog
  ty := tys0
  specs := specsOf [sp_order, sp_waves, sp_circle, sp_sameInts, sp_samerows]
  upd := updsOf [so_made.upd]
def g_oawake_vc : Prop :=
  fewF [((0 : Int), [(2 : Int)])] = true ∧ fewF [((0 : Int), [(1 : Int)]), ((1 : Int), [(0 : Int)])] = true ∧ ((!true) = false → ((!true) = false → (decide (List.length (actsR (Gr.newR (4 : Int)) [((0 : Int), [(2 : Int)])]) = (0 : Nat)) = false → (decide (List.length (actsR (Gr.newR (2 : Int)) [((0 : Int), [(1 : Int)]), ((1 : Int), [(0 : Int)])]) = (0 : Nat)) = true → (false, ()) = (true, ())) ∧ (decide (List.length (actsR (Gr.newR (2 : Int)) [((0 : Int), [(1 : Int)]), ((1 : Int), [(0 : Int)])]) = (0 : Nat)) = false → ((List.length (actsR (Gr.newR (4 : Int)) [((0 : Int), [(2 : Int)])]) ≤ (20000 : Nat) ∧ ∀ (v : Nat) (l : List Int), (actsR (Gr.newR (4 : Int)) [((0 : Int), [(2 : Int)])])[v]? = some l → l.Nodup ∧ ∀ (x : Int), x ∈ l → (0 : Int) ≤ x ∧ x < (↑(List.length (actsR (Gr.newR (4 : Int)) [((0 : Int), [(2 : Int)])])) : Int) ∧ x ≠ (↑v : Int)) ∧ (5 : Nat) ≤ (1000000 : Nat) ∧ ∀ (x : Int), x ∈ [(0 : Int), (1 : Int), (2 : Int), (2 : Int), (9 : Int)] → (-9223372036854775808 : Int) ≤ x ∧ x ≤ (9223372036854775807 : Int)) ∧ ((List.length (actsR (Gr.newR (4 : Int)) [((0 : Int), [(2 : Int)])]) ≤ (20000 : Nat) ∧ ∀ (v : Nat) (l : List Int), (actsR (Gr.newR (4 : Int)) [((0 : Int), [(2 : Int)])])[v]? = some l → l.Nodup ∧ ∀ (x : Int), x ∈ l → (0 : Int) ≤ x ∧ x < (↑(List.length (actsR (Gr.newR (4 : Int)) [((0 : Int), [(2 : Int)])])) : Int) ∧ x ≠ (↑v : Int)) ∧ (3 : Nat) ≤ (1000000 : Nat) ∧ ∀ (x : Int), x ∈ [(0 : Int), (1 : Int), (2 : Int)] → (-9223372036854775808 : Int) ≤ x ∧ x ≤ (9223372036854775807 : Int)) ∧ ((List.length (actsR (Gr.newR (2 : Int)) [((0 : Int), [(1 : Int)]), ((1 : Int), [(0 : Int)])]) ≤ (20000 : Nat) ∧ ∀ (v : Nat) (l : List Int), (actsR (Gr.newR (2 : Int)) [((0 : Int), [(1 : Int)]), ((1 : Int), [(0 : Int)])])[v]? = some l → l.Nodup ∧ ∀ (x : Int), x ∈ l → (0 : Int) ≤ x ∧ x < (↑(List.length (actsR (Gr.newR (2 : Int)) [((0 : Int), [(1 : Int)]), ((1 : Int), [(0 : Int)])])) : Int) ∧ x ≠ (↑v : Int)) ∧ (2 : Nat) ≤ (1000000 : Nat) ∧ ∀ (x : Int), x ∈ [(0 : Int), (1 : Int)] → (-9223372036854775808 : Int) ≤ x ∧ x ≤ (9223372036854775807 : Int)) ∧ ((List.length (actsR (Gr.newR (2 : Int)) [((0 : Int), [(1 : Int)]), ((1 : Int), [(0 : Int)])]) ≤ (20000 : Nat) ∧ ∀ (v : Nat) (l : List Int), (actsR (Gr.newR (2 : Int)) [((0 : Int), [(1 : Int)]), ((1 : Int), [(0 : Int)])])[v]? = some l → l.Nodup ∧ ∀ (x : Int), x ∈ l → (0 : Int) ≤ x ∧ x < (↑(List.length (actsR (Gr.newR (2 : Int)) [((0 : Int), [(1 : Int)]), ((1 : Int), [(0 : Int)])])) : Int) ∧ x ≠ (↑v : Int)) ∧ (1 : Nat) ≤ (1000000 : Nat) ∧ ∀ (x : Int), x ∈ [(1 : Int)] → (-9223372036854775808 : Int) ≤ x ∧ x ≤ (9223372036854775807 : Int)) ∧ (decide (ordE (actsR (Gr.newR (4 : Int)) [((0 : Int), [(2 : Int)])]) [(0 : Int), (1 : Int), (2 : Int), (2 : Int), (9 : Int)] = (0 : Int)) = true → (ordA (actsR (Gr.newR (4 : Int)) [((0 : Int), [(2 : Int)])]) [(0 : Int), (1 : Int), (2 : Int), (2 : Int), (9 : Int)]).length ≤ (1000000000 : Nat) ∧ (decide (ordA (actsR (Gr.newR (4 : Int)) [((0 : Int), [(2 : Int)])]) [(0 : Int), (1 : Int), (2 : Int), (2 : Int), (9 : Int)] = [(1 : Int), (2 : Int), (0 : Int)]) = true → (decide (wavE (actsR (Gr.newR (4 : Int)) [((0 : Int), [(2 : Int)])]) [(0 : Int), (1 : Int), (2 : Int)] = (0 : Int)) = true → ((wavA (actsR (Gr.newR (4 : Int)) [((0 : Int), [(2 : Int)])]) [(0 : Int), (1 : Int), (2 : Int)]).length ≤ (1000000000 : Nat) ∧ ∀ (x : List Int), x ∈ wavA (actsR (Gr.newR (4 : Int)) [((0 : Int), [(2 : Int)])]) [(0 : Int), (1 : Int), (2 : Int)] → x.length ≤ (1000000000 : Nat)) ∧ (decide (wavA (actsR (Gr.newR (4 : Int)) [((0 : Int), [(2 : Int)])]) [(0 : Int), (1 : Int), (2 : Int)] = [[(1 : Int), (2 : Int)], [(0 : Int)]]) = true → (decide (ordE (actsR (Gr.newR (2 : Int)) [((0 : Int), [(1 : Int)]), ((1 : Int), [(0 : Int)])]) [(0 : Int), (1 : Int)] = (26 : Int)) = true → (ordA (actsR (Gr.newR (2 : Int)) [((0 : Int), [(1 : Int)]), ((1 : Int), [(0 : Int)])]) [(1 : Int)]).length ≤ (1000000000 : Nat) ∧ (decide (ordA (actsR (Gr.newR (2 : Int)) [((0 : Int), [(1 : Int)]), ((1 : Int), [(0 : Int)])]) [(1 : Int)] = [(1 : Int)]) = true → (decide (ordE (actsR (Gr.newR (2 : Int)) [((0 : Int), [(1 : Int)]), ((1 : Int), [(0 : Int)])]) [(1 : Int)] = (0 : Int)) = true → ((List.length (actsR (Gr.newR (2 : Int)) [((0 : Int), [(1 : Int)]), ((1 : Int), [(0 : Int)])]) ≤ (20000 : Nat) ∧ ∀ (v : Nat) (l : List Int), (actsR (Gr.newR (2 : Int)) [((0 : Int), [(1 : Int)]), ((1 : Int), [(0 : Int)])])[v]? = some l → l.Nodup ∧ ∀ (x : Int), x ∈ l → (0 : Int) ≤ x ∧ x < (↑(List.length (actsR (Gr.newR (2 : Int)) [((0 : Int), [(1 : Int)]), ((1 : Int), [(0 : Int)])])) : Int) ∧ x ≠ (↑v : Int)) ∧ (2 : Nat) ≤ (1000000 : Nat) ∧ ∀ (x : Int), x ∈ [(0 : Int), (1 : Int)] → (-9223372036854775808 : Int) ≤ x ∧ x ≤ (9223372036854775807 : Int)) ∧ (decide ((↑(cirF (actsR (Gr.newR (2 : Int)) [((0 : Int), [(1 : Int)]), ((1 : Int), [(0 : Int)])]) [(0 : Int), (1 : Int)]).length : Int) = (2 : Int)) = true → ((List.length (actsR (Gr.newR (4 : Int)) [((0 : Int), [(2 : Int)])]) ≤ (20000 : Nat) ∧ ∀ (v : Nat) (l : List Int), (actsR (Gr.newR (4 : Int)) [((0 : Int), [(2 : Int)])])[v]? = some l → l.Nodup ∧ ∀ (x : Int), x ∈ l → (0 : Int) ≤ x ∧ x < (↑(List.length (actsR (Gr.newR (4 : Int)) [((0 : Int), [(2 : Int)])])) : Int) ∧ x ≠ (↑v : Int)) ∧ (2 : Nat) ≤ (1000000 : Nat) ∧ ∀ (x : Int), x ∈ [(0 : Int), (2 : Int)] → (-9223372036854775808 : Int) ≤ x ∧ x ≤ (9223372036854775807 : Int)) ∧ (decide ((↑(cirF (actsR (Gr.newR (4 : Int)) [((0 : Int), [(2 : Int)])]) [(0 : Int), (2 : Int)]).length : Int) = (0 : Int)), ()) = (true, ())) ∧ (decide ((↑(cirF (actsR (Gr.newR (2 : Int)) [((0 : Int), [(1 : Int)]), ((1 : Int), [(0 : Int)])]) [(0 : Int), (1 : Int)]).length : Int) = (2 : Int)) = !true → (false, ()) = (true, ()))) ∧ (decide (ordE (actsR (Gr.newR (2 : Int)) [((0 : Int), [(1 : Int)]), ((1 : Int), [(0 : Int)])]) [(1 : Int)] = (0 : Int)) = !true → (false, ()) = (true, ()))) ∧ (decide (ordA (actsR (Gr.newR (2 : Int)) [((0 : Int), [(1 : Int)]), ((1 : Int), [(0 : Int)])]) [(1 : Int)] = [(1 : Int)]) = !true → (false, ()) = (true, ()))) ∧ (decide (ordE (actsR (Gr.newR (2 : Int)) [((0 : Int), [(1 : Int)]), ((1 : Int), [(0 : Int)])]) [(0 : Int), (1 : Int)] = (26 : Int)) = !true → (false, ()) = (true, ()))) ∧ (decide (wavA (actsR (Gr.newR (4 : Int)) [((0 : Int), [(2 : Int)])]) [(0 : Int), (1 : Int), (2 : Int)] = [[(1 : Int), (2 : Int)], [(0 : Int)]]) = !true → (false, ()) = (true, ()))) ∧ (decide (wavE (actsR (Gr.newR (4 : Int)) [((0 : Int), [(2 : Int)])]) [(0 : Int), (1 : Int), (2 : Int)] = (0 : Int)) = !true → (false, ()) = (true, ()))) ∧ (decide (ordA (actsR (Gr.newR (4 : Int)) [((0 : Int), [(2 : Int)])]) [(0 : Int), (1 : Int), (2 : Int), (2 : Int), (9 : Int)] = [(1 : Int), (2 : Int), (0 : Int)]) = !true → (false, ()) = (true, ()))) ∧ (decide (ordE (actsR (Gr.newR (4 : Int)) [((0 : Int), [(2 : Int)])]) [(0 : Int), (1 : Int), (2 : Int), (2 : Int), (9 : Int)] = (0 : Int)) = !true → (false, ()) = (true, ())))) ∧ (decide (List.length (actsR (Gr.newR (4 : Int)) [((0 : Int), [(2 : Int)])]) = (0 : Nat)) = !false → (false, ()) = (true, ()))) ∧ ((!true) = !false → (false, ()) = (true, ()))) ∧ ((!true) = !false → (false, ()) = (true, ()))
theorem g_oawake_eq  : Cond (env_oawake ) Try.f37 [] [.bool] (true, ()) = g_oawake_vc  := by kernel_rfl
theorem g_oawake_ok : g_oawake_vc := by
  unfold g_oawake_vc
  have hR : actsR (Gr.newR 4) [(0, [2])] = [[2], [], [], []] := by decide
  have hH : actsR (Gr.newR 2) [(0, [1]), (1, [0])] = [[1], [0]] := by decide
  have hG : GOk (actsR (Gr.newR 4) [(0, [2])]) := gok_acts _ _ (gok_new 4)
  have hK : GOk (actsR (Gr.newR 2) [(0, [1]), (1, [0])]) := gok_acts _ _ (gok_new 2)
  have f1 : fewF [(0, [2])] = true := by simp [fewF]
  have f2 : fewF [(0, [1]), (1, [0])] = true := by simp [fewF]
  rw [hR] at hG ⊢
  rw [hH] at hK ⊢
  have a1 : ordE [[2], [], [], []] [0, 1, 2, 2, 9] = 0 := by decide
  have a2 : ordA [[2], [], [], []] [0, 1, 2, 2, 9] = [1, 2, 0] := by decide
  have a3 : wavE [[2], [], [], []] [0, 1, 2] = 0 := by decide
  have a4 : wavA [[2], [], [], []] [0, 1, 2] = [[1, 2], [0]] := by decide
  have a5 : ordE [[1], [0]] [0, 1] = 26 := by decide
  have a6 : ordA [[1], [0]] [1] = [1] := by decide
  have a7 : ordE [[1], [0]] [1] = 0 := by decide
  have a8 : cirF [[1], [0]] [0, 1] = [0, 1] := by decide
  have a9 : cirF [[2], [], [], []] [0, 2] = [] := by decide
  simp only [a1, a2, a3, a4, a5, a6, a7, a8, a9, f1, f2]
  have i5 : ∀ x ∈ ([0, 1, 2, 2, 9] : List Int), -9223372036854775808 ≤ x ∧ x ≤ 9223372036854775807 := by decide
  have i3 : ∀ x ∈ ([0, 1, 2] : List Int), -9223372036854775808 ≤ x ∧ x ≤ 9223372036854775807 := by decide
  have i2 : ∀ x ∈ ([0, 1] : List Int), -9223372036854775808 ≤ x ∧ x ≤ 9223372036854775807 := by decide
  have i02 : ∀ x ∈ ([0, 2] : List Int), -9223372036854775808 ≤ x ∧ x ≤ 9223372036854775807 := by decide
  have i1 : ∀ x ∈ ([1] : List Int), -9223372036854775808 ≤ x ∧ x ≤ 9223372036854775807 := by decide
  have iw : ∀ x ∈ ([[1, 2], [0]] : List (List Int)), x.length ≤ 1000000000 := by decide
  exact ⟨trivial, trivial, fun _ => ⟨fun _ => ⟨fun _ => ⟨fun h => absurd h (by decide), fun _ => ⟨⟨hG, by omega, i5⟩, ⟨hG, by omega, i3⟩, ⟨hK, by omega, i2⟩, ⟨hK, by omega, i1⟩, ⟨fun _ => ⟨by decide, ⟨fun _ => ⟨fun _ => ⟨⟨by decide, iw⟩, ⟨fun _ => ⟨fun _ => ⟨by decide, ⟨fun _ => ⟨fun _ => ⟨⟨hK, by omega, i2⟩, ⟨fun _ => ⟨⟨hG, by omega, i02⟩, rfl⟩, fun h => absurd h (by decide)⟩⟩, fun h => absurd h (by decide)⟩, fun h => absurd h (by decide)⟩⟩, fun h => absurd h (by decide)⟩, fun h => absurd h (by decide)⟩⟩, fun h => absurd h (by decide)⟩, fun h => absurd h (by decide)⟩⟩, fun h => absurd h (by decide)⟩⟩⟩, fun h => absurd h (by decide)⟩, fun h => absurd h (by decide)⟩, fun h => absurd h (by decide)⟩
set_option maxRecDepth 20000
theorem oawake_pure  : Pure Try.prog 37 [] (.bool true) :=
  by have k := Pure.of_cond (g_oawake_eq ) (g_oawake_ok ) (specs_ok rfl [sp_order, sp_waves, sp_circle, sp_sameInts, sp_samerows] [so_made.upd] rfl rfl) mixed Try.func37; exact k
noncomputable def q_oawake  : Prop × V := (True, (.bool true))
noncomputable def sp_oawake : FSpec Try.prog where
 f := 37
 run := fun
  | [] => some (q_oawake )
  | _ => none
 ok := fun args pre r h hp => by
  split at h
  · skip
    exact of_q h hp fun h => (oawake_pure ).weak .nil
  · cases h
noncomputable def env_otells (m : Int) (l : List Ac) (sm : List Int) : Env where
  P := Try.prog
  ty := tys0
  specs := specsOf [sp_few, sp_oawake, sp_order, sp_waves, sp_rorder, sp_rwaves, sp_sameInts, sp_samerows]
  upd := updsOf [so_made.upd]
def g_otells_vc (m : Int) (l : List Ac) (sm : List Int) : Prop :=
  True ∧ ((!fewF l) = false → (decide ((12 : Int) < m) = false → (decide ((60 : Int) < (↑sm.length : Int)) = true → True ∧ (true, ()) = (true, ())) ∧ (decide ((60 : Int) < (↑sm.length : Int)) = false → fewF l = true ∧ ((!true) = true → (false, ()) = (true, ())) ∧ ((!true) = false → (decide (List.length (actsR (Gr.newR m) l) = (0 : Nat)) = true → True ∧ (true, ()) = (true, ())) ∧ (decide (List.length (actsR (Gr.newR m) l) = (0 : Nat)) = false → ((List.length (actsR (Gr.newR m) l) ≤ (20000 : Nat) ∧ ∀ (v : Nat) (l_1 : List Int), (actsR (Gr.newR m) l)[v]? = some l_1 → l_1.Nodup ∧ ∀ (x : Int), x ∈ l_1 → (0 : Int) ≤ x ∧ x < (↑(List.length (actsR (Gr.newR m) l)) : Int) ∧ x ≠ (↑v : Int)) ∧ sm.length ≤ (1000000 : Nat) ∧ ∀ (x : Int), x ∈ sm → (-9223372036854775808 : Int) ≤ x ∧ x ≤ (9223372036854775807 : Int)) ∧ ROk (actsR (Gr.newR m) l) sm ∧ ((List.length (actsR (Gr.newR m) l) ≤ (20000 : Nat) ∧ ∀ (v : Nat) (l_1 : List Int), (actsR (Gr.newR m) l)[v]? = some l_1 → l_1.Nodup ∧ ∀ (x : Int), x ∈ l_1 → (0 : Int) ≤ x ∧ x < (↑(List.length (actsR (Gr.newR m) l)) : Int) ∧ x ≠ (↑v : Int)) ∧ sm.length ≤ (1000000 : Nat) ∧ ∀ (x : Int), x ∈ sm → (-9223372036854775808 : Int) ≤ x ∧ x ≤ (9223372036854775807 : Int)) ∧ ROk (actsR (Gr.newR m) l) sm ∧ (ordA (actsR (Gr.newR m) l) sm).length ≤ (1000000000 : Nat) ∧ (decide (ordA (actsR (Gr.newR m) l) sm = ordA (actsR (Gr.newR m) l) sm) = true → (decide (ordE (actsR (Gr.newR m) l) sm = ordE (actsR (Gr.newR m) l) sm) = true → ((wavA (actsR (Gr.newR m) l) sm).length ≤ (1000000000 : Nat) ∧ ∀ (x : List Int), x ∈ wavA (actsR (Gr.newR m) l) sm → x.length ≤ (1000000000 : Nat)) ∧ (decide (wavA (actsR (Gr.newR m) l) sm = wavA (actsR (Gr.newR m) l) sm) = true → (decide (wavE (actsR (Gr.newR m) l) sm = wavE (actsR (Gr.newR m) l) sm) = true → True ∧ (true, ()) = (true, ())) ∧ (decide (wavE (actsR (Gr.newR m) l) sm = wavE (actsR (Gr.newR m) l) sm) = !true → (false, ()) = (true, ()))) ∧ (decide (wavA (actsR (Gr.newR m) l) sm = wavA (actsR (Gr.newR m) l) sm) = !true → (false, ()) = (true, ()))) ∧ (decide (ordE (actsR (Gr.newR m) l) sm = ordE (actsR (Gr.newR m) l) sm) = !true → (false, ()) = (true, ()))) ∧ (decide (ordA (actsR (Gr.newR m) l) sm = ordA (actsR (Gr.newR m) l) sm) = !true → (false, ()) = (true, ())))))) ∧ (decide ((12 : Int) < m) = !false → True ∧ (true, ()) = (true, ()))) ∧ ((!fewF l) = !false → True ∧ (true, ()) = (true, ()))
theorem g_otells_eq (m : Int) (l : List Ac) (sm : List Int) : Cond (env_otells m l sm) Try.f9 [.int .i64 m, .list .tmp AcT l, .list .tmp I sm] [.bool] (true, ()) = g_otells_vc m l sm := by kernel_rfl
theorem g_otells_ok (m : Int) (l : List Ac) (sm : List Int) (h : IR sm) : g_otells_vc m l sm := by
  unfold g_otells_vc
  simp only [decide_eq_true_eq, decide_eq_false_iff_not, Bool.not_eq_true', Bool.not_eq_false', Bool.not_true, Bool.not_false]
  have hG := gok_acts l _ (gok_new m)
  generalize actsR (Gr.newR m) l = R at hG ⊢
  have hR := hG.1
  refine ⟨trivial, fun hf => ⟨fun _ => ⟨fun _ => ⟨trivial, trivial⟩, fun h60 => ⟨hf, (fun e => by cases e), fun _ => ⟨fun _ => ⟨trivial, trivial⟩, fun _ => ?_⟩⟩⟩, fun _ => ⟨trivial, trivial⟩⟩, fun _ => ⟨trivial, trivial⟩⟩
  have hl : sm.length ≤ 1000000 := by omega
  have hw := wavA_len R sm
  have ho := ordA_len R sm
  exact ⟨⟨hG, hl, h⟩, ⟨hG, hl⟩, ⟨hG, hl, h⟩, ⟨hG, hl⟩, by omega, fun _ => ⟨fun _ => ⟨⟨by omega, fun r hr => by have := hw.2 r hr; omega⟩, fun _ => ⟨fun _ => ⟨trivial, trivial⟩, fun hne => absurd trivial hne⟩, fun hne => absurd trivial hne⟩, fun hne => absurd trivial hne⟩, fun hne => absurd trivial hne⟩
theorem otells_pure (m : Int) (l : List Ac) (sm : List Int) (h : IR sm) : Pure Try.prog 9 [.int .i64 m, .list .tmp AcT l, .list .tmp I sm] (.bool true) :=
  by have k := Pure.of_cond (g_otells_eq m l sm) (g_otells_ok m l sm h) (specs_ok rfl [sp_few, sp_oawake, sp_order, sp_waves, sp_rorder, sp_rwaves, sp_sameInts, sp_samerows] [so_made.upd] rfl rfl) mixed Try.func9; exact k
end Go.Proofs.Ytojflfogjkajaaa.Od
