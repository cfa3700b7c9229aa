/-
  The document's tally: those, Ids, Total, Partners, Sheet.
-/
import Derived.Test.YteaajihmfacinaaTa12
namespace Go.Proofs.Yteaajihmfacinaa.Ta
open Go.Vm
theorem FwE.lines {N : List En} (h : FwE N) : (linesF N).length ≤ 10000 := by
  rw [lines_len]
  obtain ⟨h1, h2⟩ := h
  have : ∀ M : List En, (∀ x ∈ M, x.2.2.length ≤ 100) → (putsL M).length ≤ 100 * M.length := by
    intro M
    induction M with
    | nil => intro _; simp [putsL]
    | cons x r ih =>
      intro hM
      have a := ih fun y hy => hM y (List.mem_cons_of_mem _ hy)
      have b := hM x (by simp)
      have e : putsL (x :: r) = lnP x.1 x.2.2 ++ putsL r := rfl
      rw [e, List.length_append, lnP, List.length_map, List.length_cons]
      omega
  have := this N fun x hx => (h2 x hx).1
  omega
def atB (e a p q : Int) (x : Po) : Bool := decide (x.2.2.2.1 = e ∧ x.2.2.2.2.1 = a ∧ x.2.2.1 = p ∧ (q = 0 ∨ x.2.2.2.2.2.1 = q))
def rthF (N : List En) (e a p q : Int) : List Po := (linesF N).filter (atB e a p q)
noncomputable def env_rthose (N : List En) (e a p q : Int) : Env where
  P := Try.prog
  ty := tys0
  specs := specsOf [sp_rlines]
  frz := fun | 16 => true | _ => false
  heads := fun | 4 => some { slots := [(13, .int .i64), (12, .slc 9000 PoT)], boxes := [], inv := fun _ (x : Int × List Po × Unit) => 0 ≤ x.1 ∧ x.1 ≤ (linesF N).length ∧ x.2.1 = ((linesF N).take x.1.toNat).filter (atB e a p q), measure := fun _ (x : Int × List Po × Unit) => ((linesF N).length - x.1).toNat } | _ => none
def g_rthose_vc (N : List En) (e : Int) (a : Int) (p : Int) (q : Int) : Prop :=
  FwE N ∧ (True ∧ (0 : Int) ≤ (0 : Int) ∧ (0 : Int) ≤ (↑(linesF N).length : Int) ∧ [] = List.filter (atB e a p q) (List.take (Int.toNat (0 : Int)) (linesF N))) ∧ ∀ (x : Int × List (Int × Int × Int × Int × Int × Int × Int) × Unit), (0 : Int) ≤ x.1 ∧ x.1 ≤ (↑(linesF N).length : Int) ∧ x.2.1 = List.filter (atB e a p q) (List.take x.1.toNat (linesF N)) → (decide (x.1 < (↑(linesF N).length : Int)) = true → ((0 : Int) ≤ x.1 ∧ x.1 < (↑(linesF N).length : Int)) ∧ ∀ (x_1 : Int × Int × Int × Int × Int × Int × Int), (linesF N)[x.1.toNat]? = some x_1 → (decide (x_1.2.2.2.1 = e) = true → (decide (x_1.2.2.2.2.1 = a) = true → ((0 : Int) ≤ x.1 ∧ x.1 < (↑(linesF N).length : Int)) ∧ ∀ (x_2 : Int × Int × Int × Int × Int × Int × Int), (linesF N)[x.1.toNat]? = some x_2 → (decide (x_2.2.2.1 = p) = true → (decide (q = (0 : Int)) = false → (decide (x_1.2.2.2.2.2.1 = q) = true → ((0 : Int) ≤ x.1 ∧ x.1 < (↑(linesF N).length : Int)) ∧ ∀ (x_3 : Int × Int × Int × Int × Int × Int × Int), (linesF N)[x.1.toNat]? = some x_3 → ((x.2.1.length + (1 : Nat)) * (56 : Nat) ≤ (140737488355328 : Nat) ∧ x.2.1.length + (1 : Nat) ≤ (4611686018427387904 : Nat)) ∧ ((-9223372036854775808 : Int) ≤ x.1 + (1 : Int) ∧ x.1 + (1 : Int) ≤ (9223372036854775807 : Int)) ∧ True ∧ ((0 : Int) ≤ x.1 + (1 : Int) ∧ x.1 + (1 : Int) ≤ (↑(linesF N).length : Int) ∧ x.2.1 ++ [(x_3.1, x_3.2.1, x_3.2.2.1, x_3.2.2.2.1, x_3.2.2.2.2.1, x_3.2.2.2.2.2.1, x_3.2.2.2.2.2.2)] = List.filter (atB e a p q) (List.take (x.1 + (1 : Int)).toNat (linesF N))) ∧ ((↑(linesF N).length : Int) - (x.1 + (1 : Int))).toNat < ((↑(linesF N).length : Int) - x.1).toNat) ∧ (decide (x_1.2.2.2.2.2.1 = q) = false → ((-9223372036854775808 : Int) ≤ x.1 + (1 : Int) ∧ x.1 + (1 : Int) ≤ (9223372036854775807 : Int)) ∧ True ∧ ((0 : Int) ≤ x.1 + (1 : Int) ∧ x.1 + (1 : Int) ≤ (↑(linesF N).length : Int) ∧ x.2.1 = List.filter (atB e a p q) (List.take (x.1 + (1 : Int)).toNat (linesF N))) ∧ ((↑(linesF N).length : Int) - (x.1 + (1 : Int))).toNat < ((↑(linesF N).length : Int) - x.1).toNat)) ∧ (decide (q = (0 : Int)) = !false → ((0 : Int) ≤ x.1 ∧ x.1 < (↑(linesF N).length : Int)) ∧ ∀ (x_3 : Int × Int × Int × Int × Int × Int × Int), (linesF N)[x.1.toNat]? = some x_3 → ((x.2.1.length + (1 : Nat)) * (56 : Nat) ≤ (140737488355328 : Nat) ∧ x.2.1.length + (1 : Nat) ≤ (4611686018427387904 : Nat)) ∧ ((-9223372036854775808 : Int) ≤ x.1 + (1 : Int) ∧ x.1 + (1 : Int) ≤ (9223372036854775807 : Int)) ∧ True ∧ ((0 : Int) ≤ x.1 + (1 : Int) ∧ x.1 + (1 : Int) ≤ (↑(linesF N).length : Int) ∧ x.2.1 ++ [(x_3.1, x_3.2.1, x_3.2.2.1, x_3.2.2.2.1, x_3.2.2.2.2.1, x_3.2.2.2.2.2.1, x_3.2.2.2.2.2.2)] = List.filter (atB e a p q) (List.take (x.1 + (1 : Int)).toNat (linesF N))) ∧ ((↑(linesF N).length : Int) - (x.1 + (1 : Int))).toNat < ((↑(linesF N).length : Int) - x.1).toNat)) ∧ (decide (x_2.2.2.1 = p) = !true → ((-9223372036854775808 : Int) ≤ x.1 + (1 : Int) ∧ x.1 + (1 : Int) ≤ (9223372036854775807 : Int)) ∧ True ∧ ((0 : Int) ≤ x.1 + (1 : Int) ∧ x.1 + (1 : Int) ≤ (↑(linesF N).length : Int) ∧ x.2.1 = List.filter (atB e a p q) (List.take (x.1 + (1 : Int)).toNat (linesF N))) ∧ ((↑(linesF N).length : Int) - (x.1 + (1 : Int))).toNat < ((↑(linesF N).length : Int) - x.1).toNat)) ∧ (decide (x_1.2.2.2.2.1 = a) = !true → ((-9223372036854775808 : Int) ≤ x.1 + (1 : Int) ∧ x.1 + (1 : Int) ≤ (9223372036854775807 : Int)) ∧ True ∧ ((0 : Int) ≤ x.1 + (1 : Int) ∧ x.1 + (1 : Int) ≤ (↑(linesF N).length : Int) ∧ x.2.1 = List.filter (atB e a p q) (List.take (x.1 + (1 : Int)).toNat (linesF N))) ∧ ((↑(linesF N).length : Int) - (x.1 + (1 : Int))).toNat < ((↑(linesF N).length : Int) - x.1).toNat)) ∧ (decide (x_1.2.2.2.1 = e) = !true → ((-9223372036854775808 : Int) ≤ x.1 + (1 : Int) ∧ x.1 + (1 : Int) ≤ (9223372036854775807 : Int)) ∧ True ∧ ((0 : Int) ≤ x.1 + (1 : Int) ∧ x.1 + (1 : Int) ≤ (↑(linesF N).length : Int) ∧ x.2.1 = List.filter (atB e a p q) (List.take (x.1 + (1 : Int)).toNat (linesF N))) ∧ ((↑(linesF N).length : Int) - (x.1 + (1 : Int))).toNat < ((↑(linesF N).length : Int) - x.1).toNat)) ∧ (decide (x.1 < (↑(linesF N).length : Int)) = false → (x.2.1, ()) = (rthF N e a p q, ()))
theorem g_rthose_eq (N : List En) (e a p q : Int) : Cond (env_rthose N e a p q) Try.f38 [.list .tmp EnT N, .int .i64 e, .int .i64 a, .int .i64 p, .int .i64 q] [.slc 0 PoT] (rthF N e a p q, ()) = g_rthose_vc N e a p q := by kernel_rfl
theorem g_rthose_ok (N : List En) (e a p q : Int) (h : FwE N) : g_rthose_vc N e a p q := by
  have hl := h.lines
  unfold g_rthose_vc rthF
  simp only [decide_eq_true_eq, decide_eq_false_iff_not, Bool.not_eq_true', Bool.not_eq_false', Bool.not_true, Bool.not_false]
  refine ⟨h, ?_⟩
  generalize linesF N = R at hl ⊢
  refine ⟨⟨trivial, by omega, by omega, rfl⟩, ?_⟩
  rintro ⟨i, out, ⟨⟩⟩ ⟨h0, h1, h2⟩
  dsimp only at h0 h1 h2 ⊢
  have hol : out.length ≤ 10000 := by
    rw [h2]
    exact Nat.le_trans (List.length_filter_le _ _) (Nat.le_trans (List.length_take_le _ _) (by omega))
  refine ⟨fun c => ⟨⟨h0, c⟩, fun y hy => ?_⟩, fun c => by rw [h2, take_all c]⟩
  have hno : ¬ (y.2.2.2.1 = e ∧ y.2.2.2.2.1 = a ∧ y.2.2.1 = p ∧ (q = 0 ∨ y.2.2.2.2.2.1 = q)) → out = List.filter (atB e a p q) (List.take (i + 1).toNat R) := fun hn => by
    rw [take_next h0 hy, List.filter_append, ← h2, List.filter_cons_of_neg (by unfold atB; simp only [decide_eq_true_eq]; exact hn)]
    simp
  have hyes : y.2.2.2.1 = e ∧ y.2.2.2.2.1 = a ∧ y.2.2.1 = p ∧ (q = 0 ∨ y.2.2.2.2.2.1 = q) → out ++ [y] = List.filter (atB e a p q) (List.take (i + 1).toNat R) := fun hn => by
    rw [take_next h0 hy, List.filter_append, ← h2, List.filter_cons_of_pos (by unfold atB; simp only [decide_eq_true_eq]; exact hn)]
    rfl
  refine ⟨fun c1 => ⟨fun c2 => ⟨⟨h0, c⟩, fun z hz => ?_⟩, fun c2 => ⟨by omega, trivial, ⟨by omega, by omega, hno fun k => c2 k.2.1⟩, by omega⟩⟩, fun c1 => ⟨by omega, trivial, ⟨by omega, by omega, hno fun k => c1 k.1⟩, by omega⟩⟩
  rw [hy] at hz
  cases hz
  refine ⟨fun c3 => ⟨fun c4 => ⟨fun c5 => ⟨⟨h0, c⟩, fun z hz => ?_⟩, fun c5 => ⟨by omega, trivial, ⟨by omega, by omega, hno fun k => k.2.2.2.elim c4 c5⟩, by omega⟩⟩, fun c4 => ⟨⟨h0, c⟩, fun z hz => ?_⟩⟩, fun c3 => ⟨by omega, trivial, ⟨by omega, by omega, hno fun k => c3 k.2.2.1⟩, by omega⟩⟩
  · rw [hy] at hz
    cases hz
    exact ⟨by omega, by omega, trivial, ⟨by omega, by omega, hyes ⟨c1, c2, c3, .inr c5⟩⟩, by omega⟩
  · rw [hy] at hz
    cases hz
    exact ⟨by omega, by omega, trivial, ⟨by omega, by omega, hyes ⟨c1, c2, c3, .inl c4⟩⟩, by omega⟩
set_option maxRecDepth 20000
theorem rthose_pure (N : List En) (e a p q : Int) (h : FwE N) : Pure Try.prog 38 [.list .tmp EnT N, .int .i64 e, .int .i64 a, .int .i64 p, .int .i64 q] (.olist PoT (rthF N e a p q)) :=
  by have k := Pure.of_cond (g_rthose_eq N e a p q) (g_rthose_ok N e a p q h) (specs_ok rfl [sp_rlines] [] rfl rfl) mixed Try.func38; exact k
noncomputable def q_rthose (N : List En) (e a p q : Int) : Prop × V := (FwE N, (.olist PoT (rthF N e a p q)))
noncomputable def sp_rthose : FSpec Try.prog where
 f := 38
 run := fun
  | [v0, .int .i64 e, .int .i64 a, .int .i64 p, .int .i64 q] => (asL EnT v0 : Option (List En)).bind fun N => some (q_rthose N e a p q)
  | _ => none
 ok := fun args pre r h hp => by
  split at h
  · rename_i v0 e a p q
    obtain ⟨N, h0, h⟩ := Option.bind_eq_some_iff.1 h
    exact of_q h hp fun h => (rthose_pure N e a p q h).weak (.cons (asL_weak h0) (.cons (.refl _) (.cons (.refl _) (.cons (.refl _) (.cons (.refl _) .nil)))))
  · cases h
theorem FwE.those {N : List En} (h : FwE N) (e a p q : Int) : (rthF N e a p q).length ≤ 10000 := Nat.le_trans (List.length_filter_le ..) h.lines
theorem FwE.ams {N : List En} (h : FwE N) (e a p q : Int) : ∀ x ∈ rthF N e a p q, InI x.2.2.2.2.2.2 := fun x hx => by
  have hx := (List.mem_filter.1 hx).1
  have hpu : puP x ∈ putsL N := by
    rw [← lines_put]
    exact List.mem_map_of_mem hx
  obtain ⟨en, he, q1, q2⟩ := puts_mem hpu
  exact ((h.2 en he).2.2 _ q2).2.2.2
def ridF (N : List En) (e a p q : Int) : List Int := (rthF N e a p q).map (·.1)
noncomputable def env_rids (N : List En) (e a p q : Int) : Env where
  P := Try.prog
  ty := tys0
  specs := specsOf [sp_rthose]
  frz := fun | 19 => true | _ => false
  heads := fun | 4 => some { slots := [(13, .int .i64), (12, .slc 9000 I)], boxes := [], inv := fun _ (x : Int × List Int × Unit) => 0 ≤ x.1 ∧ x.1 ≤ (rthF N e a p q).length ∧ x.2.1 = ((rthF N e a p q).take x.1.toNat).map (·.1), measure := fun _ (x : Int × List Int × Unit) => ((rthF N e a p q).length - x.1).toNat } | _ => none
def g_rids_vc (N : List En) (e : Int) (a : Int) (p : Int) (q : Int) : Prop :=
  FwE N ∧ (True ∧ (0 : Int) ≤ (0 : Int) ∧ (0 : Int) ≤ (↑(rthF N e a p q).length : Int) ∧ [] = List.map (fun x => x.1) (List.take (Int.toNat (0 : Int)) (rthF N e a p q))) ∧ ∀ (x : Int × List Int × Unit), (0 : Int) ≤ x.1 ∧ x.1 ≤ (↑(rthF N e a p q).length : Int) ∧ x.2.1 = List.map (fun x => x.1) (List.take x.1.toNat (rthF N e a p q)) → (decide (x.1 < (↑(rthF N e a p q).length : Int)) = true → ((0 : Int) ≤ x.1 ∧ x.1 < (↑(rthF N e a p q).length : Int)) ∧ ∀ (x_1 : Int × Int × Int × Int × Int × Int × Int), (rthF N e a p q)[x.1.toNat]? = some x_1 → ((x.2.1.length + (1 : Nat)) * (8 : Nat) ≤ (140737488355328 : Nat) ∧ x.2.1.length + (1 : Nat) ≤ (4611686018427387904 : Nat)) ∧ ((-9223372036854775808 : Int) ≤ x.1 + (1 : Int) ∧ x.1 + (1 : Int) ≤ (9223372036854775807 : Int)) ∧ True ∧ ((0 : Int) ≤ x.1 + (1 : Int) ∧ x.1 + (1 : Int) ≤ (↑(rthF N e a p q).length : Int) ∧ x.2.1 ++ [x_1.1] = List.map (fun x => x.1) (List.take (x.1 + (1 : Int)).toNat (rthF N e a p q))) ∧ ((↑(rthF N e a p q).length : Int) - (x.1 + (1 : Int))).toNat < ((↑(rthF N e a p q).length : Int) - x.1).toNat) ∧ (decide (x.1 < (↑(rthF N e a p q).length : Int)) = false → (x.2.1, ()) = (ridF N e a p q, ()))
theorem g_rids_eq (N : List En) (e a p q : Int) : Cond (env_rids N e a p q) Try.f19 [.list .tmp EnT N, .int .i64 e, .int .i64 a, .int .i64 p, .int .i64 q] [.slc 0 I] (ridF N e a p q, ()) = g_rids_vc N e a p q := by kernel_rfl
theorem g_rids_ok (N : List En) (e a p q : Int) (h : FwE N) : g_rids_vc N e a p q := by
  have hl := h.those e a p q
  unfold g_rids_vc ridF
  simp only [decide_eq_true_eq, decide_eq_false_iff_not]
  refine ⟨h, ?_⟩
  generalize rthF N e a p q = R at hl ⊢
  refine ⟨⟨trivial, by omega, by omega, rfl⟩, ?_⟩
  rintro ⟨i, out, ⟨⟩⟩ ⟨h0, h1, h2⟩
  dsimp only at h0 h1 h2 ⊢
  have hol : out.length ≤ 10000 := by
    rw [h2, List.length_map]
    exact Nat.le_trans (List.length_take_le _ _) (by omega)
  refine ⟨fun c => ⟨⟨h0, c⟩, fun y hy => ⟨by omega, by omega, trivial, ⟨by omega, by omega, ?_⟩, by omega⟩⟩, fun c => ?_⟩
  · rw [take_next h0 hy, List.map_append, h2]
    rfl
  · rw [h2, take_all c]
theorem rids_pure (N : List En) (e a p q : Int) (h : FwE N) : Pure Try.prog 19 [.list .tmp EnT N, .int .i64 e, .int .i64 a, .int .i64 p, .int .i64 q] (.olist I (ridF N e a p q)) :=
  by have k := Pure.of_cond (g_rids_eq N e a p q) (g_rids_ok N e a p q h) (specs_ok rfl [sp_rthose] [] rfl rfl) mixed Try.func19; exact k
noncomputable def q_rids (N : List En) (e a p q : Int) : Prop × V := (FwE N, (.olist I (ridF N e a p q)))
noncomputable def sp_rids : FSpec Try.prog where
 f := 19
 run := fun
  | [v0, .int .i64 e, .int .i64 a, .int .i64 p, .int .i64 q] => (asL EnT v0 : Option (List En)).bind fun N => some (q_rids N e a p q)
  | _ => none
 ok := fun args pre r h hp => by
  split at h
  · rename_i v0 e a p q
    obtain ⟨N, h0, h⟩ := Option.bind_eq_some_iff.1 h
    exact of_q h hp fun h => (rids_pure N e a p q h).weak (.cons (asL_weak h0) (.cons (.refl _) (.cons (.refl _) (.cons (.refl _) (.cons (.refl _) .nil)))))
  · cases h
def ramF (N : List En) (e a p q : Int) : List Int := (rthF N e a p q).map (·.2.2.2.2.2.2)
noncomputable def env_rtot (N : List En) (e a p q : Int) : Env where
  P := Try.prog
  ty := tys0
  specs := specsOf [sp_rthose, sp_rnet]
  frz := fun | 20 => true | _ => false
  heads := fun | 4 => some { slots := [(14, .int .i64), (13, .slc 9000 I)], boxes := [], inv := fun _ (x : Int × List Int × Unit) => 0 ≤ x.1 ∧ x.1 ≤ (rthF N e a p q).length ∧ x.2.1 = ((rthF N e a p q).take x.1.toNat).map (·.2.2.2.2.2.2), measure := fun _ (x : Int × List Int × Unit) => ((rthF N e a p q).length - x.1).toNat } | _ => none
def g_rtot_vc (N : List En) (e : Int) (a : Int) (p : Int) (q : Int) : Prop :=
  FwE N ∧ (True ∧ (0 : Int) ≤ (0 : Int) ∧ (0 : Int) ≤ (↑(rthF N e a p q).length : Int) ∧ [] = List.map (fun x => x.2.2.2.2.2.2) (List.take (Int.toNat (0 : Int)) (rthF N e a p q))) ∧ ∀ (x : Int × List Int × Unit), (0 : Int) ≤ x.1 ∧ x.1 ≤ (↑(rthF N e a p q).length : Int) ∧ x.2.1 = List.map (fun x => x.2.2.2.2.2.2) (List.take x.1.toNat (rthF N e a p q)) → (decide (x.1 < (↑(rthF N e a p q).length : Int)) = true → ((0 : Int) ≤ x.1 ∧ x.1 < (↑(rthF N e a p q).length : Int)) ∧ ∀ (x_1 : Int × Int × Int × Int × Int × Int × Int), (rthF N e a p q)[x.1.toNat]? = some x_1 → ((x.2.1.length + (1 : Nat)) * (8 : Nat) ≤ (140737488355328 : Nat) ∧ x.2.1.length + (1 : Nat) ≤ (4611686018427387904 : Nat)) ∧ ((-9223372036854775808 : Int) ≤ x.1 + (1 : Int) ∧ x.1 + (1 : Int) ≤ (9223372036854775807 : Int)) ∧ True ∧ ((0 : Int) ≤ x.1 + (1 : Int) ∧ x.1 + (1 : Int) ≤ (↑(rthF N e a p q).length : Int) ∧ x.2.1 ++ [x_1.2.2.2.2.2.2] = List.map (fun x => x.2.2.2.2.2.2) (List.take (x.1 + (1 : Int)).toNat (rthF N e a p q))) ∧ ((↑(rthF N e a p q).length : Int) - (x.1 + (1 : Int))).toNat < ((↑(rthF N e a p q).length : Int) - x.1).toNat) ∧ (decide (x.1 < (↑(rthF N e a p q).length : Int)) = false → (x.2.1.length ≤ (100000 : Nat) ∧ (0 : Nat) ≤ (100000 : Nat) ∧ (∀ (n : Int), n ∈ x.2.1 → InI n) ∧ ∀ (n : Int), n ∈ [] → InI n) ∧ ((netF x.2.1 []).1, (netF x.2.1 []).2, ()) = ((netF (ramF N e a p q) []).1, (netF (ramF N e a p q) []).2, ()))
theorem g_rtot_eq (N : List En) (e a p q : Int) : Cond (env_rtot N e a p q) Try.f18 [.list .tmp EnT N, .int .i64 e, .int .i64 a, .int .i64 p, .int .i64 q] [.int .i64, .int .i64] ((netF (ramF N e a p q) []).1, (netF (ramF N e a p q) []).2, ()) = g_rtot_vc N e a p q := by kernel_rfl
theorem g_rtot_ok (N : List En) (e a p q : Int) (h : FwE N) : g_rtot_vc N e a p q := by
  have hl := h.those e a p q
  unfold g_rtot_vc ramF
  simp only [decide_eq_true_eq, decide_eq_false_iff_not]
  refine ⟨h, ?_⟩
  have ham := h.ams e a p q
  generalize rthF N e a p q = R at hl ham ⊢
  refine ⟨⟨trivial, by omega, by omega, rfl⟩, ?_⟩
  rintro ⟨i, out, ⟨⟩⟩ ⟨h0, h1, h2⟩
  dsimp only at h0 h1 h2 ⊢
  have hol : out.length ≤ 10000 := by
    rw [h2, List.length_map]
    exact Nat.le_trans (List.length_take_le _ _) (by omega)
  refine ⟨fun c => ⟨⟨h0, c⟩, fun y hy => ⟨by omega, by omega, trivial, ⟨by omega, by omega, ?_⟩, by omega⟩⟩, fun c => ?_⟩
  · rw [take_next h0 hy, List.map_append, h2]
    rfl
  · rw [take_all c] at h2
    rw [h2]
    refine ⟨⟨by rw [List.length_map]; omega, by simp, fun n hn => ?_, by simp⟩, rfl⟩
    obtain ⟨x, hx, rfl⟩ := List.mem_map.1 hn
    exact ham x hx
theorem rtot_pure (N : List En) (e a p q : Int) (h : FwE N) : Pure Try.prog 18 [.list .tmp EnT N, .int .i64 e, .int .i64 a, .int .i64 p, .int .i64 q] (.tuple [.int .i64 (netF (ramF N e a p q) []).1, .int .i64 (netF (ramF N e a p q) []).2]) :=
  by have k := Pure.of_cond (g_rtot_eq N e a p q) (g_rtot_ok N e a p q h) (specs_ok rfl [sp_rthose, sp_rnet] [] rfl rfl) mixed Try.func18; exact k
noncomputable def q_rtot (N : List En) (e a p q : Int) : Prop × V := (FwE N, (.tuple [.int .i64 (netF (ramF N e a p q) []).1, .int .i64 (netF (ramF N e a p q) []).2]))
noncomputable def sp_rtot : FSpec Try.prog where
 f := 18
 run := fun
  | [v0, .int .i64 e, .int .i64 a, .int .i64 p, .int .i64 q] => (asL EnT v0 : Option (List En)).bind fun N => some (q_rtot N e a p q)
  | _ => none
 ok := fun args pre r h hp => by
  split at h
  · rename_i v0 e a p q
    obtain ⟨N, h0, h⟩ := Option.bind_eq_some_iff.1 h
    exact of_q h hp fun h => (rtot_pure N e a p q h).weak (.cons (asL_weak h0) (.cons (.refl _) (.cons (.refl _) (.cons (.refl _) (.cons (.refl _) .nil)))))
  · cases h
def upB (e a p : Int) (x : Po) : Bool := decide (x.2.2.2.1 = e ∧ x.2.2.2.2.1 = a ∧ x.2.2.1 ≤ p ∧ x.2.2.2.2.2.1 ≠ 0)
def rprF (L : List Po) (e a p : Int) : List Int := ((L.filter (upB e a p)).map (·.2.2.2.2.2.1)).foldl withF []
theorem rpr_len (L : List Po) (e a p : Int) : (rprF L e a p).length ≤ L.length := by
  have h1 := len_fold (m := (L.filter (upB e a p)).map (·.2.2.2.2.2.1)) (l := [])
  rw [List.length_map] at h1
  have h2 := List.length_filter_le (upB e a p) L
  unfold rprF
  simp only [List.length_nil] at h1
  omega
noncomputable def env_rpart (N : List En) (e a p : Int) : Env where
  P := Try.prog
  ty := tys0
  specs := specsOf [sp_rlines, sp_with]
  frz := fun | 14 => true | _ => false
  heads := fun | 4 => some { slots := [(11, .int .i64), (10, .list .part I)], boxes := [], inv := fun _ (x : Int × List Int × Unit) => 0 ≤ x.1 ∧ x.1 ≤ (linesF N).length ∧ (x.2.1.length : Int) ≤ x.1 ∧ x.2.1 = rprF ((linesF N).take x.1.toNat) e a p, measure := fun _ (x : Int × List Int × Unit) => ((linesF N).length - x.1).toNat } | _ => none
def g_rpart_vc (N : List En) (e : Int) (a : Int) (p : Int) : Prop :=
  FwE N ∧ (True ∧ (0 : Int) ≤ (0 : Int) ∧ (0 : Int) ≤ (↑(linesF N).length : Int) ∧ (↑(0 : Nat) : Int) ≤ (0 : Int) ∧ [] = rprF (List.take (Int.toNat (0 : Int)) (linesF N)) e a p) ∧ ∀ (x : Int × List Int × Unit), (0 : Int) ≤ x.1 ∧ x.1 ≤ (↑(linesF N).length : Int) ∧ (↑x.2.1.length : Int) ≤ x.1 ∧ x.2.1 = rprF (List.take x.1.toNat (linesF N)) e a p → (decide (x.1 < (↑(linesF N).length : Int)) = true → ((0 : Int) ≤ x.1 ∧ x.1 < (↑(linesF N).length : Int)) ∧ ∀ (x_1 : Int × Int × Int × Int × Int × Int × Int), (linesF N)[x.1.toNat]? = some x_1 → (decide (x_1.2.2.2.1 = e) = true → (decide (x_1.2.2.2.2.1 = a) = true → ((0 : Int) ≤ x.1 ∧ x.1 < (↑(linesF N).length : Int)) ∧ ∀ (x_2 : Int × Int × Int × Int × Int × Int × Int), (linesF N)[x.1.toNat]? = some x_2 → (decide (x_2.2.2.1 ≤ p) = true → ((!decide (x_1.2.2.2.2.2.1 = (0 : Int))) = true → x.2.1.length ≤ (1000000000 : Nat) ∧ ((-9223372036854775808 : Int) ≤ x.1 + (1 : Int) ∧ x.1 + (1 : Int) ≤ (9223372036854775807 : Int)) ∧ True ∧ ((0 : Int) ≤ x.1 + (1 : Int) ∧ x.1 + (1 : Int) ≤ (↑(linesF N).length : Int) ∧ (↑(withF x.2.1 x_1.2.2.2.2.2.1).length : Int) ≤ x.1 + (1 : Int) ∧ withF x.2.1 x_1.2.2.2.2.2.1 = rprF (List.take (x.1 + (1 : Int)).toNat (linesF N)) e a p) ∧ ((↑(linesF N).length : Int) - (x.1 + (1 : Int))).toNat < ((↑(linesF N).length : Int) - x.1).toNat) ∧ ((!decide (x_1.2.2.2.2.2.1 = (0 : Int))) = false → ((-9223372036854775808 : Int) ≤ x.1 + (1 : Int) ∧ x.1 + (1 : Int) ≤ (9223372036854775807 : Int)) ∧ True ∧ ((0 : Int) ≤ x.1 + (1 : Int) ∧ x.1 + (1 : Int) ≤ (↑(linesF N).length : Int) ∧ (↑x.2.1.length : Int) ≤ x.1 + (1 : Int) ∧ x.2.1 = rprF (List.take (x.1 + (1 : Int)).toNat (linesF N)) e a p) ∧ ((↑(linesF N).length : Int) - (x.1 + (1 : Int))).toNat < ((↑(linesF N).length : Int) - x.1).toNat)) ∧ (decide (x_2.2.2.1 ≤ p) = !true → ((-9223372036854775808 : Int) ≤ x.1 + (1 : Int) ∧ x.1 + (1 : Int) ≤ (9223372036854775807 : Int)) ∧ True ∧ ((0 : Int) ≤ x.1 + (1 : Int) ∧ x.1 + (1 : Int) ≤ (↑(linesF N).length : Int) ∧ (↑x.2.1.length : Int) ≤ x.1 + (1 : Int) ∧ x.2.1 = rprF (List.take (x.1 + (1 : Int)).toNat (linesF N)) e a p) ∧ ((↑(linesF N).length : Int) - (x.1 + (1 : Int))).toNat < ((↑(linesF N).length : Int) - x.1).toNat)) ∧ (decide (x_1.2.2.2.2.1 = a) = !true → ((-9223372036854775808 : Int) ≤ x.1 + (1 : Int) ∧ x.1 + (1 : Int) ≤ (9223372036854775807 : Int)) ∧ True ∧ ((0 : Int) ≤ x.1 + (1 : Int) ∧ x.1 + (1 : Int) ≤ (↑(linesF N).length : Int) ∧ (↑x.2.1.length : Int) ≤ x.1 + (1 : Int) ∧ x.2.1 = rprF (List.take (x.1 + (1 : Int)).toNat (linesF N)) e a p) ∧ ((↑(linesF N).length : Int) - (x.1 + (1 : Int))).toNat < ((↑(linesF N).length : Int) - x.1).toNat)) ∧ (decide (x_1.2.2.2.1 = e) = !true → ((-9223372036854775808 : Int) ≤ x.1 + (1 : Int) ∧ x.1 + (1 : Int) ≤ (9223372036854775807 : Int)) ∧ True ∧ ((0 : Int) ≤ x.1 + (1 : Int) ∧ x.1 + (1 : Int) ≤ (↑(linesF N).length : Int) ∧ (↑x.2.1.length : Int) ≤ x.1 + (1 : Int) ∧ x.2.1 = rprF (List.take (x.1 + (1 : Int)).toNat (linesF N)) e a p) ∧ ((↑(linesF N).length : Int) - (x.1 + (1 : Int))).toNat < ((↑(linesF N).length : Int) - x.1).toNat)) ∧ (decide (x.1 < (↑(linesF N).length : Int)) = false → (x.2.1, ()) = (rprF (linesF N) e a p, ()))
theorem g_rpart_eq (N : List En) (e a p : Int) : Cond (env_rpart N e a p) Try.f21 [.list .tmp EnT N, .int .i64 e, .int .i64 a, .int .i64 p] [.list .part I] (rprF (linesF N) e a p, ()) = g_rpart_vc N e a p := by kernel_rfl
theorem g_rpart_ok (N : List En) (e a p : Int) (h : FwE N) : g_rpart_vc N e a p := by
  have hl := h.lines
  unfold g_rpart_vc
  simp only [decide_eq_true_eq, decide_eq_false_iff_not, Bool.not_eq_true', Bool.not_eq_false', Bool.not_true, Bool.not_false]
  refine ⟨h, ?_⟩
  generalize linesF N = R at hl ⊢
  refine ⟨⟨trivial, by omega, by omega, by simp, rfl⟩, ?_⟩
  rintro ⟨i, out, ⟨⟩⟩ ⟨h0, h1, hx, h2⟩
  dsimp only at h0 h1 h2 hx ⊢
  refine ⟨fun c => ⟨⟨h0, c⟩, fun y hy => ?_⟩, fun c => by rw [h2, take_all c]⟩
  have hno : ¬ (y.2.2.2.1 = e ∧ y.2.2.2.2.1 = a ∧ y.2.2.1 ≤ p ∧ y.2.2.2.2.2.1 ≠ 0) → out = rprF (List.take (i + 1).toNat R) e a p := fun hn => by
    rw [take_next h0 hy, rprF, List.filter_append, List.filter_cons_of_neg (by unfold upB; simp only [decide_eq_true_eq]; exact hn), List.filter_nil, List.append_nil, h2]
    rfl
  have hyes : y.2.2.2.1 = e ∧ y.2.2.2.2.1 = a ∧ y.2.2.1 ≤ p ∧ y.2.2.2.2.2.1 ≠ 0 → withF out y.2.2.2.2.2.1 = rprF (List.take (i + 1).toNat R) e a p := fun hn => by
    rw [take_next h0 hy, rprF, List.filter_append, List.filter_cons_of_pos (by unfold upB; simp only [decide_eq_true_eq]; exact hn), List.filter_nil, List.map_append, List.foldl_append, h2]
    rfl
  have hlen := rpr_len (List.take (i + 1).toNat R) e a p
  have htk : (List.take (i + 1).toNat R).length ≤ (i + 1).toNat := List.length_take_le _ _
  refine ⟨fun c1 => ⟨fun c2 => ⟨⟨h0, c⟩, fun z hz => ?_⟩, fun c2 => ⟨by omega, trivial, ⟨by omega, by omega, by omega, hno fun k => c2 k.2.1⟩, by omega⟩⟩, fun c1 => ⟨by omega, trivial, ⟨by omega, by omega, by omega, hno fun k => c1 k.1⟩, by omega⟩⟩
  rw [hy] at hz
  cases hz
  refine ⟨fun c3 => ⟨fun c4 => ⟨by omega, by omega, trivial, ⟨by omega, by omega, ?_, hyes ⟨c1, c2, c3, c4⟩⟩, by omega⟩, fun c4 => ⟨by omega, trivial, ⟨by omega, by omega, by omega, hno fun k => k.2.2.2 c4⟩, by omega⟩⟩, fun c3 => ⟨by omega, trivial, ⟨by omega, by omega, by omega, hno fun k => c3 k.2.2.1⟩, by omega⟩⟩
  rw [hyes ⟨c1, c2, c3, c4⟩]
  omega
theorem rpart_pure (N : List En) (e a p : Int) (h : FwE N) : Pure Try.prog 21 [.list .tmp EnT N, .int .i64 e, .int .i64 a, .int .i64 p] (.list .part I (rprF (linesF N) e a p)) :=
  by have k := Pure.of_cond (g_rpart_eq N e a p) (g_rpart_ok N e a p h) (specs_ok rfl [sp_rlines, sp_with] [] rfl rfl) mixed Try.func21; exact k
noncomputable def q_rpart (N : List En) (e a p : Int) : Prop × V := (FwE N, (.list .part I (rprF (linesF N) e a p)))
noncomputable def sp_rpart : FSpec Try.prog where
 f := 21
 run := fun
  | [v0, .int .i64 e, .int .i64 a, .int .i64 p] => (asL EnT v0 : Option (List En)).bind fun N => some (q_rpart N e a p)
  | _ => none
 ok := fun args pre r h hp => by
  split at h
  · rename_i v0 e a p
    obtain ⟨N, h0, h⟩ := Option.bind_eq_some_iff.1 h
    exact of_q h hp fun h => (rpart_pure N e a p h).weak (.cons (asL_weak h0) (.cons (.refl _) (.cons (.refl _) (.cons (.refl _) .nil))))
  · cases h
end Go.Proofs.Yteaajihmfacinaa.Ta
