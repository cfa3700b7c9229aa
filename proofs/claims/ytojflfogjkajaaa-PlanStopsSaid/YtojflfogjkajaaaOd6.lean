/-
  order: the desk's map.
-/
import Derived.Test.YtojflfogjkajaaaOd3
section
namespace Go.Proofs.Ytojflfogjkajaaa.Od
open Go.Vm Go.Proofs.Ytojflfogjkajaaa.Gr Go.Proofs.Ytojflfogjkajaaa.Rc
theorem weakL_len {cs cs' : List V} (h : WeakL cs cs') : cs.length = cs'.length := by
  induction h with
  | nil => rfl
  | cons _ _ ih => simp [ih]
theorem weakL_at {cs cs' : List V} (h : WeakL cs cs') : ∀ (j : Nat) c', cs'[j]? = some c' → ∃ c, cs[j]? = some c ∧ Weak c c' := by
  induction h with
  | nil => intro j c' h; simp at h
  | cons h1 _ ih =>
    intro j c' h
    cases j with
    | zero =>
      simp only [List.getElem?_cons_zero, Option.some.injEq] at h
      subst h
      exact ⟨_, rfl, h1⟩
    | succ j => exact ih j c' (by simpa using h)
theorem weak_fptr {cs cs' : List V} (h : WeakL cs cs') : Weak (.fptr cs) (.fptr cs') := fun X u hr => by
  obtain ⟨b, o, f, rfl, hT, hc, hrc⟩ := hr.fptr_inv
  refine .fptr f (fun h0 => hT (by rw [weakL_len h]; exact h0)) (fun j c' hj => ?_) (fun j c' hj => ?_)
  · obtain ⟨c, k1, _⟩ := weakL_at h j c' hj
    exact hc j c k1
  · obtain ⟨c, k1, k2⟩ := weakL_at h j c' hj
    exact k2 X _ (hrc j c k1)
abbrev ThT : Ty := .pair I I
noncomputable def tys2 : TypeId → Option Ty := fun | 120 => some ThT | 116 => some (.slice ThT) | t => tys0 t
noncomputable def env_less (a b : Int) : Env where
  P := Try.prog
  ty := tys2
def g_less_vc (a : Int) (b : Int) : Prop :=
  (decide (a < b), ()) = (decide (a < b), ())
theorem g_less_eq (a b : Int) : Cond (env_less a b) Try.f72 [.int .i64 a, .int .i64 b] [.bool] (decide (a < b), ()) = g_less_vc a b := by kernel_rfl
theorem g_less_ok (a b : Int) : g_less_vc a b := by
  unfold g_less_vc
  rfl
set_option maxRecDepth 20000
theorem less_pure (a b : Int) : Pure Try.prog 72 [.int .i64 a, .int .i64 b] (.bool (decide (a < b))) :=
  by have k := Pure.of_cond (g_less_eq a b) (g_less_ok a b) (specs_ok rfl [] [] rfl rfl) mixed Try.func72; exact k
noncomputable def q_less (a b : Int) : Prop × V := (True, (.bool (decide (a < b))))
noncomputable def sp_less : FSpec Try.prog where
 f := 72
 run := fun
  | [.int .i64 a, .int .i64 b] => some (q_less a b)
  | _ => none
 ok := fun args pre r h hp => by
  split at h
  · rename_i a b
    exact of_q h hp fun h => (less_pure a b).weak (.cons (.refl _) (.cons (.refl _) .nil))
  · cases h
noncomputable def env_pmade (row : List Th) (w : Int) : Env where
  P := Try.prog
  ty := tys2
def g_pmade_vc (row : List Th) (w : Int) : Prop :=
  (!false, ()) = (true, ())
theorem g_pmade_eq (row : List Th) (w : Int) : Cond (env_pmade row w) Try.f94 [.fptr [.list .tmp ThT row, .fn (.func 72) [] [], .int .i64 w]] [.bool] (true, ()) = g_pmade_vc row w := by kernel_rfl
theorem g_pmade_ok (row : List Th) (w : Int) : g_pmade_vc row w := by
  unfold g_pmade_vc
  rfl
theorem pmade_pure (row : List Th) (w : Int) : Pure Try.prog 94 [.fptr [.list .tmp ThT row, .fn (.func 72) [] [], .int .i64 w]] (.bool true) :=
  by have k := Pure.of_cond (g_pmade_eq row w) (g_pmade_ok row w) (specs_ok rfl [] [] rfl rfl) mixed Try.func94; exact k
noncomputable def q_pmade (row : List Th) (w : Int) : Prop × V := (True, (.bool true))
noncomputable def sp_pmade : FSpec Try.prog where
 f := 94
 run := fun
  | [.fptr [v0_0, .fn (.func 72) [] [], .int .i64 w]] => (asL ThT v0_0 : Option (List Th)).bind fun row => some (q_pmade row w)
  | _ => none
 ok := fun args pre r h hp => by
  split at h
  · rename_i v0_0 w
    obtain ⟨row, h0_0, h⟩ := Option.bind_eq_some_iff.1 h
    exact of_q h hp fun h => (pmade_pure row w).weak (.cons (weak_fptr (.cons (asL_weak h0_0) (.cons (.refl _) (.cons (.refl _) .nil)))) .nil)
  · cases h
noncomputable def env_ahead (row : List Th) (w i k : Int) : Env where
  P := Try.prog
  ty := tys2
  specs := specsOf [sp_less]
def g_ahead_vc (row : List Th) (w : Int) (i : Int) (k : Int) : Prop :=
  ((0 : Int) ≤ i ∧ i < (↑row.length : Int)) ∧ ∀ (x : Int × Int), row[i.toNat]? = some x → ((0 : Int) ≤ k ∧ k < (↑row.length : Int)) ∧ ∀ (x_1 : Int × Int), row[k.toNat]? = some x_1 → True ∧ (decide (x.1 < x_1.1) = true → (true, ()) = (decide (Lt (at0 row i.toNat) (at0 row k.toNat)), ())) ∧ (decide (x.1 < x_1.1) = false → True ∧ (decide (x_1.1 < x.1) = true → (false, ()) = (decide (Lt (at0 row i.toNat) (at0 row k.toNat)), ())) ∧ (decide (x_1.1 < x.1) = false → (decide (x.2 < x_1.2), ()) = (decide (Lt (at0 row i.toNat) (at0 row k.toNat)), ())))
theorem g_ahead_eq (row : List Th) (w i k : Int) : Cond (env_ahead row w i k) Try.f95 [.fptr [.list .tmp ThT row, .fn (.func 72) [] [], .int .i64 w], .int .i64 i, .int .i64 k] [.bool] (decide (Lt (at0 row i.toNat) (at0 row k.toNat)), ()) = g_ahead_vc row w i k := by kernel_rfl
theorem g_ahead_ok (row : List Th) (w i k : Int) (h : (0 ≤ i ∧ i < row.length) ∧ 0 ≤ k ∧ k < row.length) : g_ahead_vc row w i k := by
  unfold g_ahead_vc
  refine ⟨h.1, fun x hx => ⟨h.2, fun y hy => ?_⟩⟩
  have e1 : at0 row i.toNat = x := by simp [at0, List.getD, hx]
  have e2 : at0 row k.toNat = y := by simp [at0, List.getD, hy]
  rw [e1, e2]
  simp only [decide_eq_true_eq, decide_eq_false_iff_not]
  refine ⟨trivial, fun h1 => ?_, fun h1 => ⟨trivial, fun h2 => ?_, fun h2 => ?_⟩⟩
  · rw [decide_eq_true (show Lt x y from .inl h1)]
  · rw [decide_eq_false (show ¬ Lt x y from fun h3 => by rcases h3 with h3 | h3 <;> omega)]
  · rw [show (decide (x.2 < y.2)) = decide (Lt x y) from decide_eq_decide.2 ⟨fun h3 => .inr ⟨by omega, h3⟩, fun h3 => by rcases h3 with h3 | h3 <;> omega⟩]
theorem ahead_pure (row : List Th) (w i k : Int) (h : (0 ≤ i ∧ i < row.length) ∧ 0 ≤ k ∧ k < row.length) : Pure Try.prog 95 [.fptr [.list .tmp ThT row, .fn (.func 72) [] [], .int .i64 w], .int .i64 i, .int .i64 k] (.bool (decide (Lt (at0 row i.toNat) (at0 row k.toNat)))) :=
  by have k := Pure.of_cond (g_ahead_eq row w i k) (g_ahead_ok row w i k h) (specs_ok rfl [sp_less] [] rfl rfl) mixed Try.func95; exact k
noncomputable def q_ahead (row : List Th) (w i k : Int) : Prop × V := ((0 ≤ i ∧ i < row.length) ∧ 0 ≤ k ∧ k < row.length, (.bool (decide (Lt (at0 row i.toNat) (at0 row k.toNat)))))
noncomputable def sp_ahead : FSpec Try.prog where
 f := 95
 run := fun
  | [.fptr [v0_0, .fn (.func 72) [] [], .int .i64 w], .int .i64 i, .int .i64 k] => (asL ThT v0_0 : Option (List Th)).bind fun row => some (q_ahead row w i k)
  | _ => none
 ok := fun args pre r h hp => by
  split at h
  · rename_i v0_0 w i k
    obtain ⟨row, h0_0, h⟩ := Option.bind_eq_some_iff.1 h
    exact of_q h hp fun h => (ahead_pure row w i k h).weak (.cons (weak_fptr (.cons (asL_weak h0_0) (.cons (.refl _) (.cons (.refl _) .nil)))) (.cons (.refl _) (.cons (.refl _) .nil)))
  · cases h
noncomputable def env_swap (row : List Th) (w i k : Int) : Env where
  P := Try.prog
  ty := tys2
  pins := [9000]
abbrev ann_swap : Ann := { slots := numP 0 [], boxes := [(9000, [.slc 9001 ThT, .clo 72 [], .int .i64])], inv := fun _ _ => True }
def g_swap_vc (row : List Th) (w : Int) (i : Int) (k : Int) : Prop :=
  ((0 : Int) ≤ k ∧ k < (↑row.length : Int)) ∧ k.toNat < row.length ∧ ∀ (x : Int × Int), row[k.toNat]? = some x → ((0 : Int) ≤ i ∧ i < (↑row.length : Int)) ∧ i.toNat < row.length ∧ ∀ (x_1 : Int × Int), row[i.toNat]? = some x_1 → ((0 : Int) ≤ i ∧ i < (↑row.length : Int)) ∧ i.toNat < row.length ∧ ∀ (y : Int × Int), row[i.toNat]? = some y → ((0 : Int) ≤ k ∧ k < (↑(row.set i.toNat (x.1, x.2)).length : Int)) ∧ k.toNat < (row.set i.toNat (x.1, x.2)).length ∧ ∀ (y : Int × Int), (row.set i.toNat (x.1, x.2))[k.toNat]? = some y → True ∧ ((row.set i.toNat (x.1, x.2)).set k.toNat (x_1.1, x_1.2), (), w, ()) = (swapL row i.toNat k.toNat, (), w, ())
theorem g_swap_eq (row : List Th) (w i k : Int) : CondO (env_swap row w i k) Try.f96 [.ptr 9000 0, .int .i64 i, .int .i64 k] [(9000, .box [.slc 9001 0 none, .fn (.func 72) [] [], .int .i64 w]), (9001, .arr 0 (.pair (.int .i64) (.int .i64)) row)] [] ann_swap (swapL row i.toNat k.toNat, (), w, ()) = g_swap_vc row w i k := by kernel_rfl
theorem g_swap_ok (row : List Th) (w i k : Int) (h : (0 ≤ i ∧ i < row.length) ∧ 0 ≤ k ∧ k < row.length) : g_swap_vc row w i k := by
  unfold g_swap_vc
  refine ⟨h.2, by omega, fun x hx => ⟨h.1, by omega, fun y hy => ⟨h.1, by omega, fun z hz => ⟨by simpa using h.2, by simp; omega, fun z' hz' => ⟨trivial, ?_⟩⟩⟩⟩⟩
  have e1 : at0 row i.toNat = y := by simp [at0, List.getD, hy]
  have e2 : at0 row k.toNat = x := by simp [at0, List.getD, hx]
  rw [swapL, e1, e2]
theorem swap_upd (row : List Th) (w i k : Int) (h : (0 ≤ i ∧ i < row.length) ∧ 0 ≤ k ∧ k < row.length) : UpdC Try.prog 96 [.ptr 9000 0, .int .i64 i, .int .i64 k] [(9000, .box [.slc 9001 0 none, .fn (.func 72) [] [], .int .i64 w]), (9001, .arr 0 (.pair (.int .i64) (.int .i64)) row)] (.tuple []) [(9001, .arr 0 (.pair (.int .i64) (.int .i64)) (swapL row i.toNat k.toNat)), (9000, .box [.slc 9001 0 none, .fn (.func 72) [] [], .int .i64 w])] :=
  by have k := UpdC.of_cond (g_swap_eq row w i k) (g_swap_ok row w i k h) (specs_ok rfl [] [] rfl rfl) mixed Try.func96; exact k
noncomputable def q_swap (row : List Th) (w i k : Int) : Prop × V × Store := ((0 ≤ i ∧ i < row.length) ∧ 0 ≤ k ∧ k < row.length, .tuple [], [(9001, .arr 0 (.pair (.int .i64) (.int .i64)) (swapL row i.toNat k.toNat)), (9000, .box [.slc 9001 0 none, .fn (.func 72) [] [], .int .i64 w])])
noncomputable def so_swap : OSpec Try.prog where
 f := 96
 run := fun args σ => match args, σ with
  | [.ptr 9000 0, .int .i64 i, .int .i64 k], [(9000, .box [.slc 9001 0 none, .fn (.func 72) [] [], .int .i64 w]), (9001, .arr 0 (.pair (.int .i64) (.int .i64)) row)] => some (q_swap row w i k)
  | _, _ => none
 ok := fun args σ pre r σ' h hp => by
  try dsimp only at h
  split at h
  · rename_i i k w row
    exact of_qo h hp fun h => (swap_upd row w i k h).weak (.cons (.refl _) (.cons (.refl _) (.cons (.refl _) .nil)))
  · cases h
end Go.Proofs.Ytojflfogjkajaaa.Od
end
section
def Go.Vm.St.ths (st : Go.Vm.St) (i : Nat) : List (Int × Int) := match st.σ.get i with
  | some (.arr _ (.pair (.int .i64) (.int .i64)) l) => l
  | _ => []
def Go.Vm.St.rows (st : Go.Vm.St) (i : Nat) : List (List Int) := match st.σ.get i with
  | some (.arr _ (.slice (.int .i64)) l) => l
  | _ => []
def Go.Vm.St.lst (st : Go.Vm.St) (i : Nat) : List Int := match Go.Vm.nth st.s i with
  | some (.list _ (.int .i64) l) => l
  | _ => []
namespace Go.Proofs.Ytojflfogjkajaaa.Od
open Go.Vm Go.Proofs.Ytojflfogjkajaaa.Gr Go.Proofs.Ytojflfogjkajaaa.Rc
def bestK (row : List Th) (i k : Nat) : Nat := if k ≤ 2 * i + 1 then i else if k ≤ 2 * i + 2 then better row (2 * i + 1) i else bestF row i
theorem bestK_at (row : List Th) (i : Nat) : bestK row i (2 * i + 1) = i := by simp [bestK]
theorem bestK_next (row : List Th) (i k : Nat) (h1 : 2 * i + 1 ≤ k) (h2 : k ≤ 2 * i + 2) : bestK row i (k + 1) = better row k (bestK row i k) := by
  have : k = 2 * i + 1 ∨ k = 2 * i + 2 := by omega
  rcases this with rfl | rfl
  · rw [bestK_at, bestK, if_neg (by omega), if_pos (by omega)]
  · rw [bestK, if_neg (by omega), if_neg (by omega), bestF, bestK, if_neg (by omega), if_pos (by omega)]
theorem bestK_in (row : List Th) (i k : Nat) : bestK row i k = i ∨ (i < bestK row i k ∧ bestK row i k < row.length) := by
  unfold bestK
  split
  · exact .inl rfl
  · split
    · unfold better
      split
      · exact .inr ⟨by omega, by omega⟩
      · exact .inl rfl
    · rcases best_of row i with h | ⟨h1, h2, _⟩
      · exact .inl h
      · exact .inr ⟨h1, h2⟩
theorem bestK_end (row : List Th) (i k : Nat) (h1 : 2 * i + 1 ≤ k) (h : 2 * i + 2 < k ∨ row.length ≤ k) : bestK row i k = bestF row i := by
  by_cases h2 : 2 * i + 2 < k
  · rw [bestK, if_neg (by omega), if_neg (by omega)]
  · have h : row.length ≤ k := by omega
    have : k = 2 * i + 1 ∨ k = 2 * i + 2 := by omega
    rcases this with rfl | rfl
    · rw [bestK_at, bestF, better, if_neg (by omega), better, if_neg (by omega)]
    · rw [bestF, better, if_neg (by omega), bestK, if_neg (by omega), if_pos (by omega)]
def thNil : List Th := []
noncomputable def env_pnew : Env where
  P := Try.prog
  ty := tys2
abbrev ann_pnew : Ann := { slots := numP 0 [.bp 7], boxes := [(7, [.slc 900 ThT, .clo 72 [], .int .i64])], inv := fun _ _ => True }
def g_pnew_vc : Prop :=
  True ∧ ((), [], (), (0 : Int), ()) = ((), thNil, (), (0 : Int), ())
theorem g_pnew_eq  : CondO (env_pnew ) Try.f71 [.fn (.func 72) [] []] [] [none] ann_pnew ((), thNil, (), (0 : Int), ()) = g_pnew_vc  := by kernel_rfl
theorem g_pnew_ok : g_pnew_vc := by
  unfold g_pnew_vc
  exact ⟨trivial, rfl⟩
set_option maxRecDepth 20000
theorem pnew_upd  : UpdC Try.prog 71 [.fn (.func 72) [] []] [] (.ptr 7 0) [(900, .arr 0 (.pair (.int .i64) (.int .i64)) []), (7, .box [.slc 900 0 none, .fn (.func 72) [] [], .int .i64 0])] :=
  by have k := UpdC.of_cond (g_pnew_eq ) (g_pnew_ok ) (specs_ok rfl [] [] rfl rfl) mixed Try.func71; exact k
noncomputable def q_pnew  : Prop × V × Store := (True, .ptr 7 0, [(900, .arr 0 (.pair (.int .i64) (.int .i64)) []), (7, .box [.slc 900 0 none, .fn (.func 72) [] [], .int .i64 0])])
noncomputable def so_pnew : OSpec Try.prog where
 f := 71
 run := fun args σ => match args, σ with
  | [.fn (.func 72) [] []], [] => some (q_pnew )
  | _, _ => none
 ok := fun args σ pre r σ' h hp => by
  try dsimp only at h
  split at h
  · skip
    exact of_qo h hp fun h => (pnew_upd ).weak (.cons (.refl _) .nil)
  · cases h
noncomputable def env_peek (row : List Th) (w : Int) : Env where
  P := Try.prog
  ty := tys2
  specs := specsOf [sp_pmade]
def g_peek_vc (row : List Th) (w : Int) : Prop :=
  True ∧ ((!true) = false → (decide ((↑row.length : Int) = (0 : Int)) = true → ((0 : Int), false, ()) = ((at0 row (0 : Nat)).1, decide ((0 : Nat) < row.length), ())) ∧ (decide ((↑row.length : Int) = (0 : Int)) = false → ((0 : Int) ≤ (0 : Int) ∧ (0 : Int) < (↑row.length : Int)) ∧ ∀ (x : Int × Int), row[Int.toNat (0 : Int)]? = some x → (x.1, true, ()) = ((at0 row (0 : Nat)).1, decide ((0 : Nat) < row.length), ()))) ∧ ((!true) = !false → ((0 : Int), false, ()) = ((at0 row (0 : Nat)).1, decide ((0 : Nat) < row.length), ()))
theorem g_peek_eq (row : List Th) (w : Int) : Cond (env_peek row w) Try.f97 [.fptr [.list .tmp ThT row, .fn (.func 72) [] [], .int .i64 w]] [.int .i64, .bool] ((at0 row 0).1, decide (0 < row.length), ()) = g_peek_vc row w := by kernel_rfl
theorem g_peek_ok (row : List Th) (w : Int) : g_peek_vc row w := by
  unfold g_peek_vc
  simp only [decide_eq_true_eq, decide_eq_false_iff_not, Bool.not_eq_true', Bool.not_eq_false', Bool.not_true, Bool.not_false]
  refine ⟨trivial, fun _ => ⟨fun h => ?_, fun h => ⟨by omega, fun x hx => ?_⟩⟩, fun h => by cases h⟩
  · have : row = [] := List.eq_nil_of_length_eq_zero (by omega)
    subst this
    rfl
  · have h0 : 0 < row.length := by omega
    have : at0 row 0 = x := by
      have hx : row[0]? = some x := hx
      simp [at0, List.getD, hx]
    rw [this, decide_eq_true h0]
theorem peek_pure (row : List Th) (w : Int) : Pure Try.prog 97 [.fptr [.list .tmp ThT row, .fn (.func 72) [] [], .int .i64 w]] (.tuple [.int .i64 (at0 row 0).1, .bool (decide (0 < row.length))]) :=
  by have k := Pure.of_cond (g_peek_eq row w) (g_peek_ok row w) (specs_ok rfl [sp_pmade] [] rfl rfl) mixed Try.func97; exact k
noncomputable def q_peek (row : List Th) (w : Int) : Prop × V := (True, (.tuple [.int .i64 (at0 row 0).1, .bool (decide (0 < row.length))]))
noncomputable def sp_peek : FSpec Try.prog where
 f := 97
 run := fun
  | [.fptr [v0_0, .fn (.func 72) [] [], .int .i64 w]] => (asL ThT v0_0 : Option (List Th)).bind fun row => some (q_peek row w)
  | _ => none
 ok := fun args pre r h hp => by
  split at h
  · rename_i v0_0 w
    obtain ⟨row, h0_0, h⟩ := Option.bind_eq_some_iff.1 h
    exact of_q h hp fun h => (peek_pure row w).weak (.cons (weak_fptr (.cons (asL_weak h0_0) (.cons (.refl _) (.cons (.refl _) .nil)))) .nil)
  · cases h
noncomputable def env_push (row : List Th) (w v : Int) : Env where
  P := Try.prog
  ty := tys2
  specs := specsOf [sp_pmade, sp_ahead]
  upd := updsOf [so_swap.upd]
  pins := [9000]
  heads := fun | 8 => some { slots := [(5, .int .i64)], boxes := [(9000, [.slc 9001 ThT, .clo 72 [], .int .i64])], drop := [14, 21, 28, 29, 42], inv := fun _ (x : Int × List Th × Unit × Int × Unit) => 0 ≤ x.1 ∧ x.1 < x.2.1.length ∧ x.2.1.length = row.length + 1 ∧ upF x.2.1 x.1.toNat = pushF row v w ∧ x.2.2.2.1 = w + 1, measure := fun _ (x : Int × List Th × Unit × Int × Unit) => x.1.toNat } | _ => none
abbrev ann_push : Ann := { slots := numP 0 [.int .i64], boxes := [(9000, [.slc 9001 ThT, .clo 72 [], .int .i64])], inv := fun _ _ => True }
def g_push_vc (row : List Th) (w : Int) (v : Int) : Prop :=
  True ∧ ((!true) = true → True ∧ ((1 : Int), row, (), w, ()) = ((0 : Int), pushF row v w, (), w + (1 : Int), ())) ∧ ((!true) = false → (decide ((20000 : Int) ≤ (↑row.length : Int)) = true → True ∧ ((3 : Int), row, (), w, ()) = ((0 : Int), pushF row v w, (), w + (1 : Int), ())) ∧ (decide ((20000 : Int) ≤ (↑row.length : Int)) = false → ((row.length + (1 : Nat)) * (16 : Nat) ≤ (140737488355328 : Nat) ∧ row.length + (1 : Nat) ≤ (4611686018427387904 : Nat)) ∧ ((-9223372036854775808 : Int) ≤ w + (1 : Int) ∧ w + (1 : Int) ≤ (9223372036854775807 : Int)) ∧ ((-9223372036854775808 : Int) ≤ (↑(row ++ [(v, w)]).length : Int) - (1 : Int) ∧ (↑(row ++ [(v, w)]).length : Int) - (1 : Int) ≤ (9223372036854775807 : Int)) ∧ (True ∧ (0 : Int) ≤ (↑(row ++ [(v, w)]).length : Int) - (1 : Int) ∧ (↑(row ++ [(v, w)]).length : Int) - (1 : Int) < (↑(row ++ [(v, w)]).length : Int) ∧ (row ++ [(v, w)]).length = row.length + (1 : Nat) ∧ upF (row ++ [(v, w)]) ((↑(row ++ [(v, w)]).length : Int) - (1 : Int)).toNat = pushF row v w ∧ w + (1 : Int) = w + (1 : Int)) ∧ ∀ (x : Int × List (Int × Int) × Unit × Int × Unit), (0 : Int) ≤ x.1 ∧ x.1 < (↑x.2.1.length : Int) ∧ x.2.1.length = row.length + (1 : Nat) ∧ upF x.2.1 x.1.toNat = pushF row v w ∧ x.2.2.2.1 = w + (1 : Int) → (decide ((0 : Int) < x.1) = true → ((-9223372036854775808 : Int) ≤ x.1 - (1 : Int) ∧ x.1 - (1 : Int) ≤ (9223372036854775807 : Int)) ∧ (2 : Int) ≠ (0 : Int) ∧ ((-9223372036854775808 : Int) ≤ (x.1 - (1 : Int)).tdiv (2 : Int) ∧ (x.1 - (1 : Int)).tdiv (2 : Int) ≤ (9223372036854775807 : Int)) ∧ (((0 : Int) ≤ x.1 ∧ x.1 < (↑x.2.1.length : Int)) ∧ (0 : Int) ≤ (x.1 - (1 : Int)).tdiv (2 : Int) ∧ (x.1 - (1 : Int)).tdiv (2 : Int) < (↑x.2.1.length : Int)) ∧ (decide (Lt (at0 x.2.1 x.1.toNat) (at0 x.2.1 ((x.1 - (1 : Int)).tdiv (2 : Int)).toNat)) = true → ((-9223372036854775808 : Int) ≤ x.1 - (1 : Int) ∧ x.1 - (1 : Int) ≤ (9223372036854775807 : Int)) ∧ (2 : Int) ≠ (0 : Int) ∧ ((-9223372036854775808 : Int) ≤ (x.1 - (1 : Int)).tdiv (2 : Int) ∧ (x.1 - (1 : Int)).tdiv (2 : Int) ≤ (9223372036854775807 : Int)) ∧ (((0 : Int) ≤ x.1 ∧ x.1 < (↑x.2.1.length : Int)) ∧ (0 : Int) ≤ (x.1 - (1 : Int)).tdiv (2 : Int) ∧ (x.1 - (1 : Int)).tdiv (2 : Int) < (↑x.2.1.length : Int)) ∧ ((-9223372036854775808 : Int) ≤ x.1 - (1 : Int) ∧ x.1 - (1 : Int) ≤ (9223372036854775807 : Int)) ∧ (2 : Int) ≠ (0 : Int) ∧ ((-9223372036854775808 : Int) ≤ (x.1 - (1 : Int)).tdiv (2 : Int) ∧ (x.1 - (1 : Int)).tdiv (2 : Int) ≤ (9223372036854775807 : Int)) ∧ True ∧ ((0 : Int) ≤ (x.1 - (1 : Int)).tdiv (2 : Int) ∧ (x.1 - (1 : Int)).tdiv (2 : Int) < (↑(swapL x.2.1 x.1.toNat ((x.1 - (1 : Int)).tdiv (2 : Int)).toNat).length : Int) ∧ (swapL x.2.1 x.1.toNat ((x.1 - (1 : Int)).tdiv (2 : Int)).toNat).length = row.length + (1 : Nat) ∧ upF (swapL x.2.1 x.1.toNat ((x.1 - (1 : Int)).tdiv (2 : Int)).toNat) ((x.1 - (1 : Int)).tdiv (2 : Int)).toNat = pushF row v w ∧ x.2.2.2.1 = w + (1 : Int)) ∧ ((x.1 - (1 : Int)).tdiv (2 : Int)).toNat < x.1.toNat) ∧ (decide (Lt (at0 x.2.1 x.1.toNat) (at0 x.2.1 ((x.1 - (1 : Int)).tdiv (2 : Int)).toNat)) = false → True ∧ ((0 : Int), x.2.1, (), x.2.2.2.1, ()) = ((0 : Int), pushF row v w, (), w + (1 : Int), ()))) ∧ (decide ((0 : Int) < x.1) = !true → True ∧ ((0 : Int), x.2.1, (), x.2.2.2.1, ()) = ((0 : Int), pushF row v w, (), w + (1 : Int), ()))))
theorem g_push_eq (row : List Th) (w v : Int) : CondO (env_push row w v) Try.f73 [.ptr 9000 0, .int .i64 v] [(9000, .box [.slc 9001 0 none, .fn (.func 72) [] [], .int .i64 w]), (9001, .arr 0 (.pair (.int .i64) (.int .i64)) row)] [none] ann_push ((0 : Int), pushF row v w, (), w + 1, ()) = g_push_vc row w v := by kernel_rfl
theorem g_push_ok (row : List Th) (w v : Int) (h : row.length < 20000 ∧ 0 ≤ w ∧ w ≤ 1000000) : g_push_vc row w v := by
  unfold g_push_vc
  simp only [decide_eq_true_eq, decide_eq_false_iff_not, Bool.not_eq_true', Bool.not_eq_false', Bool.not_true, Bool.not_false]
  have hl : (row ++ [(v, w)]).length = row.length + 1 := by simp
  refine ⟨trivial, (fun h => by cases h), fun _ => ⟨fun h1 => by omega, fun _ => ⟨by omega, by omega, by rw [hl]; omega, ⟨trivial, by rw [hl]; omega, by rw [hl]; omega, hl, ?_, trivial⟩, fun x hx => ⟨fun h1 => ?_, fun h1 => ?_⟩⟩⟩⟩
  · rw [pushF, show (((row ++ [(v, w)]).length : Int) - 1).toNat = row.length by rw [hl]; omega]
  · obtain ⟨a1, a2, a3, a4, a5⟩ := hx
    have a2' : x.1 < row.length + 1 := by rw [a3] at a2; exact_mod_cast a2
    have e1 : (x.1 - 1).tdiv 2 = (x.1 - 1) / 2 := Int.tdiv_eq_ediv_of_nonneg (by omega)
    have e2 : ((x.1 - 1).tdiv 2).toNat = (x.1.toNat - 1) / 2 := by rw [e1]; omega
    have b1 : (0 : Int) ≤ (x.1 - 1).tdiv 2 := by rw [e1]; omega
    have b2 : (x.1 - 1).tdiv 2 < x.2.1.length := by rw [e1, a3]; push_cast; omega
    have b3 : (x.1 - 1).tdiv 2 < x.1 := by rw [e1]; omega
    have u1 : (-9223372036854775808 : Int) ≤ x.1 - 1 ∧ x.1 - 1 ≤ 9223372036854775807 := by omega
    have u2 : (-9223372036854775808 : Int) ≤ (x.1 - 1).tdiv 2 ∧ (x.1 - 1).tdiv 2 ≤ 9223372036854775807 := by omega
    refine ⟨u1, by omega, u2, ⟨⟨a1, a2⟩, b1, b2⟩, fun h2 => ⟨u1, by omega, u2, ⟨⟨a1, a2⟩, b1, b2⟩, u1, by omega, u2, trivial, ⟨b1, ?_, ?_, ?_, a5⟩, by omega⟩, fun h2 => ⟨trivial, ?_⟩⟩
    · rw [swap_len]; exact b2
    · rw [swap_len]; exact a3
    · rw [← a4, e2]
      rw [e2] at h2
      conv => rhs; rw [upF, dif_pos ⟨by omega, h2⟩]
    · have : x.2.1 = pushF row v w := by
        rw [← a4, upF, dif_neg]
        rintro ⟨_, h3⟩
        rw [e2] at h2
        exact h2 h3
      rw [this, a5]
  · refine ⟨trivial, ?_⟩
    obtain ⟨a1, a2, a3, a4, a5⟩ := hx
    have : x.2.1 = pushF row v w := by
      rw [← a4, upF, dif_neg]
      rintro ⟨h3, _⟩
      omega
    rw [this, a5]
theorem push_upd (row : List Th) (w v : Int) (h : row.length < 20000 ∧ 0 ≤ w ∧ w ≤ 1000000) : UpdC Try.prog 73 [.ptr 9000 0, .int .i64 v] [(9000, .box [.slc 9001 0 none, .fn (.func 72) [] [], .int .i64 w]), (9001, .arr 0 (.pair (.int .i64) (.int .i64)) row)] (.int .i64 0) [(9001, .arr 0 (.pair (.int .i64) (.int .i64)) (pushF row v w)), (9000, .box [.slc 9001 0 none, .fn (.func 72) [] [], .int .i64 (w + 1)])] :=
  by have k := UpdC.of_cond (g_push_eq row w v) (g_push_ok row w v h) (specs_ok rfl [sp_pmade, sp_ahead] [so_swap.upd] rfl rfl) mixed Try.func73; exact k
noncomputable def q_push (row : List Th) (w v : Int) : Prop × V × Store := (row.length < 20000 ∧ 0 ≤ w ∧ w ≤ 1000000, .int .i64 0, [(9001, .arr 0 (.pair (.int .i64) (.int .i64)) (pushF row v w)), (9000, .box [.slc 9001 0 none, .fn (.func 72) [] [], .int .i64 (w + 1)])])
noncomputable def so_push : OSpec Try.prog where
 f := 73
 run := fun args σ => match args, σ with
  | [.ptr 9000 0, .int .i64 v], [(9000, .box [.slc 9001 0 none, .fn (.func 72) [] [], .int .i64 w]), (9001, .arr 0 (.pair (.int .i64) (.int .i64)) row)] => some (q_push row w v)
  | _, _ => none
 ok := fun args σ pre r σ' h hp => by
  try dsimp only at h
  split at h
  · rename_i v w row
    exact of_qo h hp fun h => (push_upd row w v h).weak (.cons (.refl _) (.cons (.refl _) .nil))
  · cases h
noncomputable def env_sink (row : List Th) (w : Int) : Env where
  P := Try.prog
  ty := tys2
  specs := specsOf [sp_ahead]
  upd := updsOf [so_swap.upd]
  pins := [9000]
  heads := fun
    | 1 => some { slots := [(2, .int .i64)], boxes := [(9000, [.slc 9001 ThT, .clo 72 [], .int .i64])], drop := [], inv := fun _ (x : Int × List Th × Unit × Int × Unit) => 0 ≤ x.1 ∧ (x.1 = 0 ∨ x.1 < x.2.1.length) ∧ x.2.1.length = row.length ∧ sinkF x.2.1 x.1.toNat = sinkF row 0 ∧ x.2.2.2.1 = w, measure := fun _ (x : Int × List Th × Unit × Int × Unit) => (x.2.1.length - x.1).toNat }
    | 3 => some { slots := [(3, .int .i64), (4, .int .i64)], boxes := [(9000, [.slc 9001 ThT, .clo 72 [], .int .i64])], drop := [], inv := fun st (x : Int × Int × List Th × Unit × Int × Unit) => x.2.2.2.2.1 = w ∧ x.2.2.1 = st.ths 9001 ∧ 2 * st.int 2 + 1 ≤ x.2.1 ∧ x.2.1 ≤ 2 * st.int 2 + 3 ∧ 0 ≤ x.1 ∧ x.1.toNat = bestK x.2.2.1 (st.int 2).toNat x.2.1.toNat, measure := fun st (x : Int × Int × List Th × Unit × Int × Unit) => (2 * st.int 2 + 3 - x.2.1).toNat }
    | _ => none
abbrev ann_sink : Ann := { slots := numP 0 [], boxes := [(9000, [.slc 9001 ThT, .clo 72 [], .int .i64])], inv := fun _ _ => True }
def g_sink_vc (row : List Th) (w : Int) : Prop :=
  (True ∧ (0 : Int) ≤ (0 : Int) ∧ ((0 : Int) = (0 : Int) ∨ (0 : Int) < (↑row.length : Int)) ∧ row.length = row.length ∧ sinkF row (Int.toNat (0 : Int)) = sinkF row (0 : Nat) ∧ w = w) ∧ ∀ (x : Int × List (Int × Int) × Unit × Int × Unit), (0 : Int) ≤ x.1 ∧ (x.1 = (0 : Int) ∨ x.1 < (↑x.2.1.length : Int)) ∧ x.2.1.length = row.length ∧ sinkF x.2.1 x.1.toNat = sinkF row (0 : Nat) ∧ x.2.2.2.1 = w → ((-9223372036854775808 : Int) ≤ (2 : Int) * x.1 ∧ (2 : Int) * x.1 ≤ (9223372036854775807 : Int)) ∧ ((-9223372036854775808 : Int) ≤ (2 : Int) * x.1 + (1 : Int) ∧ (2 : Int) * x.1 + (1 : Int) ≤ (9223372036854775807 : Int)) ∧ (True ∧ x.2.2.2.1 = w ∧ x.2.1 = x.2.1 ∧ (2 : Int) * x.1 + (1 : Int) ≤ (2 : Int) * x.1 + (1 : Int) ∧ (2 : Int) * x.1 + (1 : Int) ≤ (2 : Int) * x.1 + (3 : Int) ∧ (0 : Int) ≤ x.1 ∧ x.1.toNat = bestK x.2.1 x.1.toNat ((2 : Int) * x.1 + (1 : Int)).toNat) ∧ ∀ (x_1 : Int × Int × List (Int × Int) × Unit × Int × Unit), x_1.2.2.2.2.1 = w ∧ x_1.2.2.1 = x.2.1 ∧ (2 : Int) * x.1 + (1 : Int) ≤ x_1.2.1 ∧ x_1.2.1 ≤ (2 : Int) * x.1 + (3 : Int) ∧ (0 : Int) ≤ x_1.1 ∧ x_1.1.toNat = bestK x_1.2.2.1 x.1.toNat x_1.2.1.toNat → ((-9223372036854775808 : Int) ≤ (2 : Int) * x.1 ∧ (2 : Int) * x.1 ≤ (9223372036854775807 : Int)) ∧ ((-9223372036854775808 : Int) ≤ (2 : Int) * x.1 + (2 : Int) ∧ (2 : Int) * x.1 + (2 : Int) ≤ (9223372036854775807 : Int)) ∧ (decide (x_1.2.1 ≤ (2 : Int) * x.1 + (2 : Int)) = true → (decide (x_1.2.1 < (↑x_1.2.2.1.length : Int)) = true → (((0 : Int) ≤ x_1.2.1 ∧ x_1.2.1 < (↑x_1.2.2.1.length : Int)) ∧ (0 : Int) ≤ x_1.1 ∧ x_1.1 < (↑x_1.2.2.1.length : Int)) ∧ (decide (Lt (at0 x_1.2.2.1 x_1.2.1.toNat) (at0 x_1.2.2.1 x_1.1.toNat)) = true → ((-9223372036854775808 : Int) ≤ x_1.2.1 + (1 : Int) ∧ x_1.2.1 + (1 : Int) ≤ (9223372036854775807 : Int)) ∧ True ∧ (x_1.2.2.2.2.1 = w ∧ x_1.2.2.1 = x.2.1 ∧ (2 : Int) * x.1 + (1 : Int) ≤ x_1.2.1 + (1 : Int) ∧ x_1.2.1 + (1 : Int) ≤ (2 : Int) * x.1 + (3 : Int) ∧ (0 : Int) ≤ x_1.2.1 ∧ x_1.2.1.toNat = bestK x_1.2.2.1 x.1.toNat (x_1.2.1 + (1 : Int)).toNat) ∧ ((2 : Int) * x.1 + (3 : Int) - (x_1.2.1 + (1 : Int))).toNat < ((2 : Int) * x.1 + (3 : Int) - x_1.2.1).toNat) ∧ (decide (Lt (at0 x_1.2.2.1 x_1.2.1.toNat) (at0 x_1.2.2.1 x_1.1.toNat)) = false → ((-9223372036854775808 : Int) ≤ x_1.2.1 + (1 : Int) ∧ x_1.2.1 + (1 : Int) ≤ (9223372036854775807 : Int)) ∧ True ∧ (x_1.2.2.2.2.1 = w ∧ x_1.2.2.1 = x.2.1 ∧ (2 : Int) * x.1 + (1 : Int) ≤ x_1.2.1 + (1 : Int) ∧ x_1.2.1 + (1 : Int) ≤ (2 : Int) * x.1 + (3 : Int) ∧ (0 : Int) ≤ x_1.1 ∧ x_1.1.toNat = bestK x_1.2.2.1 x.1.toNat (x_1.2.1 + (1 : Int)).toNat) ∧ ((2 : Int) * x.1 + (3 : Int) - (x_1.2.1 + (1 : Int))).toNat < ((2 : Int) * x.1 + (3 : Int) - x_1.2.1).toNat)) ∧ (decide (x_1.2.1 < (↑x_1.2.2.1.length : Int)) = false → (decide (x_1.1 = x.1) = true → True ∧ (x_1.2.2.1, (), x_1.2.2.2.2.1, ()) = (sinkF row (0 : Nat), (), w, ())) ∧ (decide (x_1.1 = x.1) = false → (((0 : Int) ≤ x.1 ∧ x.1 < (↑x_1.2.2.1.length : Int)) ∧ (0 : Int) ≤ x_1.1 ∧ x_1.1 < (↑x_1.2.2.1.length : Int)) ∧ True ∧ ((0 : Int) ≤ x_1.1 ∧ (x_1.1 = (0 : Int) ∨ x_1.1 < (↑(swapL x_1.2.2.1 x.1.toNat x_1.1.toNat).length : Int)) ∧ (swapL x_1.2.2.1 x.1.toNat x_1.1.toNat).length = row.length ∧ sinkF (swapL x_1.2.2.1 x.1.toNat x_1.1.toNat) x_1.1.toNat = sinkF row (0 : Nat) ∧ x_1.2.2.2.2.1 = w) ∧ ((↑(swapL x_1.2.2.1 x.1.toNat x_1.1.toNat).length : Int) - x_1.1).toNat < ((↑x.2.1.length : Int) - x.1).toNat))) ∧ (decide (x_1.2.1 ≤ (2 : Int) * x.1 + (2 : Int)) = !true → (decide (x_1.1 = x.1) = true → True ∧ (x_1.2.2.1, (), x_1.2.2.2.2.1, ()) = (sinkF row (0 : Nat), (), w, ())) ∧ (decide (x_1.1 = x.1) = false → (((0 : Int) ≤ x.1 ∧ x.1 < (↑x_1.2.2.1.length : Int)) ∧ (0 : Int) ≤ x_1.1 ∧ x_1.1 < (↑x_1.2.2.1.length : Int)) ∧ True ∧ ((0 : Int) ≤ x_1.1 ∧ (x_1.1 = (0 : Int) ∨ x_1.1 < (↑(swapL x_1.2.2.1 x.1.toNat x_1.1.toNat).length : Int)) ∧ (swapL x_1.2.2.1 x.1.toNat x_1.1.toNat).length = row.length ∧ sinkF (swapL x_1.2.2.1 x.1.toNat x_1.1.toNat) x_1.1.toNat = sinkF row (0 : Nat) ∧ x_1.2.2.2.2.1 = w) ∧ ((↑(swapL x_1.2.2.1 x.1.toNat x_1.1.toNat).length : Int) - x_1.1).toNat < ((↑x.2.1.length : Int) - x.1).toNat))
theorem g_sink_eq (row : List Th) (w : Int) : CondO (env_sink row w) Try.f98 [.ptr 9000 0] [(9000, .box [.slc 9001 0 none, .fn (.func 72) [] [], .int .i64 w]), (9001, .arr 0 (.pair (.int .i64) (.int .i64)) row)] [] ann_sink (sinkF row 0, (), w, ()) = g_sink_vc row w := by kernel_rfl
theorem g_sink_ok (row : List Th) (w : Int) (h : row.length < 20001 ∧ 0 ≤ w ∧ w ≤ 1000000) : g_sink_vc row w := by
  unfold g_sink_vc
  simp only [decide_eq_true_eq, decide_eq_false_iff_not, Bool.not_eq_true', Bool.not_eq_false', Bool.not_true, Bool.not_false]
  refine ⟨⟨trivial, by omega, .inl trivial, trivial, rfl, trivial⟩, fun x ⟨a1, a2, a3, a4, a5⟩ => ?_⟩
  have hx0 : x.1 < 20001 := by
    rcases a2 with a2 | a2
    · omega
    · rw [a3] at a2; omega
  refine ⟨by omega, by omega, ⟨trivial, a5, trivial, by omega, by omega, a1, ?_⟩, fun y ⟨b1, b2, b3, b4, b5, b6⟩ => ⟨by omega, by omega, ?_⟩⟩
  · rw [show (2 * x.1 + 1).toNat = 2 * x.1.toNat + 1 by omega, bestK_at]
  rw [b2] at b6 ⊢
  have hin := bestK_in x.2.1 x.1.toNat y.2.1.toNat
  rw [← b6] at hin
  have fin : (2 * x.1.toNat + 2 < y.2.1.toNat ∨ x.2.1.length ≤ y.2.1.toNat) → (y.1 = x.1 → True ∧ (x.2.1, (), y.2.2.2.2.1, ()) = (sinkF row 0, (), w, ())) ∧ (¬y.1 = x.1 → ((0 ≤ x.1 ∧ x.1 < (x.2.1.length : Int)) ∧ 0 ≤ y.1 ∧ y.1 < (x.2.1.length : Int)) ∧ True ∧ (0 ≤ y.1 ∧ (y.1 = 0 ∨ y.1 < ((swapL x.2.1 x.1.toNat y.1.toNat).length : Int)) ∧ (swapL x.2.1 x.1.toNat y.1.toNat).length = row.length ∧ sinkF (swapL x.2.1 x.1.toNat y.1.toNat) y.1.toNat = sinkF row 0 ∧ y.2.2.2.2.1 = w) ∧ (((swapL x.2.1 x.1.toNat y.1.toNat).length : Int) - y.1).toNat < ((x.2.1.length : Int) - x.1).toNat) := fun he => by
    have hb : y.1.toNat = bestF x.2.1 x.1.toNat := by rw [b6, bestK_end _ _ _ (by omega) he]
    refine ⟨fun h1 => ⟨trivial, ?_⟩, fun h1 => ?_⟩
    · have : x.2.1 = sinkF row 0 := by
        rw [← a4, sinkF, dif_pos (by rw [← hb, h1])]
      rw [← this, b1]
    · have hlt : x.1.toNat < y.1.toNat ∧ y.1.toNat < x.2.1.length := by
        rcases hin with h | h
        · omega
        · exact h
      have hsl := swap_len x.2.1 x.1.toNat y.1.toNat
      refine ⟨by omega, trivial, ⟨b5, .inr (by omega), by omega, ?_, b1⟩, by omega⟩
      rw [← a4]
      conv => rhs; rw [sinkF, dif_neg (by rw [← hb]; omega)]
      rw [← hb]
  refine ⟨fun h1 => ⟨fun h2 => ⟨⟨by omega, by omega⟩, fun h3 => ⟨by omega, trivial, ⟨b1, rfl, by omega, by omega, by omega, ?_⟩, by omega⟩, fun h3 => ⟨by omega, trivial, ⟨b1, rfl, by omega, by omega, by omega, ?_⟩, by omega⟩⟩, fun h2 => fin (.inr (by omega))⟩, fun h1 => fin (.inl (by omega))⟩
  · rw [show (y.2.1 + 1).toNat = y.2.1.toNat + 1 by omega, bestK_next _ _ _ (by omega) (by omega), ← b6, better, if_pos ⟨by omega, h3⟩]
  · rw [show (y.2.1 + 1).toNat = y.2.1.toNat + 1 by omega, bestK_next _ _ _ (by omega) (by omega), ← b6, better, if_neg (fun h => h3 h.2)]
theorem sink_upd (row : List Th) (w : Int) (h : row.length < 20001 ∧ 0 ≤ w ∧ w ≤ 1000000) : UpdC Try.prog 98 [.ptr 9000 0] [(9000, .box [.slc 9001 0 none, .fn (.func 72) [] [], .int .i64 w]), (9001, .arr 0 (.pair (.int .i64) (.int .i64)) row)] (.tuple []) [(9001, .arr 0 (.pair (.int .i64) (.int .i64)) (sinkF row 0)), (9000, .box [.slc 9001 0 none, .fn (.func 72) [] [], .int .i64 w])] :=
  by have k := UpdC.of_cond (g_sink_eq row w) (g_sink_ok row w h) (specs_ok rfl [sp_ahead] [so_swap.upd] rfl rfl) mixed Try.func98; exact k
noncomputable def q_sink (row : List Th) (w : Int) : Prop × V × Store := (row.length < 20001 ∧ 0 ≤ w ∧ w ≤ 1000000, .tuple [], [(9001, .arr 0 (.pair (.int .i64) (.int .i64)) (sinkF row 0)), (9000, .box [.slc 9001 0 none, .fn (.func 72) [] [], .int .i64 w])])
noncomputable def so_sink : OSpec Try.prog where
 f := 98
 run := fun args σ => match args, σ with
  | [.ptr 9000 0], [(9000, .box [.slc 9001 0 none, .fn (.func 72) [] [], .int .i64 w]), (9001, .arr 0 (.pair (.int .i64) (.int .i64)) row)] => some (q_sink row w)
  | _, _ => none
 ok := fun args σ pre r σ' h hp => by
  try dsimp only at h
  split at h
  · rename_i w row
    exact of_qo h hp fun h => (sink_upd row w h).weak (.cons (.refl _) .nil)
  · cases h
theorem popF_nil : popF [] = [] := by
  unfold popF
  rw [sinkF, dif_pos]
  · rfl
  · rfl
noncomputable def env_pop (row : List Th) (w : Int) : Env where
  P := Try.prog
  ty := tys2
  specs := specsOf [sp_peek]
  upd := updsOf [so_sink.upd]
  pins := [9000]
  recut := fun | 39 => true | _ => false
abbrev ann_pop : Ann := { slots := numP 0 [.int .i64, .bool], boxes := [(9000, [.slc 9001 ThT, .clo 72 [], .int .i64])], inv := fun _ _ => True }
def g_pop_vc (row : List Th) (w : Int) : Prop :=
  True ∧ ((!decide ((0 : Nat) < row.length)) = true → True ∧ ((at0 row (0 : Nat)).1, false, row, (), w, ()) = ((at0 row (0 : Nat)).1, decide ((0 : Nat) < row.length), popF row, (), w, ())) ∧ ((!decide ((0 : Nat) < row.length)) = false → ((-9223372036854775808 : Int) ≤ (↑row.length : Int) - (1 : Int) ∧ (↑row.length : Int) - (1 : Int) ≤ (9223372036854775807 : Int)) ∧ ((0 : Int) ≤ (↑row.length : Int) - (1 : Int) ∧ (↑row.length : Int) - (1 : Int) < (↑row.length : Int)) ∧ ((↑row.length : Int) - (1 : Int)).toNat < row.length ∧ ∀ (x : Int × Int), row[((↑row.length : Int) - (1 : Int)).toNat]? = some x → ((0 : Int) ≤ (0 : Int) ∧ (0 : Int) < (↑row.length : Int)) ∧ Int.toNat (0 : Int) < row.length ∧ ∀ (y : Int × Int), row[Int.toNat (0 : Int)]? = some y → ((0 : Int) ≤ (↑row.length : Int) - (1 : Int) ∧ (↑row.length : Int) - (1 : Int) ≤ (↑(row.set (Int.toNat (0 : Int)) (x.1, x.2)).length : Int)) ∧ ((List.take ((↑row.length : Int) - (1 : Int)).toNat (List.drop (0 : Nat) (row.set (Int.toNat (0 : Int)) (x.1, x.2)))).length < (20001 : Nat) ∧ (0 : Int) ≤ w ∧ w ≤ (1000000 : Int)) ∧ True ∧ ((at0 row (0 : Nat)).1, true, sinkF (List.take ((↑row.length : Int) - (1 : Int)).toNat (List.drop (0 : Nat) (row.set (Int.toNat (0 : Int)) (x.1, x.2)))) (0 : Nat), (), w, ()) = ((at0 row (0 : Nat)).1, decide ((0 : Nat) < row.length), popF row, (), w, ()))
theorem g_pop_eq (row : List Th) (w : Int) : CondO (env_pop row w) Try.f74 [.ptr 9000 0] [(9000, .box [.slc 9001 0 none, .fn (.func 72) [] [], .int .i64 w]), (9001, .arr 0 (.pair (.int .i64) (.int .i64)) row)] [none, none] ann_pop ((at0 row 0).1, decide (0 < row.length), popF row, (), w, ()) = g_pop_vc row w := by kernel_rfl
theorem g_pop_ok (row : List Th) (w : Int) (h : row.length < 20001 ∧ 0 ≤ w ∧ w ≤ 1000000) : g_pop_vc row w := by
  unfold g_pop_vc
  simp only [decide_eq_true_eq, decide_eq_false_iff_not, Bool.not_eq_true', Bool.not_eq_false', Bool.not_true, Bool.not_false]
  refine ⟨trivial, fun h0 => ⟨trivial, ?_⟩, fun h0 => ⟨by omega, by omega, by omega, fun x hx => ⟨by omega, h0, fun y hy => ⟨by simp only [List.length_set]; omega, ⟨?_, h.2⟩, trivial, ?_⟩⟩⟩⟩
  · have : row = [] := List.eq_nil_of_length_eq_zero (by omega)
    subst this
    rw [popF_nil]
    rfl
  · rw [List.length_take]
    omega
  · have e : ((row.length : Int) - 1).toNat = row.length - 1 := by omega
    rw [e] at hx
    have e2 : at0 row (row.length - 1) = x := by simp [at0, List.getD, hx]
    rw [decide_eq_true h0, popF, e2, e]
    rfl
theorem pop_upd (row : List Th) (w : Int) (h : row.length < 20001 ∧ 0 ≤ w ∧ w ≤ 1000000) : UpdC Try.prog 74 [.ptr 9000 0] [(9000, .box [.slc 9001 0 none, .fn (.func 72) [] [], .int .i64 w]), (9001, .arr 0 (.pair (.int .i64) (.int .i64)) row)] (.tuple [.int .i64 (at0 row 0).1, .bool (decide (0 < row.length))]) [(9001, .arr 0 (.pair (.int .i64) (.int .i64)) (popF row)), (9000, .box [.slc 9001 0 none, .fn (.func 72) [] [], .int .i64 w])] :=
  by have k := UpdC.of_cond (g_pop_eq row w) (g_pop_ok row w h) (specs_ok rfl [sp_peek] [so_sink.upd] rfl rfl) mixed Try.func74; exact k
noncomputable def q_pop (row : List Th) (w : Int) : Prop × V × Store := (row.length < 20001 ∧ 0 ≤ w ∧ w ≤ 1000000, .tuple [.int .i64 (at0 row 0).1, .bool (decide (0 < row.length))], [(9001, .arr 0 (.pair (.int .i64) (.int .i64)) (popF row)), (9000, .box [.slc 9001 0 none, .fn (.func 72) [] [], .int .i64 w])])
noncomputable def so_pop : OSpec Try.prog where
 f := 74
 run := fun args σ => match args, σ with
  | [.ptr 9000 0], [(9000, .box [.slc 9001 0 none, .fn (.func 72) [] [], .int .i64 w]), (9001, .arr 0 (.pair (.int .i64) (.int .i64)) row)] => some (q_pop row w)
  | _, _ => none
 ok := fun args σ pre r σ' h hp => by
  try dsimp only at h
  split at h
  · rename_i w row
    exact of_qo h hp fun h => (pop_upd row w h).weak (.cons (.refl _) .nil)
  · cases h
end Go.Proofs.Ytojflfogjkajaaa.Od
end
section
namespace Go.Proofs.Ytojflfogjkajaaa.Od
open Go Go.RowKit Go.Shelf Go.Proofs
open Go.Vm Go.Proofs.Ytojflfogjkajaaa.Gr Go.Proofs.Ytojflfogjkajaaa.Rc
noncomputable def env_values (l : List Int) : Env where
  P := Try.prog
  ty := tys0
abbrev ann_values : Ann := { slots := numP 0 [.clo 103 [1]], boxes := [(1, [.list .tmp I])], inv := fun _ _ => True }
def g_values_vc (l : List Int) : Prop :=
  True ∧ ((), l, ()) = ((), l, ())
theorem g_values_eq (l : List Int) : CondO (env_values l) Try.f91 [.list .tmp (.int .i64) l] [] [none] ann_values ((), l, ()) = g_values_vc l := by kernel_rfl
theorem g_values_ok (l : List Int) : g_values_vc l := by
  unfold g_values_vc
  exact ⟨trivial, rfl⟩
set_option maxRecDepth 20000
theorem values_upd (l : List Int) : UpdC Try.prog 91 [.list .tmp (.int .i64) l] [] (.fn (.func 103) [] [.ptr 1 0]) [(1, .box [.list .tmp (.int .i64) l])] :=
  by have k := UpdC.of_cond (g_values_eq l) (g_values_ok l) (specs_ok rfl [] [] rfl rfl) mixed Try.func91; exact k
noncomputable def q_values (l : List Int) : Prop × V × Store := (True, .fn (.func 103) [] [.ptr 1 0], [(1, .box [.list .tmp (.int .i64) l])])
noncomputable def so_values : OSpec Try.prog where
 f := 91
 run := fun args σ => match args, σ with
  | [v0], [] => (asL (.int .i64) v0 : Option (List Int)).bind fun l => some (q_values l)
  | _, _ => none
 ok := fun args σ pre r σ' h hp => by
  try dsimp only at h
  split at h
  · rename_i v0
    obtain ⟨l, h0, h⟩ := Option.bind_eq_some_iff.1 h
    exact of_qo h hp fun h => (values_upd l).weak (.cons (asL_weak h0) .nil)
  · cases h
theorem sorted_upd (l : List Int) (hl : l.length ≤ 1000000000) : UpdC Try.prog 59 [.fn (.func 103) [] [.ptr 9000 0]] [(9000, .box [.list .tmp (.int .i64) l])] (.slc 9001 0 none) [(9001, .arr 0 (.int .i64) (sortF l)), (9000, .box [.list .tmp (.int .i64) l])] := by
  intro B F w μ vs hF hI hB hr
  obtain ⟨u1, r1, rfl, a1, hr⟩ := hr.cons_inv
  obtain rfl := hr.nil_inv
  obtain ⟨xs, ys, rfl, b1, b2⟩ := a1.fn_inv
  have hxs : xs = #[] := Array.eq_empty_of_size_eq_zero (by simpa using b1.1)
  subst hxs
  obtain ⟨p, q, e, c1, c2⟩ := b2.cons_inv
  have hq := c2.nil_inv
  subst hq
  have hys : ys = #[p] := Array.toList_inj.1 (by simpa using e)
  subst hys
  obtain ⟨cells, bb, base, C, rfl, hg, hm⟩ := c1.ptr_inv
  have hg' : (Store.get [(9000, Obj.box [.list .tmp (.int .i64) l])] 9000) = some (.box cells) := hg
  simp only [Store.get, if_true] at hg'
  cases hg'
  obtain ⟨b2, cs, ty, k1, k2, k3⟩ := hI.objs 9000 _ hg
  rw [hm] at k1
  cases k1
  obtain ⟨u, us, e1, k4, k5⟩ := k3.cons_inv
  have hus := k5.nil_inv
  subst hus
  have hcs : cs = #[u] := Array.toList_inj.1 (by simpa using e1)
  subst hcs
  obtain ⟨A, cap, rfl, hS, _⟩ := k4.list_inv
  have hCA : CAt w.heap.size w (.slice A l.length cap) l := ⟨A, cap, rfl, fun h0 => by
    obtain ⟨_, _, hc⟩ := hS
    obtain ⟨g, o, rfl, hH, hi⟩ := hc h0
    refine ⟨g, o, rfl, hH.1.1.1, fun j hj => ?_⟩
    obtain ⟨row, r1, r2⟩ := hi j _ (getD_at hj)
    have r1 : row = [.int .i64 (l.getD j 0)] := r1
    subst r1
    have := r2 0 _ rfl
    simpa [Ty.cells] using this⟩
  have hbl : bb < w.heap.size := (Array.getElem?_eq_some_iff.1 k2).1
  have hcell : w.cell? ⟨bb, 0, none⟩ = some (.slice A l.length cap) := by
    simp [World.cell?, k2]
    rfl
  refine (callsIn_wide.1 (sortedv_in 20 (by omega) bb w.heap.size _ l hl w hbl (Nat.le_refl _) hcell hCA)).mono ?_
  rintro e w' ⟨v, rfl, hrow, hb⟩
  have hlen : (sortF l).length = l.length := List.length_mergeSort _
  refine ⟨v, rfl, ?_⟩
  suffices key0 : ∃ p' : Option (Nat × Nat × Nat), (∀ q, p' = some q → w.heap.size ≤ q.1) ∧
      (Evo ⟨w, [(9000, .box [.list .tmp (.int .i64) l])], μ, F⟩ ⟨w', [(9001, .arr 0 (.int .i64) (sortF l)), (9000, .box [.list .tmp (.int .i64) l])], fun i => if i = 9001 then p' else μ i, F⟩ → ObjOk ⟨w', [(9001, .arr 0 (.int .i64) (sortF l)), (9000, .box [.list .tmp (.int .i64) l])], fun i => if i = 9001 then p' else μ i, F⟩ 9001 (.arr 0 (.int .i64) (sortF l))) ∧
      Rep ⟨w', [(9001, .arr 0 (.int .i64) (sortF l)), (9000, .box [.list .tmp (.int .i64) l])], fun i => if i = 9001 then p' else μ i, F⟩ (.slc 9001 0 none) v by
    obtain ⟨p', hp, hok, hv⟩ := key0
    have key := new_evo hI hB (id := 9001) rfl (o' := .arr 0 (.int .i64) (sortF l)) (p' := p') (w' := w') hb.os hb.tape hb.output hb.size (fun b hb' => hb.block b hb') hp hok
    exact ⟨_, key.2, hv, ⟨key.1.os, key.1.tape, key.1.output, key.1.size, key.1.outer, key.1.still⟩, fun c cells hg => key.1.box c cells hg, fun c k d hg => key.1.opq c k d hg⟩
  rcases hrow.2 with ⟨rfl, hz⟩ | ⟨g, cap', cur, rfl, hbase, hgb, r1, r2, r3, r4⟩
  · have hnil : sortF l = [] := List.eq_nil_of_length_eq_zero (by omega)
    refine ⟨none, (fun q hq => by cases hq), (fun _ => .inl ⟨by simp, by rw [hnil]; rfl⟩), (.slc (ep' := 0) (t := .int .i64) (l := sortF l) (by simp [get_cons]) (Nat.le_refl _) fun _ => ?_)⟩
    simp only [if_true]
    have e : List.length (α := Int) (sortF l) = 0 := by omega
    exact ⟨rfl, rfl, e⟩
  · have hcells : ∀ (i : Nat) x, (sortF l)[i]? = some x → cur[i]? = some (.int .i64 x) := fun i x hx => by
      have hi := (List.getElem?_eq_some_iff.1 hx).1
      have h1 : (cur.toList.take (l.length * 1))[i]? = some (.int .i64 x) := by
        rw [r4, List.getElem?_map]
        show Option.map _ ((sortF l)[i]?) = _
        rw [hx]
        rfl
      rw [List.getElem?_take, if_pos (by omega)] at h1
      simpa using h1
    refine ⟨some (g, 0, cap'), (fun q hq => by cases hq; exact hbase), (fun hE => .inr ⟨g, 0, cap', cur, 3, by simp, hgb, by simp [Ty.cells, r3], (by show List.length (α := Int) (sortF l) ≤ cap'; omega), ⟨r2, fun e => by cases e⟩, fun i x hx => ⟨[.int .i64 x], rfl, fun j u hu => ?_⟩⟩), (.slc (ep' := 0) (t := .int .i64) (l := sortF l) (by simp [get_cons]) (Nat.le_refl _) fun _ => ?_)⟩
    · cases j with
      | zero =>
        cases hu
        simpa [Ty.cells] using hcells i x hx
      | succ j => simp at hu
    · simp only [if_true]
      exact ⟨hlen.symm, rfl, (by show List.length (α := Int) (sortF l) ≤ cap'; omega), _, rfl, fun _ => rfl⟩
noncomputable def so_sorted : OSpec Try.prog where
  f := 59
  run := fun
    | [.fn (.func 103) [] [.ptr 9000 0]], [(9000, .box [.list .tmp (.int .i64) l])] => some (List.length (α := Int) l ≤ 1000000000, .slc 9001 0 none, [(9001, .arr 0 (.int .i64) (sortF l)), (9000, .box [.list .tmp (.int .i64) l])])
    | _, _ => none
  ok := fun args σ pre r σ' h hp => by
    split at h
    · cases h
      exact sorted_upd _ hp
    · cases h
def sp_compact : UFSpec Try.prog := compactSpec 92 ⟨fun blk off cap zs w h1 h2 h3 => Any.slices_Compact_int Try.laysNm220 blk off cap zs w h1 h2 h3, Try.slices_Compact_int_empty⟩
theorem rises_up : ∀ {l : List Int}, Rises l → Up l := fun h => h
theorem compact_rise (l : List Int) : Lib.compact (sortF l) = riseF l := by
  rw [compact_sort]
  refine up_ext (rises_up (rises_fold (m := l) (l := []) List.Pairwise.nil)) (rise_up l) fun x => ?_
  rw [mem_fold, mem_rise]
  simp
end Go.Proofs.Ytojflfogjkajaaa.Od
end
section
namespace Go.Proofs.Ytojflfogjkajaaa.Od
open Go.Vm Go.Proofs.Ytojflfogjkajaaa.Gr Go.Proofs.Ytojflfogjkajaaa.Rc
def mkM (all : List Int) (f : Int → Int) : List (Int × Int) := all.map fun v => (v, f v)
theorem mkM_len (all : List Int) (f : Int → Int) : (mkM all f).length = all.length := by simp [mkM]
theorem mkM_congr {all : List Int} {f g : Int → Int} (h : ∀ v ∈ all, f v = g v) : mkM all f = mkM all g := List.map_congr_left fun v hv => by rw [h v hv]
theorem mHas_mk (all : List Int) (f : Int → Int) (u : Int) : mHas (mkM all f) u = all.contains u := by
  rw [Bool.eq_iff_iff, List.contains_iff_mem]
  simp [mHas, mkM]
theorem mGet_mk (all : List Int) (f : Int → Int) (u : Int) : mGet (mkM all f) u = if u ∈ all then f u else 0 := by
  unfold mGet mkM
  induction all with
  | nil => simp
  | cons a l ih =>
    rw [List.map_cons, List.find?_cons]
    by_cases e : a = u
    · subst e
      simp
    · have e2 : ¬ u = a := fun h => e h.symm
      simp only [e, decide_false, List.mem_cons, e2, false_or]
      exact ih
theorem mIns_split : ∀ {M : List (Int × Int)} {x : Int × Int}, M.Pairwise (fun a b => a.1 < b.1) → (∀ p ∈ M, p.1 ≠ x.1) → mIns x M = M.filter (fun p => decide (p.1 < x.1)) ++ x :: M.filter (fun p => decide (x.1 < p.1))
  | [], x, _, _ => rfl
  | y :: r, x, h, hn => by
    obtain ⟨h1, h2⟩ := List.pairwise_cons.1 h
    have hy := hn y List.mem_cons_self
    unfold mIns
    rw [List.filter_cons, List.filter_cons]
    split
    · rename_i hlt
      rw [if_neg (by simp; omega), if_pos (by simpa using hlt)]
      have e1 : r.filter (fun p => decide (p.1 < x.1)) = [] := List.filter_eq_nil_iff.2 fun p hp => by
        have := h1 p hp
        simp
        omega
      have e2 : r.filter (fun p => decide (x.1 < p.1)) = r := List.filter_eq_self.2 fun p hp => by
        have := h1 p hp
        simp
        omega
      rw [e1, e2]
      rfl
    · rename_i hlt
      rw [if_pos (by simp; omega), if_neg (by simpa using hlt), mIns_split h2 fun p hp => hn p (List.mem_cons_of_mem _ hp)]
      rfl
theorem mPut_mk {all : List Int} (hu : Up all) (f : Int → Int) (v c : Int) : mPut (mkM all f) v c = mkM (insU all v) fun u => if u = v then c else f u := by
  have h1 : ((mkM all f).filter fun p => !decide (p.1 = v)) = mkM (all.filter fun u => !decide (u = v)) f := by
    unfold mkM
    rw [List.filter_map]
    rfl
  have h2 : (mkM (all.filter fun u => !decide (u = v)) f).Pairwise (fun a b => a.1 < b.1) := by
    unfold mkM
    rw [List.pairwise_map]
    exact hu.filter _
  unfold mPut
  rw [h1, mIns_split h2 (fun p hp => by
    obtain ⟨u, hu, rfl⟩ := List.mem_map.1 hp
    have := (List.mem_filter.1 hu).2
    simpa using this)]
  unfold mkM insU
  rw [List.filter_map, List.filter_map, List.filter_filter, List.filter_filter, List.map_append, List.map_cons]
  dsimp only
  rw [if_pos rfl]
  congr 1
  · refine (congrArg _ (List.filter_congr (q := fun x => decide (x < v)) fun x _ => ?_)).trans (List.map_congr_left fun x hx => ?_)
    · show (decide (x < v) && !decide (x = v)) = decide (x < v)
      by_cases hx : x < v
      · simp [hx]; omega
      · simp [hx]
    · have := (List.mem_filter.1 hx).2
      rw [if_neg (by simp at this; omega)]
  · congr 1
    refine (congrArg _ (List.filter_congr (q := fun x => decide (v < x)) fun x _ => ?_)).trans (List.map_congr_left fun x hx => ?_)
    · show (decide (v < x) && !decide (x = v)) = decide (v < x)
      by_cases hx : v < x
      · simp [hx]; omega
      · simp [hx]
    · have := (List.mem_filter.1 hx).2
      rw [if_neg (by simp at this; omega)]
theorem insU_in {all : List Int} (hu : Up all) {v : Int} (hv : v ∈ all) : insU all v = all := up_ext (insU_up hu v) hu fun x => by
  rw [mem_insU]
  exact ⟨fun h => h.elim (fun e => e ▸ hv) id, .inr⟩
theorem mPut_in {all : List Int} (hu : Up all) (f : Int → Int) {v : Int} (hv : v ∈ all) (c : Int) : mPut (mkM all f) v c = mkM all fun u => if u = v then c else f u := by rw [mPut_mk hu, insU_in hu hv]
def Srt (W : List (Int × Int)) : Prop := W.Pairwise fun a b => a.1 < b.1
theorem srt_mk {W : List (Int × Int)} (h : Srt W) : W = mkM (W.map (·.1)) (mGet W) ∧ Up (W.map (·.1)) := by
  refine ⟨?_, by unfold Up; rw [List.pairwise_map]; exact h⟩
  have key : ∀ (M : List (Int × Int)), Srt M → ∀ p ∈ M, mGet M p.1 = p.2 := by
    intro M
    induction M with
    | nil => intro _ p hp; simp at hp
    | cons y r ih =>
      intro hM p hp
      obtain ⟨h1, h2⟩ := List.pairwise_cons.1 hM
      unfold mGet
      rw [List.find?_cons]
      rcases List.mem_cons.1 hp with rfl | hp
      · simp
      · have := h1 p hp
        have e : decide (y.1 = p.1) = false := decide_eq_false (by omega)
        rw [e]
        exact ih h2 p hp
  unfold mkM
  rw [List.map_map]
  have : W.map (fun p => p) = W.map ((fun v => (v, mGet W v)) ∘ fun p => p.1) := List.map_congr_left fun p hp => by
    show p = (p.1, mGet W p.1)
    rw [key W h p hp]
  rwa [List.map_id'] at this
theorem mkM_srt {all : List Int} (h : Up all) (f : Int → Int) : Srt (mkM all f) := by
  unfold Srt mkM
  rw [List.pairwise_map]
  exact h
def takeW (l : List Int) (W : List (Int × Int)) : List (Int × Int) := W.map fun p => (p.1, p.2 - if l.contains p.1 then 1 else 0)
def takeR (l : List Int) (W : List (Int × Int)) : List Int := l.filter fun u => mHas W u && decide (mGet W u = 1)
theorem takeW_mk (l all : List Int) (f : Int → Int) : takeW l (mkM all f) = mkM all fun u => f u - if l.contains u then 1 else 0 := by
  unfold takeW mkM
  rw [List.map_map]
  rfl
theorem takeW_len (l : List Int) (W : List (Int × Int)) : (takeW l W).length = W.length := by simp [takeW]
theorem takeW_nil (W : List (Int × Int)) : takeW [] W = W := by
  unfold takeW
  have : W.map (fun p => (p.1, p.2 - if ([] : List Int).contains p.1 = true then 1 else 0)) = W.map id := List.map_congr_left fun p _ => by simp
  rw [this, List.map_id]
theorem mHas_take (l : List Int) (W : List (Int × Int)) (u : Int) : mHas (takeW l W) u = mHas W u := by
  unfold mHas takeW
  rw [List.any_map]
  rfl
theorem mGet_take {W : List (Int × Int)} (hW : Srt W) {l : List Int} {u : Int} (hu : mHas W u = true) (hl : u ∉ l) : mGet (takeW l W) u = mGet W u := by
  obtain ⟨h1, h2⟩ := srt_mk hW
  generalize W.map (·.1) = all at h1 h2
  generalize mGet W = f at h1 ⊢
  subst h1
  rw [mHas_mk] at hu
  rw [takeW_mk, mGet_mk, if_pos (List.contains_iff_mem.1 hu), if_neg (by simpa using hl), Int.sub_zero]
theorem put_take {W : List (Int × Int)} (hW : Srt W) {l : List Int} {u : Int} (hu : mHas W u = true) (hl : u ∉ l) : mPut (takeW l W) u (mGet W u - 1) = takeW (l ++ [u]) W := by
  obtain ⟨h1, h2⟩ := srt_mk hW
  generalize W.map (·.1) = all at h1 h2
  generalize hf : mGet W = f at h1 ⊢
  subst h1
  rw [mHas_mk] at hu
  rw [takeW_mk, takeW_mk, mPut_in h2 _ (List.contains_iff_mem.1 hu)]
  refine mkM_congr fun v _ => ?_
  by_cases e : v = u
  · subst e
    rw [if_pos rfl, if_pos (by simp)]
  · rw [if_neg e]
    have : (l ++ [u]).contains v = l.contains v := by
      rw [Bool.eq_iff_iff, List.contains_iff_mem, List.contains_iff_mem, List.mem_append, List.mem_singleton]
      exact ⟨fun h => h.resolve_right e, .inl⟩
    rw [this]
theorem take_miss {W : List (Int × Int)} {l : List Int} {u : Int} (hu : mHas W u = false) : takeW (l ++ [u]) W = takeW l W := by
  unfold takeW
  apply List.map_congr_left
  intro p hp
  have e : ¬ p.1 = u := fun e => by
    have : mHas W u = true := List.any_eq_true.2 ⟨p, hp, by simpa using e⟩
    rw [this] at hu
    cases hu
  have : (l ++ [u]).contains p.1 = l.contains p.1 := by
    rw [Bool.eq_iff_iff, List.contains_iff_mem, List.contains_iff_mem, List.mem_append, List.mem_singleton]
    exact ⟨fun h => h.resolve_right e, .inl⟩
  rw [this]
theorem rds_up {R : GI} (h : GOk R) (v : Int) : Up (rdsF R v) := by
  rw [rds_eq h]
  exact ixs_up _ _
theorem rds_in {R : GI} (h : GOk R) {v x : Int} (hx : x ∈ rdsF R v) : Dom R.length x := by
  rw [rds_eq h] at hx
  exact (mem_ixs.1 hx).1
theorem Up.nodup {l : List Int} (h : Up l) : l.Nodup := h.imp fun h => by omega
theorem takeR_len (l : List Int) (W : List (Int × Int)) : (takeR l W).length ≤ l.length := List.length_filter_le _ _
theorem takeR_snoc (l : List Int) (u : Int) (W : List (Int × Int)) : takeR (l ++ [u]) W = takeR l W ++ if mHas W u && decide (mGet W u = 1) then [u] else [] := by
  unfold takeR
  rw [List.filter_append, List.filter_cons]
  rfl
def MOk (W : List (Int × Int)) : Prop := Srt W ∧ W.length ≤ 1000000 ∧ ∀ u, 0 ≤ mGet W u ∧ mGet W u ≤ 1000000
noncomputable def env_take (R : GI) (W : List (Int × Int)) (left v : Int) : Env where
  P := Try.prog
  ty := tys0
  specs := specsOf [sp_readers]
  pins := [9000, 9001]
  heads := fun | 4 => some { slots := [(5, .slc 50 I), (24, .int .i64)], boxes := [(9000, [.fop .graph, .opq 9001 .mii, .int .i64])], inv := fun _ (x : List Int × Int × GI × List (Int × Int) × Int × Unit) => 0 ≤ x.2.1 ∧ x.2.1 ≤ (rdsF R v).length ∧ x.1 = takeR ((rdsF R v).take x.2.1.toNat) W ∧ x.2.2.1 = R ∧ x.2.2.2.1 = takeW ((rdsF R v).take x.2.1.toNat) W ∧ x.2.2.2.2.1 = left - 1, measure := fun _ (x : List Int × Int × GI × List (Int × Int) × Int × Unit) => ((rdsF R v).length - x.2.1).toNat } | _ => none
abbrev ann_take : Ann := { slots := numP 0 [.slc 0 I], boxes := [(9000, [.fop .graph, .opq 9001 .mii, .int .i64])], inv := fun _ _ => True }
def g_take_vc (R : GI) (W : List (Int × Int)) (left : Int) (v : Int) : Prop :=
  ((-9223372036854775808 : Int) ≤ left - (1 : Int) ∧ left - (1 : Int) ≤ (9223372036854775807 : Int)) ∧ True ∧ (True ∧ (0 : Int) ≤ (0 : Int) ∧ (0 : Int) ≤ (↑(rdsF R v).length : Int) ∧ [] = takeR (List.take (Int.toNat (0 : Int)) (rdsF R v)) W ∧ R = R ∧ W = takeW (List.take (Int.toNat (0 : Int)) (rdsF R v)) W ∧ left - (1 : Int) = left - (1 : Int)) ∧ ∀ (x : List Int × Int × List (List Int) × List (Int × Int) × Int × Unit), (0 : Int) ≤ x.2.1 ∧ x.2.1 ≤ (↑(rdsF R v).length : Int) ∧ x.1 = takeR (List.take x.2.1.toNat (rdsF R v)) W ∧ x.2.2.1 = R ∧ x.2.2.2.1 = takeW (List.take x.2.1.toNat (rdsF R v)) W ∧ x.2.2.2.2.1 = left - (1 : Int) → (decide (x.2.1 < (↑(rdsF R v).length : Int)) = true → ((0 : Int) ≤ x.2.1 ∧ x.2.1 < (↑(rdsF R v).length : Int)) ∧ ∀ (x_1 : Int), (rdsF R v)[x.2.1.toNat]? = some x_1 → ((-9223372036854775808 : Int) ≤ x_1 ∧ x_1 ≤ (9223372036854775807 : Int)) ∧ (mHas x.2.2.2.1 x_1 = true → ((-9223372036854775808 : Int) ≤ mGet x.2.2.2.1 x_1 - (1 : Int) ∧ mGet x.2.2.2.1 x_1 - (1 : Int) ≤ (9223372036854775807 : Int)) ∧ (((-9223372036854775808 : Int) ≤ x_1 ∧ x_1 ≤ (9223372036854775807 : Int)) ∧ ((-9223372036854775808 : Int) ≤ mGet x.2.2.2.1 x_1 - (1 : Int) ∧ mGet x.2.2.2.1 x_1 - (1 : Int) ≤ (9223372036854775807 : Int)) ∧ x.2.2.2.1.length ≤ (1000000000 : Nat)) ∧ (decide (mGet x.2.2.2.1 x_1 = (1 : Int)) = true → ((x.1.length + (1 : Nat)) * (8 : Nat) ≤ (140737488355328 : Nat) ∧ x.1.length + (1 : Nat) ≤ (4611686018427387904 : Nat)) ∧ ((-9223372036854775808 : Int) ≤ x.2.1 + (1 : Int) ∧ x.2.1 + (1 : Int) ≤ (9223372036854775807 : Int)) ∧ True ∧ ((0 : Int) ≤ x.2.1 + (1 : Int) ∧ x.2.1 + (1 : Int) ≤ (↑(rdsF R v).length : Int) ∧ x.1 ++ [x_1] = takeR (List.take (x.2.1 + (1 : Int)).toNat (rdsF R v)) W ∧ x.2.2.1 = R ∧ mPut x.2.2.2.1 x_1 (mGet x.2.2.2.1 x_1 - (1 : Int)) = takeW (List.take (x.2.1 + (1 : Int)).toNat (rdsF R v)) W ∧ x.2.2.2.2.1 = left - (1 : Int)) ∧ ((↑(rdsF R v).length : Int) - (x.2.1 + (1 : Int))).toNat < ((↑(rdsF R v).length : Int) - x.2.1).toNat) ∧ (decide (mGet x.2.2.2.1 x_1 = (1 : Int)) = false → ((-9223372036854775808 : Int) ≤ x.2.1 + (1 : Int) ∧ x.2.1 + (1 : Int) ≤ (9223372036854775807 : Int)) ∧ True ∧ ((0 : Int) ≤ x.2.1 + (1 : Int) ∧ x.2.1 + (1 : Int) ≤ (↑(rdsF R v).length : Int) ∧ x.1 = takeR (List.take (x.2.1 + (1 : Int)).toNat (rdsF R v)) W ∧ x.2.2.1 = R ∧ mPut x.2.2.2.1 x_1 (mGet x.2.2.2.1 x_1 - (1 : Int)) = takeW (List.take (x.2.1 + (1 : Int)).toNat (rdsF R v)) W ∧ x.2.2.2.2.1 = left - (1 : Int)) ∧ ((↑(rdsF R v).length : Int) - (x.2.1 + (1 : Int))).toNat < ((↑(rdsF R v).length : Int) - x.2.1).toNat)) ∧ (mHas x.2.2.2.1 x_1 = false → ((-9223372036854775808 : Int) ≤ x.2.1 + (1 : Int) ∧ x.2.1 + (1 : Int) ≤ (9223372036854775807 : Int)) ∧ True ∧ ((0 : Int) ≤ x.2.1 + (1 : Int) ∧ x.2.1 + (1 : Int) ≤ (↑(rdsF R v).length : Int) ∧ x.1 = takeR (List.take (x.2.1 + (1 : Int)).toNat (rdsF R v)) W ∧ x.2.2.1 = R ∧ x.2.2.2.1 = takeW (List.take (x.2.1 + (1 : Int)).toNat (rdsF R v)) W ∧ x.2.2.2.2.1 = left - (1 : Int)) ∧ ((↑(rdsF R v).length : Int) - (x.2.1 + (1 : Int))).toNat < ((↑(rdsF R v).length : Int) - x.2.1).toNat)) ∧ (decide (x.2.1 < (↑(rdsF R v).length : Int)) = false → True ∧ (x.1, x.2.2.1, x.2.2.2.1, x.2.2.2.2.1, ()) = (takeR (rdsF R v) W, R, takeW (rdsF R v) W, left - (1 : Int), ()))
theorem g_take_eq (R : GI) (W : List (Int × Int)) (left v : Int) : CondO (env_take R W left v) Try.f75 [.ptr 9000 0, .int .i64 v] [(9000, .box [.fopq .graph R, .oref 9001, .int .i64 left]), (9001, .opq .mii W)] [none] ann_take (takeR (rdsF R v) W, R, takeW (rdsF R v) W, left - 1, ()) = g_take_vc R W left v := by kernel_rfl
theorem g_take_ok (R : GI) (W : List (Int × Int)) (left v : Int) (h : GOk R ∧ MOk W ∧ -1000000 ≤ left ∧ left ≤ 1000000) : g_take_vc R W left v := by
  unfold g_take_vc
  simp only [decide_eq_true_eq, decide_eq_false_iff_not, Bool.not_eq_true', Bool.not_eq_false', Bool.not_true, Bool.not_false]
  obtain ⟨hG, ⟨w1, w2, w3⟩, l1, l2⟩ := h
  refine ⟨by omega, trivial, ⟨trivial, by omega, by omega, rfl, trivial, (takeW_nil W).symm, trivial⟩, fun x ⟨a1, a2, a3, a4, a5, a6⟩ => ⟨fun b1 => ⟨⟨a1, b1⟩, fun u hu => ?_⟩, fun b1 => ?_⟩⟩
  · have hlen := rds_le hG v
    have hd := rds_in hG (List.mem_of_getElem? hu)
    have hR := hG.1
    have hnin : u ∉ (rdsF R v).take x.2.1.toNat := by
      intro hin
      obtain ⟨j, hj, e⟩ := List.getElem_of_mem hin
      rw [List.length_take] at hj
      rw [List.getElem_take] at e
      have hi : x.2.1.toNat < (rdsF R v).length := (List.getElem?_eq_some_iff.1 hu).1
      have e2 : (rdsF R v)[x.2.1.toNat] = u := (List.getElem?_eq_some_iff.1 hu).2
      have := (List.pairwise_iff_getElem.1 (rds_up hG v)) j x.2.1.toNat (by omega) hi (by omega)
      omega
    have hs : (rdsF R v).take (x.2.1 + 1).toNat = (rdsF R v).take x.2.1.toNat ++ [u] := by
      rw [show (x.2.1 + 1).toNat = x.2.1.toNat + 1 by omega, List.take_add_one, hu]
      rfl
    have d1 := hd.1
    have d2 := hd.2
    have hx1 : x.1.length ≤ (rdsF R v).length := by
      rw [a3]
      exact Nat.le_trans (takeR_len _ _) (by rw [List.length_take]; omega)
    refine ⟨by omega, fun c1 => ?_, fun c1 => ?_⟩
    · rw [a5, mHas_take] at c1
      have hg : mGet x.2.2.2.1 u = mGet W u := by rw [a5, mGet_take w1 c1 hnin]
      have hp : mPut x.2.2.2.1 u (mGet W u - 1) = takeW ((rdsF R v).take (x.2.1 + 1).toNat) W := by rw [a5, put_take w1 c1 hnin, hs]
      have hl : x.2.2.2.1.length = W.length := by rw [a5, takeW_len]
      have := w3 u
      rw [hg, hp]
      refine ⟨by omega, ⟨by omega, by omega, by omega⟩, fun c2 => ⟨by omega, by omega, trivial, ⟨by omega, by omega, ?_, a4, rfl, a6⟩, by omega⟩, fun c2 => ⟨by omega, trivial, ⟨by omega, by omega, ?_, a4, rfl, a6⟩, by omega⟩⟩
      · rw [hs, takeR_snoc, ← a3, c1, c2]
        rfl
      · rw [hs, takeR_snoc, ← a3, decide_eq_false c2, Bool.and_false]
        simp
    · rw [a5, mHas_take] at c1
      refine ⟨by omega, trivial, ⟨by omega, by omega, ?_, a4, ?_, a6⟩, by omega⟩
      · rw [hs, takeR_snoc, ← a3, c1]
        simp
      · rw [hs, take_miss c1, a5]
  · have e : (rdsF R v).take x.2.1.toNat = rdsF R v := List.take_of_length_le (by omega)
    rw [e] at a3 a5
    exact ⟨trivial, by rw [a3, a4, a5, a6]⟩
set_option maxRecDepth 20000
theorem take_upd (R : GI) (W : List (Int × Int)) (left v : Int) (h : GOk R ∧ MOk W ∧ -1000000 ≤ left ∧ left ≤ 1000000) : UpdC Try.prog 75 [.ptr 9000 0, .int .i64 v] [(9000, .box [.fopq .graph R, .oref 9001, .int .i64 left]), (9001, .opq .mii W)] (.slc 0 0 none) [(0, .arr 0 (.int .i64) (takeR (rdsF R v) W)), (9001, .opq .mii (takeW (rdsF R v) W)), (9000, .box [.fopq .graph R, .oref 9001, .int .i64 (left - 1)])] :=
  by have k := UpdC.of_cond (g_take_eq R W left v) (g_take_ok R W left v h) (specs_ok rfl [sp_readers] [] rfl rfl) mixed Try.func75; exact k
noncomputable def q_take (R : GI) (W : List (Int × Int)) (left v : Int) : Prop × V × Store := (GOk R ∧ MOk W ∧ -1000000 ≤ left ∧ left ≤ 1000000, .slc 0 0 none, [(0, .arr 0 (.int .i64) (takeR (rdsF R v) W)), (9001, .opq .mii (takeW (rdsF R v) W)), (9000, .box [.fopq .graph R, .oref 9001, .int .i64 (left - 1)])])
noncomputable def so_take : OSpec Try.prog where
 f := 75
 run := fun args σ => match args, σ with
  | [.ptr 9000 0, .int .i64 v], [(9000, .box [.fopq .graph R, .oref 9001, .int .i64 left]), (9001, .opq .mii W)] => some (q_take R W left v)
  | _, _ => none
 ok := fun args σ pre r σ' h hp => by
  try dsimp only at h
  split at h
  · rename_i v R left W
    exact of_qo h hp fun h => (take_upd R W left v h).weak (.cons (.refl _) (.cons (.refl _) .nil))
  · cases h
end Go.Proofs.Ytojflfogjkajaaa.Od
end
