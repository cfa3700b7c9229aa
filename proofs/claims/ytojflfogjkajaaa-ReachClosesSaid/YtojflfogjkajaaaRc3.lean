/-
  reach: met, put, steps.
-/
import Derived.Test.YtojflfogjkajaaaRc2
/-- The numbers in an array of the store. -/
def Go.Vm.St.ints (st : Go.Vm.St) (i : Nat) : List Int := match st.σ.get i with
  | some (.arr _ (.int .i64) l) => l
  | _ => []
namespace Go.Proofs.Ytojflfogjkajaaa.Rc
open Go.Vm Go.Proofs.Ytojflfogjkajaaa.Gr

noncomputable def env_met (l : List Int) : Env where
  P := Try.prog
  ty := tys0
  heads := fun | 3 => some { slots := [(3, .slc 18 I), (8, .int .i64)], boxes := [], inv := fun _ (x : List Int × Int × Unit) => 0 ≤ x.2.1 ∧ x.2.1 ≤ l.length ∧ x.1 = ixs (fun i => decide (0 ≤ atI l i)) x.2.1.toNat, measure := fun _ (x : List Int × Int × Unit) => (l.length - x.2.1).toNat } | _ => none
def g_met_vc (l : List Int) : Prop :=
  (True ∧ (0 : Int) ≤ (0 : Int) ∧ (0 : Int) ≤ (↑l.length : Int) ∧ [] = ixs (fun i => decide ((0 : Int) ≤ atI l (↑i : Int))) (Int.toNat (0 : Int))) ∧ ∀ (x : List Int × Int × Unit), (0 : Int) ≤ x.2.1 ∧ x.2.1 ≤ (↑l.length : Int) ∧ x.1 = ixs (fun i => decide ((0 : Int) ≤ atI l (↑i : Int))) x.2.1.toNat → (decide (x.2.1 < (↑l.length : Int)) = true → ((0 : Int) ≤ x.2.1 ∧ x.2.1 < (↑l.length : Int)) ∧ ∀ (x_1 : Int), l[x.2.1.toNat]? = some x_1 → (decide ((0 : Int) ≤ x_1) = true → ((x.1.length + (1 : Nat)) * (8 : Nat) ≤ (140737488355328 : Nat) ∧ x.1.length + (1 : Nat) ≤ (4611686018427387904 : Nat)) ∧ ((-9223372036854775808 : Int) ≤ x.2.1 + (1 : Int) ∧ x.2.1 + (1 : Int) ≤ (9223372036854775807 : Int)) ∧ True ∧ ((0 : Int) ≤ x.2.1 + (1 : Int) ∧ x.2.1 + (1 : Int) ≤ (↑l.length : Int) ∧ x.1 ++ [x.2.1] = ixs (fun i => decide ((0 : Int) ≤ atI l (↑i : Int))) (x.2.1 + (1 : Int)).toNat) ∧ ((↑l.length : Int) - (x.2.1 + (1 : Int))).toNat < ((↑l.length : Int) - x.2.1).toNat) ∧ (decide ((0 : Int) ≤ x_1) = false → ((-9223372036854775808 : Int) ≤ x.2.1 + (1 : Int) ∧ x.2.1 + (1 : Int) ≤ (9223372036854775807 : Int)) ∧ True ∧ ((0 : Int) ≤ x.2.1 + (1 : Int) ∧ x.2.1 + (1 : Int) ≤ (↑l.length : Int) ∧ x.1 = ixs (fun i => decide ((0 : Int) ≤ atI l (↑i : Int))) (x.2.1 + (1 : Int)).toNat) ∧ ((↑l.length : Int) - (x.2.1 + (1 : Int))).toNat < ((↑l.length : Int) - x.2.1).toNat)) ∧ (decide (x.2.1 < (↑l.length : Int)) = false → (x.1, ()) = (metF l, ()))
theorem g_met_eq (l : List Int) : Cond (env_met l) Try.f64 [.list .tmp I l] [.list .part I] (metF l, ()) = g_met_vc l := by kernel_rfl
theorem g_met_ok (l : List Int) (h : l.length ≤ 1000000000) : g_met_vc l := by
  unfold g_met_vc
  simp only [decide_eq_true_eq, decide_eq_false_iff_not, Bool.not_eq_true', Bool.not_eq_false', Bool.not_true, Bool.not_false]
  refine ⟨⟨trivial, by omega, by omega, rfl⟩, ?_⟩
  rintro ⟨o, i, ⟨⟩⟩ ⟨h0, h1, h2⟩
  dsimp only at h0 h1 h2 ⊢
  subst h2
  have hle := ixs_le (fun i => decide ((0 : Int) ≤ atI l (i : Int))) i.toNat
  refine ⟨fun hi => ⟨⟨h0, hi⟩, fun x hx => ?_⟩, fun hi => ?_⟩
  · have e1 := atI_get (o := l) (v := i) ⟨h0, hi⟩
    rw [hx] at e1
    cases e1
    have e2 : ((i.toNat : Nat) : Int) = i := Int.toNat_of_nonneg h0
    refine ⟨fun hc => ⟨⟨by omega, by omega⟩, by omega, trivial, ⟨by omega, by omega, ?_⟩, by omega⟩, fun hc => ⟨by omega, trivial, ⟨by omega, by omega, ?_⟩, by omega⟩⟩
    · rw [show (i + 1).toNat = i.toNat + 1 by omega, ixs_succ, e2, if_pos (by simpa using hc)]
    · rw [show (i + 1).toNat = i.toNat + 1 by omega, ixs_succ, e2, if_neg (by simpa using hc), List.append_nil]
  · rw [metF, show i.toNat = l.length by omega]
set_option maxRecDepth 20000
theorem met_pure (l : List Int) (h : l.length ≤ 1000000000) : Pure Try.prog 64 [.list .tmp I l] (.list .part I (metF l)) :=
  by have k := Pure.of_cond (g_met_eq l) (g_met_ok l h) (specs_ok rfl [] [] rfl rfl) mixed Try.func64; exact k
noncomputable def q_met (l : List Int) : Prop × V := (l.length ≤ 1000000000, (.list .part I (metF l)))
noncomputable def sp_met : FSpec Try.prog where
 f := 64
 run := fun
  | [v0] => (asL I v0 : Option (List Int)).bind fun l => some (q_met l)
  | _ => none
 ok := fun args pre r h hp => by
  split at h
  · rename_i v0
    obtain ⟨l, h0, h⟩ := Option.bind_eq_some_iff.1 h
    exact of_q h hp fun h => (met_pure l h).weak (.cons (asL_weak h0) .nil)
  · cases h
noncomputable def env_nextS (R : GI) (v : Int) : Env where
  P := Try.prog
  ty := tys0
  specs := specsOf [sp_readers]
def g_nextS_vc (R : GI) (v : Int) : Prop :=
  True ∧ (rdsF R v, ()) = (rdsF R v, ())
theorem g_nextS_eq (R : GI) (v : Int) : Cond (env_nextS R v) Try.f69 [.int .i64 v, .fptr [.fopq .graph R]] [.list .part I] (rdsF R v, ()) = g_nextS_vc R v := by kernel_rfl
theorem g_nextS_ok (R : GI) (v : Int) : g_nextS_vc R v := by
  unfold g_nextS_vc
  exact ⟨trivial, rfl⟩
theorem nextS_pure (R : GI) (v : Int) : Pure Try.prog 69 [.int .i64 v, .fptr [.fopq .graph R]] (.list .part I (rdsF R v)) :=
  by have k := Pure.of_cond (g_nextS_eq R v) (g_nextS_ok R v) (specs_ok rfl [sp_readers] [] rfl rfl) mixed Try.func69; exact k
noncomputable def q_nextS (R : GI) (v : Int) : Prop × V := (True, (.list .part I (rdsF R v)))
noncomputable def sp_nextS : FSpec Try.prog where
 f := 69
 run := fun
  | [.int .i64 v, .fptr [.fopq .graph R]] => some (q_nextS R v)
  | _ => none
 ok := fun args pre r h hp => by
  split at h
  · rename_i v R
    exact of_q h hp fun h => (nextS_pure R v).weak (.cons (.refl _) (.cons (.refl _) .nil))
  · cases h
noncomputable def env_nextN (R : GI) (v : Int) : Env where
  P := Try.prog
  ty := tys0
  specs := specsOf [sp_reads]
def g_nextN_vc (R : GI) (v : Int) : Prop :=
  True ∧ (readsF R v, ()) = (readsF R v, ())
theorem g_nextN_eq (R : GI) (v : Int) : Cond (env_nextN R v) Try.f68 [.int .i64 v, .fptr [.fopq .graph R]] [.list .part I] (readsF R v, ()) = g_nextN_vc R v := by kernel_rfl
theorem g_nextN_ok (R : GI) (v : Int) : g_nextN_vc R v := by
  unfold g_nextN_vc
  exact ⟨trivial, rfl⟩
theorem nextN_pure (R : GI) (v : Int) : Pure Try.prog 68 [.int .i64 v, .fptr [.fopq .graph R]] (.list .part I (readsF R v)) :=
  by have k := Pure.of_cond (g_nextN_eq R v) (g_nextN_ok R v) (specs_ok rfl [sp_reads] [] rfl rfl) mixed Try.func68; exact k
noncomputable def q_nextN (R : GI) (v : Int) : Prop × V := (True, (.list .part I (readsF R v)))
noncomputable def sp_nextN : FSpec Try.prog where
 f := 68
 run := fun
  | [.int .i64 v, .fptr [.fopq .graph R]] => some (q_nextN R v)
  | _ => none
 ok := fun args pre r h hp => by
  split at h
  · rename_i v R
    exact of_q h hp fun h => (nextN_pure R v).weak (.cons (.refl _) (.cons (.refl _) .nil))
  · cases h
/-- A node is put into the row, if it is not there yet. -/
def putB (n : Int) (o : List Int) (v : Int) : Bool := decide (0 ≤ v ∧ v < n ∧ atI o v < 0)
def putO (n : Int) (o : List Int) (v k : Int) : List Int := if putB n o v = true then o.set v.toNat k else o
def putW (n : Int) (o row : List Int) (v : Int) : List Int := if putB n o v = true then row ++ [v] else row
noncomputable def env_put (n v k : Int) (o row : List Int) : Env where
  P := Try.prog
  ty := tys0
  pins := [9000, 9001, 9003]
abbrev ann_put : Ann := { slots := numP 0 [], boxes := [(9000, [.int .i64]), (9001, [.slc 9002 I]), (9003, [.slc 9004 I])], inv := fun _ _ => True }
def g_put_vc (n : Int) (v : Int) (k : Int) (o : List Int) (row : List Int) : Prop :=
  (decide ((0 : Int) ≤ v) = true → (decide (v < n) = true → ((0 : Int) ≤ v ∧ v < (↑o.length : Int)) ∧ v.toNat < o.length ∧ ∀ (x : Int), o[v.toNat]? = some x → (decide (x < (0 : Int)) = true → ((0 : Int) ≤ v ∧ v < (↑o.length : Int)) ∧ v.toNat < o.length ∧ ∀ (y : Int), o[v.toNat]? = some y → ((row.length + (1 : Nat)) * (8 : Nat) ≤ (140737488355328 : Nat) ∧ row.length + (1 : Nat) ≤ (4611686018427387904 : Nat)) ∧ True ∧ (n, o.set v.toNat k, row ++ [v], ()) = (n, putO n o v k, putW n o row v, ())) ∧ (decide (x < (0 : Int)) = false → True ∧ (n, o, row, ()) = (n, putO n o v k, putW n o row v, ()))) ∧ (decide (v < n) = !true → True ∧ (n, o, row, ()) = (n, putO n o v k, putW n o row v, ()))) ∧ (decide ((0 : Int) ≤ v) = !true → True ∧ (n, o, row, ()) = (n, putO n o v k, putW n o row v, ()))
theorem g_put_eq (n v k : Int) (o row : List Int) : CondO (env_put n v k o row) Try.f93 [.int .i64 v, .int .i64 k, .ptr 9000 0, .ptr 9001 0, .ptr 9003 0] [(9000, .box [.int .i64 n]), (9001, .box [.slc 9002 0 none]), (9002, .arr 0 (.int .i64) o), (9003, .box [.slc 9004 0 none]), (9004, .arr 0 (.int .i64) row)] [] ann_put (n, putO n o v k, putW n o row v, ()) = g_put_vc n v k o row := by kernel_rfl
theorem g_put_ok (n v k : Int) (o row : List Int) (h : o.length = n ∧ row.length ≤ 1000000000) : g_put_vc n v k o row := by
  unfold g_put_vc
  simp only [decide_eq_true_eq, decide_eq_false_iff_not, Bool.not_eq_true', Bool.not_eq_false', Bool.not_true, Bool.not_false]
  obtain ⟨h1, h2⟩ := h
  have no : ¬ (0 ≤ v ∧ v < n ∧ atI o v < 0) → (n, o, row, ()) = (n, putO n o v k, putW n o row v, ()) := fun hn => by
    have : putB n o v = false := by simpa [putB] using hn
    rw [putO, putW, this]
    rfl
  refine ⟨fun hv => ⟨fun hn => ⟨by omega, by omega, fun x hx => ?_⟩, fun hn => ⟨trivial, no fun hc => hn hc.2.1⟩⟩, fun hv => ⟨trivial, no fun hc => hv hc.1⟩⟩
  have e1 := atI_get (o := o) (v := v) ⟨hv, by omega⟩
  rw [hx] at e1
  cases e1
  refine ⟨fun hc => ⟨by omega, by omega, fun y hy => ⟨⟨by omega, by omega⟩, trivial, ?_⟩⟩, fun hc => ⟨trivial, no fun hq => hc hq.2.2⟩⟩
  have : putB n o v = true := by simpa [putB] using ⟨hv, hn, hc⟩
  rw [putO, putW, this]
  rfl
theorem put_upd (n v k : Int) (o row : List Int) (h : o.length = n ∧ row.length ≤ 1000000000) : UpdC Try.prog 93 [.int .i64 v, .int .i64 k, .ptr 9000 0, .ptr 9001 0, .ptr 9003 0] [(9000, .box [.int .i64 n]), (9001, .box [.slc 9002 0 none]), (9002, .arr 0 (.int .i64) o), (9003, .box [.slc 9004 0 none]), (9004, .arr 0 (.int .i64) row)] (.tuple []) [(9002, .arr 0 (.int .i64) (putO n o v k)), (9004, .arr 0 (.int .i64) (putW n o row v)), (9000, .box [.int .i64 n]), (9001, .box [.slc 9002 0 none]), (9003, .box [.slc 9004 0 none])] :=
  by have k := UpdC.of_cond (g_put_eq n v k o row) (g_put_ok n v k o row h) (specs_ok rfl [] [] rfl rfl) mixed Try.func93; exact k
noncomputable def q_put (n v k : Int) (o row : List Int) : Prop × V × Store := (o.length = n ∧ row.length ≤ 1000000000, .tuple [], [(9002, .arr 0 (.int .i64) (putO n o v k)), (9004, .arr 0 (.int .i64) (putW n o row v)), (9000, .box [.int .i64 n]), (9001, .box [.slc 9002 0 none]), (9003, .box [.slc 9004 0 none])])
noncomputable def so_put : OSpec Try.prog where
 f := 93
 run := fun args σ => match args, σ with
  | [.int .i64 v, .int .i64 k, .ptr 9000 0, .ptr 9001 0, .ptr 9003 0], [(9000, .box [.int .i64 n]), (9001, .box [.slc 9002 0 none]), (9002, .arr 0 (.int .i64) o), (9003, .box [.slc 9004 0 none]), (9004, .arr 0 (.int .i64) row)] => some (q_put n v k o row)
  | _, _ => none
 ok := fun args σ pre r σ' h hp => by
  try dsimp only at h
  split at h
  · rename_i v k n o row
    exact of_qo h hp fun h => (put_upd n v k o row h).weak (.cons (.refl _) (.cons (.refl _) (.cons (.refl _) (.cons (.refl _) (.cons (.refl _) .nil)))))
  · cases h

end Go.Proofs.Ytojflfogjkajaaa.Rc
