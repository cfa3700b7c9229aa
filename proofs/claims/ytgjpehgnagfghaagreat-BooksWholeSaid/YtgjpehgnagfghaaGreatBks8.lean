/-
  Books that are new; some; a copy.
-/
import Derived.Test.YtgjpehgnagfghaaGreatBks7
namespace Go.Proofs.YtgjpehgnagfghaaGreat.Bks
open Go.Vm
abbrev nI : List Int := []
abbrev nL : List Ln := []
abbrev nR : List Rts.Rt := []
abbrev nK : List Lck.Lk := []
abbrev nE : List En := []
noncomputable def env_new : Env where
  P := Tryz.prog
  ty := tys0
  specs := specsOf [Acc.sp_new]
abbrev ann_new : Ann := { slots := numP 0 [.list .full I, .list .full AcT, .list .full LnT, .list .full RTy, .list .full Vl, .list .full EnT], boxes := [], inv := fun _ _ => True }
def g_new_vc : Prop :=
  True ∧ True ∧ ([], Acc.ownL, [], [], [], [], ()) = (nI, Acc.ownL, nL, nR, nK, nE, ())
theorem g_new_eq  : CondG (env_new ) Tryz.f14 [] [some 6] ann_new (nI, Acc.ownL, nL, nR, nK, nE, ()) = g_new_vc  := by kernel_rfl
theorem g_new_ok : g_new_vc := by
  unfold g_new_vc
  exact ⟨trivial, trivial, rfl⟩
set_option maxRecDepth 20000
theorem new_pure  : Pure Tryz.prog 14 [] (.agg [.list .full I [], .list .full AcT Acc.ownL, .list .full LnT [], .list .full RTy [], .list .full Vl [], .list .full EnT []]) :=
  by have k := Pure.of_condG (r := (.agg [.list .full I [], .list .full AcT Acc.ownL, .list .full LnT [], .list .full RTy [], .list .full Vl [], .list .full EnT []])) (g_new_eq ) (g_new_ok ) rfl (specs_ok rfl [Acc.sp_new] [] rfl rfl) mixed Tryz.func14; exact k
noncomputable def q_new  : Prop × V := (True, (.agg [.list .full I [], .list .full AcT Acc.ownL, .list .full LnT [], .list .full RTy [], .list .full Vl [], .list .full EnT []]))
noncomputable def sp_new : FSpec Tryz.prog where
 f := 14
 run := fun
  | [] => some (q_new )
  | _ => none
 ok := fun args pre r h hp => by
  split at h
  · skip
    exact of_q h hp fun h => (new_pure ).weak .nil
  · cases h
noncomputable def env_rnew : Env where
  P := Tryz.prog
  ty := tys0
  specs := specsOf [Acc.sp_rnew]
abbrev ann_rnew : Ann := { slots := numP 0 [.list .full I, .list .full AcT, .list .full LnT, .list .full RTy, .list .full Vl, .list .full EnT], boxes := [], inv := fun _ _ => True }
def g_rnew_vc : Prop :=
  True ∧ True ∧ ([], Acc.ownL, [], [], [], [], ()) = (nI, Acc.ownL, nL, nR, nK, nE, ())
theorem g_rnew_eq  : CondG (env_rnew ) Tryz.f15 [] [some 6] ann_rnew (nI, Acc.ownL, nL, nR, nK, nE, ()) = g_rnew_vc  := by kernel_rfl
theorem g_rnew_ok : g_rnew_vc := by
  unfold g_rnew_vc
  exact ⟨trivial, trivial, rfl⟩
theorem rnew_pure  : Pure Tryz.prog 15 [] (.agg [.list .full I [], .list .full AcT Acc.ownL, .list .full LnT [], .list .full RTy [], .list .full Vl [], .list .full EnT []]) :=
  by have k := Pure.of_condG (r := (.agg [.list .full I [], .list .full AcT Acc.ownL, .list .full LnT [], .list .full RTy [], .list .full Vl [], .list .full EnT []])) (g_rnew_eq ) (g_rnew_ok ) rfl (specs_ok rfl [Acc.sp_rnew] [] rfl rfl) mixed Tryz.func15; exact k
noncomputable def q_rnew  : Prop × V := (True, (.agg [.list .full I [], .list .full AcT Acc.ownL, .list .full LnT [], .list .full RTy [], .list .full Vl [], .list .full EnT []]))
noncomputable def sp_rnew : FSpec Tryz.prog where
 f := 15
 run := fun
  | [] => some (q_rnew )
  | _ => none
 ok := fun args pre r h hp => by
  split at h
  · skip
    exact of_q h hp fun h => (rnew_pure ).weak .nil
  · cases h
abbrev smE : List Int := [1, 2]
abbrev smA : List Acc.AcD := [(0, 1, true, false), (0, 1, false, false), (0, 1, false, false), (0, 1, false, false), (0, 2, true, false)]
abbrev smN : List En := [(0, 0, [(1, 4, 0, 5), (1, 5, 0, -5)]), (0, 1, [(1, 4, 0, -5), (1, 5, 0, 5)])]
noncomputable def env_some : Env where
  P := Tryz.prog
  ty := tys0
  specs := specsOf [sp_rnew]
abbrev ann_some : Ann := { slots := numP 0 [.list .full I, .list .part AcT, .list .full LnT, .list .full RTy, .list .full Vl, .list .full EnT], boxes := [], inv := fun _ _ => True }
def g_some_vc : Prop :=
  True ∧ ((120 : Nat) ≤ (140737488355328 : Nat) ∧ (5 : Nat) ≤ (4611686018427387904 : Nat) ∧ ((0 : Nat) < (2 : Nat) ∨ Acc.ownL.length = (0 : Nat))) ∧ True ∧ ([(1 : Int), (2 : Int)], Acc.ownL ++ [((0 : Int), (1 : Int), false, false), ((0 : Int), (2 : Int), true, false)], [], [], [], [((0 : Int), (0 : Int), [((1 : Int), (4 : Int), (0 : Int), (5 : Int)), ((1 : Int), (5 : Int), (0 : Int), (-5 : Int))]), ((0 : Int), (1 : Int), [((1 : Int), (4 : Int), (0 : Int), (-5 : Int)), ((1 : Int), (5 : Int), (0 : Int), (5 : Int))])], ()) = (smE, smA, nL, nR, nK, smN, ())
theorem g_some_eq  : CondG (env_some ) Tryz.f24 [] [some 6] ann_some (smE, smA, nL, nR, nK, smN, ()) = g_some_vc  := by kernel_rfl
theorem g_some_ok : g_some_vc := by
  unfold g_some_vc
  exact ⟨trivial, ⟨by decide, by decide, .inl (by decide)⟩, trivial, rfl⟩
theorem some_pure  : Pure Tryz.prog 24 [] (.agg [.list .full I smE, .list .part AcT smA, .list .full LnT [], .list .full RTy [], .list .full Vl [], .list .full EnT smN]) :=
  by have k := Pure.of_condG (r := (.agg [.list .full I smE, .list .part AcT smA, .list .full LnT [], .list .full RTy [], .list .full Vl [], .list .full EnT smN])) (g_some_eq ) (g_some_ok ) rfl (specs_ok rfl [sp_rnew] [] rfl rfl) mixed Tryz.func24; exact k
noncomputable def q_some  : Prop × V := (True, (.agg [.list .full I smE, .list .part AcT smA, .list .full LnT [], .list .full RTy [], .list .full Vl [], .list .full EnT smN]))
noncomputable def sp_some : FSpec Tryz.prog where
 f := 24
 run := fun
  | [] => some (q_some )
  | _ => none
 ok := fun args pre r h hp => by
  split at h
  · skip
    exact of_q h hp fun h => (some_pure ).weak .nil
  · cases h
noncomputable def env_cli (l : List (Int)) : Env where
  P := Tryz.prog
  ty := tys0
def g_cli_vc (l : List Int) : Prop :=
  ((true = true → l.length = (0 : Nat)) → ([], ()) = (l, ())) ∧ ((false = true → l.length = (0 : Nat)) → (((0 : Nat) + l.length) * (8 : Nat) ≤ (140737488355328 : Nat) ∧ (0 : Nat) + l.length ≤ (4611686018427387904 : Nat) ∧ ((0 : Nat) < l.length ∨ (0 : Nat) = (0 : Nat))) ∧ (l, ()) = (l, ()))
theorem g_cli_eq (l : List (Int)) : Cond (env_cli l) Tryz.f60 [.list .tmp I l] [.slc 0 I] (l, ()) = g_cli_vc l := by kernel_rfl
theorem g_cli_ok (l : List (Int)) (h : l.length ≤ 1000000) : g_cli_vc l := by
  unfold g_cli_vc
  refine ⟨fun e => ?_, fun _ => ⟨⟨by omega, by omega, .inr rfl⟩, rfl⟩⟩
  have := List.eq_nil_of_length_eq_zero (e rfl)
  rw [this]
theorem cli_pure (l : List (Int)) (h : l.length ≤ 1000000) : Pure Tryz.prog 60 [.list .tmp I l] (.olist I l) :=
  by have k := Pure.of_cond (g_cli_eq l) (g_cli_ok l h) (specs_ok rfl [] [] rfl rfl) mixed Tryz.func60; exact k
noncomputable def q_cli (l : List (Int)) : Prop × V := (l.length ≤ 1000000, (.olist I l))
noncomputable def sp_cli : FSpec Tryz.prog where
 f := 60
 run := fun
  | [v0] => (asL I v0 : Option (List (Int))).bind fun l => some (q_cli l)
  | _ => none
 ok := fun args pre r h hp => by
  split at h
  · rename_i v0
    obtain ⟨l, h0, h⟩ := Option.bind_eq_some_iff.1 h
    exact of_q h hp fun h => (cli_pure l h).weak (.cons (asL_weak h0) .nil)
  · cases h
noncomputable def env_cla (l : List (Int × Int × Bool × Bool)) : Env where
  P := Tryz.prog
  ty := tys0
def g_cla_vc (l : List (Int × Int × Bool × Bool)) : Prop :=
  ((true = true → l.length = (0 : Nat)) → ([], ()) = (l, ())) ∧ ((false = true → l.length = (0 : Nat)) → (((0 : Nat) + l.length) * (24 : Nat) ≤ (140737488355328 : Nat) ∧ (0 : Nat) + l.length ≤ (4611686018427387904 : Nat) ∧ ((0 : Nat) < l.length ∨ (0 : Nat) = (0 : Nat))) ∧ (l, ()) = (l, ()))
theorem g_cla_eq (l : List (Int × Int × Bool × Bool)) : Cond (env_cla l) Tryz.f61 [.list .tmp AcT l] [.slc 0 AcT] (l, ()) = g_cla_vc l := by kernel_rfl
theorem g_cla_ok (l : List (Int × Int × Bool × Bool)) (h : l.length ≤ 1000000) : g_cla_vc l := by
  unfold g_cla_vc
  refine ⟨fun e => ?_, fun _ => ⟨⟨by omega, by omega, .inr rfl⟩, rfl⟩⟩
  have := List.eq_nil_of_length_eq_zero (e rfl)
  rw [this]
theorem cla_pure (l : List (Int × Int × Bool × Bool)) (h : l.length ≤ 1000000) : Pure Tryz.prog 61 [.list .tmp AcT l] (.olist AcT l) :=
  by have k := Pure.of_cond (g_cla_eq l) (g_cla_ok l h) (specs_ok rfl [] [] rfl rfl) mixed Tryz.func61; exact k
noncomputable def q_cla (l : List (Int × Int × Bool × Bool)) : Prop × V := (l.length ≤ 1000000, (.olist AcT l))
noncomputable def sp_cla : FSpec Tryz.prog where
 f := 61
 run := fun
  | [v0] => (asL AcT v0 : Option (List (Int × Int × Bool × Bool))).bind fun l => some (q_cla l)
  | _ => none
 ok := fun args pre r h hp => by
  split at h
  · rename_i v0
    obtain ⟨l, h0, h⟩ := Option.bind_eq_some_iff.1 h
    exact of_q h hp fun h => (cla_pure l h).weak (.cons (asL_weak h0) .nil)
  · cases h
noncomputable def env_clk (l : List (Int × Int)) : Env where
  P := Tryz.prog
  ty := tys0
def g_clk_vc (l : List (Int × Int)) : Prop :=
  ((true = true → l.length = (0 : Nat)) → ([], ()) = (l, ())) ∧ ((false = true → l.length = (0 : Nat)) → (((0 : Nat) + l.length) * (16 : Nat) ≤ (140737488355328 : Nat) ∧ (0 : Nat) + l.length ≤ (4611686018427387904 : Nat) ∧ ((0 : Nat) < l.length ∨ (0 : Nat) = (0 : Nat))) ∧ (l, ()) = (l, ()))
theorem g_clk_eq (l : List (Int × Int)) : Cond (env_clk l) Tryz.f64 [.list .tmp Vl l] [.slc 0 Vl] (l, ()) = g_clk_vc l := by kernel_rfl
theorem g_clk_ok (l : List (Int × Int)) (h : l.length ≤ 1000000) : g_clk_vc l := by
  unfold g_clk_vc
  refine ⟨fun e => ?_, fun _ => ⟨⟨by omega, by omega, .inr rfl⟩, rfl⟩⟩
  have := List.eq_nil_of_length_eq_zero (e rfl)
  rw [this]
theorem clk_pure (l : List (Int × Int)) (h : l.length ≤ 1000000) : Pure Tryz.prog 64 [.list .tmp Vl l] (.olist Vl l) :=
  by have k := Pure.of_cond (g_clk_eq l) (g_clk_ok l h) (specs_ok rfl [] [] rfl rfl) mixed Tryz.func64; exact k
noncomputable def q_clk (l : List (Int × Int)) : Prop × V := (l.length ≤ 1000000, (.olist Vl l))
noncomputable def sp_clk : FSpec Tryz.prog where
 f := 64
 run := fun
  | [v0] => (asL Vl v0 : Option (List (Int × Int))).bind fun l => some (q_clk l)
  | _ => none
 ok := fun args pre r h hp => by
  split at h
  · rename_i v0
    obtain ⟨l, h0, h⟩ := Option.bind_eq_some_iff.1 h
    exact of_q h hp fun h => (clk_pure l h).weak (.cons (asL_weak h0) .nil)
  · cases h
noncomputable def env_cle (l : List (En)) : Env where
  P := Tryz.prog
  ty := tys0
def g_cle_vc (l : List En) : Prop :=
  ((true = true → l.length = (0 : Nat)) → ([], ()) = (l, ())) ∧ ((false = true → l.length = (0 : Nat)) → (((0 : Nat) + l.length) * (40 : Nat) ≤ (140737488355328 : Nat) ∧ (0 : Nat) + l.length ≤ (4611686018427387904 : Nat) ∧ ((0 : Nat) < l.length ∨ (0 : Nat) = (0 : Nat))) ∧ (l, ()) = (l, ()))
theorem g_cle_eq (l : List (En)) : Cond (env_cle l) Tryz.f65 [.list .tmp EnT l] [.slc 0 EnT] (l, ()) = g_cle_vc l := by kernel_rfl
theorem g_cle_ok (l : List (En)) (h : l.length ≤ 1000000) : g_cle_vc l := by
  unfold g_cle_vc
  refine ⟨fun e => ?_, fun _ => ⟨⟨by omega, by omega, .inr rfl⟩, rfl⟩⟩
  have := List.eq_nil_of_length_eq_zero (e rfl)
  rw [this]
theorem cle_pure (l : List (En)) (h : l.length ≤ 1000000) : Pure Tryz.prog 65 [.list .tmp EnT l] (.olist EnT l) :=
  by have k := Pure.of_cond (g_cle_eq l) (g_cle_ok l h) (specs_ok rfl [] [] rfl rfl) mixed Tryz.func65; exact k
noncomputable def q_cle (l : List (En)) : Prop × V := (l.length ≤ 1000000, (.olist EnT l))
noncomputable def sp_cle : FSpec Tryz.prog where
 f := 65
 run := fun
  | [v0] => (asL EnT v0 : Option (List (En))).bind fun l => some (q_cle l)
  | _ => none
 ok := fun args pre r h hp => by
  split at h
  · rename_i v0
    obtain ⟨l, h0, h⟩ := Option.bind_eq_some_iff.1 h
    exact of_q h hp fun h => (cle_pure l h).weak (.cons (asL_weak h0) .nil)
  · cases h
theorem set_same {α : Type} {l : List α} {i : Nat} {x : α} (h : l[i]? = some x) : l.set i x = l := by
  refine List.ext_getElem? fun j => ?_
  by_cases c : i = j
  · subst c
    rw [List.getElem?_set_self ((List.getElem?_eq_some_iff.1 h).1), h]
  · rw [List.getElem?_set_ne c]
noncomputable def env_copy (E : List Int) (A : List Acc.AcD) (S : List Ln) (R : List Rts.Rt) (K : List Lck.Lk) (N : List En) : Env where
  P := Tryz.prog
  ty := tys0
  specs := specsOf [sp_cli, sp_cla, Stk.sp_clone, Rts.sp_clone, sp_clk, sp_cle, Ent.sp_clone]
  frz := fun | 8 => true | 11 => true | 14 => true | 17 => true | 20 => true | 38 => true | _ => false
  heads := fun | 3 => some { slots := [(28, .int .i64), (23, .slc 23 EnT)], boxes := [], keep := [1, 2, 3], inv := fun _ (x : Int × List En × Unit) => 0 ≤ x.1 ∧ x.1 ≤ N.length ∧ x.2.1 = N, measure := fun _ (x : Int × List En × Unit) => (N.length - x.1).toNat } | _ => none
abbrev ann_copy : Ann := { slots := numP 0 [.list .part I, .list .part AcT, .list .part LnT, .list .part RTy, .list .part Vl, .list .part EnT], boxes := [], inv := fun _ _ => True }
abbrev bx_copy_1 (E : List Int) (A : List Acc.AcD) (S : List Ln) (R : List Rts.Rt) (K : List Lck.Lk) : _root_.Go.Vm.Obj := Obj.box [V.list LK.part I E, V.list LK.part AcT A, V.list LK.part Stk.STy S, V.list LK.part RTy R, V.list LK.part Vl K, V.slc (23 : Nat) (0 : Nat) none]
abbrev bx_copy_2 (E : List Int) (A : List Acc.AcD) (S : List Ln) (R : List Rts.Rt) (K : List Lck.Lk) (N : List En) : _root_.Go.Vm.Obj := Obj.box [V.list LK.tmp I E, V.list LK.tmp AcT A, V.list LK.tmp LnT S, V.list LK.tmp RTy R, V.list LK.tmp Vl K, V.list LK.tmp EnT N]
def g_copy_vc (E : List Int) (A : List Acc.AcD) (S : List Ln) (R : List Rts.Rt) (K : List Lck.Lk) (N : List En) : Prop :=
  E.length ≤ (1000000 : Nat) ∧ A.length ≤ (1000000 : Nat) ∧ S.length ≤ (1000000000 : Nat) ∧ R.length ≤ (1000000 : Nat) ∧ K.length ≤ (1000000 : Nat) ∧ N.length ≤ (1000000 : Nat) ∧ ((some (bx_copy_2 E A S R K N) = some (bx_copy_2 E A S R K N) ∧ some (Obj.box [V.nils, V.nils, V.nils, V.nils, V.nils, V.nils]) = some (Obj.box [V.nils, V.nils, V.nils, V.nils, V.nils, V.nils]) ∧ some (bx_copy_1 E A S R K) = some (bx_copy_1 E A S R K) ∧ True) ∧ (0 : Int) ≤ (0 : Int) ∧ (0 : Int) ≤ (↑N.length : Int) ∧ N = N) ∧ ∀ (x : Int × List (Int × Int × List (Int × Int × Int × Int)) × Unit), (0 : Int) ≤ x.1 ∧ x.1 ≤ (↑N.length : Int) ∧ x.2.1 = N → (decide (x.1 < (↑N.length : Int)) = true → ((0 : Int) ≤ x.1 ∧ x.1 < (↑N.length : Int)) ∧ ∀ (x_1 : Int × Int × List (Int × Int × Int × Int)), N[x.1.toNat]? = some x_1 → x_1.2.2.length ≤ (1000000000 : Nat) ∧ ((0 : Int) ≤ x.1 ∧ x.1 < (↑x.2.1.length : Int)) ∧ x.1.toNat < x.2.1.length ∧ ∀ (y : Int × Int × List (Int × Int × Int × Int)), x.2.1[x.1.toNat]? = some y → ((-9223372036854775808 : Int) ≤ x.1 + (1 : Int) ∧ x.1 + (1 : Int) ≤ (9223372036854775807 : Int)) ∧ (some (bx_copy_2 E A S R K N) = some (bx_copy_2 E A S R K N) ∧ some (Obj.box [V.nils, V.nils, V.nils, V.nils, V.nils, V.nils]) = some (Obj.box [V.nils, V.nils, V.nils, V.nils, V.nils, V.nils]) ∧ some (bx_copy_1 E A S R K) = some (bx_copy_1 E A S R K) ∧ True) ∧ ((0 : Int) ≤ x.1 + (1 : Int) ∧ x.1 + (1 : Int) ≤ (↑N.length : Int) ∧ x.2.1.set x.1.toNat (y.1, y.2.1, x_1.2.2) = N) ∧ ((↑N.length : Int) - (x.1 + (1 : Int))).toNat < ((↑N.length : Int) - x.1).toNat) ∧ (decide (x.1 < (↑N.length : Int)) = false → True ∧ (E, A, S, R, K, x.2.1, ()) = (E, A, S, R, K, N, ()))
theorem g_copy_eq (E : List Int) (A : List Acc.AcD) (S : List Ln) (R : List Rts.Rt) (K : List Lck.Lk) (N : List En) : CondG (env_copy E A S R K N) Tryz.f17 [.agg [.list .tmp I E, .list .tmp AcT A, .list .tmp LnT S, .list .tmp RTy R, .list .tmp Vl K, .list .tmp EnT N]] [some 6] ann_copy (E, A, S, R, K, N, ()) = g_copy_vc E A S R K N := by kernel_rfl
theorem g_copy_ok (E : List Int) (A : List Acc.AcD) (S : List Ln) (R : List Rts.Rt) (K : List Lck.Lk) (N : List En) (h : Sm E A S R K N) : g_copy_vc E A S R K N := by
  unfold g_copy_vc
  obtain ⟨l1, l2, l3, l4, l5, l6, hi⟩ := h
  refine ⟨by omega, by omega, by omega, by omega, by omega, by omega, ⟨⟨rfl, rfl, rfl, trivial⟩, by omega, by omega, rfl⟩, ?_⟩
  rintro ⟨i, M, ⟨⟩⟩ ⟨h0, h1, hb⟩
  dsimp only at h0 h1 hb ⊢
  subst hb
  simp only [decide_eq_true_eq, decide_eq_false_iff_not]
  refine ⟨fun c => ⟨⟨h0, c⟩, fun x hx => ⟨by have := (ine_at hi hx).2; omega, ⟨h0, c⟩, by omega, fun y hy => ⟨by omega, ⟨trivial, trivial, trivial, trivial⟩, ⟨by omega, by omega, ?_⟩, by omega⟩⟩⟩, fun c => ⟨trivial, trivial⟩⟩
  rw [hx] at hy
  cases hy
  exact set_same hx
theorem copy_pure (E : List Int) (A : List Acc.AcD) (S : List Ln) (R : List Rts.Rt) (K : List Lck.Lk) (N : List En) (h : Sm E A S R K N) : Pure Tryz.prog 17 [.agg [.list .tmp I E, .list .tmp AcT A, .list .tmp LnT S, .list .tmp RTy R, .list .tmp Vl K, .list .tmp EnT N]] (.agg [.list .part I E, .list .part AcT A, .list .part LnT S, .list .part RTy R, .list .part Vl K, .list .part EnT N]) :=
  by have k := Pure.of_condG (r := (.agg [.list .part I E, .list .part AcT A, .list .part LnT S, .list .part RTy R, .list .part Vl K, .list .part EnT N])) (g_copy_eq E A S R K N) (g_copy_ok E A S R K N h) rfl (specs_ok rfl [sp_cli, sp_cla, Stk.sp_clone, Rts.sp_clone, sp_clk, sp_cle, Ent.sp_clone] [] rfl rfl) mixed Tryz.func17; exact k
noncomputable def q_copy (E : List Int) (A : List Acc.AcD) (S : List Ln) (R : List Rts.Rt) (K : List Lck.Lk) (N : List En) : Prop × V := (Sm E A S R K N, (.agg [.list .part I E, .list .part AcT A, .list .part LnT S, .list .part RTy R, .list .part Vl K, .list .part EnT N]))
noncomputable def sp_copy : FSpec Tryz.prog where
 f := 17
 run := fun
  | [.agg [v0_0, v0_1, v0_2, v0_3, v0_4, v0_5]] => (asL I v0_0 : Option (List Int)).bind fun E => (asL AcT v0_1 : Option (List Acc.AcD)).bind fun A => (asL LnT v0_2 : Option (List Ln)).bind fun S => (asL RTy v0_3 : Option (List Rts.Rt)).bind fun R => (asL Vl v0_4 : Option (List Lck.Lk)).bind fun K => (asL EnT v0_5 : Option (List En)).bind fun N => some (q_copy E A S R K N)
  | _ => none
 ok := fun args pre r h hp => by
  split at h
  · rename_i v0_0 v0_1 v0_2 v0_3 v0_4 v0_5
    obtain ⟨E, h0_0, h⟩ := Option.bind_eq_some_iff.1 h
    obtain ⟨A, h0_1, h⟩ := Option.bind_eq_some_iff.1 h
    obtain ⟨S, h0_2, h⟩ := Option.bind_eq_some_iff.1 h
    obtain ⟨R, h0_3, h⟩ := Option.bind_eq_some_iff.1 h
    obtain ⟨K, h0_4, h⟩ := Option.bind_eq_some_iff.1 h
    obtain ⟨N, h0_5, h⟩ := Option.bind_eq_some_iff.1 h
    exact of_q h hp fun h => (copy_pure E A S R K N h).weak (.cons (Weak.agg (.cons (asL_weak h0_0) (.cons (asL_weak h0_1) (.cons (asL_weak h0_2) (.cons (asL_weak h0_3) (.cons (asL_weak h0_4) (.cons (asL_weak h0_5) .nil))))))) .nil)
  · cases h
end Go.Proofs.YtgjpehgnagfghaaGreat.Bks
