/-
  cell: some answers; CellTells, CellOrders: the walks.
-/
import Derived.Test.YtemgelifnjefoaaGreatDoorCell5
namespace Go.Proofs.YtemgelifnjefoaaGreatDoor
open Go.Vm

noncomputable def env_cons : Env where
  P := Tryz.prog
  ty := tys0
def consC : CeD := (7, 2, 5, 1, 3, 0)
def moveC : CeD := (1, 9, 9, 0, 0, 0)
abbrev ann_cons : Ann := { slots := numP 0 [.int .i64, .int .i64, .int .i64, .int .i64, .int .i64, .int .i64], boxes := [], inv := fun _ _ => True }
noncomputable def g_cons  : Prop := vc (env_cons ) (codeOf Tryz.f9) (start0 Tryz.f9 []) (exitG (env_cons ).P Tryz.f9.results.toList [some 6] (env_cons ).pins ann_cons (consC.1, consC.2.1, consC.2.2.1, consC.2.2.2.1, consC.2.2.2.2.1, consC.2.2.2.2.2, ()))
def g_cons_vc : Prop :=
  True ∧ ((7 : Int), (2 : Int), (5 : Int), (1 : Int), (3 : Int), (0 : Int), ()) = (consC.fst, consC.snd.fst, consC.snd.snd.fst, consC.snd.snd.snd.fst, consC.snd.snd.snd.snd.fst, consC.snd.snd.snd.snd.snd, ())
theorem g_cons_eq  : g_cons  = g_cons_vc  := by kernel_rfl
theorem g_cons_ok : g_cons_vc := by
  unfold g_cons_vc
  exact ⟨trivial, rfl⟩
set_option maxRecDepth 20000 in
theorem cons_pure  : Pure Tryz.prog 9 [] (.agg [.int .i64 consC.1, .int .i64 consC.2.1, .int .i64 consC.2.2.1, .int .i64 consC.2.2.2.1, .int .i64 consC.2.2.2.2.1, .int .i64 consC.2.2.2.2.2]) :=
  Pure.of_gG (E := env_cons ) (sh := [some 6]) (ann := ann_cons) (x := (consC.1, consC.2.1, consC.2.2.1, consC.2.2.2.1, consC.2.2.2.2.1, consC.2.2.2.2.2, ())) (fn := Tryz.f9) (c := codeOf Tryz.f9) (specs_ok (P := Tryz.prog) rfl [] [] rfl rfl) mixed Tryz.func9 rfl rfl rfl rfl rfl (g := g_cons ) (by delta g_cons start0; first | with_reducible exact Eq.refl _ | exact Eq.refl _) (by rw [g_cons_eq ]; exact g_cons_ok )
noncomputable def q_cons  : Prop × V := (True, (.agg [.int .i64 consC.1, .int .i64 consC.2.1, .int .i64 consC.2.2.1, .int .i64 consC.2.2.2.1, .int .i64 consC.2.2.2.2.1, .int .i64 consC.2.2.2.2.2]))
noncomputable def sp_cons : FSpec Tryz.prog where
  f := 9
  run := fun args => match args with
    | [] => some (q_cons )
    | _ => none
  ok := fun args pre r h hp => by
    try dsimp only at h
    split at h
    ·
      have h := Option.some.inj h
      unfold q_cons at h
      cases h
      exact (cons_pure ).weak .nil
    · cases h

noncomputable def env_awake : Env where
  P := Tryz.prog
  ty := tys0
  specs := specsOf [sp_cons, sp_print, sp_take, sp_check, sp_cin, sp_less, sp_csort, sp_same]
  frz := fun | 57 => true | 85 => true | 86 => true | 90 => true | 91 => true | 95 => true | 96 => true | 100 => true | 101 => true | 106 => true | 107 => true | 110 => true | 112 => true | 116 => true | 118 => true | 120 => true | 122 => true | 124 => true | _ => false
noncomputable def g_awake  : Prop := vc (env_awake ) (codeOf Tryz.f4) (start0 Tryz.f4 []) (exitK (tsOf Tryz.f4) [.bool] (true, ()))
def g_awake_vc : Prop :=
  True ∧ True ∧ (17 : Nat) ≤ (10000 : Nat) ∧ (3 : Nat) ≤ (10000 : Nat) ∧ (6 : Nat) ≤ (10000 : Nat) ∧ (14 : Nat) ≤ (10000 : Nat) ∧ True ∧ (decide ((printC (consC.fst, consC.snd.fst, consC.snd.snd.fst, consC.snd.snd.snd.fst, consC.snd.snd.snd.snd.fst, consC.snd.snd.snd.snd.snd)).fst = [(99 : UInt8), (111 : UInt8), (110 : UInt8), (115 : UInt8), (32 : UInt8), (50 : UInt8), (32 : UInt8), (53 : UInt8), (32 : UInt8), (49 : UInt8), (32 : UInt8), (51 : UInt8), (32 : UInt8), (48 : UInt8)]) = true → (decide ((printC (consC.fst, consC.snd.fst, consC.snd.snd.fst, consC.snd.snd.snd.fst, consC.snd.snd.snd.snd.fst, consC.snd.snd.snd.snd.snd)).snd = (0 : Int)) = true → True ∧ ((decide ((takeF [(120 : UInt8), (32 : UInt8), (99 : UInt8), (111 : UInt8), (110 : UInt8), (115 : UInt8), (32 : UInt8), (50 : UInt8), (32 : UInt8), (53 : UInt8), (32 : UInt8), (49 : UInt8), (32 : UInt8), (51 : UInt8), (32 : UInt8), (48 : UInt8), (59 : UInt8)] (2 : Int)).fst.fst = consC.fst) && (decide ((takeF [(120 : UInt8), (32 : UInt8), (99 : UInt8), (111 : UInt8), (110 : UInt8), (115 : UInt8), (32 : UInt8), (50 : UInt8), (32 : UInt8), (53 : UInt8), (32 : UInt8), (49 : UInt8), (32 : UInt8), (51 : UInt8), (32 : UInt8), (48 : UInt8), (59 : UInt8)] (2 : Int)).fst.snd.fst = consC.snd.fst) && (decide ((takeF [(120 : UInt8), (32 : UInt8), (99 : UInt8), (111 : UInt8), (110 : UInt8), (115 : UInt8), (32 : UInt8), (50 : UInt8), (32 : UInt8), (53 : UInt8), (32 : UInt8), (49 : UInt8), (32 : UInt8), (51 : UInt8), (32 : UInt8), (48 : UInt8), (59 : UInt8)] (2 : Int)).fst.snd.snd.fst = consC.snd.snd.fst) && (decide ((takeF [(120 : UInt8), (32 : UInt8), (99 : UInt8), (111 : UInt8), (110 : UInt8), (115 : UInt8), (32 : UInt8), (50 : UInt8), (32 : UInt8), (53 : UInt8), (32 : UInt8), (49 : UInt8), (32 : UInt8), (51 : UInt8), (32 : UInt8), (48 : UInt8), (59 : UInt8)] (2 : Int)).fst.snd.snd.snd.fst = consC.snd.snd.snd.fst) && (decide ((takeF [(120 : UInt8), (32 : UInt8), (99 : UInt8), (111 : UInt8), (110 : UInt8), (115 : UInt8), (32 : UInt8), (50 : UInt8), (32 : UInt8), (53 : UInt8), (32 : UInt8), (49 : UInt8), (32 : UInt8), (51 : UInt8), (32 : UInt8), (48 : UInt8), (59 : UInt8)] (2 : Int)).fst.snd.snd.snd.snd.fst = consC.snd.snd.snd.snd.fst) && (decide ((takeF [(120 : UInt8), (32 : UInt8), (99 : UInt8), (111 : UInt8), (110 : UInt8), (115 : UInt8), (32 : UInt8), (50 : UInt8), (32 : UInt8), (53 : UInt8), (32 : UInt8), (49 : UInt8), (32 : UInt8), (51 : UInt8), (32 : UInt8), (48 : UInt8), (59 : UInt8)] (2 : Int)).fst.snd.snd.snd.snd.snd = consC.snd.snd.snd.snd.snd) && true)))))) = true → (decide ((takeF [(120 : UInt8), (32 : UInt8), (99 : UInt8), (111 : UInt8), (110 : UInt8), (115 : UInt8), (32 : UInt8), (50 : UInt8), (32 : UInt8), (53 : UInt8), (32 : UInt8), (49 : UInt8), (32 : UInt8), (51 : UInt8), (32 : UInt8), (48 : UInt8), (59 : UInt8)] (2 : Int)).snd.fst = (16 : Int)) = true → (decide ((takeF [(120 : UInt8), (32 : UInt8), (99 : UInt8), (111 : UInt8), (110 : UInt8), (115 : UInt8), (32 : UInt8), (50 : UInt8), (32 : UInt8), (53 : UInt8), (32 : UInt8), (49 : UInt8), (32 : UInt8), (51 : UInt8), (32 : UInt8), (48 : UInt8), (59 : UInt8)] (2 : Int)).snd.snd = (0 : Int)) = true → (decide ((takeF [(99 : UInt8), (111 : UInt8), (110 : UInt8)] (0 : Int)).snd.snd = (4 : Int)) = true → (decide ((takeF [(99 : UInt8), (111 : UInt8), (115 : UInt8), (116 : UInt8), (32 : UInt8), (49 : UInt8)] (0 : Int)).snd.snd = (8 : Int)) = true → (decide ((takeF [(109 : UInt8), (111 : UInt8), (118 : UInt8), (101 : UInt8), (32 : UInt8), (49 : UInt8), (32 : UInt8), (49 : UInt8), (32 : UInt8), (49 : UInt8), (32 : UInt8), (49 : UInt8), (32 : UInt8), (48 : UInt8)] (0 : Int)).snd.snd = (41 : Int)) = true → (decide ((printC ((0 : Int), (0 : Int), (0 : Int), (0 : Int), (0 : Int), (0 : Int))).snd = (41 : Int)) = true → True ∧ True ∧ (decide (ckF (consC.fst, consC.snd.fst, consC.snd.snd.fst, consC.snd.snd.snd.fst, consC.snd.snd.snd.snd.fst, consC.snd.snd.snd.snd.snd) = (0 : Int)) = true → True ∧ True ∧ (decide (inF (consC.fst, consC.snd.fst, consC.snd.snd.fst, consC.snd.snd.snd.fst, consC.snd.snd.snd.snd.fst, consC.snd.snd.snd.snd.snd) (1 : Int) (9 : Int) = (20 : Int)) = true → True ∧ True ∧ (decide (inF (consC.fst, consC.snd.fst, consC.snd.snd.fst, consC.snd.snd.snd.fst, consC.snd.snd.snd.snd.fst, consC.snd.snd.snd.snd.snd) (2 : Int) (4 : Int) = (21 : Int)) = true → True ∧ True ∧ (decide (inF (consC.fst, consC.snd.fst, consC.snd.snd.fst, consC.snd.snd.snd.fst, consC.snd.snd.snd.snd.fst, consC.snd.snd.snd.snd.snd) (2 : Int) (5 : Int) = (0 : Int)) = true → True ∧ True ∧ (lessF ((1 : Int), (9 : Int), (9 : Int), (0 : Int), (0 : Int), (0 : Int)) (consC.fst, consC.snd.fst, consC.snd.snd.fst, consC.snd.snd.snd.fst, consC.snd.snd.snd.snd.fst, consC.snd.snd.snd.snd.snd) = true → True ∧ True ∧ ((!lessF (consC.fst, consC.snd.fst, consC.snd.snd.fst, consC.snd.snd.snd.fst, consC.snd.snd.snd.snd.fst, consC.snd.snd.snd.snd.snd) ((1 : Int), (9 : Int), (9 : Int), (0 : Int), (0 : Int), (0 : Int))) = true → True ∧ True ∧ (3 : Nat) ≤ (1000000 : Nat) ∧ True ∧ (List.foldl withC [] [(consC.fst, consC.snd.fst, consC.snd.snd.fst, consC.snd.snd.snd.fst, consC.snd.snd.snd.snd.fst, consC.snd.snd.snd.snd.snd), ((1 : Int), (9 : Int), (9 : Int), (0 : Int), (0 : Int), (0 : Int)), (consC.fst, consC.snd.fst, consC.snd.snd.fst, consC.snd.snd.snd.fst, consC.snd.snd.snd.snd.fst, consC.snd.snd.snd.snd.snd)]).length ≤ (1000000000 : Nat) ∧ (decide (List.foldl withC [] [(consC.fst, consC.snd.fst, consC.snd.snd.fst, consC.snd.snd.snd.fst, consC.snd.snd.snd.snd.fst, consC.snd.snd.snd.snd.snd), ((1 : Int), (9 : Int), (9 : Int), (0 : Int), (0 : Int), (0 : Int)), (consC.fst, consC.snd.fst, consC.snd.snd.fst, consC.snd.snd.snd.fst, consC.snd.snd.snd.snd.fst, consC.snd.snd.snd.snd.snd)] = [((1 : Int), (9 : Int), (9 : Int), (0 : Int), (0 : Int), (0 : Int)), (consC.fst, consC.snd.fst, consC.snd.snd.fst, consC.snd.snd.snd.fst, consC.snd.snd.snd.snd.fst, consC.snd.snd.snd.snd.snd)]), ()) = (true, ())) ∧ ((!lessF (consC.fst, consC.snd.fst, consC.snd.snd.fst, consC.snd.snd.snd.fst, consC.snd.snd.snd.snd.fst, consC.snd.snd.snd.snd.snd) ((1 : Int), (9 : Int), (9 : Int), (0 : Int), (0 : Int), (0 : Int))) = !true → (false, ()) = (true, ()))) ∧ (lessF ((1 : Int), (9 : Int), (9 : Int), (0 : Int), (0 : Int), (0 : Int)) (consC.fst, consC.snd.fst, consC.snd.snd.fst, consC.snd.snd.snd.fst, consC.snd.snd.snd.snd.fst, consC.snd.snd.snd.snd.snd) = !true → (false, ()) = (true, ()))) ∧ (decide (inF (consC.fst, consC.snd.fst, consC.snd.snd.fst, consC.snd.snd.snd.fst, consC.snd.snd.snd.snd.fst, consC.snd.snd.snd.snd.snd) (2 : Int) (5 : Int) = (0 : Int)) = !true → (false, ()) = (true, ()))) ∧ (decide (inF (consC.fst, consC.snd.fst, consC.snd.snd.fst, consC.snd.snd.snd.fst, consC.snd.snd.snd.snd.fst, consC.snd.snd.snd.snd.snd) (2 : Int) (4 : Int) = (21 : Int)) = !true → (false, ()) = (true, ()))) ∧ (decide (inF (consC.fst, consC.snd.fst, consC.snd.snd.fst, consC.snd.snd.snd.fst, consC.snd.snd.snd.snd.fst, consC.snd.snd.snd.snd.snd) (1 : Int) (9 : Int) = (20 : Int)) = !true → (false, ()) = (true, ()))) ∧ (decide (ckF (consC.fst, consC.snd.fst, consC.snd.snd.fst, consC.snd.snd.snd.fst, consC.snd.snd.snd.snd.fst, consC.snd.snd.snd.snd.snd) = (0 : Int)) = !true → (false, ()) = (true, ()))) ∧ (decide ((printC ((0 : Int), (0 : Int), (0 : Int), (0 : Int), (0 : Int), (0 : Int))).snd = (41 : Int)) = !true → (false, ()) = (true, ()))) ∧ (decide ((takeF [(109 : UInt8), (111 : UInt8), (118 : UInt8), (101 : UInt8), (32 : UInt8), (49 : UInt8), (32 : UInt8), (49 : UInt8), (32 : UInt8), (49 : UInt8), (32 : UInt8), (49 : UInt8), (32 : UInt8), (48 : UInt8)] (0 : Int)).snd.snd = (41 : Int)) = !true → (false, ()) = (true, ()))) ∧ (decide ((takeF [(99 : UInt8), (111 : UInt8), (115 : UInt8), (116 : UInt8), (32 : UInt8), (49 : UInt8)] (0 : Int)).snd.snd = (8 : Int)) = !true → (false, ()) = (true, ()))) ∧ (decide ((takeF [(99 : UInt8), (111 : UInt8), (110 : UInt8)] (0 : Int)).snd.snd = (4 : Int)) = !true → (false, ()) = (true, ()))) ∧ (decide ((takeF [(120 : UInt8), (32 : UInt8), (99 : UInt8), (111 : UInt8), (110 : UInt8), (115 : UInt8), (32 : UInt8), (50 : UInt8), (32 : UInt8), (53 : UInt8), (32 : UInt8), (49 : UInt8), (32 : UInt8), (51 : UInt8), (32 : UInt8), (48 : UInt8), (59 : UInt8)] (2 : Int)).snd.snd = (0 : Int)) = !true → (false, ()) = (true, ()))) ∧ (decide ((takeF [(120 : UInt8), (32 : UInt8), (99 : UInt8), (111 : UInt8), (110 : UInt8), (115 : UInt8), (32 : UInt8), (50 : UInt8), (32 : UInt8), (53 : UInt8), (32 : UInt8), (49 : UInt8), (32 : UInt8), (51 : UInt8), (32 : UInt8), (48 : UInt8), (59 : UInt8)] (2 : Int)).snd.fst = (16 : Int)) = !true → (false, ()) = (true, ()))) ∧ ((decide ((takeF [(120 : UInt8), (32 : UInt8), (99 : UInt8), (111 : UInt8), (110 : UInt8), (115 : UInt8), (32 : UInt8), (50 : UInt8), (32 : UInt8), (53 : UInt8), (32 : UInt8), (49 : UInt8), (32 : UInt8), (51 : UInt8), (32 : UInt8), (48 : UInt8), (59 : UInt8)] (2 : Int)).fst.fst = consC.fst) && (decide ((takeF [(120 : UInt8), (32 : UInt8), (99 : UInt8), (111 : UInt8), (110 : UInt8), (115 : UInt8), (32 : UInt8), (50 : UInt8), (32 : UInt8), (53 : UInt8), (32 : UInt8), (49 : UInt8), (32 : UInt8), (51 : UInt8), (32 : UInt8), (48 : UInt8), (59 : UInt8)] (2 : Int)).fst.snd.fst = consC.snd.fst) && (decide ((takeF [(120 : UInt8), (32 : UInt8), (99 : UInt8), (111 : UInt8), (110 : UInt8), (115 : UInt8), (32 : UInt8), (50 : UInt8), (32 : UInt8), (53 : UInt8), (32 : UInt8), (49 : UInt8), (32 : UInt8), (51 : UInt8), (32 : UInt8), (48 : UInt8), (59 : UInt8)] (2 : Int)).fst.snd.snd.fst = consC.snd.snd.fst) && (decide ((takeF [(120 : UInt8), (32 : UInt8), (99 : UInt8), (111 : UInt8), (110 : UInt8), (115 : UInt8), (32 : UInt8), (50 : UInt8), (32 : UInt8), (53 : UInt8), (32 : UInt8), (49 : UInt8), (32 : UInt8), (51 : UInt8), (32 : UInt8), (48 : UInt8), (59 : UInt8)] (2 : Int)).fst.snd.snd.snd.fst = consC.snd.snd.snd.fst) && (decide ((takeF [(120 : UInt8), (32 : UInt8), (99 : UInt8), (111 : UInt8), (110 : UInt8), (115 : UInt8), (32 : UInt8), (50 : UInt8), (32 : UInt8), (53 : UInt8), (32 : UInt8), (49 : UInt8), (32 : UInt8), (51 : UInt8), (32 : UInt8), (48 : UInt8), (59 : UInt8)] (2 : Int)).fst.snd.snd.snd.snd.fst = consC.snd.snd.snd.snd.fst) && (decide ((takeF [(120 : UInt8), (32 : UInt8), (99 : UInt8), (111 : UInt8), (110 : UInt8), (115 : UInt8), (32 : UInt8), (50 : UInt8), (32 : UInt8), (53 : UInt8), (32 : UInt8), (49 : UInt8), (32 : UInt8), (51 : UInt8), (32 : UInt8), (48 : UInt8), (59 : UInt8)] (2 : Int)).fst.snd.snd.snd.snd.snd = consC.snd.snd.snd.snd.snd) && true)))))) = !true → (false, ()) = (true, ()))) ∧ (decide ((printC (consC.fst, consC.snd.fst, consC.snd.snd.fst, consC.snd.snd.snd.fst, consC.snd.snd.snd.snd.fst, consC.snd.snd.snd.snd.snd)).snd = (0 : Int)) = !true → (false, ()) = (true, ()))) ∧ (decide ((printC (consC.fst, consC.snd.fst, consC.snd.snd.fst, consC.snd.snd.snd.fst, consC.snd.snd.snd.snd.fst, consC.snd.snd.snd.snd.snd)).fst = [(99 : UInt8), (111 : UInt8), (110 : UInt8), (115 : UInt8), (32 : UInt8), (50 : UInt8), (32 : UInt8), (53 : UInt8), (32 : UInt8), (49 : UInt8), (32 : UInt8), (51 : UInt8), (32 : UInt8), (48 : UInt8)]) = !true → (false, ()) = (true, ()))
theorem g_awake_eq  : g_awake  = g_awake_vc  := by kernel_rfl
theorem itoa_dig {n : Nat} (h : n < 10) : Lib.itoa (n : Int) = [UInt8.ofNat (48 + n)] := by
  have : Lib.itoa (n : Int) = Lib.decDigits n := rfl
  rw [this, Lib.decDigits, dif_pos h]
theorem consE : ((consC.1, consC.2.1, consC.2.2.1, consC.2.2.2.1, consC.2.2.2.2.1, consC.2.2.2.2.2) : CeD) = consC := rfl
theorem aw1 : printC consC = ([(99 : UInt8), (111 : UInt8), (110 : UInt8), (115 : UInt8), (32 : UInt8), (50 : UInt8), (32 : UInt8), (53 : UInt8), (32 : UInt8), (49 : UInt8), (32 : UInt8), (51 : UInt8), (32 : UInt8), (48 : UInt8)], 0) := by
  have e : printC consC = (wordC 7 ++ sayF [2, 5, 1, 3, 0], 0) := by kernel_rfl
  have h0 := itoa_dig (n := 0) (by decide)
  have h1 := itoa_dig (n := 1) (by decide)
  have h2 := itoa_dig (n := 2) (by decide)
  have h3 := itoa_dig (n := 3) (by decide)
  have h5 := itoa_dig (n := 5) (by decide)
  simp only [Int.cast_ofNat_Int] at h0 h1 h2 h3 h5
  rw [e]
  unfold sayF
  simp only [List.flatMap_cons, List.flatMap_nil, h0, h1, h2, h3, h5]
  decide
theorem aw2 : takeF [(120 : UInt8), (32 : UInt8), (99 : UInt8), (111 : UInt8), (110 : UInt8), (115 : UInt8), (32 : UInt8), (50 : UInt8), (32 : UInt8), (53 : UInt8), (32 : UInt8), (49 : UInt8), (32 : UInt8), (51 : UInt8), (32 : UInt8), (48 : UInt8), (59 : UInt8)] 2 = (consC, 16, 0) := by kernel_rfl
theorem aw3 : takeF [(99 : UInt8), (111 : UInt8), (110 : UInt8)] 0 = (nilK, 0, 4) := by kernel_rfl
theorem aw4 : takeF [(99 : UInt8), (111 : UInt8), (115 : UInt8), (116 : UInt8), (32 : UInt8), (49 : UInt8)] 0 = (nilK, 0, 8) := by kernel_rfl
theorem aw5 : takeF [(109 : UInt8), (111 : UInt8), (118 : UInt8), (101 : UInt8), (32 : UInt8), (49 : UInt8), (32 : UInt8), (49 : UInt8), (32 : UInt8), (49 : UInt8), (32 : UInt8), (49 : UInt8), (32 : UInt8), (48 : UInt8)] 0 = (nilK, 0, 41) := by kernel_rfl
theorem aw6 : printC (0, 0, 0, 0, 0, 0) = ([], 41) := by kernel_rfl
theorem aw7 : ckF consC = 0 := by kernel_rfl
theorem aw8 : inF consC 1 9 = 20 := by kernel_rfl
theorem aw9 : inF consC 2 4 = 21 := by kernel_rfl
theorem aw10 : inF consC 2 5 = 0 := by kernel_rfl
theorem aw11 : lessF (1, 9, 9, 0, 0, 0) consC = true := by kernel_rfl
theorem aw12 : lessF consC (1, 9, 9, 0, 0, 0) = false := by kernel_rfl
theorem aw13 : List.foldl withC [] [consC, (1, 9, 9, 0, 0, 0), consC] = [(1, 9, 9, 0, 0, 0), consC] := by kernel_rfl
theorem g_awake_ok : g_awake_vc := by
  unfold g_awake_vc
  simp only [consE, aw1, aw2, aw3, aw4, aw5, aw6, aw7, aw8, aw9, aw10, aw11, aw12, aw13]
  simp
set_option maxRecDepth 20000 in
theorem awake_pure  : Pure Tryz.prog 4 [] (.bool true) :=
  Pure.of_g (E := env_awake ) (ts := tsOf Tryz.f4) (ps := [.bool]) (r := (true, ())) (fn := Tryz.f4) (c := codeOf Tryz.f4) (specs_ok (P := Tryz.prog) rfl [sp_cons, sp_print, sp_take, sp_check, sp_cin, sp_less, sp_csort, sp_same] [] rfl rfl) mixed Tryz.func4 rfl rfl (g := g_awake ) (by delta g_awake start0; first | with_reducible exact Eq.refl _ | exact Eq.refl _) (by rw [g_awake_eq ]; exact g_awake_ok )
noncomputable def q_awake  : Prop × V := (True, (.bool true))
noncomputable def sp_awake : FSpec Tryz.prog where
  f := 4
  run := fun args => match args with
    | [] => some (q_awake )
    | _ => none
  ok := fun args pre r h hp => by
    try dsimp only at h
    split at h
    ·
      have h := Option.some.inj h
      unfold q_awake at h
      cases h
      exact (awake_pure ).weak .nil
    · cases h

end Go.Proofs.YtemgelifnjefoaaGreatDoor
