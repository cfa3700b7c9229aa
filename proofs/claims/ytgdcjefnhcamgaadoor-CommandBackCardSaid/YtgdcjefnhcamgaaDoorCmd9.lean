/-
  command: what the document reads. The walk.
-/
import Derived.Test.YtgdcjefnhcamgaaDoorCmd8
namespace Go.Proofs.YtgdcjefnhcamgaaDoor
open Go.Vm

def R0 (s : By) : List Int × Int × Int := rowGo s (numN (kindF s).1).toNat (kindF s).2.1 []
def pad4 (l : List Int) : List Int := l ++ List.replicate (4 - l.length) 0
def S2 (s : By) : Int × Int × Bool × Bool :=
  if (kindF s).1 = 2 then
    if (rnumF s (R0 s).2.1 0 1).2.2 = 0 then ((rnumF s (rnumF s (R0 s).2.1 0 1).2.1 0 1).2.1, (rnumF s (rnumF s (R0 s).2.1 0 1).2.1 0 1).2.2, decide ((rnumF s (R0 s).2.1 0 1).1 = 1), decide ((rnumF s (rnumF s (R0 s).2.1 0 1).2.1 0 1).1 = 1))
    else ((rnumF s (R0 s).2.1 0 1).2.1, (rnumF s (R0 s).2.1 0 1).2.2, decide ((rnumF s (R0 s).2.1 0 1).1 = 1), false)
  else ((R0 s).2.1, 0, false, false)
def S5 (s : By) : Int × Int × Int × Int :=
  if (kindF s).1 = 5 then
    if (rowGo s 2 (S2 s).1 []).2.2 = 0 then ((rowGo s 2 (S2 s).1 []).2.1, 0, nthI (rowGo s 2 (S2 s).1 []).1 0, nthI (rowGo s 2 (S2 s).1 []).1 1)
    else ((rowGo s 2 (S2 s).1 []).2.1, (rowGo s 2 (S2 s).1 []).2.2, 0, 0)
  else ((S2 s).1, (S2 s).2.1, 0, 0)
def S7 (s : By) : Int × Int × List LnD :=
  if (kindF s).1 = 7 then ((linesFr s (S5 s).1).2.1, (linesFr s (S5 s).1).2.2, (linesFr s (S5 s).1).1) else ((S5 s).1, (S5 s).2.1, [])
def base5 (s : By) : Int × Int × Int × Int × Int := ((kindF s).1, nthI (pad4 (R0 s).1) 0, nthI (pad4 (R0 s).1) 1, nthI (pad4 (R0 s).1) 2, nthI (pad4 (R0 s).1) 3)
def C7 (s : By) : CmD := ((base5 s).1, (base5 s).2.1, (base5 s).2.2.1, (base5 s).2.2.2.1, (base5 s).2.2.2.2, (S2 s).2.2.1, (S2 s).2.2.2, ((S5 s).2.2.1, (S5 s).2.2.2), (S7 s).2.2)
def rparseF (s : By) : CmD × Int :=
  if (kindF s).2.2 = 0 then
    if (R0 s).2.2 = 0 then restF s (C7 s) (S7 s).1 (S7 s).2.1
    else (nilC, (R0 s).2.2)
  else (nilC, (kindF s).2.2)
abbrev X9 : Type := Int × Int × Int × Int × Int × Int × Int × Bool × Bool × Int × Int × List LnD × Unit
noncomputable def env_rparse (s : By) : Env where
  P := Tryd.prog
  ty := tys0
  specs := specsOf [sp_kind, sp_rnums, sp_row, sp_rnumber, sp_lines]
  frz := fun | 84 => true | 103 => true | _ => false
  heads := fun
    | 7 => some { slots := [(7, .slc 9000 I)], boxes := [], keep := [2], drop := [22, 27, 28], inv := fun _ (x : List Int × Unit) => x.1.length ≤ 4 ∧ pad4 x.1 = pad4 (R0 s).1, measure := fun _ (x : List Int × Unit) => 4 - x.1.length }
    | _ => none
  joins := fun
    | 18 => some { slots := [(5, .int .i64), (6, .int .i64)], boxes := [(8, [.int .i64, .int .i64, .int .i64, .int .i64, .int .i64, .bool, .bool, .int .i64, .int .i64, .list .part Ln])], keep := [2], drop := [7, 35, 42, 43, 45, 46, 48, 49, 51, 52], inv := fun _ (x : X9) => (x.1, x.2.1, x.2.2.2.2.2.2.2.1, x.2.2.2.2.2.2.2.2.1) = S2 s ∧ (x.2.2.1, x.2.2.2.1, x.2.2.2.2.1, x.2.2.2.2.2.1, x.2.2.2.2.2.2.1) = base5 s ∧ x.2.2.2.2.2.2.2.2.2.1 = 0 ∧ x.2.2.2.2.2.2.2.2.2.2.1 = 0 ∧ x.2.2.2.2.2.2.2.2.2.2.2.1.length = 0 }
    | 22 => some { slots := [(5, .int .i64), (6, .int .i64)], boxes := [(8, [.int .i64, .int .i64, .int .i64, .int .i64, .int .i64, .bool, .bool, .int .i64, .int .i64, .list .part Ln])], keep := [2], inv := fun _ (x : X9) => (x.1, x.2.1, x.2.2.2.2.2.2.2.2.2.1, x.2.2.2.2.2.2.2.2.2.2.1) = S5 s ∧ (x.2.2.1, x.2.2.2.1, x.2.2.2.2.1, x.2.2.2.2.2.1, x.2.2.2.2.2.2.1) = base5 s ∧ (x.2.2.2.2.2.2.2.1, x.2.2.2.2.2.2.2.2.1) = (S2 s).2.2 ∧ x.2.2.2.2.2.2.2.2.2.2.2.1.length = 0 }
    | 24 => some { slots := [(5, .int .i64), (6, .int .i64)], boxes := [(8, [.int .i64, .int .i64, .int .i64, .int .i64, .int .i64, .bool, .bool, .int .i64, .int .i64, .list .part Ln])], keep := [2], inv := fun _ (x : X9) => (x.1, x.2.1, x.2.2.2.2.2.2.2.2.2.2.2.1) = S7 s ∧ (x.2.2.1, x.2.2.2.1, x.2.2.2.2.1, x.2.2.2.2.2.1, x.2.2.2.2.2.2.1, x.2.2.2.2.2.2.2.1, x.2.2.2.2.2.2.2.2.1, (x.2.2.2.2.2.2.2.2.2.1, x.2.2.2.2.2.2.2.2.2.2.1), x.2.2.2.2.2.2.2.2.2.2.2.1) = C7 s }
    | _ => none
abbrev ann_rparse : Ann := { slots := numP 0 [.int .i64, .int .i64, .int .i64, .int .i64, .int .i64, .bool, .bool, .int .i64, .int .i64, .list .part Ln, .int .i64], boxes := [], inv := fun _ _ => True }
noncomputable def g_rparse (s : By) : Prop := vc (env_rparse s) (codeOf Tryd.f12) (start0 Tryd.f12 [.str s]) (exitG (env_rparse s).P Tryd.f12.results.toList [some 10, none] (env_rparse s).pins ann_rparse ((rparseF s).1.1, (rparseF s).1.2.1, (rparseF s).1.2.2.1, (rparseF s).1.2.2.2.1, (rparseF s).1.2.2.2.2.1, (rparseF s).1.2.2.2.2.2.1, (rparseF s).1.2.2.2.2.2.2.1, (rparseF s).1.2.2.2.2.2.2.2.1.1, (rparseF s).1.2.2.2.2.2.2.2.1.2, (rparseF s).1.2.2.2.2.2.2.2.2, (rparseF s).2, ()))
def g_rparse_vc (s : By) : Prop :=
  List.length s ≤ (10000 : Nat) ∧ ((!decide ((kindF s).snd.snd = (0 : Int))) = true → True ∧ ((0 : Int), (0 : Int), (0 : Int), (0 : Int), (0 : Int), false, false, (0 : Int), (0 : Int), [], (kindF s).snd.snd, ()) = ((rparseF s).fst.fst, (rparseF s).fst.snd.fst, (rparseF s).fst.snd.snd.fst, (rparseF s).fst.snd.snd.snd.fst, (rparseF s).fst.snd.snd.snd.snd.fst, (rparseF s).fst.snd.snd.snd.snd.snd.fst, (rparseF s).fst.snd.snd.snd.snd.snd.snd.fst, (rparseF s).fst.snd.snd.snd.snd.snd.snd.snd.fst.fst, (rparseF s).fst.snd.snd.snd.snd.snd.snd.snd.fst.snd, (rparseF s).fst.snd.snd.snd.snd.snd.snd.snd.snd, (rparseF s).snd, ())) ∧ ((!decide ((kindF s).snd.snd = (0 : Int))) = false → ((1 : Int) ≤ (kindF s).fst ∧ (kindF s).fst ≤ (8 : Int)) ∧ (List.length s ≤ (10000 : Nat) ∧ (0 : Int) ≤ numN (kindF s).fst ∧ numN (kindF s).fst ≤ (100 : Int)) ∧ ((!decide ((rowGo s (numN (kindF s).fst).toNat (kindF s).snd.fst []).snd.snd = (0 : Int))) = true → True ∧ ((0 : Int), (0 : Int), (0 : Int), (0 : Int), (0 : Int), false, false, (0 : Int), (0 : Int), [], (rowGo s (numN (kindF s).fst).toNat (kindF s).snd.fst []).snd.snd, ()) = ((rparseF s).fst.fst, (rparseF s).fst.snd.fst, (rparseF s).fst.snd.snd.fst, (rparseF s).fst.snd.snd.snd.fst, (rparseF s).fst.snd.snd.snd.snd.fst, (rparseF s).fst.snd.snd.snd.snd.snd.fst, (rparseF s).fst.snd.snd.snd.snd.snd.snd.fst, (rparseF s).fst.snd.snd.snd.snd.snd.snd.snd.fst.fst, (rparseF s).fst.snd.snd.snd.snd.snd.snd.snd.fst.snd, (rparseF s).fst.snd.snd.snd.snd.snd.snd.snd.snd, (rparseF s).snd, ())) ∧ ((!decide ((rowGo s (numN (kindF s).fst).toNat (kindF s).snd.fst []).snd.snd = (0 : Int))) = false → ((some (Obj.box [V.int IntKind.i64 (0 : Int), V.int IntKind.i64 (0 : Int), V.int IntKind.i64 (0 : Int), V.int IntKind.i64 (0 : Int), V.int IntKind.i64 (0 : Int), V.kb false, V.kb false, V.int IntKind.i64 (0 : Int), V.int IntKind.i64 (0 : Int), V.nils]) = some (Obj.box [V.int IntKind.i64 (0 : Int), V.int IntKind.i64 (0 : Int), V.int IntKind.i64 (0 : Int), V.int IntKind.i64 (0 : Int), V.int IntKind.i64 (0 : Int), V.kb false, V.kb false, V.int IntKind.i64 (0 : Int), V.int IntKind.i64 (0 : Int), V.nils]) ∧ True) ∧ (rowGo s (numN (kindF s).fst).toNat (kindF s).snd.fst []).fst.length ≤ (4 : Nat) ∧ pad4 (rowGo s (numN (kindF s).fst).toNat (kindF s).snd.fst []).fst = pad4 (R0 s).fst) ∧ ∀ (x : List Int × Unit), x.fst.length ≤ (4 : Nat) ∧ pad4 x.fst = pad4 (R0 s).fst → (decide ((↑x.fst.length : Int) < (4 : Int)) = true → ((x.fst.length + (1 : Nat)) * (8 : Nat) ≤ (140737488355328 : Nat) ∧ x.fst.length + (1 : Nat) ≤ (4611686018427387904 : Nat)) ∧ (some (Obj.box [V.int IntKind.i64 (0 : Int), V.int IntKind.i64 (0 : Int), V.int IntKind.i64 (0 : Int), V.int IntKind.i64 (0 : Int), V.int IntKind.i64 (0 : Int), V.kb false, V.kb false, V.int IntKind.i64 (0 : Int), V.int IntKind.i64 (0 : Int), V.nils]) = some (Obj.box [V.int IntKind.i64 (0 : Int), V.int IntKind.i64 (0 : Int), V.int IntKind.i64 (0 : Int), V.int IntKind.i64 (0 : Int), V.int IntKind.i64 (0 : Int), V.kb false, V.kb false, V.int IntKind.i64 (0 : Int), V.int IntKind.i64 (0 : Int), V.nils]) ∧ True) ∧ ((x.fst ++ [(0 : Int)]).length ≤ (4 : Nat) ∧ pad4 (x.fst ++ [(0 : Int)]) = pad4 (R0 s).fst) ∧ (4 : Nat) - (x.fst ++ [(0 : Int)]).length < (4 : Nat) - x.fst.length) ∧ (decide ((↑x.fst.length : Int) < (4 : Int)) = false → ((0 : Int) ≤ (0 : Int) ∧ (0 : Int) < (↑x.fst.length : Int)) ∧ Int.toNat (0 : Int) < x.fst.length ∧ ∀ (x_1 : Int), x.fst[Int.toNat (0 : Int)]? = some x_1 → ((0 : Int) ≤ (1 : Int) ∧ (1 : Int) < (↑x.fst.length : Int)) ∧ Int.toNat (1 : Int) < x.fst.length ∧ ∀ (x_2 : Int), x.fst[Int.toNat (1 : Int)]? = some x_2 → ((0 : Int) ≤ (2 : Int) ∧ (2 : Int) < (↑x.fst.length : Int)) ∧ Int.toNat (2 : Int) < x.fst.length ∧ ∀ (x_3 : Int), x.fst[Int.toNat (2 : Int)]? = some x_3 → ((0 : Int) ≤ (3 : Int) ∧ (3 : Int) < (↑x.fst.length : Int)) ∧ Int.toNat (3 : Int) < x.fst.length ∧ ∀ (x_4 : Int), x.fst[Int.toNat (3 : Int)]? = some x_4 → ((decide ((kindF s).fst = (2 : Int)) = true → List.length s ≤ (10000 : Nat) ∧ (decide ((rnumF s (rowGo s (numN (kindF s).fst).toNat (kindF s).snd.fst []).snd.fst (0 : Int) (1 : Int)).snd.snd = (0 : Int)) = true → List.length s ≤ (10000 : Nat) ∧ (some (Obj.box [V.int IntKind.i64 (0 : Int), V.int IntKind.i64 (0 : Int), V.int IntKind.i64 (0 : Int), V.int IntKind.i64 (0 : Int), V.int IntKind.i64 (0 : Int), V.kb false, V.kb false, V.int IntKind.i64 (0 : Int), V.int IntKind.i64 (0 : Int), V.nils]) = some (Obj.box [V.int IntKind.i64 (0 : Int), V.int IntKind.i64 (0 : Int), V.int IntKind.i64 (0 : Int), V.int IntKind.i64 (0 : Int), V.int IntKind.i64 (0 : Int), V.kb false, V.kb false, V.int IntKind.i64 (0 : Int), V.int IntKind.i64 (0 : Int), V.nils]) ∧ True) ∧ ((rnumF s (rnumF s (rowGo s (numN (kindF s).fst).toNat (kindF s).snd.fst []).snd.fst (0 : Int) (1 : Int)).snd.fst (0 : Int) (1 : Int)).snd.fst, (rnumF s (rnumF s (rowGo s (numN (kindF s).fst).toNat (kindF s).snd.fst []).snd.fst (0 : Int) (1 : Int)).snd.fst (0 : Int) (1 : Int)).snd.snd, decide ((rnumF s (rowGo s (numN (kindF s).fst).toNat (kindF s).snd.fst []).snd.fst (0 : Int) (1 : Int)).fst = (1 : Int)), decide ((rnumF s (rnumF s (rowGo s (numN (kindF s).fst).toNat (kindF s).snd.fst []).snd.fst (0 : Int) (1 : Int)).snd.fst (0 : Int) (1 : Int)).fst = (1 : Int))) = S2 s ∧ ((kindF s).fst, x_1, x_2, x_3, x_4) = base5 s ∧ (0 : Int) = (0 : Int) ∧ (0 : Int) = (0 : Int) ∧ (0 : Nat) = (0 : Nat)) ∧ (decide ((rnumF s (rowGo s (numN (kindF s).fst).toNat (kindF s).snd.fst []).snd.fst (0 : Int) (1 : Int)).snd.snd = (0 : Int)) = false → (some (Obj.box [V.int IntKind.i64 (0 : Int), V.int IntKind.i64 (0 : Int), V.int IntKind.i64 (0 : Int), V.int IntKind.i64 (0 : Int), V.int IntKind.i64 (0 : Int), V.kb false, V.kb false, V.int IntKind.i64 (0 : Int), V.int IntKind.i64 (0 : Int), V.nils]) = some (Obj.box [V.int IntKind.i64 (0 : Int), V.int IntKind.i64 (0 : Int), V.int IntKind.i64 (0 : Int), V.int IntKind.i64 (0 : Int), V.int IntKind.i64 (0 : Int), V.kb false, V.kb false, V.int IntKind.i64 (0 : Int), V.int IntKind.i64 (0 : Int), V.nils]) ∧ True) ∧ ((rnumF s (rowGo s (numN (kindF s).fst).toNat (kindF s).snd.fst []).snd.fst (0 : Int) (1 : Int)).snd.fst, (rnumF s (rowGo s (numN (kindF s).fst).toNat (kindF s).snd.fst []).snd.fst (0 : Int) (1 : Int)).snd.snd, decide ((rnumF s (rowGo s (numN (kindF s).fst).toNat (kindF s).snd.fst []).snd.fst (0 : Int) (1 : Int)).fst = (1 : Int)), decide ((0 : Int) = (1 : Int))) = S2 s ∧ ((kindF s).fst, x_1, x_2, x_3, x_4) = base5 s ∧ (0 : Int) = (0 : Int) ∧ (0 : Int) = (0 : Int) ∧ (0 : Nat) = (0 : Nat))) ∧ (decide ((kindF s).fst = (2 : Int)) = false → (some (Obj.box [V.int IntKind.i64 (0 : Int), V.int IntKind.i64 (0 : Int), V.int IntKind.i64 (0 : Int), V.int IntKind.i64 (0 : Int), V.int IntKind.i64 (0 : Int), V.kb false, V.kb false, V.int IntKind.i64 (0 : Int), V.int IntKind.i64 (0 : Int), V.nils]) = some (Obj.box [V.int IntKind.i64 (0 : Int), V.int IntKind.i64 (0 : Int), V.int IntKind.i64 (0 : Int), V.int IntKind.i64 (0 : Int), V.int IntKind.i64 (0 : Int), V.kb false, V.kb false, V.int IntKind.i64 (0 : Int), V.int IntKind.i64 (0 : Int), V.nils]) ∧ True) ∧ ((rowGo s (numN (kindF s).fst).toNat (kindF s).snd.fst []).snd.fst, (rowGo s (numN (kindF s).fst).toNat (kindF s).snd.fst []).snd.snd, false, false) = S2 s ∧ ((kindF s).fst, x_1, x_2, x_3, x_4) = base5 s ∧ (0 : Int) = (0 : Int) ∧ (0 : Int) = (0 : Int) ∧ (0 : Nat) = (0 : Nat))) ∧ ∀ (x : Int × Int × Int × Int × Int × Int × Int × Bool × Bool × Int × Int × List (Int × Int × Int × Int) × Unit), (x.fst, x.snd.fst, x.snd.snd.snd.snd.snd.snd.snd.fst, x.snd.snd.snd.snd.snd.snd.snd.snd.fst) = S2 s ∧ (x.snd.snd.fst, x.snd.snd.snd.fst, x.snd.snd.snd.snd.fst, x.snd.snd.snd.snd.snd.fst, x.snd.snd.snd.snd.snd.snd.fst) = base5 s ∧ x.snd.snd.snd.snd.snd.snd.snd.snd.snd.fst = (0 : Int) ∧ x.snd.snd.snd.snd.snd.snd.snd.snd.snd.snd.fst = (0 : Int) ∧ x.snd.snd.snd.snd.snd.snd.snd.snd.snd.snd.snd.fst.length = (0 : Nat) → ((decide ((kindF s).fst = (5 : Int)) = true → (List.length s ≤ (10000 : Nat) ∧ (0 : Int) ≤ (2 : Int) ∧ (2 : Int) ≤ (100 : Int)) ∧ (decide ((rowGo s (Int.toNat (2 : Int)) x.fst []).snd.snd = (0 : Int)) = true → ((0 : Int) ≤ (0 : Int) ∧ (0 : Int) < (↑(rowGo s (Int.toNat (2 : Int)) x.fst []).fst.length : Int)) ∧ ∀ (x_5 : Int), (rowGo s (Int.toNat (2 : Int)) x.fst []).fst[Int.toNat (0 : Int)]? = some x_5 → ((0 : Int) ≤ (1 : Int) ∧ (1 : Int) < (↑(rowGo s (Int.toNat (2 : Int)) x.fst []).fst.length : Int)) ∧ ∀ (x_6 : Int), (rowGo s (Int.toNat (2 : Int)) x.fst []).fst[Int.toNat (1 : Int)]? = some x_6 → (some (Obj.box [V.int IntKind.i64 (0 : Int), V.int IntKind.i64 (0 : Int), V.int IntKind.i64 (0 : Int), V.int IntKind.i64 (0 : Int), V.int IntKind.i64 (0 : Int), V.kb false, V.kb false, V.int IntKind.i64 (0 : Int), V.int IntKind.i64 (0 : Int), V.nils]) = some (Obj.box [V.int IntKind.i64 (0 : Int), V.int IntKind.i64 (0 : Int), V.int IntKind.i64 (0 : Int), V.int IntKind.i64 (0 : Int), V.int IntKind.i64 (0 : Int), V.kb false, V.kb false, V.int IntKind.i64 (0 : Int), V.int IntKind.i64 (0 : Int), V.nils]) ∧ True) ∧ ((rowGo s (Int.toNat (2 : Int)) x.fst []).snd.fst, (rowGo s (Int.toNat (2 : Int)) x.fst []).snd.snd, x_5, x_6) = S5 s ∧ (x.snd.snd.fst, x.snd.snd.snd.fst, x.snd.snd.snd.snd.fst, x.snd.snd.snd.snd.snd.fst, x.snd.snd.snd.snd.snd.snd.fst) = base5 s ∧ (x.snd.snd.snd.snd.snd.snd.snd.fst, x.snd.snd.snd.snd.snd.snd.snd.snd.fst) = (S2 s).snd.snd ∧ x.snd.snd.snd.snd.snd.snd.snd.snd.snd.snd.snd.fst.length = (0 : Nat)) ∧ (decide ((rowGo s (Int.toNat (2 : Int)) x.fst []).snd.snd = (0 : Int)) = false → (some (Obj.box [V.int IntKind.i64 (0 : Int), V.int IntKind.i64 (0 : Int), V.int IntKind.i64 (0 : Int), V.int IntKind.i64 (0 : Int), V.int IntKind.i64 (0 : Int), V.kb false, V.kb false, V.int IntKind.i64 (0 : Int), V.int IntKind.i64 (0 : Int), V.nils]) = some (Obj.box [V.int IntKind.i64 (0 : Int), V.int IntKind.i64 (0 : Int), V.int IntKind.i64 (0 : Int), V.int IntKind.i64 (0 : Int), V.int IntKind.i64 (0 : Int), V.kb false, V.kb false, V.int IntKind.i64 (0 : Int), V.int IntKind.i64 (0 : Int), V.nils]) ∧ True) ∧ ((rowGo s (Int.toNat (2 : Int)) x.fst []).snd.fst, (rowGo s (Int.toNat (2 : Int)) x.fst []).snd.snd, x.snd.snd.snd.snd.snd.snd.snd.snd.snd.fst, x.snd.snd.snd.snd.snd.snd.snd.snd.snd.snd.fst) = S5 s ∧ (x.snd.snd.fst, x.snd.snd.snd.fst, x.snd.snd.snd.snd.fst, x.snd.snd.snd.snd.snd.fst, x.snd.snd.snd.snd.snd.snd.fst) = base5 s ∧ (x.snd.snd.snd.snd.snd.snd.snd.fst, x.snd.snd.snd.snd.snd.snd.snd.snd.fst) = (S2 s).snd.snd ∧ x.snd.snd.snd.snd.snd.snd.snd.snd.snd.snd.snd.fst.length = (0 : Nat))) ∧ (decide ((kindF s).fst = (5 : Int)) = false → (some (Obj.box [V.int IntKind.i64 (0 : Int), V.int IntKind.i64 (0 : Int), V.int IntKind.i64 (0 : Int), V.int IntKind.i64 (0 : Int), V.int IntKind.i64 (0 : Int), V.kb false, V.kb false, V.int IntKind.i64 (0 : Int), V.int IntKind.i64 (0 : Int), V.nils]) = some (Obj.box [V.int IntKind.i64 (0 : Int), V.int IntKind.i64 (0 : Int), V.int IntKind.i64 (0 : Int), V.int IntKind.i64 (0 : Int), V.int IntKind.i64 (0 : Int), V.kb false, V.kb false, V.int IntKind.i64 (0 : Int), V.int IntKind.i64 (0 : Int), V.nils]) ∧ True) ∧ (x.fst, x.snd.fst, x.snd.snd.snd.snd.snd.snd.snd.snd.snd.fst, x.snd.snd.snd.snd.snd.snd.snd.snd.snd.snd.fst) = S5 s ∧ (x.snd.snd.fst, x.snd.snd.snd.fst, x.snd.snd.snd.snd.fst, x.snd.snd.snd.snd.snd.fst, x.snd.snd.snd.snd.snd.snd.fst) = base5 s ∧ (x.snd.snd.snd.snd.snd.snd.snd.fst, x.snd.snd.snd.snd.snd.snd.snd.snd.fst) = (S2 s).snd.snd ∧ x.snd.snd.snd.snd.snd.snd.snd.snd.snd.snd.snd.fst.length = (0 : Nat))) ∧ ∀ (x : Int × Int × Int × Int × Int × Int × Int × Bool × Bool × Int × Int × List (Int × Int × Int × Int) × Unit), (x.fst, x.snd.fst, x.snd.snd.snd.snd.snd.snd.snd.snd.snd.fst, x.snd.snd.snd.snd.snd.snd.snd.snd.snd.snd.fst) = S5 s ∧ (x.snd.snd.fst, x.snd.snd.snd.fst, x.snd.snd.snd.snd.fst, x.snd.snd.snd.snd.snd.fst, x.snd.snd.snd.snd.snd.snd.fst) = base5 s ∧ (x.snd.snd.snd.snd.snd.snd.snd.fst, x.snd.snd.snd.snd.snd.snd.snd.snd.fst) = (S2 s).snd.snd ∧ x.snd.snd.snd.snd.snd.snd.snd.snd.snd.snd.snd.fst.length = (0 : Nat) → ((decide ((kindF s).fst = (7 : Int)) = true → List.length s ≤ (10000 : Nat) ∧ (some (Obj.box [V.int IntKind.i64 (0 : Int), V.int IntKind.i64 (0 : Int), V.int IntKind.i64 (0 : Int), V.int IntKind.i64 (0 : Int), V.int IntKind.i64 (0 : Int), V.kb false, V.kb false, V.int IntKind.i64 (0 : Int), V.int IntKind.i64 (0 : Int), V.nils]) = some (Obj.box [V.int IntKind.i64 (0 : Int), V.int IntKind.i64 (0 : Int), V.int IntKind.i64 (0 : Int), V.int IntKind.i64 (0 : Int), V.int IntKind.i64 (0 : Int), V.kb false, V.kb false, V.int IntKind.i64 (0 : Int), V.int IntKind.i64 (0 : Int), V.nils]) ∧ True) ∧ ((linesFr s x.fst).snd.fst, (linesFr s x.fst).snd.snd, (linesFr s x.fst).fst) = S7 s ∧ (x.snd.snd.fst, x.snd.snd.snd.fst, x.snd.snd.snd.snd.fst, x.snd.snd.snd.snd.snd.fst, x.snd.snd.snd.snd.snd.snd.fst, x.snd.snd.snd.snd.snd.snd.snd.fst, x.snd.snd.snd.snd.snd.snd.snd.snd.fst, (x.snd.snd.snd.snd.snd.snd.snd.snd.snd.fst, x.snd.snd.snd.snd.snd.snd.snd.snd.snd.snd.fst), (linesFr s x.fst).fst) = C7 s) ∧ (decide ((kindF s).fst = (7 : Int)) = false → (some (Obj.box [V.int IntKind.i64 (0 : Int), V.int IntKind.i64 (0 : Int), V.int IntKind.i64 (0 : Int), V.int IntKind.i64 (0 : Int), V.int IntKind.i64 (0 : Int), V.kb false, V.kb false, V.int IntKind.i64 (0 : Int), V.int IntKind.i64 (0 : Int), V.nils]) = some (Obj.box [V.int IntKind.i64 (0 : Int), V.int IntKind.i64 (0 : Int), V.int IntKind.i64 (0 : Int), V.int IntKind.i64 (0 : Int), V.int IntKind.i64 (0 : Int), V.kb false, V.kb false, V.int IntKind.i64 (0 : Int), V.int IntKind.i64 (0 : Int), V.nils]) ∧ True) ∧ (x.fst, x.snd.fst, x.snd.snd.snd.snd.snd.snd.snd.snd.snd.snd.snd.fst) = S7 s ∧ (x.snd.snd.fst, x.snd.snd.snd.fst, x.snd.snd.snd.snd.fst, x.snd.snd.snd.snd.snd.fst, x.snd.snd.snd.snd.snd.snd.fst, x.snd.snd.snd.snd.snd.snd.snd.fst, x.snd.snd.snd.snd.snd.snd.snd.snd.fst, (x.snd.snd.snd.snd.snd.snd.snd.snd.snd.fst, x.snd.snd.snd.snd.snd.snd.snd.snd.snd.snd.fst), x.snd.snd.snd.snd.snd.snd.snd.snd.snd.snd.snd.fst) = C7 s)) ∧ ∀ (x : Int × Int × Int × Int × Int × Int × Int × Bool × Bool × Int × Int × List (Int × Int × Int × Int) × Unit), (x.fst, x.snd.fst, x.snd.snd.snd.snd.snd.snd.snd.snd.snd.snd.snd.fst) = S7 s ∧ (x.snd.snd.fst, x.snd.snd.snd.fst, x.snd.snd.snd.snd.fst, x.snd.snd.snd.snd.snd.fst, x.snd.snd.snd.snd.snd.snd.fst, x.snd.snd.snd.snd.snd.snd.snd.fst, x.snd.snd.snd.snd.snd.snd.snd.snd.fst, (x.snd.snd.snd.snd.snd.snd.snd.snd.snd.fst, x.snd.snd.snd.snd.snd.snd.snd.snd.snd.snd.fst), x.snd.snd.snd.snd.snd.snd.snd.snd.snd.snd.snd.fst) = C7 s → ((!decide (x.snd.fst = (0 : Int))) = true → True ∧ ((0 : Int), (0 : Int), (0 : Int), (0 : Int), (0 : Int), false, false, (0 : Int), (0 : Int), [], x.snd.fst, ()) = ((rparseF s).fst.fst, (rparseF s).fst.snd.fst, (rparseF s).fst.snd.snd.fst, (rparseF s).fst.snd.snd.snd.fst, (rparseF s).fst.snd.snd.snd.snd.fst, (rparseF s).fst.snd.snd.snd.snd.snd.fst, (rparseF s).fst.snd.snd.snd.snd.snd.snd.fst, (rparseF s).fst.snd.snd.snd.snd.snd.snd.snd.fst.fst, (rparseF s).fst.snd.snd.snd.snd.snd.snd.snd.fst.snd, (rparseF s).fst.snd.snd.snd.snd.snd.snd.snd.snd, (rparseF s).snd, ())) ∧ ((!decide (x.snd.fst = (0 : Int))) = false → (decide (x.fst < (↑(List.length s) : Int)) = true → True ∧ ((0 : Int), (0 : Int), (0 : Int), (0 : Int), (0 : Int), false, false, (0 : Int), (0 : Int), [], (6 : Int), ()) = ((rparseF s).fst.fst, (rparseF s).fst.snd.fst, (rparseF s).fst.snd.snd.fst, (rparseF s).fst.snd.snd.snd.fst, (rparseF s).fst.snd.snd.snd.snd.fst, (rparseF s).fst.snd.snd.snd.snd.snd.fst, (rparseF s).fst.snd.snd.snd.snd.snd.snd.fst, (rparseF s).fst.snd.snd.snd.snd.snd.snd.snd.fst.fst, (rparseF s).fst.snd.snd.snd.snd.snd.snd.snd.fst.snd, (rparseF s).fst.snd.snd.snd.snd.snd.snd.snd.snd, (rparseF s).snd, ())) ∧ (decide (x.fst < (↑(List.length s) : Int)) = false → True ∧ (x.snd.snd.fst, x.snd.snd.snd.fst, x.snd.snd.snd.snd.fst, x.snd.snd.snd.snd.snd.fst, x.snd.snd.snd.snd.snd.snd.fst, x.snd.snd.snd.snd.snd.snd.snd.fst, x.snd.snd.snd.snd.snd.snd.snd.snd.fst, x.snd.snd.snd.snd.snd.snd.snd.snd.snd.fst, x.snd.snd.snd.snd.snd.snd.snd.snd.snd.snd.fst, x.snd.snd.snd.snd.snd.snd.snd.snd.snd.snd.snd.fst, (0 : Int), ()) = ((rparseF s).fst.fst, (rparseF s).fst.snd.fst, (rparseF s).fst.snd.snd.fst, (rparseF s).fst.snd.snd.snd.fst, (rparseF s).fst.snd.snd.snd.snd.fst, (rparseF s).fst.snd.snd.snd.snd.snd.fst, (rparseF s).fst.snd.snd.snd.snd.snd.snd.fst, (rparseF s).fst.snd.snd.snd.snd.snd.snd.snd.fst.fst, (rparseF s).fst.snd.snd.snd.snd.snd.snd.snd.fst.snd, (rparseF s).fst.snd.snd.snd.snd.snd.snd.snd.snd, (rparseF s).snd, ()))))))
theorem g_rparse_eq (s : By) : g_rparse s = g_rparse_vc s := by kernel_rfl
theorem base_of {s : By} {o : List Int} {x0 x1 x2 x3 : Int} (hp : pad4 o = pad4 (R0 s).1) (h0 : o[Int.toNat 0]? = some x0) (h1 : o[Int.toNat 1]? = some x1) (h2 : o[Int.toNat 2]? = some x2) (h3 : o[Int.toNat 3]? = some x3) (hl : o.length ≤ 4) (hl2 : ¬ (o.length : Int) < 4) : ((kindF s).1, x0, x1, x2, x3) = base5 s := by
  have e : pad4 o = o := by
    unfold pad4
    rw [show 4 - o.length = 0 by omega]
    simp
  unfold base5
  rw [← hp, e]
  unfold nthI
  rw [h0, h1, h2, h3]
  rfl
theorem pad_next {o : List Int} (h : (o.length : Int) < 4) : pad4 (o ++ [0]) = pad4 o := by
  unfold pad4
  rw [List.length_append, List.length_singleton, show 4 - o.length = (4 - (o.length + 1)) + 1 by omega, List.replicate_succ, List.append_assoc]
  rfl
theorem row_le (s : By) : ∀ (n : Nat) (a : Int) (out : List Int), (rowGo s n a out).1.length ≤ out.length + n
  | 0, a, out => Nat.le_refl _
  | n + 1, a, out => by
    unfold rowGo
    split
    · have := row_le s n (anyF s a 0).2.1 (out ++ [(anyF s a 0).1])
      rw [List.length_append, List.length_singleton] at this
      omega
    · simp
theorem g_rparse_ok (s : By) (h : s.length ≤ 10000) : g_rparse_vc s := by
  unfold g_rparse_vc
  simp only [decide_eq_true_eq, decide_eq_false_iff_not, Bool.not_eq_true', Bool.not_eq_false', Bool.not_true, Bool.not_false]
  have hki := @kindF_in s
  have hR : rowGo s (numN (kindF s).1).toNat (kindF s).2.1 [] = R0 s := rfl
  rw [hR]
  have hnum : (kindF s).2.2 = 0 → 1 ≤ numN (kindF s).1 ∧ numN (kindF s).1 ≤ 4 := fun e => numN_in (hki e).1 (hki e).2
  have hp0 : (kindF s).2.2 = 0 → (R0 s).2.2 = 0 → rparseF s = restF s (C7 s) (S7 s).1 (S7 s).2.1 := fun e f => by
    unfold rparseF
    rw [if_pos e, if_pos f]
  repeat' (first
    | with_reducible apply And.intro
    | (intro (x : List Int × Unit); obtain ⟨o, ⟨⟩⟩ := x; rintro ⟨h0, hp⟩; dsimp only at h0 hp ⊢)
    | (intro (x : Int × Int × Int × Int × Int × Int × Int × Bool × Bool × Int × Int × List (Int × Int × Int × Int) × Unit); obtain ⟨at1, e, c0, c1, c2, c3, c4, b, p, n, m, ls, ⟨⟩⟩ := x; dsimp only; intro hx)
    | intro _)
  all_goals try (first | trivial | rfl | omega)
  · rename_i e
    unfold rparseF
    rw [if_neg e]
    rfl
  · rename_i e f
    unfold rparseF
    rw [if_pos e, if_neg f]
    rfl
  · have h1 := hnum (by assumption)
    have h2 := row_le s (numN (kindF s).1).toNat (kindF s).2.1 []
    rw [hR, List.length_nil] at h2
    omega
  · rw [List.length_append, List.length_singleton]
    omega
  · rw [pad_next (by assumption), hp]
  · rw [List.length_append, List.length_singleton]
    omega
  · rename_i k2 e
    unfold S2
    rw [if_pos k2, if_pos e]
  · exact base_of hp (by assumption) (by assumption) (by assumption) (by assumption) h0 (by assumption)
  · rename_i k2 e
    unfold S2
    rw [if_pos k2, if_neg e]
    rfl
  · exact base_of hp (by assumption) (by assumption) (by assumption) (by assumption) h0 (by assumption)
  · rename_i f _ _ _ _ _ _ _ _ _ k2
    unfold S2
    rw [if_neg k2, f]
  · exact base_of hp (by assumption) (by assumption) (by assumption) (by assumption) h0 (by assumption)
  · have := row_len s 2 at1 [] (by assumption)
    show 0 < ((rowGo s 2 at1 []).1.length : Int)
    rw [this]
    decide
  · have := row_len s 2 at1 [] (by assumption)
    show 1 < ((rowGo s 2 at1 []).1.length : Int)
    rw [this]
    decide
  · rename_i k5 f _ y0 _ y1
    unfold S5
    rw [← hx.1, if_pos k5]
    have f : (rowGo s 2 at1 []).2.2 = 0 := f
    rw [if_pos f]
    unfold nthI
    rw [show (rowGo s 2 at1 []).1[Int.toNat 0]? = _ from y0, show (rowGo s 2 at1 []).1[Int.toNat 1]? = _ from y1]
    rw [← f]
    rfl
  · exact hx.2.1
  · rw [← hx.1]
  · rename_i k5 f
    unfold S5
    rw [← hx.1, if_pos k5]
    have f : ¬ (rowGo s 2 at1 []).2.2 = 0 := f
    rw [if_neg f, hx.2.2.1, hx.2.2.2.1]
    rfl
  · exact hx.2.1
  · rw [← hx.1]
  · rename_i k5
    unfold S5
    rw [← hx.1, if_neg k5, hx.2.2.1, hx.2.2.2.1]
  · exact hx.2.1
  · rw [← hx.1]
  · rename_i k7
    unfold S7
    rw [← hx.1, if_pos k7]
  · rename_i k7
    have e7 : (S7 s).2.2 = (linesFr s at1).1 := by
      unfold S7
      rw [← hx.1, if_pos k7]
    unfold C7
    rw [e7, ← hx.1, ← hx.2.1, ← hx.2.2.1]
  · rename_i k7
    unfold S7
    rw [← hx.1, if_neg k7, List.eq_nil_of_length_eq_zero hx.2.2.2]
  · rename_i k7
    have e7 : (S7 s).2.2 = [] := by
      unfold S7
      rw [if_neg k7]
    unfold C7
    rw [e7, ← hx.1, ← hx.2.1, ← hx.2.2.1, List.eq_nil_of_length_eq_zero hx.2.2.2]
  · rename_i he
    rw [hp0 (by assumption) (by assumption), ← hx.1]
    unfold restF
    rw [if_neg he]
    rfl
  · rename_i he hr
    rw [hp0 (by assumption) (by assumption), ← hx.1]
    unfold restF
    rw [if_pos he, if_pos hr]
    rfl
  · rename_i he hr
    rw [hp0 (by assumption) (by assumption), ← hx.1]
    unfold restF
    rw [if_pos he, if_neg hr, ← hx.2]
set_option maxRecDepth 20000 in
theorem rparse_pure (s : By) (h : s.length ≤ 10000) : Pure Tryd.prog 12 [.str s] (.tuple [.agg [.int .i64 (rparseF s).1.1, .int .i64 (rparseF s).1.2.1, .int .i64 (rparseF s).1.2.2.1, .int .i64 (rparseF s).1.2.2.2.1, .int .i64 (rparseF s).1.2.2.2.2.1, .bool (rparseF s).1.2.2.2.2.2.1, .bool (rparseF s).1.2.2.2.2.2.2.1, .int .i64 (rparseF s).1.2.2.2.2.2.2.2.1.1, .int .i64 (rparseF s).1.2.2.2.2.2.2.2.1.2, .list .part Ln (rparseF s).1.2.2.2.2.2.2.2.2], .int .i64 (rparseF s).2]) :=
  Pure.of_gG (E := env_rparse s) (sh := [some 10, none]) (ann := ann_rparse) (x := ((rparseF s).1.1, (rparseF s).1.2.1, (rparseF s).1.2.2.1, (rparseF s).1.2.2.2.1, (rparseF s).1.2.2.2.2.1, (rparseF s).1.2.2.2.2.2.1, (rparseF s).1.2.2.2.2.2.2.1, (rparseF s).1.2.2.2.2.2.2.2.1.1, (rparseF s).1.2.2.2.2.2.2.2.1.2, (rparseF s).1.2.2.2.2.2.2.2.2, (rparseF s).2, ())) (fn := Tryd.f12) (c := codeOf Tryd.f12) (specs_ok (P := Tryd.prog) rfl [sp_kind, sp_rnums, sp_row, sp_rnumber, sp_lines] [] rfl rfl) mixed Tryd.func12 rfl rfl rfl rfl rfl (g := g_rparse s) (by delta g_rparse start0; first | with_reducible exact Eq.refl _ | exact Eq.refl _) (by rw [g_rparse_eq s]; exact g_rparse_ok s h)
noncomputable def q_rparse (s : By) : Prop × V := (s.length ≤ 10000, (.tuple [.agg [.int .i64 (rparseF s).1.1, .int .i64 (rparseF s).1.2.1, .int .i64 (rparseF s).1.2.2.1, .int .i64 (rparseF s).1.2.2.2.1, .int .i64 (rparseF s).1.2.2.2.2.1, .bool (rparseF s).1.2.2.2.2.2.1, .bool (rparseF s).1.2.2.2.2.2.2.1, .int .i64 (rparseF s).1.2.2.2.2.2.2.2.1.1, .int .i64 (rparseF s).1.2.2.2.2.2.2.2.1.2, .list .part Ln (rparseF s).1.2.2.2.2.2.2.2.2], .int .i64 (rparseF s).2]))
noncomputable def sp_rparse : FSpec Tryd.prog where
  f := 12
  run := fun args => match args with
    | [.str s] => some (q_rparse s)
    | _ => none
  ok := fun args pre r h hp => by
    try dsimp only at h
    split at h
    · rename_i s
      have h := Option.some.inj h
      unfold q_rparse at h
      cases h
      exact (rparse_pure s hp).weak (.cons (Weak.refl _) .nil)
    · cases h

end Go.Proofs.YtgdcjefnhcamgaaDoor
