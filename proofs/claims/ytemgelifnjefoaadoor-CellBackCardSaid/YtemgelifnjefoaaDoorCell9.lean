/-
  cell: CellBack: the walk.
-/
import Derived.Test.YtemgelifnjefoaaDoorCell7
import Derived.Test.YtemgelifnjefoaaDoorCell8
namespace Go.Proofs.YtemgelifnjefoaaDoor
open Go.Vm

noncomputable def env_back (r e a p c q : Int) (s : By) (i : Int) : Env where
  P := Tryd.prog
  ty := tys0
  specs := specsOf [sp_awake, sp_print, sp_check, sp_take]
  joins := fun
    | 10 => some { slots := [], boxes := [], keep := [3], inv := fun _ (_ : Unit) => s.length ≤ 500 }
    | _ => none
noncomputable def g_back (r e a p c q : Int) (s : By) (i : Int) : Prop := vc (env_back r e a p c q s i) (codeOf Tryd.f4) (start0 Tryd.f4 [.agg [.int .i64 r, .int .i64 e, .int .i64 a, .int .i64 p, .int .i64 c, .int .i64 q], .str s, .int .i64 i]) (exitK (tsOf Tryd.f4) [.bool] (true, ()))
abbrev bx_back_1 (r : Int) (e : Int) (a : Int) (p : Int) (c : Int) (q : Int) : _root_.Go.Vm.Obj := Obj.box [V.int IntKind.i64 r, V.int IntKind.i64 e, V.int IntKind.i64 a, V.int IntKind.i64 p, V.int IntKind.i64 c, V.int IntKind.i64 q]
def g_back_vc (r : Int) (e : Int) (a : Int) (p : Int) (c : Int) (q : Int) (s : By) (i : Int) : Prop :=
  (decide ((500 : Int) < (↑(List.length s) : Int)) = true → True ∧ (true, ()) = (true, ())) ∧ (decide ((500 : Int) < (↑(List.length s) : Int)) = false → True ∧ True ∧ ((!decide ((printC (r, e, a, p, c, q)).snd = (0 : Int)) == decide (ckF (r, e, a, p, c, q) = (0 : Int))) = true → (false, ()) = (true, ())) ∧ ((!decide ((printC (r, e, a, p, c, q)).snd = (0 : Int)) == decide (ckF (r, e, a, p, c, q) = (0 : Int))) = false → ((decide ((printC (r, e, a, p, c, q)).snd = (0 : Int)) = true → (decide ((↑(List.length s) : Int) = (0 : Int)) = false → ((0 : Int) ≤ (0 : Int) ∧ (0 : Int) < (↑(List.length s) : Int)) ∧ ∀ (c_1 : UInt8), s[Int.toNat (0 : Int)]? = some c_1 → (decide ((↑c_1.toNat : Int) < (48 : Int)) = false → ((0 : Int) ≤ (0 : Int) ∧ (0 : Int) < (↑(List.length s) : Int)) ∧ ∀ (c_2 : UInt8), s[Int.toNat (0 : Int)]? = some c_2 → (decide ((57 : Int) < (↑c_2.toNat : Int)) = true → (2 : Nat) + (printC (r, e, a, p, c, q)).fst.length ≤ (9223372036854775807 : Nat) ∧ ([(59 : UInt8), (32 : UInt8)] ++ (printC (r, e, a, p, c, q)).fst).length + List.length s ≤ (9223372036854775807 : Nat) ∧ ([(59 : UInt8), (32 : UInt8)] ++ (printC (r, e, a, p, c, q)).fst ++ s).length ≤ (10000 : Nat) ∧ ((!(decide ((takeF ([(59 : UInt8), (32 : UInt8)] ++ (printC (r, e, a, p, c, q)).fst ++ s) (2 : Int)).fst.fst = r) && (decide ((takeF ([(59 : UInt8), (32 : UInt8)] ++ (printC (r, e, a, p, c, q)).fst ++ s) (2 : Int)).fst.snd.fst = e) && (decide ((takeF ([(59 : UInt8), (32 : UInt8)] ++ (printC (r, e, a, p, c, q)).fst ++ s) (2 : Int)).fst.snd.snd.fst = a) && (decide ((takeF ([(59 : UInt8), (32 : UInt8)] ++ (printC (r, e, a, p, c, q)).fst ++ s) (2 : Int)).fst.snd.snd.snd.fst = p) && (decide ((takeF ([(59 : UInt8), (32 : UInt8)] ++ (printC (r, e, a, p, c, q)).fst ++ s) (2 : Int)).fst.snd.snd.snd.snd.fst = c) && (decide ((takeF ([(59 : UInt8), (32 : UInt8)] ++ (printC (r, e, a, p, c, q)).fst ++ s) (2 : Int)).fst.snd.snd.snd.snd.snd = q) && true))))))) = false → ((-9223372036854775808 : Int) ≤ (2 : Int) + (↑(printC (r, e, a, p, c, q)).fst.length : Int) ∧ (2 : Int) + (↑(printC (r, e, a, p, c, q)).fst.length : Int) ≤ (9223372036854775807 : Int)) ∧ ((!decide ((takeF ([(59 : UInt8), (32 : UInt8)] ++ (printC (r, e, a, p, c, q)).fst ++ s) (2 : Int)).snd.fst = (2 : Int) + (↑(printC (r, e, a, p, c, q)).fst.length : Int))) = false → ((!decide ((takeF ([(59 : UInt8), (32 : UInt8)] ++ (printC (r, e, a, p, c, q)).fst ++ s) (2 : Int)).snd.snd = (0 : Int))) = true → (false, ()) = (true, ())) ∧ ((!decide ((takeF ([(59 : UInt8), (32 : UInt8)] ++ (printC (r, e, a, p, c, q)).fst ++ s) (2 : Int)).snd.snd = (0 : Int))) = false → (some (bx_back_1 r e a p c q) = some (bx_back_1 r e a p c q) ∧ True) ∧ List.length s ≤ (500 : Nat))) ∧ ((!decide ((takeF ([(59 : UInt8), (32 : UInt8)] ++ (printC (r, e, a, p, c, q)).fst ++ s) (2 : Int)).snd.fst = (2 : Int) + (↑(printC (r, e, a, p, c, q)).fst.length : Int))) = !false → (false, ()) = (true, ()))) ∧ ((!(decide ((takeF ([(59 : UInt8), (32 : UInt8)] ++ (printC (r, e, a, p, c, q)).fst ++ s) (2 : Int)).fst.fst = r) && (decide ((takeF ([(59 : UInt8), (32 : UInt8)] ++ (printC (r, e, a, p, c, q)).fst ++ s) (2 : Int)).fst.snd.fst = e) && (decide ((takeF ([(59 : UInt8), (32 : UInt8)] ++ (printC (r, e, a, p, c, q)).fst ++ s) (2 : Int)).fst.snd.snd.fst = a) && (decide ((takeF ([(59 : UInt8), (32 : UInt8)] ++ (printC (r, e, a, p, c, q)).fst ++ s) (2 : Int)).fst.snd.snd.snd.fst = p) && (decide ((takeF ([(59 : UInt8), (32 : UInt8)] ++ (printC (r, e, a, p, c, q)).fst ++ s) (2 : Int)).fst.snd.snd.snd.snd.fst = c) && (decide ((takeF ([(59 : UInt8), (32 : UInt8)] ++ (printC (r, e, a, p, c, q)).fst ++ s) (2 : Int)).fst.snd.snd.snd.snd.snd = q) && true))))))) = !false → (false, ()) = (true, ()))) ∧ (decide ((57 : Int) < (↑c_2.toNat : Int)) = false → (some (bx_back_1 r e a p c q) = some (bx_back_1 r e a p c q) ∧ True) ∧ List.length s ≤ (500 : Nat))) ∧ (decide ((↑c_1.toNat : Int) < (48 : Int)) = !false → (2 : Nat) + (printC (r, e, a, p, c, q)).fst.length ≤ (9223372036854775807 : Nat) ∧ ([(59 : UInt8), (32 : UInt8)] ++ (printC (r, e, a, p, c, q)).fst).length + List.length s ≤ (9223372036854775807 : Nat) ∧ ([(59 : UInt8), (32 : UInt8)] ++ (printC (r, e, a, p, c, q)).fst ++ s).length ≤ (10000 : Nat) ∧ ((!(decide ((takeF ([(59 : UInt8), (32 : UInt8)] ++ (printC (r, e, a, p, c, q)).fst ++ s) (2 : Int)).fst.fst = r) && (decide ((takeF ([(59 : UInt8), (32 : UInt8)] ++ (printC (r, e, a, p, c, q)).fst ++ s) (2 : Int)).fst.snd.fst = e) && (decide ((takeF ([(59 : UInt8), (32 : UInt8)] ++ (printC (r, e, a, p, c, q)).fst ++ s) (2 : Int)).fst.snd.snd.fst = a) && (decide ((takeF ([(59 : UInt8), (32 : UInt8)] ++ (printC (r, e, a, p, c, q)).fst ++ s) (2 : Int)).fst.snd.snd.snd.fst = p) && (decide ((takeF ([(59 : UInt8), (32 : UInt8)] ++ (printC (r, e, a, p, c, q)).fst ++ s) (2 : Int)).fst.snd.snd.snd.snd.fst = c) && (decide ((takeF ([(59 : UInt8), (32 : UInt8)] ++ (printC (r, e, a, p, c, q)).fst ++ s) (2 : Int)).fst.snd.snd.snd.snd.snd = q) && true))))))) = false → ((-9223372036854775808 : Int) ≤ (2 : Int) + (↑(printC (r, e, a, p, c, q)).fst.length : Int) ∧ (2 : Int) + (↑(printC (r, e, a, p, c, q)).fst.length : Int) ≤ (9223372036854775807 : Int)) ∧ ((!decide ((takeF ([(59 : UInt8), (32 : UInt8)] ++ (printC (r, e, a, p, c, q)).fst ++ s) (2 : Int)).snd.fst = (2 : Int) + (↑(printC (r, e, a, p, c, q)).fst.length : Int))) = false → ((!decide ((takeF ([(59 : UInt8), (32 : UInt8)] ++ (printC (r, e, a, p, c, q)).fst ++ s) (2 : Int)).snd.snd = (0 : Int))) = true → (false, ()) = (true, ())) ∧ ((!decide ((takeF ([(59 : UInt8), (32 : UInt8)] ++ (printC (r, e, a, p, c, q)).fst ++ s) (2 : Int)).snd.snd = (0 : Int))) = false → (some (bx_back_1 r e a p c q) = some (bx_back_1 r e a p c q) ∧ True) ∧ List.length s ≤ (500 : Nat))) ∧ ((!decide ((takeF ([(59 : UInt8), (32 : UInt8)] ++ (printC (r, e, a, p, c, q)).fst ++ s) (2 : Int)).snd.fst = (2 : Int) + (↑(printC (r, e, a, p, c, q)).fst.length : Int))) = !false → (false, ()) = (true, ()))) ∧ ((!(decide ((takeF ([(59 : UInt8), (32 : UInt8)] ++ (printC (r, e, a, p, c, q)).fst ++ s) (2 : Int)).fst.fst = r) && (decide ((takeF ([(59 : UInt8), (32 : UInt8)] ++ (printC (r, e, a, p, c, q)).fst ++ s) (2 : Int)).fst.snd.fst = e) && (decide ((takeF ([(59 : UInt8), (32 : UInt8)] ++ (printC (r, e, a, p, c, q)).fst ++ s) (2 : Int)).fst.snd.snd.fst = a) && (decide ((takeF ([(59 : UInt8), (32 : UInt8)] ++ (printC (r, e, a, p, c, q)).fst ++ s) (2 : Int)).fst.snd.snd.snd.fst = p) && (decide ((takeF ([(59 : UInt8), (32 : UInt8)] ++ (printC (r, e, a, p, c, q)).fst ++ s) (2 : Int)).fst.snd.snd.snd.snd.fst = c) && (decide ((takeF ([(59 : UInt8), (32 : UInt8)] ++ (printC (r, e, a, p, c, q)).fst ++ s) (2 : Int)).fst.snd.snd.snd.snd.snd = q) && true))))))) = !false → (false, ()) = (true, ())))) ∧ (decide ((↑(List.length s) : Int) = (0 : Int)) = !false → (2 : Nat) + (printC (r, e, a, p, c, q)).fst.length ≤ (9223372036854775807 : Nat) ∧ ([(59 : UInt8), (32 : UInt8)] ++ (printC (r, e, a, p, c, q)).fst).length + List.length s ≤ (9223372036854775807 : Nat) ∧ ([(59 : UInt8), (32 : UInt8)] ++ (printC (r, e, a, p, c, q)).fst ++ s).length ≤ (10000 : Nat) ∧ ((!(decide ((takeF ([(59 : UInt8), (32 : UInt8)] ++ (printC (r, e, a, p, c, q)).fst ++ s) (2 : Int)).fst.fst = r) && (decide ((takeF ([(59 : UInt8), (32 : UInt8)] ++ (printC (r, e, a, p, c, q)).fst ++ s) (2 : Int)).fst.snd.fst = e) && (decide ((takeF ([(59 : UInt8), (32 : UInt8)] ++ (printC (r, e, a, p, c, q)).fst ++ s) (2 : Int)).fst.snd.snd.fst = a) && (decide ((takeF ([(59 : UInt8), (32 : UInt8)] ++ (printC (r, e, a, p, c, q)).fst ++ s) (2 : Int)).fst.snd.snd.snd.fst = p) && (decide ((takeF ([(59 : UInt8), (32 : UInt8)] ++ (printC (r, e, a, p, c, q)).fst ++ s) (2 : Int)).fst.snd.snd.snd.snd.fst = c) && (decide ((takeF ([(59 : UInt8), (32 : UInt8)] ++ (printC (r, e, a, p, c, q)).fst ++ s) (2 : Int)).fst.snd.snd.snd.snd.snd = q) && true))))))) = false → ((-9223372036854775808 : Int) ≤ (2 : Int) + (↑(printC (r, e, a, p, c, q)).fst.length : Int) ∧ (2 : Int) + (↑(printC (r, e, a, p, c, q)).fst.length : Int) ≤ (9223372036854775807 : Int)) ∧ ((!decide ((takeF ([(59 : UInt8), (32 : UInt8)] ++ (printC (r, e, a, p, c, q)).fst ++ s) (2 : Int)).snd.fst = (2 : Int) + (↑(printC (r, e, a, p, c, q)).fst.length : Int))) = false → ((!decide ((takeF ([(59 : UInt8), (32 : UInt8)] ++ (printC (r, e, a, p, c, q)).fst ++ s) (2 : Int)).snd.snd = (0 : Int))) = true → (false, ()) = (true, ())) ∧ ((!decide ((takeF ([(59 : UInt8), (32 : UInt8)] ++ (printC (r, e, a, p, c, q)).fst ++ s) (2 : Int)).snd.snd = (0 : Int))) = false → (some (bx_back_1 r e a p c q) = some (bx_back_1 r e a p c q) ∧ True) ∧ List.length s ≤ (500 : Nat))) ∧ ((!decide ((takeF ([(59 : UInt8), (32 : UInt8)] ++ (printC (r, e, a, p, c, q)).fst ++ s) (2 : Int)).snd.fst = (2 : Int) + (↑(printC (r, e, a, p, c, q)).fst.length : Int))) = !false → (false, ()) = (true, ()))) ∧ ((!(decide ((takeF ([(59 : UInt8), (32 : UInt8)] ++ (printC (r, e, a, p, c, q)).fst ++ s) (2 : Int)).fst.fst = r) && (decide ((takeF ([(59 : UInt8), (32 : UInt8)] ++ (printC (r, e, a, p, c, q)).fst ++ s) (2 : Int)).fst.snd.fst = e) && (decide ((takeF ([(59 : UInt8), (32 : UInt8)] ++ (printC (r, e, a, p, c, q)).fst ++ s) (2 : Int)).fst.snd.snd.fst = a) && (decide ((takeF ([(59 : UInt8), (32 : UInt8)] ++ (printC (r, e, a, p, c, q)).fst ++ s) (2 : Int)).fst.snd.snd.snd.fst = p) && (decide ((takeF ([(59 : UInt8), (32 : UInt8)] ++ (printC (r, e, a, p, c, q)).fst ++ s) (2 : Int)).fst.snd.snd.snd.snd.fst = c) && (decide ((takeF ([(59 : UInt8), (32 : UInt8)] ++ (printC (r, e, a, p, c, q)).fst ++ s) (2 : Int)).fst.snd.snd.snd.snd.snd = q) && true))))))) = !false → (false, ()) = (true, ())))) ∧ (decide ((printC (r, e, a, p, c, q)).snd = (0 : Int)) = !true → (some (bx_back_1 r e a p c q) = some (bx_back_1 r e a p c q) ∧ True) ∧ List.length s ≤ (500 : Nat))) ∧ ∀ (x : Unit), List.length s ≤ (500 : Nat) → List.length s ≤ (10000 : Nat) ∧ ((!decide ((takeF s i).snd.snd = (0 : Int))) = true → ((decide ((takeF s i).fst.fst = (0 : Int)) && (decide ((takeF s i).fst.snd.fst = (0 : Int)) && (decide ((takeF s i).fst.snd.snd.fst = (0 : Int)) && (decide ((takeF s i).fst.snd.snd.snd.fst = (0 : Int)) && (decide ((takeF s i).fst.snd.snd.snd.snd.fst = (0 : Int)) && (decide ((takeF s i).fst.snd.snd.snd.snd.snd = (0 : Int)) && true)))))) = true → (decide ((takeF s i).snd.fst = (0 : Int)) = true → True ∧ (true, ()) = (true, ())) ∧ (decide ((takeF s i).snd.fst = (0 : Int)) = !true → (false, ()) = (true, ()))) ∧ ((decide ((takeF s i).fst.fst = (0 : Int)) && (decide ((takeF s i).fst.snd.fst = (0 : Int)) && (decide ((takeF s i).fst.snd.snd.fst = (0 : Int)) && (decide ((takeF s i).fst.snd.snd.snd.fst = (0 : Int)) && (decide ((takeF s i).fst.snd.snd.snd.snd.fst = (0 : Int)) && (decide ((takeF s i).fst.snd.snd.snd.snd.snd = (0 : Int)) && true)))))) = !true → (false, ()) = (true, ()))) ∧ ((!decide ((takeF s i).snd.snd = (0 : Int))) = false → (decide (i < (0 : Int)) = false → (decide ((takeF s i).snd.fst < i) = false → (decide ((↑(List.length s) : Int) < (takeF s i).snd.fst) = true → (false, ()) = (true, ())) ∧ (decide ((↑(List.length s) : Int) < (takeF s i).snd.fst) = false → True ∧ ((0 : Int) ≤ i ∧ i ≤ (takeF s i).snd.fst ∧ (takeF s i).snd.fst ≤ (↑(List.length s) : Int)) ∧ (decide ((printC ((takeF s i).fst.fst, (takeF s i).fst.snd.fst, (takeF s i).fst.snd.snd.fst, (takeF s i).fst.snd.snd.snd.fst, (takeF s i).fst.snd.snd.snd.snd.fst, (takeF s i).fst.snd.snd.snd.snd.snd)).fst = List.drop i.toNat (List.take (takeF s i).snd.fst.toNat s)) = true → (decide ((printC ((takeF s i).fst.fst, (takeF s i).fst.snd.fst, (takeF s i).fst.snd.snd.fst, (takeF s i).fst.snd.snd.snd.fst, (takeF s i).fst.snd.snd.snd.snd.fst, (takeF s i).fst.snd.snd.snd.snd.snd)).snd = (0 : Int)) = true → True ∧ (true, ()) = (true, ())) ∧ (decide ((printC ((takeF s i).fst.fst, (takeF s i).fst.snd.fst, (takeF s i).fst.snd.snd.fst, (takeF s i).fst.snd.snd.snd.fst, (takeF s i).fst.snd.snd.snd.snd.fst, (takeF s i).fst.snd.snd.snd.snd.snd)).snd = (0 : Int)) = !true → (false, ()) = (true, ()))) ∧ (decide ((printC ((takeF s i).fst.fst, (takeF s i).fst.snd.fst, (takeF s i).fst.snd.snd.fst, (takeF s i).fst.snd.snd.snd.fst, (takeF s i).fst.snd.snd.snd.snd.fst, (takeF s i).fst.snd.snd.snd.snd.snd)).fst = List.drop i.toNat (List.take (takeF s i).snd.fst.toNat s)) = !true → (false, ()) = (true, ())))) ∧ (decide ((takeF s i).snd.fst < i) = !false → (false, ()) = (true, ()))) ∧ (decide (i < (0 : Int)) = !false → (false, ()) = (true, ())))))
theorem g_back_eq (r e a p c q : Int) (s : By) (i : Int) : g_back r e a p c q s i = g_back_vc r e a p c q s i := by kernel_rfl
theorem g_back_ok (r e a p c q : Int) (s : By) (i : Int) : g_back_vc r e a p c q s i := by
  unfold g_back_vc
  have hps : (printC (r, e, a, p, c, q)).2 = ckF (r, e, a, p, c, q) := by
    unfold printC ckF
    split <;> rfl
  have hpl : (printC (r, e, a, p, c, q)).2 = 0 → (printC (r, e, a, p, c, q)).1.length ≤ 300 := fun h => by
    rw [hps] at h
    unfold printC
    rw [if_pos (ck_ok h)]
    exact text_len (ck_ok h)
  have hT : (printC (r, e, a, p, c, q)).2 = 0 → (∀ k, s.head? = some k → isDig k = false) → takeF ([59, 32] ++ (printC (r, e, a, p, c, q)).1 ++ s) 2 = ((r, e, a, p, c, q), 2 + ((printC (r, e, a, p, c, q)).1.length : Int), 0) := fun h hd => by
    rw [hps] at h
    have := take_text (ck_ok h) [59, 32] s hd
    unfold printC
    rw [if_pos (ck_ok h), List.append_assoc]
    rw [show ([59, 32] : By).length = 2 from rfl] at this
    refine this.trans ?_
    rw [List.length_append]
    rfl
  have hT1 : (printC (r, e, a, p, c, q)).2 = 0 → (List.length s : Int) = 0 → takeF ([59, 32] ++ (printC (r, e, a, p, c, q)).1 ++ s) 2 = ((r, e, a, p, c, q), 2 + ((printC (r, e, a, p, c, q)).1.length : Int), 0) := fun h h0 => hT h fun k hk => by
    have : s = [] := List.eq_nil_of_length_eq_zero (by omega)
    rw [this] at hk
    cases hk
  have hd0 : s[Int.toNat 0]? = s.head? := by cases s <;> rfl
  have hT2 : ∀ k : UInt8, (printC (r, e, a, p, c, q)).2 = 0 → s[Int.toNat 0]? = some k → (k.toNat : Int) < 48 → takeF ([59, 32] ++ (printC (r, e, a, p, c, q)).1 ++ s) 2 = ((r, e, a, p, c, q), 2 + ((printC (r, e, a, p, c, q)).1.length : Int), 0) := fun k h h0 h1 => hT h fun k' hk => by
    rw [← hd0, h0] at hk
    cases hk
    unfold isDig
    rw [decide_eq_false (by omega)]
    rfl
  have hT3 : ∀ k : UInt8, (printC (r, e, a, p, c, q)).2 = 0 → s[Int.toNat 0]? = some k → 57 < (k.toNat : Int) → takeF ([59, 32] ++ (printC (r, e, a, p, c, q)).1 ++ s) 2 = ((r, e, a, p, c, q), 2 + ((printC (r, e, a, p, c, q)).1.length : Int), 0) := fun k h h0 h1 => hT h fun k' hk => by
    rw [← hd0, h0] at hk
    cases hk
    unfold isDig
    rw [decide_eq_false (p := (k.toNat : Int) ≤ 57) (by omega), Bool.and_false]
  have he := @take_err s i
  have hr := @take_read s i
  have hr2 : (takeF s i).2.2 = 0 → printC (takeF s i).1 = (textC (takeF s i).1, 0) := fun h => by
    unfold printC
    rw [if_pos (hr h).1]
  have hr3 : (takeF s i).2.2 = 0 → textC (takeF s i).1 = (s.take (takeF s i).2.1.toNat).drop i.toNat := fun h => by
    obtain ⟨_, h1, h2, h3, h4⟩ := hr h
    rw [h4, List.drop_left' (by rw [List.length_take]; omega)]
  simp only [decide_eq_true_eq, decide_eq_false_iff_not, Bool.not_eq_true', Bool.not_eq_false', Bool.not_true, Bool.not_false]
  repeat' (first | with_reducible apply And.intro | intro _)
  all_goals try (first | trivial | rfl | omega)
  all_goals try (rename_i k; rw [hps] at k; simp at k; done)
  all_goals try (have hh := hpl (by assumption); simp only [List.length_append, List.length_cons, List.length_nil]; omega)
  all_goals try (rename_i t; (first | rw [hT1 (by assumption) (by assumption)] at t | rw [hT2 _ (by assumption) (by assumption) (by assumption)] at t | rw [hT3 _ (by assumption) (by assumption) (by assumption)] at t); (first | exact absurd rfl t | (simp at t; done)))
  all_goals try (exfalso; have hh := hr (by assumption); omega)
  · rename_i h t
    rw [(he h).1] at t
    simp [nilK] at t
  · rename_i h _ _ _ _ t
    exact absurd (congrArg Prod.snd (hr2 h)) t
  · rename_i h _ _ _ t
    exact absurd ((congrArg Prod.fst (hr2 h)).trans (hr3 h)) t
set_option maxRecDepth 20000 in
theorem back_pure (r e a p c q : Int) (s : By) (i : Int) : Pure Tryd.prog 4 [.agg [.int .i64 r, .int .i64 e, .int .i64 a, .int .i64 p, .int .i64 c, .int .i64 q], .str s, .int .i64 i] (.bool true) :=
  Pure.of_g (E := env_back r e a p c q s i) (ts := tsOf Tryd.f4) (ps := [.bool]) (r := (true, ())) (fn := Tryd.f4) (c := codeOf Tryd.f4) (specs_ok (P := Tryd.prog) rfl [sp_awake, sp_print, sp_check, sp_take] [] rfl rfl) mixed Tryd.func4 rfl rfl (g := g_back r e a p c q s i) (by delta g_back start0; first | with_reducible exact Eq.refl _ | exact Eq.refl _) (by rw [g_back_eq r e a p c q s i]; exact g_back_ok r e a p c q s i)
noncomputable def q_back (r e a p c q : Int) (s : By) (i : Int) : Prop × V := (True, (.bool true))
noncomputable def sp_back : FSpec Tryd.prog where
  f := 4
  run := fun args => match args with
    | [.agg [.int .i64 r, .int .i64 e, .int .i64 a, .int .i64 p, .int .i64 c, .int .i64 q], .str s, .int .i64 i] => some (q_back r e a p c q s i)
    | _ => none
  ok := fun args pre r h hp => by
    try dsimp only at h
    split at h
    · rename_i r e a p c q s i
      have h := Option.some.inj h
      unfold q_back at h
      cases h
      exact (back_pure r e a p c q s i).weak (.cons (Weak.refl _) (.cons (Weak.refl _) (.cons (Weak.refl _) .nil)))
    · cases h

end Go.Proofs.YtemgelifnjefoaaDoor
