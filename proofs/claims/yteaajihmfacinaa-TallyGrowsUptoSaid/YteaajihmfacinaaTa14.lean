/-
  The document's Sheet.
-/
import Derived.Test.YteaajihmfacinaaTa13
namespace Go.Proofs.Yteaajihmfacinaa.Ta
open Go.Vm
def perN (N : List En) : List Int := (N.map (·.1)).foldl withF []
def rzP (N : List En) (e a q p : Int) : List (Int × Rw) := (rthF N e a p q).map fun x => (p, (x.1, x.2.2.2.2.2.1, x.2.2.2.2.2.2))
def rZ (N : List En) (e a q : Int) (ps : List Int) : List (Int × Rw) := ps.flatMap fun p => rzP N e a q p
def rsF (N : List En) (e a q : Int) : Option (List Ro) := shGo (rZ N e a q (perN N)) 0
def RsI (N : List En) (e a q : Int) (rest : List (Int × Rw)) (b : Bool) (d : List Int) (out : List Ro) : Prop := ∃ s, InI s ∧ b = decide (s < 0) ∧ d = digs s.natAbs ∧ rsF N e a q = (shGo rest s).map fun l => out ++ l
noncomputable def env_rsheet (N : List En) (e a q : Int) : Env where
  P := Try.prog
  ty := tys0
  specs := specsOf [sp_with, sp_rthose, sp_of, sp_bplus, sp_bint]
  frz := fun | 47 => true | 62 => true | 63 => true | _ => false
  heads := fun
    | 3 => some { slots := [(11, .int .i64), (10, .list .part I)], boxes := [], inv := fun _ (x : Int × List Int × Unit) => 0 ≤ x.1 ∧ x.1 ≤ N.length ∧ x.2.1 = perN (N.take x.1.toNat), measure := fun _ (x : Int × List Int × Unit) => (N.length - x.1).toNat }
    | 9 => some { slots := [(14, .int .i64), (12, .slc 9000 RoT)], boxes := [(13, [.bool, .list .part I])], inv := fun _ (x : Int × List Ro × Bool × List Int × Unit) => 0 ≤ x.1 ∧ x.1 ≤ (perN N).length ∧ (x.2.1.length : Int) ≤ 10000 * x.1 ∧ RsI N e a q (rZ N e a q ((perN N).drop x.1.toNat)) x.2.2.1 x.2.2.2.1 x.2.1, measure := fun _ (x : Int × List Ro × Bool × List Int × Unit) => ((perN N).length - x.1).toNat }
    | 13 => some { slots := [(16, .int .i64), (12, .slc 9000 RoT)], boxes := [(13, [.bool, .list .part I])], inv := fun st (x : Int × List Ro × Bool × List Int × Unit) => ∃ p, (perN N)[(st.int 14).toNat]? = some p ∧ 0 ≤ st.int 14 ∧ st.int 14 < (perN N).length ∧ 0 ≤ x.1 ∧ x.1 ≤ (rthF N e a p q).length ∧ (x.2.1.length : Int) ≤ 10000 * st.int 14 + x.1 ∧ RsI N e a q ((rzP N e a q p).drop x.1.toNat ++ rZ N e a q ((perN N).drop (st.int 14 + 1).toNat)) x.2.2.1 x.2.2.2.1 x.2.1, measure := fun st (x : Int × List Ro × Bool × List Int × Unit) => (10000 - x.1).toNat }
    | _ => none
def g_rsheet_vc (N : List En) (e : Int) (a : Int) (q : Int) : Prop :=
  (True ∧ (0 : Int) ≤ (0 : Int) ∧ (0 : Int) ≤ (↑N.length : Int) ∧ [] = perN (List.take (Int.toNat (0 : Int)) N)) ∧ ∀ (x : Int × List Int × Unit), (0 : Int) ≤ x.1 ∧ x.1 ≤ (↑N.length : Int) ∧ x.2.1 = perN (List.take x.1.toNat N) → (decide (x.1 < (↑N.length : Int)) = true → ((0 : Int) ≤ x.1 ∧ x.1 < (↑N.length : Int)) ∧ ∀ (x_1 : Int × Int × List (Int × Int × Int × Int)), N[x.1.toNat]? = some x_1 → x.2.1.length ≤ (1000000000 : Nat) ∧ ((-9223372036854775808 : Int) ≤ x.1 + (1 : Int) ∧ x.1 + (1 : Int) ≤ (9223372036854775807 : Int)) ∧ True ∧ ((0 : Int) ≤ x.1 + (1 : Int) ∧ x.1 + (1 : Int) ≤ (↑N.length : Int) ∧ withF x.2.1 x_1.1 = perN (List.take (x.1 + (1 : Int)).toNat N)) ∧ ((↑N.length : Int) - (x.1 + (1 : Int))).toNat < ((↑N.length : Int) - x.1).toNat) ∧ (decide (x.1 < (↑N.length : Int)) = false → (True ∧ (0 : Int) ≤ (0 : Int) ∧ (0 : Int) ≤ (↑(perN N).length : Int) ∧ (↑(0 : Nat) : Int) ≤ (10000 : Int) * (0 : Int) ∧ RsI N e a q (rZ N e a q (List.drop (Int.toNat (0 : Int)) (perN N))) false [] []) ∧ ∀ (x_1 : Int × List (Int × Int × Int × Int) × Bool × List Int × Unit), (0 : Int) ≤ x_1.1 ∧ x_1.1 ≤ (↑(perN N).length : Int) ∧ (↑x_1.2.1.length : Int) ≤ (10000 : Int) * x_1.1 ∧ RsI N e a q (rZ N e a q (List.drop x_1.1.toNat (perN N))) x_1.2.2.1 x_1.2.2.2.1 x_1.2.1 → (decide (x_1.1 < (↑x.2.1.length : Int)) = true → ((0 : Int) ≤ x_1.1 ∧ x_1.1 < (↑x.2.1.length : Int)) ∧ ∀ (x_2 : Int), x.2.1[x_1.1.toNat]? = some x_2 → FwE N ∧ (True ∧ ∃ p, (perN N)[x_1.1.toNat]? = some p ∧ (0 : Int) ≤ x_1.1 ∧ x_1.1 < (↑(perN N).length : Int) ∧ (0 : Int) ≤ (0 : Int) ∧ (0 : Int) ≤ (↑(rthF N e a p q).length : Int) ∧ (↑x_1.2.1.length : Int) ≤ (10000 : Int) * x_1.1 + (0 : Int) ∧ RsI N e a q (List.drop (Int.toNat (0 : Int)) (rzP N e a q p) ++ rZ N e a q (List.drop (x_1.1 + (1 : Int)).toNat (perN N))) x_1.2.2.1 x_1.2.2.2.1 x_1.2.1) ∧ ∀ (x_3 : Int × List (Int × Int × Int × Int) × Bool × List Int × Unit), (∃ p, (perN N)[x_1.1.toNat]? = some p ∧ (0 : Int) ≤ x_1.1 ∧ x_1.1 < (↑(perN N).length : Int) ∧ (0 : Int) ≤ x_3.1 ∧ x_3.1 ≤ (↑(rthF N e a p q).length : Int) ∧ (↑x_3.2.1.length : Int) ≤ (10000 : Int) * x_1.1 + x_3.1 ∧ RsI N e a q (List.drop x_3.1.toNat (rzP N e a q p) ++ rZ N e a q (List.drop (x_1.1 + (1 : Int)).toNat (perN N))) x_3.2.2.1 x_3.2.2.2.1 x_3.2.1) → (decide (x_3.1 < (↑(rthF N e a x_2 q).length : Int)) = true → ((0 : Int) ≤ x_3.1 ∧ x_3.1 < (↑(rthF N e a x_2 q).length : Int)) ∧ ∀ (x_4 : Int × Int × Int × Int × Int × Int × Int), (rthF N e a x_2 q)[x_3.1.toNat]? = some x_4 → InI x_4.2.2.2.2.2.2 ∧ (Big x_3.2.2.1 x_3.2.2.2.1 ∧ Big (decide (x_4.2.2.2.2.2.2 < (0 : Int))) (digs x_4.2.2.2.2.2.2.natAbs) ∧ x_3.2.2.2.1.length ≤ (1000000 : Nat) ∧ (digs x_4.2.2.2.2.2.2.natAbs).length ≤ (1000000 : Nat)) ∧ (Big (decide (Yteaajihmfacinaa.big x_3.2.2.1 x_3.2.2.2.1 + Yteaajihmfacinaa.big (decide (x_4.2.2.2.2.2.2 < (0 : Int))) (digs x_4.2.2.2.2.2.2.natAbs) < (0 : Int))) (digs (Yteaajihmfacinaa.big x_3.2.2.1 x_3.2.2.2.1 + Yteaajihmfacinaa.big (decide (x_4.2.2.2.2.2.2 < (0 : Int))) (digs x_4.2.2.2.2.2.2.natAbs)).natAbs) ∧ (digs (Yteaajihmfacinaa.big x_3.2.2.1 x_3.2.2.2.1 + Yteaajihmfacinaa.big (decide (x_4.2.2.2.2.2.2 < (0 : Int))) (digs x_4.2.2.2.2.2.2.natAbs)).natAbs).length ≤ (1000000 : Nat)) ∧ ((!okB (Yteaajihmfacinaa.big (decide (Yteaajihmfacinaa.big x_3.2.2.1 x_3.2.2.2.1 + Yteaajihmfacinaa.big (decide (x_4.2.2.2.2.2.2 < (0 : Int))) (digs x_4.2.2.2.2.2.2.natAbs) < (0 : Int))) (digs (Yteaajihmfacinaa.big x_3.2.2.1 x_3.2.2.2.1 + Yteaajihmfacinaa.big (decide (x_4.2.2.2.2.2.2 < (0 : Int))) (digs x_4.2.2.2.2.2.2.natAbs)).natAbs))) = true → ([], (10 : Int), ()) = ((shR (rsF N e a q)).1, (shR (rsF N e a q)).2, ())) ∧ ((!okB (Yteaajihmfacinaa.big (decide (Yteaajihmfacinaa.big x_3.2.2.1 x_3.2.2.2.1 + Yteaajihmfacinaa.big (decide (x_4.2.2.2.2.2.2 < (0 : Int))) (digs x_4.2.2.2.2.2.2.natAbs) < (0 : Int))) (digs (Yteaajihmfacinaa.big x_3.2.2.1 x_3.2.2.2.1 + Yteaajihmfacinaa.big (decide (x_4.2.2.2.2.2.2 < (0 : Int))) (digs x_4.2.2.2.2.2.2.natAbs)).natAbs))) = false → ((0 : Int) ≤ x_3.1 ∧ x_3.1 < (↑(rthF N e a x_2 q).length : Int)) ∧ ∀ (x_5 : Int × Int × Int × Int × Int × Int × Int), (rthF N e a x_2 q)[x_3.1.toNat]? = some x_5 → ((0 : Int) ≤ x_1.1 ∧ x_1.1 < (↑x.2.1.length : Int)) ∧ ∀ (x_6 : Int), x.2.1[x_1.1.toNat]? = some x_6 → ((x_3.2.1.length + (1 : Nat)) * (32 : Nat) ≤ (140737488355328 : Nat) ∧ x_3.2.1.length + (1 : Nat) ≤ (4611686018427387904 : Nat)) ∧ ((-9223372036854775808 : Int) ≤ x_3.1 + (1 : Int) ∧ x_3.1 + (1 : Int) ≤ (9223372036854775807 : Int)) ∧ True ∧ (∃ p, (perN N)[x_1.1.toNat]? = some p ∧ (0 : Int) ≤ x_1.1 ∧ x_1.1 < (↑(perN N).length : Int) ∧ (0 : Int) ≤ x_3.1 + (1 : Int) ∧ x_3.1 + (1 : Int) ≤ (↑(rthF N e a p q).length : Int) ∧ (↑(x_3.2.1 ++ [(x_5.1, x_6, x_4.2.2.2.2.2.2, intB (Yteaajihmfacinaa.big (decide (Yteaajihmfacinaa.big x_3.2.2.1 x_3.2.2.2.1 + Yteaajihmfacinaa.big (decide (x_4.2.2.2.2.2.2 < (0 : Int))) (digs x_4.2.2.2.2.2.2.natAbs) < (0 : Int))) (digs (Yteaajihmfacinaa.big x_3.2.2.1 x_3.2.2.2.1 + Yteaajihmfacinaa.big (decide (x_4.2.2.2.2.2.2 < (0 : Int))) (digs x_4.2.2.2.2.2.2.natAbs)).natAbs)))]).length : Int) ≤ (10000 : Int) * x_1.1 + (x_3.1 + (1 : Int)) ∧ RsI N e a q (List.drop (x_3.1 + (1 : Int)).toNat (rzP N e a q p) ++ rZ N e a q (List.drop (x_1.1 + (1 : Int)).toNat (perN N))) (decide (Yteaajihmfacinaa.big x_3.2.2.1 x_3.2.2.2.1 + Yteaajihmfacinaa.big (decide (x_4.2.2.2.2.2.2 < (0 : Int))) (digs x_4.2.2.2.2.2.2.natAbs) < (0 : Int))) (digs (Yteaajihmfacinaa.big x_3.2.2.1 x_3.2.2.2.1 + Yteaajihmfacinaa.big (decide (x_4.2.2.2.2.2.2 < (0 : Int))) (digs x_4.2.2.2.2.2.2.natAbs)).natAbs) (x_3.2.1 ++ [(x_5.1, x_6, x_4.2.2.2.2.2.2, intB (Yteaajihmfacinaa.big (decide (Yteaajihmfacinaa.big x_3.2.2.1 x_3.2.2.2.1 + Yteaajihmfacinaa.big (decide (x_4.2.2.2.2.2.2 < (0 : Int))) (digs x_4.2.2.2.2.2.2.natAbs) < (0 : Int))) (digs (Yteaajihmfacinaa.big x_3.2.2.1 x_3.2.2.2.1 + Yteaajihmfacinaa.big (decide (x_4.2.2.2.2.2.2 < (0 : Int))) (digs x_4.2.2.2.2.2.2.natAbs)).natAbs)))])) ∧ ((10000 : Int) - (x_3.1 + (1 : Int))).toNat < ((10000 : Int) - x_3.1).toNat)) ∧ (decide (x_3.1 < (↑(rthF N e a x_2 q).length : Int)) = false → ((-9223372036854775808 : Int) ≤ x_1.1 + (1 : Int) ∧ x_1.1 + (1 : Int) ≤ (9223372036854775807 : Int)) ∧ True ∧ ((0 : Int) ≤ x_1.1 + (1 : Int) ∧ x_1.1 + (1 : Int) ≤ (↑(perN N).length : Int) ∧ (↑x_3.2.1.length : Int) ≤ (10000 : Int) * (x_1.1 + (1 : Int)) ∧ RsI N e a q (rZ N e a q (List.drop (x_1.1 + (1 : Int)).toNat (perN N))) x_3.2.2.1 x_3.2.2.2.1 x_3.2.1) ∧ ((↑(perN N).length : Int) - (x_1.1 + (1 : Int))).toNat < ((↑(perN N).length : Int) - x_1.1).toNat)) ∧ (decide (x_1.1 < (↑x.2.1.length : Int)) = false → (x_1.2.1, (0 : Int), ()) = ((shR (rsF N e a q)).1, (shR (rsF N e a q)).2, ())))
theorem g_rsheet_eq (N : List En) (e a q : Int) : Cond (env_rsheet N e a q) Try.f16 [.list .tmp EnT N, .int .i64 e, .int .i64 a, .int .i64 q] [.slc 0 RoT, .int .i64] ((shR (rsF N e a q)).1, (shR (rsF N e a q)).2, ()) = g_rsheet_vc N e a q := by kernel_rfl
theorem g_rsheet_ok (N : List En) (e a q : Int) (h : FwE N) : g_rsheet_vc N e a q := by
  have hN := h.1
  have hpl : (perN N).length ≤ 100 := by
    have h1 := len_fold (m := N.map (·.1)) (l := [])
    rw [List.length_map, List.length_nil] at h1
    exact Nat.le_trans (Nat.le_trans h1 (by omega)) hN
  have hrl := fun p => h.those e a p q
  have ham := fun p => h.ams e a p q
  have hI0 : InI 0 := ⟨by decide, by decide⟩
  unfold g_rsheet_vc
  simp only [decide_eq_true_eq, decide_eq_false_iff_not, Bool.not_eq_true', Bool.not_eq_false', Bool.not_true, Bool.not_false, big_digs]
  refine ⟨⟨trivial, by omega, by omega, rfl⟩, ?_⟩
  rintro ⟨i, ps, ⟨⟩⟩ ⟨h0, h1, h2⟩
  dsimp only at h0 h1 h2 ⊢
  refine ⟨fun c => ⟨⟨h0, c⟩, fun y hy => ⟨?_, by omega, trivial, ⟨by omega, by omega, ?_⟩, by omega⟩⟩, fun c => ?_⟩
  · have h3 := len_fold (m := (N.take i.toNat).map (·.1)) (l := [])
    rw [List.length_map, List.length_nil] at h3
    have h4 : ps.length ≤ (N.take i.toNat).length := by rw [h2]; exact Nat.le_trans h3 (by omega)
    have := List.length_take_le i.toNat N
    omega
  · rw [take_next h0 hy, perN, List.map_append, List.foldl_append, h2]
    rfl
  rw [take_all c] at h2
  subst h2
  refine ⟨⟨trivial, by omega, by omega, by simp, 0, hI0, by decide, by rw [Int.natAbs_zero, digs_zero], by simp [rsF]⟩, ?_⟩
  clear h0 h1 c
  rintro ⟨i, out, b, d, ⟨⟩⟩ ⟨h0, h1, h2, h3⟩
  dsimp only at h0 h1 h2 h3 ⊢
  refine ⟨fun c1 => ⟨⟨h0, c1⟩, fun p hp => ⟨h, ⟨trivial, p, hp, h0, c1, by omega, by omega, by omega, ?_⟩, ?_⟩⟩, fun c1 => ?_⟩
  · rw [drop_next h0 hp] at h3
    exact h3
  · have hrp := hrl p
    rintro ⟨k, ou, b2, d2, ⟨⟩⟩ ⟨p', hp', _, _, k0, k1, k2, s, hs, rfl, rfl, k4⟩
    rw [hp] at hp'
    cases hp'
    dsimp only at k0 k1 k2 k4 ⊢
    rw [big_digs]
    refine ⟨fun c2 => ⟨⟨k0, c2⟩, fun y hy => ?_⟩, fun c2 => ?_⟩
    · have hy2 : (rzP N e a q p)[k.toNat]? = some (p, (y.1, y.2.2.2.2.2.1, y.2.2.2.2.2.2)) := by
        rw [rzP, List.getElem?_map, hy]
        rfl
      have hyI := ham p y (List.mem_of_getElem? hy)
      rw [drop_next k0 hy2, List.cons_append, shGo] at k4
      dsimp only at k4
      have ls := digI_len hs
      have ly := digI_len hyI
      have lsum : (digs (s + y.2.2.2.2.2.2).natAbs).length ≤ 1000000 := Nat.le_trans (digs_len (k := 30) (by have := hs.1; have := hs.2; have := hyI.1; have := hyI.2; omega)) (by decide)
      refine ⟨hyI, ⟨Big_digs _, Big_digs _, by omega, by omega⟩, ⟨Big_digs _, lsum⟩, ?_⟩
      by_cases hin : -9223372036854775808 ≤ s + y.2.2.2.2.2.2 ∧ s + y.2.2.2.2.2.2 ≤ 9223372036854775807
      · rw [if_pos hin] at k4
        have ok : okB (s + y.2.2.2.2.2.2) = true := by simp [okB, hin.1, hin.2]
        have ib : intB (s + y.2.2.2.2.2.2) = s + y.2.2.2.2.2.2 := if_pos hin
        rw [ok, ib]
        refine ⟨(fun d => by cases d), fun _ => ⟨⟨k0, c2⟩, fun z hz => ?_⟩⟩
        rw [hy] at hz
        cases hz
        refine ⟨⟨h0, c1⟩, fun p' hp' => ?_⟩
        rw [hp] at hp'
        cases hp'
        refine ⟨by omega, by omega, trivial, ⟨p, hp, h0, c1, by omega, by omega, by simp only [List.length_append, List.length_singleton]; omega, _, hin, rfl, rfl, ?_⟩, by omega⟩
        rw [k4, Option.map_map]
        congr 1
        funext l
        simp
      · rw [if_neg hin] at k4
        have ok : okB (s + y.2.2.2.2.2.2) = false := by
          simp only [okB, Bool.and_eq_false_iff, decide_eq_false_iff_not]
          omega
        rw [ok, k4]
        exact ⟨fun _ => rfl, fun d => by cases d⟩
    · have e1 : (rzP N e a q p).drop k.toNat = [] := List.drop_of_length_le (by rw [rzP, List.length_map]; omega)
      rw [e1, List.nil_append] at k4
      exact ⟨by omega, trivial, ⟨by omega, by omega, by omega, s, hs, rfl, rfl, k4⟩, by omega⟩
  · obtain ⟨s, _, _, _, h4⟩ := h3
    have e1 : List.drop i.toNat (perN N) = [] := List.drop_of_length_le (by omega)
    rw [e1] at h4
    have h4 : rsF N e a q = some (out ++ []) := h4
    rw [h4, List.append_nil]
    rfl
set_option maxRecDepth 20000
theorem rsheet_pure (N : List En) (e a q : Int) (h : FwE N) : Pure Try.prog 16 [.list .tmp EnT N, .int .i64 e, .int .i64 a, .int .i64 q] (.tuple [.olist RoT (shR (rsF N e a q)).1, .int .i64 (shR (rsF N e a q)).2]) :=
  by have k := Pure.of_cond (g_rsheet_eq N e a q) (g_rsheet_ok N e a q h) (specs_ok rfl [sp_with, sp_rthose, sp_of, sp_bplus, sp_bint] [] rfl rfl) mixed Try.func16; exact k
noncomputable def q_rsheet (N : List En) (e a q : Int) : Prop × V := (FwE N, (.tuple [.olist RoT (shR (rsF N e a q)).1, .int .i64 (shR (rsF N e a q)).2]))
noncomputable def sp_rsheet : FSpec Try.prog where
 f := 16
 run := fun
  | [v0, .int .i64 e, .int .i64 a, .int .i64 q] => (asL EnT v0 : Option (List En)).bind fun N => some (q_rsheet N e a q)
  | _ => none
 ok := fun args pre r h hp => by
  split at h
  · rename_i v0 e a q
    obtain ⟨N, h0, h⟩ := Option.bind_eq_some_iff.1 h
    exact of_q h hp fun h => (rsheet_pure N e a q h).weak (.cons (asL_weak h0) (.cons (.refl _) (.cons (.refl _) (.cons (.refl _) .nil))))
  · cases h
end Go.Proofs.Yteaajihmfacinaa.Ta
