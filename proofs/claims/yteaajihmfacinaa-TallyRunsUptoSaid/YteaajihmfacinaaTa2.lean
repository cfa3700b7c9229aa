/-
  putter's closure: a line is put in.
-/
import Derived.Test.YteaajihmfacinaaTa1
namespace Go.Proofs.Yteaajihmfacinaa.Ta
open Go.Vm
abbrev big : Int := 3518437208781
def WL (y : Ln) : Prop := WordI y.1 ∧ WordI y.2.1 ∧ WordI y.2.2.1 ∧ WordI y.2.2.2
def POk (d : TD) (u : Pu) : Prop := (∃ L, Tells d L) ∧ d.n < big ∧ WordI u.1 ∧ WL u.2
theorem rowsG_len : ∀ (L : List Pu) (n : Int) (k : Sp), (rowsG L n k).length ≤ L.length
  | [], _, _ => Nat.le_refl _
  | u :: r, n, k => by
    have := rowsG_len r (n + 1) k
    rw [rowsG]
    split
    · rw [List.length_cons, List.length_cons]
      omega
    · rw [List.length_cons]
      omega
theorem perF_len (L : List Pu) (e a : Int) : (perF L e a).length ≤ L.length := by
  have : ∀ (L : List Pu) (acc : List Int), (L.foldl (fun acc u => if u.2.1 = e ∧ u.2.2.1 = a ∧ u.1 ∉ acc then acc ++ [u.1] else acc) acc).length ≤ acc.length + L.length := by
    intro L
    induction L with
    | nil => intro acc; exact Nat.le_refl _
    | cons u r ih =>
      intro acc
      refine Nat.le_trans (ih _) ?_
      rw [List.length_cons]
      dsimp only
      split
      · rw [List.length_append, List.length_singleton]
        omega
      · omega
  have := this L []
  rw [List.length_nil, Nat.zero_add] at this
  exact this
noncomputable def env_put (G : List (Sp × List Rw)) (H : List (Sp × List Int)) (e n p a b c m : Int) : Env where
  P := Try.prog
  ty := tys0
  pins := [9000, 9001, 9002, 9003]
abbrev ann_put : Ann := { slots := numP 0 [], boxes := [(9000, [.bp 9001]), (9001, [.opq 9002 .grw, .opq 9003 .gpe, .int .i64, .int .i64])], inv := fun _ _ => True }
def g_put_vc (G : List (Sp × List Rw)) (H : List (Sp × List Int)) (e : Int) (n : Int) (p : Int) (a : Int) (b : Int) (c : Int) (m : Int) : Prop :=
  ((-9223372036854775808 : Int) ≤ n + (1 : Int) ∧ n + (1 : Int) ≤ (9223372036854775807 : Int)) ∧ SpOk (a, b, p) ∧ (decide ((↑(gGet G (a, b, p)).length : Int) = (0 : Int)) = true → SpOk (a, b, (0 : Int)) ∧ (((gGet H (a, b, (0 : Int))).length + (1 : Nat)) * (8 : Nat) ≤ (140737488355328 : Nat) ∧ (gGet H (a, b, (0 : Int))).length + (1 : Nat) ≤ (4611686018427387904 : Nat)) ∧ (↑(gIdx (gTch H (a, b, (0 : Int))) (a, b, (0 : Int))) : Int) = (↑(gIdx (gTch H (a, b, (0 : Int))) (a, b, (0 : Int))) : Int) ∧ SpOk (a, b, p) ∧ (((gGet G (a, b, p)).length + (1 : Nat)) * (24 : Nat) ≤ (140737488355328 : Nat) ∧ (gGet G (a, b, p)).length + (1 : Nat) ≤ (4611686018427387904 : Nat)) ∧ (↑(gIdx (gTch G (a, b, p)) (a, b, p)) : Int) = (↑(gIdx (gTch G (a, b, p)) (a, b, p)) : Int) ∧ True ∧ ((), (gPut (gTch G (a, b, p)) (a, b, p) (gGet G (a, b, p) ++ [(n + (1 : Int), c, m)]), none), (gPut (gTch H (a, b, (0 : Int))) (a, b, (0 : Int)) (gGet H (a, b, (0 : Int)) ++ [p]), none), e, n + (1 : Int), ()) = ((), ((putD { G := G, H := H, e := e, n := n } (p, a, b, c, m)).G, nS), ((putD { G := G, H := H, e := e, n := n } (p, a, b, c, m)).H, nS), e, n + (1 : Int), ())) ∧ (decide ((↑(gGet G (a, b, p)).length : Int) = (0 : Int)) = false → SpOk (a, b, p) ∧ (((gGet G (a, b, p)).length + (1 : Nat)) * (24 : Nat) ≤ (140737488355328 : Nat) ∧ (gGet G (a, b, p)).length + (1 : Nat) ≤ (4611686018427387904 : Nat)) ∧ (↑(gIdx (gTch G (a, b, p)) (a, b, p)) : Int) = (↑(gIdx (gTch G (a, b, p)) (a, b, p)) : Int) ∧ True ∧ ((), (gPut (gTch G (a, b, p)) (a, b, p) (gGet G (a, b, p) ++ [(n + (1 : Int), c, m)]), none), (H, none), e, n + (1 : Int), ()) = ((), ((putD { G := G, H := H, e := e, n := n } (p, a, b, c, m)).G, nS), ((putD { G := G, H := H, e := e, n := n } (p, a, b, c, m)).H, nS), e, n + (1 : Int), ()))
theorem g_put_eq (G : List (Sp × List Rw)) (H : List (Sp × List Int)) (e n p a b c m : Int) : CondO (env_put G H e n p a b c m) Try.f52 [.int .i64 p, .agg [.int .i64 a, .int .i64 b, .int .i64 c, .int .i64 m], .ptr 9000 0] [(9000, .box [.ptr 9001 0]), (9001, .box [.oref 9002, .oref 9003, .int .i64 e, .int .i64 n]), (9002, .opq .grw (G, none)), (9003, .opq .gpe (H, none))] [] ann_put ((), ((putD ⟨G, H, e, n⟩ (p, a, b, c, m)).G, nS), ((putD ⟨G, H, e, n⟩ (p, a, b, c, m)).H, nS), e, n + 1, ()) = g_put_vc G H e n p a b c m := by kernel_rfl
theorem g_put_ok (G : List (Sp × List Rw)) (H : List (Sp × List Int)) (e n p a b c m : Int) (h : POk ⟨G, H, e, n⟩ (p, a, b, c, m)) : g_put_vc G H e n p a b c m := by
  unfold g_put_vc
  simp only [decide_eq_true_eq, decide_eq_false_iff_not, Bool.not_eq_true', Bool.not_eq_false', Bool.not_true, Bool.not_false]
  obtain ⟨⟨L, hT⟩, hn, hp, ha, hb, hc, hm⟩ := h
  have h1 : (gGet G (a, b, p)).length ≤ L.length := by rw [hT.rows]; exact rowsG_len _ _ _
  have h2 : (gGet H (a, b, 0)).length ≤ L.length := by rw [hT.per]; exact perF_len _ _ _
  have h3 : n = L.length := hT.n
  have hn : n < 3518437208781 := hn
  have hz : WordI 0 := ⟨by decide, by decide⟩
  have hs1 : SpOk (a, b, p) := ⟨ha, hb, hp⟩
  have hs2 : SpOk (a, b, 0) := ⟨ha, hb, hz⟩
  refine ⟨by omega, hs1, fun h0 => ⟨hs2, by omega, trivial, hs1, by omega, trivial, trivial, ?_⟩, fun h0 => ⟨hs1, by omega, trivial, trivial, ?_⟩⟩
  · have h0 : (gGet G (a, b, p)).length = 0 := by omega
    unfold putD
    simp only [atP, allP, rowP, gSet, h0, if_true]
  · have h0 : ¬ (gGet G (a, b, p)).length = 0 := by omega
    unfold putD
    simp only [atP, allP, rowP, gSet, h0, if_false]
set_option maxRecDepth 20000
theorem put_upd (G : List (Sp × List Rw)) (H : List (Sp × List Int)) (e n p a b c m : Int) (h : POk ⟨G, H, e, n⟩ (p, a, b, c, m)) : UpdC Try.prog 52 [.int .i64 p, .agg [.int .i64 a, .int .i64 b, .int .i64 c, .int .i64 m], .ptr 9000 0] [(9000, .box [.ptr 9001 0]), (9001, .box [.oref 9002, .oref 9003, .int .i64 e, .int .i64 n]), (9002, .opq .grw (G, none)), (9003, .opq .gpe (H, none))] (.tuple []) [(9002, .opq .grw ((putD ⟨G, H, e, n⟩ (p, a, b, c, m)).G, none)), (9003, .opq .gpe ((putD ⟨G, H, e, n⟩ (p, a, b, c, m)).H, none)), (9000, .box [.ptr 9001 0]), (9001, .box [.oref 9002, .oref 9003, .int .i64 e, .int .i64 (n + 1)])] :=
  by have k := UpdC.of_cond (g_put_eq G H e n p a b c m) (g_put_ok G H e n p a b c m h) (specs_ok rfl [] [] rfl rfl) mixed Try.func52; exact k
end Go.Proofs.Yteaajihmfacinaa.Ta
