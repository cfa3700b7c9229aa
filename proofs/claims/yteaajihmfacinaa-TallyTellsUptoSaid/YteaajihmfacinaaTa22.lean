/-
  TallyTells: the walk.
-/
import Derived.Test.YteaajihmfacinaaTa21
import Derived.Test.YteaajihmfacinaaTa19
namespace Go.Proofs.Yteaajihmfacinaa.Ta
open Go.Vm
noncomputable def env_tells (N : List En) (n e a p q : Int) : Env where
  P := Try.prog
  ty := tys0
  specs := specsOf [sp_few24, sp_awake, sp_total, sp_rtot, sp_ids, sp_rids, sp_sameInts, sp_partners, sp_rpart, sp_len, sp_lines]
  upd := updsOf [so_made.upd]
  frz := fun | 67 => true | 77 => true | _ => false
def g_tells_vc (N : List En) (n : Int) (e : Int) (a : Int) (p : Int) (q : Int) : Prop :=
  NOk N ∧ N.length ≤ (9223372036854775807 : Nat) ∧ ((!few24 N) = false → (TRd { G := (madeF N n).G, H := (madeF N n).H, e := (madeF N n).e, n := (madeF N n).n } ∧ SpOk (e, a, p)) ∧ FwE N ∧ (decide ((netF (amsF (madeF N n).G (e, a, p) q) []).1 = (netF (ramF N e a p q) []).1) = true → (decide ((netF (amsF (madeF N n).G (e, a, p) q) []).2 = (netF (ramF N e a p q) []).2) = true → (TRd { G := (madeF N n).G, H := (madeF N n).H, e := (madeF N n).e, n := (madeF N n).n } ∧ SpOk (e, a, p)) ∧ FwE N ∧ (idsF (madeF N n).G (e, a, p) q).length ≤ (1000000000 : Nat) ∧ (decide (idsF (madeF N n).G (e, a, p) q = ridF N e a p q) = true → (TRd { G := (madeF N n).G, H := (madeF N n).H, e := (madeF N n).e, n := (madeF N n).n } ∧ ((-9223372036854775808 : Int) ≤ e ∧ e ≤ (9223372036854775807 : Int)) ∧ (-9223372036854775808 : Int) ≤ a ∧ a ≤ (9223372036854775807 : Int)) ∧ FwE N ∧ (prtR (madeF N n).G (madeF N n).H e a p).length ≤ (1000000000 : Nat) ∧ (decide (prtR (madeF N n).G (madeF N n).H e a p = rprF (linesF N) e a p) = true → True ∧ (N.length ≤ (4611686018427387904 : Nat) ∧ (linesF N).length ≤ (1000000000 : Nat)) ∧ (decide ((madeF N n).n = (↑(linesF N).length : Int)) = true → True ∧ (true, ()) = (true, ())) ∧ (decide ((madeF N n).n = (↑(linesF N).length : Int)) = !true → (false, ()) = (true, ()))) ∧ (decide (prtR (madeF N n).G (madeF N n).H e a p = rprF (linesF N) e a p) = !true → (false, ()) = (true, ()))) ∧ (decide (idsF (madeF N n).G (e, a, p) q = ridF N e a p q) = !true → (false, ()) = (true, ()))) ∧ (decide ((netF (amsF (madeF N n).G (e, a, p) q) []).2 = (netF (ramF N e a p q) []).2) = !true → (false, ()) = (true, ()))) ∧ (decide ((netF (amsF (madeF N n).G (e, a, p) q) []).1 = (netF (ramF N e a p q) []).1) = !true → (false, ()) = (true, ()))) ∧ ((!few24 N) = !false → True ∧ (true, ()) = (true, ()))
theorem g_tells_eq (N : List En) (n e a p q : Int) : Cond (env_tells N n e a p q) Try.f5 [.list .tmp EnT N, .int .i64 n, .agg [.int .i64 e, .int .i64 a, .int .i64 p, .int .i64 q]] [.bool] (true, ()) = g_tells_vc N n e a p q := by kernel_rfl
theorem g_tells_ok (N : List En) (n e a p q : Int) (h : NIn N ∧ WordI e ∧ WordI a ∧ WordI p) : g_tells_vc N n e a p q := by
  obtain ⟨hN, he, ha, hp⟩ := h
  unfold g_tells_vc
  refine ⟨hN, (by have := hN.1; omega), fun hf => ?_, fun _ => ⟨trivial, rfl⟩⟩
  have hf : few24 N = true := by simpa using hf
  have hF := fw_of hN.wn hf
  have hR := made_rd n hN.wn hf
  have hl := hF.lines
  have hn : (madeF N n).n = ((linesF N).length : Int) := by rw [lines_len]; exact (made_tells n hf).1.n
  have hs : SpOk (e, a, p) := ⟨he, ha, hp⟩
  have e1 := ams_made n hf e a p q
  have e2 := ids_made n hf e a p q
  have e3 := prt_made n hf e a p
  have l2 : (ridF N e a p q).length ≤ 1000000000 := by
    rw [ridF, List.length_map]
    exact Nat.le_trans (hF.those e a p q) (by decide)
  have l3 : (rprF (linesF N) e a p).length ≤ 1000000000 := Nat.le_trans (rpr_len _ e a p) (by omega)
  rw [e1, e2, e3, hn]
  have no : ∀ {b : Bool} {P : Prop}, b = true → b = !true → P := fun h k => by rw [h] at k; cases k
  exact ⟨⟨hR, hs⟩, hF, fun _ => ⟨fun _ => ⟨⟨hR, hs⟩, hF, l2, fun _ => ⟨⟨hR, he, ha⟩, hF, l3, fun _ => ⟨trivial, ⟨by have := hN.1; omega, by omega⟩, fun _ => ⟨trivial, rfl⟩, no (decide_eq_true rfl)⟩, no (decide_eq_true rfl)⟩, no (decide_eq_true rfl)⟩, no (decide_eq_true rfl)⟩, no (decide_eq_true rfl)⟩
set_option maxRecDepth 20000
theorem tells_pure (N : List En) (n e a p q : Int) (h : NIn N ∧ WordI e ∧ WordI a ∧ WordI p) : Pure Try.prog 5 [.list .tmp EnT N, .int .i64 n, .agg [.int .i64 e, .int .i64 a, .int .i64 p, .int .i64 q]] (.bool true) :=
  by have k := Pure.of_cond (g_tells_eq N n e a p q) (g_tells_ok N n e a p q h) (specs_ok rfl [sp_few24, sp_awake, sp_total, sp_rtot, sp_ids, sp_rids, sp_sameInts, sp_partners, sp_rpart, sp_len, sp_lines] [so_made.upd] rfl rfl) mixed Try.func5; exact k
end Go.Proofs.Yteaajihmfacinaa.Ta
