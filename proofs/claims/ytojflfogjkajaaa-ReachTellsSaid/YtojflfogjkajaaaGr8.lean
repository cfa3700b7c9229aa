/-
  slices.Sorted of slices.Values.
-/
import Derived.RangeFuncBox
import Derived.Maps.AppendAt
import Derived.Test.YtojflfogjkajaaaGr7
namespace Go.Proofs.Ytojflfogjkajaaa.Gr
open Go Go.RowKit Go.Shelf Go.Proofs
attribute [local go_sem] Oper.semAt_some

/-- A list of numbers lies in blocks below n₀. -/
def CAt (n₀ : Nat) (w : World) (v : Value) (l : List Int) : Prop :=
  ∃ A c, v = .slice A l.length c ∧ (0 < l.length → ∃ g o, A = some ⟨g, o, none⟩ ∧ g < n₀ ∧ ∀ j, j < l.length → w.cell? ⟨g, o + j, none⟩ = some (.int .i64 (l.getD j 0)))
theorem CAt.below {n₀ : Nat} {w w' : World} {v : Value} {l : List Int} (h : Below n₀ w w') : CAt n₀ w v l → CAt n₀ w' v l := by
  rintro ⟨A, c, e, k⟩
  refine ⟨A, c, e, fun h0 => ?_⟩
  obtain ⟨g, o, e1, e2, e3⟩ := k h0
  exact ⟨g, o, e1, e2, fun j hj => (h.cell (p := ⟨g, o + j, none⟩) e2).trans (e3 j hj)⟩
theorem contains_c {n₀ : Nat} {w : World} {v : Value} {l : List Int} (h : CAt n₀ w v l) (hl : l.length ≤ 1000000000) (x : Int) : Calls Try.prog 57 #[v, .int .i64 x] w fun e w' => e = .returned (.bool (l.contains x)) ∧ w' = w := by
  obtain ⟨A, c, rfl, hc0⟩ := h
  by_cases h0 : 0 < l.length
  · obtain ⟨g, o, rfl, _, hc⟩ := hc0 h0
    have := Try.slices_Contains_int g o l.length c l x w (Nat.le_refl _) (by omega) hc
    rwa [List.take_length] at this
  · have e : l = [] := List.eq_nil_of_length_eq_zero (by omega)
    subst e
    exact Try.slices_Contains_int_empty A c x w

set_option maxRecDepth 100000 in
set_option maxHeartbeats 2000000 in
theorem values1_in (F : Fence) (n : Nat) (hf : F.fn 103) (hro : F.round = none) (hn : 1 ≤ n) (l Bn n₀ : Nat) (v : Value) (xs : List Int) (hxs : xs.length ≤ 1000000000) (J Jx : List Int → World → Prop)
    (hY : ∀ pre x W, J pre W → pre.length < xs.length → YieldAt F (n - 1) Try.prog l #[.int .i64 x] W fun e W' =>
      (e = .returned (.bool true) ∧ J (pre ++ [x]) W' ∧ Below n₀ W W') ∨ (e = .returned (.bool false) ∧ Jx (pre ++ [x]) W'))
    (W : World) (hBn : W.cell? ⟨Bn, 0, none⟩ = some v) (hL : CAt n₀ W v xs) (h0 : J [] W) :
    CallsIn F n Try.prog 103 #[.func (.yield l) #[] #[], .pointer (some ⟨Bn, 0, none⟩)] W fun e W' => (∃ v, e = .returned v) ∧
      ((∃ ys, ys = xs ∧ J ys W') ∨ (∃ pre, pre <+: xs ∧ Jx pre W')) := by
  refine callsIn_of_wp Try.func103 rfl hf ?_ hro
  simp only [Try.ntmps103, List.size_toArray, List.length_cons, List.length_nil, Nat.reduceAdd, Nat.reduceSub, Array.replicate_succ, Array.replicate_zero, List.push_toArray, List.append_toArray, List.nil_append, List.cons_append]
  obtain ⟨A, c, rfl, hc⟩ := hL
  gi_wp2
  gi_loopw [7] (fun i wr => ∃ k : Nat, k ≤ xs.length ∧ i = .int .i64 k ∧ J (xs.take k) wr ∧ Below n₀ W wr)
    (fun i _ => xs.length - (intOf i).toNat)
  case atStart =>
    exact ⟨0, Nat.zero_le _, rfl, h0, Below.refl _ _⟩
  case round =>
    obtain ⟨k, hk, rfl, hJs, hB⟩ := hrel
    by_cases hlt : k < xs.length
    · obtain ⟨g, o, rfl, hg, hcell⟩ := hc (by omega)
      obtain ⟨y, hy0⟩ : ∃ y, xs[k]? = some y := ⟨_, List.getElem?_eq_getElem hlt⟩
      have hck : wr.cell? ⟨g, o + k, none⟩ = some (.int .i64 y) := by
        have e := getD_at hlt
        rw [hy0] at e
        rw [Option.some.inj e]
        exact (hB.cell (p := ⟨g, o + k, none⟩) hg).trans (hcell k hlt)
      obtain ⟨fn, tmps, assign, body, hy, hR⟩ := hY (xs.take k) y wr hJs (by rw [List.length_take]; omega)
      have hnext : xs.take k ++ [y] = xs.take (k + 1) := by rw [List.take_add_one, hy0]; rfl
      clear hy0
      gi_wp2
      refine hR.mono ?_
      rintro e W3 (⟨rfl, hJ3, hk3⟩ | ⟨rfl, hJx3⟩)
      · gi_wp2
        go_roundw
        case rel => exact ⟨k + 1, by omega, by simp, by rw [← hnext]; exact hJ3, hB.trans hk3⟩
        case measure => simp [intOf]; omega
      · gi_wp2
        refine bodyPost_ret (results_none rfl _ _ _) rfl ?_
        exact ⟨⟨_, rfl⟩, .inr ⟨_, by rw [hnext]; exact List.take_prefix _ _, hJx3⟩⟩
    · obtain rfl : k = xs.length := by omega
      gi_wp2
      go_end0
      exact ⟨⟨_, rfl⟩, .inl ⟨xs, rfl, by rwa [List.take_length] at hJs⟩⟩

end Go.Proofs.Ytojflfogjkajaaa.Gr
