/-
  graph: New, Set where nothing is made or turned.
-/
import Derived.Test.YtojflfogjkajaaaGr14
namespace Go.Proofs.Ytojflfogjkajaaa.Gr
open Go Go.RowKit Go.Shelf Go.Proofs
open Go.Vm (mapOf MAt LAt GI edgesF readersF GOk GraphAt)
attribute [local go_sem] Oper.semAt_some

section
set_option maxRecDepth 100000
set_option maxHeartbeats 1000000
theorem new_bad (n : Nat) (m : Int) (hm : ¬ (1 ≤ m ∧ m ≤ 20000)) (w : World) :
    CallsIn Fence.wide n Try.prog 26 #[.int .i64 m] w fun e w' => e = .returned (.tuple #[.pointer none, .int .i64 2]) ∧ w' = w := by
  refine callsIn_of_wp Try.func26 rfl trivial ?_ rfl
  simp only [Try.ntmps26, List.size_toArray, List.length_cons, List.length_nil, Nat.reduceAdd, Nat.reduceSub, Array.replicate_succ, Array.replicate_zero, List.push_toArray, List.append_toArray, List.nil_append, List.cons_append]
  have hd : decide (m < 1) || decide (20000 < m) := by
    rw [Bool.or_eq_true, decide_eq_true_eq, decide_eq_true_eq]
    omega
  by_cases h1 : m < 1
  · gi_wp2
    all_goals first | (exfalso; omega) | (go_ret2; exact ⟨rfl, rfl⟩)
  · gi_wp2
    all_goals first | (exfalso; omega) | (go_ret2; exact ⟨rfl, rfl⟩)
theorem may_nil (n : Nat) (hn : 2 ≤ n) (w : World) (v : Int) (A : Option Addr) (k c : Nat) :
    CallsIn Fence.wide n Try.prog 61 #[.pointer none, .int .i64 v, .slice A k c] w fun e w' => e = .returned (.int .i64 1) ∧ Below w.heap.size w w' := by
  have hn1 : 1 ≤ n := by omega
  have f1 : Fence.wide.fn 52 := trivial
  have hB0 : Below w.heap.size w (w.alloc (.cells #[.pointer none] 26)) := (Below.refl _ w).alloc (Nat.le_refl _) _
  refine callsIn_of_wp Try.func61 rfl trivial ?_ rfl
  simp only [Try.ntmps61, List.size_toArray, List.length_cons, List.length_nil, Nat.reduceAdd, Nat.reduceSub, Array.replicate_succ, Array.replicate_zero, List.push_toArray, List.append_toArray, List.nil_append, List.cons_append]
  gi_wp2_with (gi_at_call 52; refine (nodes_nil _ (n - 1)).mono ?_; rintro e w' ⟨rfl, rfl⟩)
  go_ret
  exact ⟨rfl, hB0⟩
theorem set_err (n : Nat) (hn : 14 ≤ n) (w : World) (a : Value) (v : Int) (A : Option Addr) (k c : Nat) (e0 : Int) (h0 : e0 ≠ 0)
    (hmay : CallsIn Fence.wide (n - 1) Try.prog 61 #[a, .int .i64 v, .slice A k c] w fun e w' => e = .returned (.int .i64 e0) ∧ Below w.heap.size w w') :
    CallsIn Fence.wide n Try.prog 27 #[a, .int .i64 v, .slice A k c] w fun e w' => e = .returned (.tuple #[.int .i64 0, .int .i64 0, .int .i64 e0]) ∧ Below w.heap.size w w' := by
  have hn1 : 1 ≤ n := by omega
  have f1 : Fence.wide.fn 61 := trivial
  refine callsIn_of_wp Try.func27 rfl trivial ?_ rfl
  simp only [Try.ntmps27, List.size_toArray, List.length_cons, List.length_nil, Nat.reduceAdd, Nat.reduceSub, Array.replicate_succ, Array.replicate_zero, List.push_toArray, List.append_toArray, List.nil_append, List.cons_append]
  gi_wp2_with (gi_at_call 61; refine hmay.mono ?_; rintro e w1 ⟨rfl, hb1⟩)
  go_ret3
  exact ⟨rfl, hb1⟩
end

end Go.Proofs.Ytojflfogjkajaaa.Gr
