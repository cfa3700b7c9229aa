/-
  graph: what is told of a graph, as records.
-/
import Derived.Test.YtojflfogjkajaaaGr2
namespace Go.Proofs.Ytojflfogjkajaaa.Gr
open Go Go.RowKit Go.Shelf Go.Proofs
attribute [local go_sem] Oper.semAt_some
section
variable (w : World)
set_option maxRecDepth 100000
set_option maxHeartbeats 1000000
theorem nodes_nil (n : Nat) :
    CallsIn Fence.wide n Try.prog 52 #[.pointer none] w fun e w' => e = .returned (.int .i64 0) ∧ w' = w := by
  refine callsIn_of_wp Try.func52 rfl trivial ?_ rfl
  simp only [Try.ntmps52, List.size_toArray, List.length_cons, List.length_nil, Nat.reduceAdd, Nat.reduceSub, Array.replicate_succ, Array.replicate_zero, List.push_toArray, List.append_toArray, List.nil_append, List.cons_append]
  gi_wp2
  all_goals (go_ret; exact ⟨rfl, rfl⟩)
theorem node_nil (n : Nat) (v : Int) :
    CallsIn Fence.wide n Try.prog 56 #[.pointer none, .int .i64 v] w fun e w' => e = .returned (.bool false) ∧ w' = w := by
  refine callsIn_of_wp Try.func56 rfl trivial ?_ rfl
  simp only [Try.ntmps56, List.size_toArray, List.length_cons, List.length_nil, Nat.reduceAdd, Nat.reduceSub, Array.replicate_succ, Array.replicate_zero, List.push_toArray, List.append_toArray, List.nil_append, List.cons_append]
  gi_wp2
  all_goals (go_ret; exact ⟨rfl, rfl⟩)
theorem has_nil (n : Nat) (hn : 2 ≤ n) (v x : Int) :
    CallsIn Fence.wide n Try.prog 19 #[.pointer none, .int .i64 v, .int .i64 x] w fun e w' => e = .returned (.bool false) ∧ w' = w := by
  refine callsIn_of_wp Try.func19 rfl trivial ?_ rfl
  simp only [Try.ntmps19, List.size_toArray, List.length_cons, List.length_nil, Nat.reduceAdd, Nat.reduceSub, Array.replicate_succ, Array.replicate_zero, List.push_toArray, List.append_toArray, List.nil_append, List.cons_append]
  have hn1 : 1 ≤ n := by omega
  have hf1 : Fence.wide.fn 56 := trivial
  have hf2 : Fence.wide.fn 57 := trivial
  gi_wp2_with (gi_at_call 56; refine (node_nil w (n - 1) v).mono ?_; rintro e w' ⟨rfl, rfl⟩)
  all_goals (go_ret; exact ⟨rfl, rfl⟩)
theorem reads_nil (n : Nat) (hn : 2 ≤ n) (v : Int) :
    CallsIn Fence.wide n Try.prog 22 #[.pointer none, .int .i64 v] w fun e w' => e = .returned (.slice none 0 0) ∧ w' = w := by
  refine callsIn_of_wp Try.func22 rfl trivial ?_ rfl
  simp only [Try.ntmps22, List.size_toArray, List.length_cons, List.length_nil, Nat.reduceAdd, Nat.reduceSub, Array.replicate_succ, Array.replicate_zero, List.push_toArray, List.append_toArray, List.nil_append, List.cons_append]
  have hn1 : 1 ≤ n := by omega
  have hf1 : Fence.wide.fn 56 := trivial
  gi_wp2_with (gi_at_call 56; refine (node_nil w (n - 1) v).mono ?_; rintro e w' ⟨rfl, rfl⟩)
  all_goals (go_ret; exact ⟨rfl, rfl⟩)
theorem readers_nil (n : Nat) (hn : 2 ≤ n) (v : Int) :
    CallsIn Fence.wide n Try.prog 24 #[.pointer none, .int .i64 v] w fun e w' => e = .returned (.slice none 0 0) ∧ w' = w := by
  refine callsIn_of_wp Try.func24 rfl trivial ?_ rfl
  simp only [Try.ntmps24, List.size_toArray, List.length_cons, List.length_nil, Nat.reduceAdd, Nat.reduceSub, Array.replicate_succ, Array.replicate_zero, List.push_toArray, List.append_toArray, List.nil_append, List.cons_append]
  have hn1 : 1 ≤ n := by omega
  have hf1 : Fence.wide.fn 56 := trivial
  gi_wp2_with (gi_at_call 56; refine (node_nil w (n - 1) v).mono ?_; rintro e w' ⟨rfl, rfl⟩)
  all_goals (go_ret; exact ⟨rfl, rfl⟩)
end
open Go.Vm
theorem nodes_pure (R : GI) : Vm.Pure Try.prog 52 [.fopq .graph R] (.int .i64 (List.length (α := List Int) R)) := by
  refine pure_calls (fun F w vs hF hr => ?_) rfl rfl
  obtain ⟨u1, r1, rfl, a1, hr⟩ := hr.cons_inv
  rw [hr.nil_inv]
  rcases graph_inv a1 with ⟨rfl, h0⟩ | ⟨b, S, rfl, h0, hg⟩
  · rw [h0]
    refine (callsIn_wide (n := 9)).1 ((nodes_nil w 9).mono ?_)
    rintro e w' ⟨rfl, rfl⟩
    exact ⟨_, rfl, Below.refl _ _, fun _ => .int⟩
  · refine (callsIn_wide (n := 9)).1 ((nodes_in b S R w 9 hg).mono ?_)
    rintro e w' ⟨rfl, rfl⟩
    exact ⟨_, rfl, Below.refl _ _, fun _ => .int⟩
noncomputable def sp_nodes : FSpec Try.prog where
 f := 52
 run := fun
  | [.fopq .graph R] => some (True, .int .i64 (List.length (α := List Int) R))
  | _ => none
 ok := fun args pre r h hp => by
  split at h
  · rename_i R
    cases h
    exact nodes_pure R
  · cases h
theorem has_pure (R : GI) (v x : Int) : Vm.Pure Try.prog 19 [.fopq .graph R, .int .i64 v, .int .i64 x] (.bool ((readsF R v).contains x)) := by
  refine pure_calls (fun F w vs hF hr => ?_) rfl rfl
  obtain ⟨u1, r1, rfl, a1, hr⟩ := hr.cons_inv
  obtain ⟨u2, r2, rfl, a2, hr⟩ := hr.cons_inv
  obtain ⟨u3, r3, rfl, a3, hr⟩ := hr.cons_inv
  rw [hr.nil_inv, a2.int_inv, a3.int_inv]
  rcases graph_inv a1 with ⟨rfl, h0⟩ | ⟨b, S, rfl, h0, hg⟩
  · have : readsF R v = [] := by rw [readsF, if_neg (by omega)]
    rw [this]
    refine (callsIn_wide (n := 9)).1 ((has_nil w 9 (by omega) v x).mono ?_)
    rintro e w' ⟨rfl, rfl⟩
    exact ⟨_, rfl, Below.refl _ _, fun _ => .bool⟩
  · refine (callsIn_wide (n := 9)).1 ((has_in b S R w 9 (by omega) v x hg).mono ?_)
    rintro e w' ⟨rfl, rfl⟩
    exact ⟨_, rfl, Below.refl _ _, fun _ => .bool⟩
noncomputable def sp_has : FSpec Try.prog where
 f := 19
 run := fun
  | [.fopq .graph R, .int .i64 v, .int .i64 x] => some (True, .bool ((readsF R v).contains x))
  | _ => none
 ok := fun args pre r h hp => by
  split at h
  · rename_i R v x
    cases h
    exact has_pure R v x
  · cases h
theorem reads_pure (R : GI) (v : Int) : Vm.Pure Try.prog 22 [.fopq .graph R, .int .i64 v] (.list .part I (readsF R v)) := by
  refine pure_calls (fun F w vs hF hr => ?_) rfl rfl
  obtain ⟨u1, r1, rfl, a1, hr⟩ := hr.cons_inv
  obtain ⟨u2, r2, rfl, a2, hr⟩ := hr.cons_inv
  rw [hr.nil_inv, a2.int_inv]
  rcases graph_inv a1 with ⟨rfl, h0⟩ | ⟨b, S, rfl, h0, hg⟩
  · have : readsF R v = [] := by rw [readsF, if_neg (by omega)]
    rw [this]
    refine (callsIn_wide (n := 9)).1 ((reads_nil w 9 (by omega) v).mono ?_)
    rintro e w' ⟨rfl, rfl⟩
    exact ⟨_, rfl, Below.refl _ _, fun hf => ints_rep (l := []) (World.ownsRow_nil _ _ _ _) hf⟩
  · refine (callsIn_wide (n := 9)).1 ((reads_in b S R w 9 (by omega) v hg).mono ?_)
    rintro e w' ⟨v', rfl, h1, h2⟩
    exact ⟨_, rfl, h2, fun hf => ints_rep h1 hf⟩
noncomputable def sp_reads : FSpec Try.prog where
 f := 22
 run := fun
  | [.fopq .graph R, .int .i64 v] => some (True, .list .part I (readsF R v))
  | _ => none
 ok := fun args pre r h hp => by
  split at h
  · rename_i R v
    cases h
    exact reads_pure R v
  · cases h
theorem readers_pure (R : GI) (v : Int) : Vm.Pure Try.prog 24 [.fopq .graph R, .int .i64 v] (.list .part I (rdsF R v)) := by
  refine pure_calls (fun F w vs hF hr => ?_) rfl rfl
  obtain ⟨u1, r1, rfl, a1, hr⟩ := hr.cons_inv
  obtain ⟨u2, r2, rfl, a2, hr⟩ := hr.cons_inv
  rw [hr.nil_inv, a2.int_inv]
  rcases graph_inv a1 with ⟨rfl, h0⟩ | ⟨b, S, rfl, h0, hg⟩
  · have : rdsF R v = [] := by rw [rdsF, if_neg (by omega)]
    rw [this]
    refine (callsIn_wide (n := 9)).1 ((readers_nil w 9 (by omega) v).mono ?_)
    rintro e w' ⟨rfl, rfl⟩
    exact ⟨_, rfl, Below.refl _ _, fun hf => ints_rep (l := []) (World.ownsRow_nil _ _ _ _) hf⟩
  · refine (callsIn_wide (n := 9)).1 ((readers_in b S R w 9 (by omega) v hg).mono ?_)
    rintro e w' ⟨v', rfl, h1, h2⟩
    exact ⟨_, rfl, h2, fun hf => ints_rep h1 hf⟩
noncomputable def sp_readers : FSpec Try.prog where
 f := 24
 run := fun
  | [.fopq .graph R, .int .i64 v] => some (True, .list .part I (rdsF R v))
  | _ => none
 ok := fun args pre r h hp => by
  split at h
  · rename_i R v
    cases h
    exact readers_pure R v
  · cases h
end Go.Proofs.Ytojflfogjkajaaa.Gr
