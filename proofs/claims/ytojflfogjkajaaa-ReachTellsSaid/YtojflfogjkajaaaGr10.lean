/-
  graph.may.
-/
import Derived.Test.YtojflfogjkajaaaGr9
namespace Go.Proofs.Ytojflfogjkajaaa.Gr
open Go Go.RowKit Go.Shelf Go.Proofs
open Go.Vm (GI GraphAt)
attribute [local go_sem] Oper.semAt_some

def isNode (R : GI) (x : Int) : Bool := decide (0 ≤ x ∧ x < R.length)
def mayF (R : GI) (v : Int) (l : List Int) : Int :=
  if R.length = 0 then 1 else if (isNode R v && l.all (isNode R)) = false then 2 else if l.contains v = true then 26 else if (Lib.compact (l.mergeSort fun x y => decide (x ≤ y))).length < l.length then 35 else 0

section
variable (b : Nat) (S : Nat → Prop) (R : GI) (w : World)
set_option maxRecDepth 100000
set_option maxHeartbeats 1000000
theorem stranger_in (n : Nat) (hn : 2 ≤ n) (Bp : Nat) (x : Int) (h : GraphAt R w b S) (hp : w.cell? ⟨Bp, 0, none⟩ = some (.pointer (some ⟨b, 0, none⟩))) :
    CallsIn Fence.wide n Try.prog 89 #[.int .i64 x, .pointer (some ⟨Bp, 0, none⟩)] w fun e w' => e = .returned (.bool (!isNode R x)) ∧ w' = w := by
  have hn1 : 1 ≤ n := by omega
  have hf1 : Fence.wide.fn 56 := trivial
  have hnode : CallsIn Fence.wide (n - 1) Try.prog 56 #[.pointer (some ⟨b, 0, none⟩), .int .i64 x] w fun e w' => e = .returned (.bool (isNode R x)) ∧ w' = w := node_in b S R w (n - 1) x h
  refine callsIn_of_wp Try.func89 rfl trivial ?_ rfl
  simp only [Try.ntmps89, List.size_toArray, List.length_cons, List.length_nil, Nat.reduceAdd, Nat.reduceSub, Array.replicate_succ, Array.replicate_zero, List.push_toArray, List.append_toArray, List.nil_append, List.cons_append]
  gi_wp2_with (gi_at_call 56; refine hnode.mono ?_; rintro e w' ⟨rfl, rfl⟩)
  go_ret
  exact ⟨rfl, rfl⟩
theorem index_in (n : Nat) (hn : 3 ≤ n) (Bp n₀ : Nat) (u : Value) (l : List Int) (hl : l.length ≤ 1000000000) (h : GraphAt R w b S) (hp : w.cell? ⟨Bp, 0, none⟩ = some (.pointer (some ⟨b, 0, none⟩))) (hL : CAt n₀ w u l) :
    CallsIn Fence.wide n Try.prog 80 #[u, .func (.func 89) #[] #[.pointer (some ⟨Bp, 0, none⟩)]] w fun e w' => ∃ r : Int, e = .returned (.int .i64 r) ∧ w' = w ∧ decide (0 ≤ r) = !l.all (isNode R) := by
  have hn1 : 1 ≤ n := by omega
  have hf1 : Fence.wide.fn 89 := trivial
  obtain ⟨A, c, rfl, hc⟩ := hL
  refine callsIn_of_wp Try.func80 rfl trivial ?_ rfl
  simp only [Try.ntmps80, List.size_toArray, List.length_cons, List.length_nil, Nat.reduceAdd, Nat.reduceSub, Array.replicate_succ, Array.replicate_zero, List.push_toArray, List.append_toArray, List.nil_append, List.cons_append]
  gi_wp2
  gi_loop [8] (fun i => ∃ k : Nat, k ≤ l.length ∧ i = .int .i64 k ∧ ∀ x ∈ l.take k, isNode R x = true) (fun i => l.length - (intOf i).toNat)
  case atStart =>
    exact ⟨0, Nat.zero_le _, rfl, fun x hx => by simp at hx⟩
  case round =>
    obtain ⟨k, hk, rfl, hall⟩ := hrel
    by_cases hlt : k < l.length
    · obtain ⟨g, o, rfl, hg, hcell⟩ := hc (by omega)
      obtain ⟨y, hy0⟩ : ∃ y, l[k]? = some y := ⟨_, List.getElem?_eq_getElem hlt⟩
      have hck : w.cell? ⟨g, o + k, none⟩ = some (.int .i64 y) := by
        have e := getD_at hlt
        rw [hy0] at e
        rw [Option.some.inj e]
        exact hcell k hlt
      have hnext : l.take k ++ [y] = l.take (k + 1) := by rw [List.take_add_one, hy0]; rfl
      have hmem : y ∈ l := List.mem_of_getElem? hy0
      clear hy0 hcell hc
      have hst := stranger_in b S R w (n - 1) (by omega) Bp y h hp
      by_cases hnode : isNode R y = true
      · rw [hnode] at hst
        gi_wp2_with (gi_at_call 89; refine hst.mono ?_; rintro e w' ⟨rfl, rfl⟩)
        go_round
        case rel =>
          refine ⟨k + 1, by omega, by simp, fun x hx => ?_⟩
          rw [← hnext, List.mem_append, List.mem_singleton] at hx
          rcases hx with hx | rfl
          · exact hall x hx
          · exact hnode
        case measure => simp [intOf]; omega
      · have hnode : isNode R y = false := by simpa using hnode
        rw [hnode] at hst
        gi_wp2_with (gi_at_call 89; refine hst.mono ?_; rintro e w' ⟨rfl, rfl⟩)
        refine bodyPost_ret (results_tmp rfl _ _ _) rfl ⟨_, rfl, rfl, ?_⟩
        have : l.all (isNode R) = false := by
          rw [← Bool.not_eq_true, List.all_eq_true]
          intro ha
          have := ha y hmem
          rw [hnode] at this
          cases this
        rw [this]
        simp
    · obtain rfl : k = l.length := by omega
      gi_wp2
      go_ret
      refine ⟨_, rfl, rfl, ?_⟩
      rw [List.take_length] at hall
      have : l.all (isNode R) = true := List.all_eq_true.2 hall
      rw [this]
      rfl
theorem anyf_in (n : Nat) (hn : 4 ≤ n) (Bp n₀ : Nat) (u : Value) (l : List Int) (hl : l.length ≤ 1000000000) (h : GraphAt R w b S) (hp : w.cell? ⟨Bp, 0, none⟩ = some (.pointer (some ⟨b, 0, none⟩))) (hL : CAt n₀ w u l) :
    CallsIn Fence.wide n Try.prog 90 #[u, .func (.func 89) #[] #[.pointer (some ⟨Bp, 0, none⟩)]] w fun e w' => e = .returned (.bool (!l.all (isNode R))) ∧ w' = w := by
  have hn1 : 1 ≤ n := by omega
  have hf1 : Fence.wide.fn 80 := trivial
  have hi := index_in b S R w (n - 1) (by omega) Bp n₀ u l hl h hp hL
  refine callsIn_of_wp Try.func90 rfl trivial ?_ rfl
  simp only [Try.ntmps90, List.size_toArray, List.length_cons, List.length_nil, Nat.reduceAdd, Nat.reduceSub, Array.replicate_succ, Array.replicate_zero, List.push_toArray, List.append_toArray, List.nil_append, List.cons_append]
  gi_wp2_with (gi_at_call 80; refine hi.mono ?_; rintro e w' ⟨r, rfl, rfl, hr⟩)
  go_ret
  exact ⟨rfl, rfl⟩
end

end Go.Proofs.Ytojflfogjkajaaa.Gr
