/-
  graph: what is told of a graph.
-/
import Derived.RangeFuncNested
import Derived.RangeFuncBound
import Derived.RangeFuncCalls
import Derived.RangeFuncLeaves
import Derived.Shelf.Abstract
import Derived.Shelf.RegionOpen
import Derived.WalkKit
import Derived.OwnWalkIn
import Derived.TacticsInMore
import Derived.LoopNIn
import Derived.LoopIn
import Derived.Deep.Onto
import Derived.Laws.OwnMore
import Derived.Test.YtojflfogjkajaaaSeat
import Derived.Test.YtojflfogjkajaaaShelf
namespace Go.Proofs.Ytojflfogjkajaaa.Gr
open Go Go.RowKit Go.Shelf Go.Proofs
attribute [local go_sem] Oper.semAt_some
section
open Go.Vm
theorem pure_calls {P : Program} {f : FuncId} {args : List V} {r : V} (h : ∀ (F : Fr) (w : World) (vs : List Value), Vm.Ground F w → RepL ⟨w, [], fun _ => none, F⟩ args vs →
    Calls P f vs.toArray w fun e w' => ∃ u, e = .returned u ∧ RowKit.Below w.heap.size w w' ∧ ((∀ b, w.heap.size ≤ b → ¬ F.any b) → Rep ⟨w', [], fun _ => none, F⟩ r u)) (ho : own [] 60 r = some r) (hi : ids [] 60 r = []) : Pure P f args r := by
  intro F w vs hF hr
  refine (h F w vs hF hr).mono fun e w' ⟨u, he, hb, hru⟩ => ⟨u, he, hb, [], fun _ => none, r, ⟨fun id o h => by simp [Store.get] at h, fun i j o o' b h => by simp [Store.get] at h, fun id o b h => by simp [Store.get] at h, fun b hb' => hF.out b (Nat.le_trans hb.size hb'), fun b hb' => hF.out b hb', ⟨fun e he => by simp [hF.pin] at he, fun e he => ⟨(hb.block _ (hF.lt he)).trans (hF.gnd e he), fun h => absurd (hF.lt he) (Nat.not_lt.2 h)⟩⟩⟩, hru hF.out, ho, by rw [hi]; exact .nil⟩
theorem graph_inv {X : Ctx} {R : GI} {u : Value} (h : Rep X (.fopq .graph R) u) : (u = .pointer none ∧ R.length = 0) ∨ ∃ b S, u = .pointer (some ⟨b, 0, none⟩) ∧ 0 < R.length ∧ GraphAt R X.w b S := by
  obtain ⟨o, S, rfl, h1, h2⟩ := h.fopq_inv
  cases o with
  | none => exact .inl ⟨rfl, by simpa [OK.isNil] using h1 rfl⟩
  | some b =>
    obtain ⟨k1, k2, _⟩ := h2 b rfl
    exact .inr ⟨b, S, rfl, by have : ¬ R.length = 0 := (by simpa [OK.isNil] using k1); omega, k2⟩
end
theorem cell_of {w : World} {b : Nat} {cs : Array Value} {t : TypeId} (h : w.heap[b]? = some (.cells cs t (0, 0))) (j : Nat) : w.cell? ⟨b, j, none⟩ = cs[j]? := by
  simp [World.cell?, h]
def readsF (R : Vm.GI) (v : Int) : List Int := if 0 ≤ v ∧ v < R.length then R.getD v.toNat [] else []
def rdsF (R : Vm.GI) (v : Int) : List Int := if 0 ≤ v ∧ v < R.length then Vm.readersF R v.toNat else []
theorem getD_at {l : List Int} {j : Nat} (hj : j < l.length) : l[j]? = some (l.getD j 0) := by
  rw [List.getElem?_eq_getElem hj, List.getD_eq_getElem?_getD, List.getElem?_eq_getElem hj]; rfl
theorem ints_rep {F : Vm.Fr} {w0 w : World} {v : Value} {l : List Int} (h : w.ownsRow w0.heap.size 3 1 v l.length (l.map (Value.int .i64))) (hF : ∀ b, w0.heap.size ≤ b → ¬ F.any b) : Vm.Rep ⟨w, [], fun _ => none, F⟩ (.list .part I l) v := by
  have hx := h.2
  rcases hx with ⟨rfl, hn⟩ | ⟨g, cap, cur, rfl, hb, hg, hcap, _⟩
  · exact .list ⟨hn.symm, Nat.le_refl _, fun h => absurd h (Nat.lt_irrefl _)⟩ (fun h => by cases h)
  · refine .list ⟨rfl, hcap, fun _ => ⟨g, 0, rfl, ⟨⟨⟨(Array.getElem?_eq_some_iff.1 hg).1, fun _ _ hg => by simp [Vm.Store.get] at hg⟩, fun k => hF g hb (.inr k)⟩, fun _ k => hF g hb (.inl k)⟩, fun i x hx => ⟨[.int .i64 x], rfl, fun j u hu => ?_⟩⟩⟩ (fun h => by cases h)
    have hi : i < List.length (α := Int) l := (List.getElem?_eq_some_iff.1 hx).1
    have hj : j < 1 := by simpa using (List.getElem?_eq_some_iff.1 hu).1
    obtain rfl : j = 0 := by omega
    have := h.cellAt i (by omega)
    rw [List.getElem?_map, show l[i]? = some x from hx] at this
    simp only [List.getElem?_cons_zero, Option.some.injEq] at hu
    subst hu
    have e : Option.map (Value.int .i64) (some x) = some (Value.int .i64 x) := rfl
    have this := this.trans e
    simpa [Vm.Ty.cells] using this
theorem ints_cells {w : World} {S : Nat → Prop} {v : Value} {l : List Int} (h : Vm.LAt w S v l) : ∃ A c, v = .slice A l.length c ∧ (0 < l.length → ∃ g o, A = some ⟨g, o, none⟩ ∧ ∀ j, j < l.length → w.cell? ⟨g, o + j, none⟩ = some (.int .i64 (l.getD j 0))) := by
  obtain ⟨A, c, e, _, h⟩ := h
  refine ⟨A, c, e, fun h0 => ?_⟩
  obtain ⟨g, o, cg, e1, _, e3, e4⟩ := h h0
  exact ⟨g, o, e1, fun j hj => by rw [cell_of e3]; exact e4 j _ (getD_at hj)⟩
theorem contains_at {w : World} {S : Nat → Prop} {v : Value} {l : List Int} (h : Vm.LAt w S v l) (hl : l.length ≤ 1000000000) (x : Int) : Calls Try.prog 57 #[v, .int .i64 x] w fun e w' => e = .returned (.bool (l.contains x)) ∧ w' = w := by
  obtain ⟨A, c, rfl, hc0⟩ := ints_cells h
  by_cases h0 : 0 < l.length
  · obtain ⟨g, o, rfl, hc⟩ := hc0 h0
    have := Try.slices_Contains_int g o l.length c l x w (Nat.le_refl _) (by omega) hc
    rwa [List.take_length] at this
  · have e : l = [] := List.eq_nil_of_length_eq_zero (by omega)
    subst e
    exact Try.slices_Contains_int_empty A c x w
theorem clone_at {w : World} {S : Nat → Prop} {v : Value} {l : List Int} (h : Vm.LAt w S v l) (hl : l.length ≤ 1000000000) : Calls Try.prog 58 #[v] w fun e w' => ∃ v', e = .returned v' ∧ w'.ownsRow w.heap.size 3 1 v' l.length (l.map (Value.int .i64)) ∧ Below w.heap.size w w' := by
  obtain ⟨A, c, rfl, hc0⟩ := ints_cells h
  by_cases h0 : 0 < l.length
  · obtain ⟨g, o, rfl, hc⟩ := hc0 h0
    refine (Try.slices_Clone_int g o l.length c l w (Nat.le_refl _) (by omega) hc).mono ?_
    rintro e w' ⟨v', h1, h2, _, h3⟩
    exact ⟨v', h1, by rwa [List.take_length] at h2, h3⟩
  · have e : l = [] := List.eq_nil_of_length_eq_zero (by omega)
    subst e
    cases A with
    | none =>
      refine (Try.slices_Clone_int_nil 0 c w).mono ?_
      rintro e w' ⟨h1, rfl⟩
      exact ⟨_, h1, World.ownsRow_nil _ _ _ _, Below.refl _ _⟩
    | some a =>
      refine (Try.slices_Clone_int_zero a c w).mono ?_
      rintro e w' ⟨v', h1, h2, _, h3⟩
      exact ⟨v', h1, h2, h3⟩
theorem g_small {R : Vm.GI} (h : Vm.GOk R) {v : Nat} {l : List Int} (hl : R[v]? = some l) : l.length ≤ 1000000000 := by
  obtain ⟨h1, h2⟩ := h
  obtain ⟨k1, k2⟩ := h2 v l hl
  have : l.length ≤ R.length := by
    have hm : ∀ x ∈ l, x.toNat ∈ List.range R.length := fun x hx => by
      obtain ⟨a, b, _⟩ := k2 x hx
      exact List.mem_range.2 (by omega)
    have hn : (l.map Int.toNat).Nodup := by
      rw [List.nodup_iff_pairwise_ne, List.pairwise_map]
      refine List.Pairwise.imp_of_mem (fun {a b} ha hb hne e => hne ?_) (List.nodup_iff_pairwise_ne.1 k1)
      have := (k2 a ha).1
      have := (k2 b hb).1
      omega
    have := List.Nodup.length_le_of_subset hn (l₂ := List.range R.length) (fun y hy => by
      obtain ⟨x, hx, rfl⟩ := List.mem_map.1 hy
      exact hm x hx)
    simpa using this
  omega
section
variable (b : Nat) (S : Nat → Prop) (R : Vm.GI) (w : World)
set_option maxRecDepth 100000
set_option maxHeartbeats 1000000
theorem node_in (n : Nat) (v : Int) (h : Vm.GraphAt R w b S) :
    CallsIn Fence.wide n Try.prog 56 #[.pointer (some ⟨b, 0, none⟩), .int .i64 v] w fun e w' => e = .returned (.bool (decide (0 ≤ v ∧ v < R.length))) ∧ w' = w := by
  obtain ⟨h1, h2, br, cr, bm, cm, csr, csm, t1, -⟩ := h
  have c0 := cell_of t1 0
  simp only [List.getElem?_toArray, List.getElem?_cons_zero] at c0
  refine callsIn_of_wp Try.func56 rfl trivial ?_ rfl
  simp only [Try.ntmps56, List.size_toArray, List.length_cons, List.length_nil, Nat.reduceAdd, Nat.reduceSub, Array.replicate_succ, Array.replicate_zero, List.push_toArray, List.append_toArray, List.nil_append, List.cons_append]
  gi_wp2
  · go_ret
    rename_i hv
    refine ⟨?_, rfl⟩
    simp [hv]
  · go_ret
    rename_i hv
    refine ⟨?_, rfl⟩
    have : ¬ 0 ≤ v := by omega
    simp [this]
theorem nodes_in (n : Nat) (h : Vm.GraphAt R w b S) :
    CallsIn Fence.wide n Try.prog 52 #[.pointer (some ⟨b, 0, none⟩)] w fun e w' => e = .returned (.int .i64 R.length) ∧ w' = w := by
  obtain ⟨h1, h2, br, cr, bm, cm, csr, csm, t1, -⟩ := h
  have c0 := cell_of t1 0
  simp only [List.getElem?_toArray, List.getElem?_cons_zero] at c0
  refine callsIn_of_wp Try.func52 rfl trivial ?_ rfl
  simp only [Try.ntmps52, List.size_toArray, List.length_cons, List.length_nil, Nat.reduceAdd, Nat.reduceSub, Array.replicate_succ, Array.replicate_zero, List.push_toArray, List.append_toArray, List.nil_append, List.cons_append]
  gi_wp2
  go_ret
  exact ⟨rfl, rfl⟩
theorem has_in (n : Nat) (hn : 2 ≤ n) (v x : Int) (h : Vm.GraphAt R w b S) :
    CallsIn Fence.wide n Try.prog 19 #[.pointer (some ⟨b, 0, none⟩), .int .i64 v, .int .i64 x] w fun e w' => e = .returned (.bool ((readsF R v).contains x)) ∧ w' = w := by
  have hg := h
  obtain ⟨h1, h2, br, cr, bm, cm, csr, csm, t1, t2, t3, t4, t5, t6, t7, t8, t9, t10⟩ := h
  have c0 := cell_of t1 0
  simp only [List.getElem?_toArray, List.getElem?_cons_zero] at c0
  have hn1 : 1 ≤ n := by omega
  have hf1 : Fence.wide.fn 56 := trivial
  have hf2 : Fence.wide.fn 57 := trivial
  refine callsIn_of_wp Try.func19 rfl trivial ?_ rfl
  simp only [Try.ntmps19, List.size_toArray, List.length_cons, List.length_nil, Nat.reduceAdd, Nat.reduceSub, Array.replicate_succ, Array.replicate_zero, List.push_toArray, List.append_toArray, List.nil_append, List.cons_append]
  by_cases hv : 0 ≤ v ∧ v < R.length
  · obtain ⟨u, k1, k2⟩ := t8 v.toNat R[v.toNat] (List.getElem?_eq_getElem (by omega))
    have hl := g_small h1 (List.getElem?_eq_getElem (show v.toNat < R.length by omega))
    have hcv : w.cell? ⟨br, v.toNat, none⟩ = some u := by rw [cell_of t4]; exact k1
    gi_wp2_with (first
      | (gi_at_call 56; refine (node_in b S R w (n - 1) v hg).mono ?_; rintro e w' ⟨rfl, rfl⟩)
      | (gi_at_call 57; refine (callsIn_wide.2 (contains_at k2 hl x)).mono ?_; rintro e w' ⟨rfl, rfl⟩))
    go_ret
    refine ⟨?_, rfl⟩
    rw [readsF, if_pos hv, List.getD_eq_getElem?_getD, List.getElem?_eq_getElem (show v.toNat < R.length by omega)]
    simp
  · gi_wp2_with (first
      | (gi_at_call 56; refine (node_in b S R w (n - 1) v hg).mono ?_; rintro e w' ⟨rfl, rfl⟩))
    go_ret
    refine ⟨?_, rfl⟩
    rw [readsF, if_neg hv]
    simp
theorem reads_in (n : Nat) (hn : 2 ≤ n) (v : Int) (h : Vm.GraphAt R w b S) :
    CallsIn Fence.wide n Try.prog 22 #[.pointer (some ⟨b, 0, none⟩), .int .i64 v] w fun e w' => ∃ u, e = .returned u ∧ w'.ownsRow w.heap.size 3 1 u (readsF R v).length ((readsF R v).map (Value.int .i64)) ∧ Below w.heap.size w w' := by
  have hg := h
  obtain ⟨h1, h2, br, cr, bm, cm, csr, csm, t1, t2, t3, t4, t5, t6, t7, t8, t9, t10⟩ := h
  have c0 := cell_of t1 0
  simp only [List.getElem?_toArray, List.getElem?_cons_zero] at c0
  have hn1 : 1 ≤ n := by omega
  have hf1 : Fence.wide.fn 56 := trivial
  have hf2 : Fence.wide.fn 58 := trivial
  refine callsIn_of_wp Try.func22 rfl trivial ?_ rfl
  simp only [Try.ntmps22, List.size_toArray, List.length_cons, List.length_nil, Nat.reduceAdd, Nat.reduceSub, Array.replicate_succ, Array.replicate_zero, List.push_toArray, List.append_toArray, List.nil_append, List.cons_append]
  by_cases hv : 0 ≤ v ∧ v < R.length
  · obtain ⟨u, k1, k2⟩ := t8 v.toNat R[v.toNat] (List.getElem?_eq_getElem (by omega))
    have hl := g_small h1 (List.getElem?_eq_getElem (show v.toNat < R.length by omega))
    have hcv : w.cell? ⟨br, v.toNat, none⟩ = some u := by rw [cell_of t4]; exact k1
    gi_wp2_with (first
      | (gi_at_call 56; refine (node_in b S R w (n - 1) v hg).mono ?_; rintro e w' ⟨rfl, rfl⟩)
      | (gi_at_call 58; refine (callsIn_wide.2 (clone_at k2 hl)).mono ?_; rintro e w' ⟨v', rfl, ho, hb⟩))
    go_ret
    refine ⟨_, rfl, ?_, hb⟩
    rw [readsF, if_pos hv, List.getD_eq_getElem?_getD, List.getElem?_eq_getElem (show v.toNat < R.length by omega)]
    exact ho
  · gi_wp2_with (first
      | (gi_at_call 56; refine (node_in b S R w (n - 1) v hg).mono ?_; rintro e w' ⟨rfl, rfl⟩))
    go_ret
    refine ⟨_, rfl, ?_, Below.refl _ _⟩
    rw [readsF, if_neg hv]
    exact World.ownsRow_nil _ _ _ _
end
end Go.Proofs.Ytojflfogjkajaaa.Gr
