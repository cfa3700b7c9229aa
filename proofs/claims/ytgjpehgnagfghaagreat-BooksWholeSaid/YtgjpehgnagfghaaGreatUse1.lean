/-
  books.Used: a range over a function.
-/
import Derived.Test.YtgjpehgnagfghaaGreatUse0
namespace Go.Proofs.YtgjpehgnagfghaaGreat.Bks
open Go.Vm
theorem pure_calls {P : Program} {f : FuncId} {args : List V} {r : V} (h : ∀ (F : Fr) (w : World) (vs : List Value), Vm.Ground F w → RepL ⟨w, [], fun _ => none, F⟩ args vs →
    Calls P f vs.toArray w fun e w' => ∃ u, e = .returned u ∧ RowKit.Below w.heap.size w w' ∧ ∀ X, Rep X r u) (ho : own [] 60 r = some r) (hi : ids [] 60 r = []) : Pure P f args r := by
  intro F w vs hF hr
  refine (h F w vs hF hr).mono fun e w' ⟨u, he, hb, hru⟩ => ⟨u, he, hb, [], fun _ => none, r, ⟨fun id o h => by simp [Store.get] at h, fun i j o o' b h => by simp [Store.get] at h, fun id o b h => by simp [Store.get] at h, fun b hb' => hF.out b (Nat.le_trans hb.size hb'), fun b hb' => hF.out b hb', ⟨fun e he => by simp [hF.pin] at he, fun e he => ⟨(hb.block _ (hF.lt he)).trans (hF.gnd e he), fun h => absurd (hF.lt he) (Nat.not_lt.2 h)⟩⟩⟩, hru _, ho, by rw [hi]; exact .nil⟩
theorem lines_of {w : World} {G : Nat → Prop} (hG : ∀ b, G b → b < w.heap.size) {L : List Ln} {row : List Value} (h : RepC w G (.slice LnT) L row) : ∃ v, row = [v] ∧ LinesAt w.heap.size w v L := by
  obtain ⟨A, cap, rfl, _, hc⟩ := h
  refine ⟨_, rfl, A, cap, rfl, fun h0 => ?_⟩
  obtain ⟨b, o, rfl, hb, hx⟩ := hc h0
  refine ⟨b, o, rfl, hG b hb, fun k x hk => ?_⟩
  obtain ⟨r, hr, hcell⟩ := hx k x hk
  obtain ⟨r1, r2, rfl, e1, r3, r4, rfl, e2, r5, r6, rfl, e3, e4⟩ := hr
  cases e1; cases e2; cases e3; cases e4
  exact ⟨hcell 0 _ rfl, hcell 1 _ rfl, hcell 2 _ rfl, hcell 3 _ rfl⟩
theorem ents_of {F : Fr} {w : World} {u : Value} {N : List En} (h : Rep ⟨w, [], fun _ => none, F⟩ (.list .tmp EnT N) u) : EntsAt w.heap.size w u N := by
  obtain ⟨A, cap, rfl, ⟨_, _, hc⟩, _⟩ := h.list_inv
  refine ⟨A, cap, rfl, fun h0 => ?_⟩
  obtain ⟨b, o, rfl, hb, hx⟩ := hc h0
  refine ⟨b, o, rfl, hb.1.1.1, fun k x hk => ?_⟩
  obtain ⟨r, hr, hcell⟩ := hx k x hk
  obtain ⟨r1, r2, rfl, e1, r3, r4, rfl, e2, e3⟩ := hr
  obtain ⟨v, rfl, hl⟩ := lines_of (fun b hb => hb.1.1.1) e3
  cases e1; cases e2
  exact ⟨hcell 0 _ rfl, hcell 1 _ rfl, v, hcell 2 _ rfl, hl⟩
theorem used_pure (E : List Int) (A : List Acc.AcD) (S : List Ln) (R : List Rts.Rt) (K : List Lck.Lk) (N : List En) (a : Int) (h : Sm E A S R K N) : Pure Tryz.prog 11 [.agg [.list .tmp I E, .list .tmp AcT A, .list .tmp LnT S, .list .tmp RTy R, .list .tmp Vl K, .list .tmp EnT N], .int .i64 a] (.bool (usedF N a)) := by
  obtain ⟨_, _, _, _, _, l6, hi⟩ := h
  refine pure_calls (fun F w vs hF hr => ?_) rfl rfl
  obtain ⟨u1, r1, rfl, a1, hr⟩ := hr.cons_inv
  obtain ⟨u2, r2, rfl, a2, hr⟩ := hr.cons_inv
  rw [hr.nil_inv, a2.int_inv]
  obtain ⟨vs, rfl, hs⟩ := a1.agg_inv
  obtain ⟨l, rfl⟩ : ∃ l : List Value, vs = l.toArray := ⟨vs.toList, by simp⟩
  have hs : RepL _ _ l := hs
  obtain ⟨v0, q0, rfl, b0, hs⟩ := hs.cons_inv
  obtain ⟨v1, q1, rfl, b1, hs⟩ := hs.cons_inv
  obtain ⟨v2, q2, rfl, b2, hs⟩ := hs.cons_inv
  obtain ⟨v3, q3, rfl, b3, hs⟩ := hs.cons_inv
  obtain ⟨v4, q4, rfl, b4, hs⟩ := hs.cons_inv
  obtain ⟨v5, q5, rfl, b5, hs⟩ := hs.cons_inv
  obtain rfl := hs.nil_inv
  have hE := ents_of b5
  obtain ⟨A', cap, rfl, _⟩ := id hE
  refine (callsIn_wide (n := 9)).1 ((used_in Fence.wide 9 trivial trivial trivial rfl (by omega) v0 v1 v2 v3 v4 A' cap N l6 hi a w hE).mono ?_)
  rintro e w' ⟨rfl, hb⟩
  exact ⟨_, rfl, hb, fun X => .bool⟩
noncomputable def sp_used : FSpec Tryz.prog where
 f := 11
 run := fun
  | [.agg [v0, v1, v2, v3, v4, v5], .int .i64 a] => (asL I v0 : Option (List Int)).bind fun E => (asL AcT v1 : Option (List Acc.AcD)).bind fun A => (asL LnT v2 : Option (List Ln)).bind fun S => (asL RTy v3 : Option (List Rts.Rt)).bind fun R => (asL Vl v4 : Option (List Lck.Lk)).bind fun K => (asL EnT v5 : Option (List En)).bind fun N => some (Sm E A S R K N, .bool (usedF N a))
  | _ => none
 ok := fun args pre r h hp => by
  split at h
  · rename_i v0 v1 v2 v3 v4 v5 a
    obtain ⟨E, h0, h⟩ := Option.bind_eq_some_iff.1 h
    obtain ⟨A, h1, h⟩ := Option.bind_eq_some_iff.1 h
    obtain ⟨S, h2, h⟩ := Option.bind_eq_some_iff.1 h
    obtain ⟨R, h3, h⟩ := Option.bind_eq_some_iff.1 h
    obtain ⟨K, h4, h⟩ := Option.bind_eq_some_iff.1 h
    obtain ⟨N, h5, h⟩ := Option.bind_eq_some_iff.1 h
    exact of_q h hp fun h => (used_pure E A S R K N a h).weak (.cons (Weak.agg (.cons (asL_weak h0) (.cons (asL_weak h1) (.cons (asL_weak h2) (.cons (asL_weak h3) (.cons (asL_weak h4) (.cons (asL_weak h5) .nil))))))) (.cons (.refl _) .nil))
  · cases h
end Go.Proofs.YtgjpehgnagfghaaGreat.Bks
