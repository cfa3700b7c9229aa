/-
  tally.New: told to the engine.
-/
import Derived.Test.YteaajihmfacinaaTa6
namespace Go.Proofs.Yteaajihmfacinaa.Ta
open Go.Vm
theorem lines_of {w : World} {G : Nat → Prop} (hG : ∀ b, G b → b < w.heap.size) {L : List Ln} {row : List Value} (h : RepC w G (.slice LnT) L row) : ∃ v, row = [v] ∧ LinesAt w.heap.size w v L := by
  obtain ⟨A, cap, rfl, _, hc⟩ := h
  refine ⟨_, rfl, A, cap, rfl, fun h0 => ?_⟩
  obtain ⟨b, o, rfl, hb, hx⟩ := hc h0
  refine ⟨b, o, rfl, hG b hb, fun k x hk => ?_⟩
  obtain ⟨r, hr, hcell⟩ := hx k x hk
  obtain ⟨r1, r2, rfl, e1, r3, r4, rfl, e2, r5, r6, rfl, e3, e4⟩ := hr
  cases e1; cases e2; cases e3; cases e4
  exact ⟨hcell 0 _ rfl, hcell 1 _ rfl, hcell 2 _ rfl, hcell 3 _ rfl⟩
theorem ents_of {F : Fr} {w : World} {μ : Mu} {u : Value} {N : List En} (h : Rep ⟨w, [], μ, F⟩ (.list .tmp EnT N) u) : EntsAt w.heap.size w u N := by
  obtain ⟨A, cap, rfl, ⟨_, _, hc⟩, _⟩ := h.list_inv
  refine ⟨A, cap, rfl, fun h0 => ?_⟩
  obtain ⟨b, o, rfl, hb, hx⟩ := hc h0
  refine ⟨b, o, rfl, hb.1.1.1, fun k x hk => ?_⟩
  obtain ⟨r, hr, hcell⟩ := hx k x hk
  obtain ⟨r1, r2, rfl, e1, r3, r4, rfl, e2, e3⟩ := hr
  obtain ⟨v, rfl, hl⟩ := lines_of (fun b hb => hb.1.1.1) e3
  cases e1; cases e2
  exact ⟨hcell 0 _ rfl, hcell 1 _ rfl, v, hcell 2 _ rfl, hl⟩
def NOk (N : List En) : Prop := N.length ≤ 4611686018427387904 ∧ (linesF N).length < 3518437208781 ∧ ∀ x ∈ N, WordI x.1 ∧ ∀ y ∈ x.2.2, WL y
abbrev sigN (d : TD) : Store := [(0, .opq .grw (d.G, none)), (1, .opq .gpe (d.H, none)), (2, .box [.oref 0, .oref 1, .int .i64 d.e, .int .i64 d.n])]
abbrev muN (tb b0 b1 C0 C1 : Nat) : Mu := fun i => if i = 0 then some (b0, 0, C0) else if i = 1 then some (b1, 0, C1) else if i = 2 then some (tb, 0, 83) else none
theorem sigN_cases {d : TD} {id : Nat} {o : Vm.Obj} (h : Store.get (sigN d) id = some o) : (id = 0 ∧ o = .opq .grw (d.G, none)) ∨ (id = 1 ∧ o = .opq .gpe (d.H, none)) ∨ (id = 2 ∧ o = .box [.oref 0, .oref 1, .int .i64 d.e, .int .i64 d.n]) := by
  simp only [sigN, Store.get] at h
  split at h
  · rename_i e; cases h; exact .inl ⟨e.symm, rfl⟩
  split at h
  · rename_i e; cases h; exact .inr (.inl ⟨e.symm, rfl⟩)
  split at h
  · rename_i e; cases h; exact .inr (.inr ⟨e.symm, rfl⟩)
  · cases h
set_option maxHeartbeats 1000000 in
theorem new_upd (N : List En) (h : NOk N) : UpdC Try.prog 29 [.list .tmp EnT N] [] (.ptr 2 0) (sigN (newD N)) := by
  intro B F w μ vs hF hI hB hr
  obtain ⟨u1, r1, rfl, a1, hr⟩ := hr.cons_inv
  obtain rfl := hr.nil_inv
  obtain ⟨hN, hT, hok⟩ := h
  have hL := ents_of a1
  obtain ⟨A, cap, rfl, _⟩ := id hL
  refine ((callsIn_wide (n := 20)).1 (new_in 20 (by omega) A cap N hN hT hok w hL)).mono ?_
  rintro e w' ⟨tb, b0, b1, rfl, hb, hT, h0, h1, h2, hS⟩
  obtain ⟨C0, hC0⟩ := bits_of _ _ hT.rows.lt
  obtain ⟨C1, hC1⟩ := bits_of _ _ hT.per.lt
  have f0 := bits_eq hC0
  have f1 := bits_eq hC1
  have hS0 : ∀ c, C0.testBit c = true → w.heap.size ≤ c := fun c hc => hS c (.inl ((hC0 c).1 hc))
  have hS1 : ∀ c, C1.testBit c = true → w.heap.size ≤ c := fun c hc => hS c (.inr ((hC1 c).1 hc))
  rw [← f0, ← f1] at hT
  generalize newD N = d at hT
  obtain ⟨m1, m2, m3⟩ := hT.n0
  obtain ⟨k1, k2, k3, k4⟩ := hT.n1
  have hap := hT.ap
  have e1 : Rep ⟨w', sigN d, muN tb b0 b1 C0 C1, F⟩ (.oref 0) (.map (some b0)) := Rep.oref (X := ⟨w', sigN d, muN tb b0 b1 C0 C1, F⟩) (id := 0) (k := .grw) (d := (d.G, none)) rfl
  have e2 : Rep ⟨w', sigN d, muN tb b0 b1 C0 C1, F⟩ (.oref 1) (.map (some b1)) := Rep.oref (X := ⟨w', sigN d, muN tb b0 b1 C0 C1, F⟩) (id := 1) (k := .gpe) (d := (d.H, none)) rfl
  have hblk : ∀ {id : Nat} {o : Vm.Obj} {c : Nat}, Store.get (sigN d) id = some o → Blk ⟨w', sigN d, muN tb b0 b1 C0 C1, F⟩ id o c → (id = 2 ∧ c = tb) ∨ (id = 0 ∧ (c = b0 ∨ C0.testBit c = true)) ∨ (id = 1 ∧ (c = b1 ∨ C1.testBit c = true)) := by
    intro id o c hg hk
    obtain ⟨p, hm, hk⟩ := hk
    rcases sigN_cases hg with ⟨rfl, rfl⟩ | ⟨rfl, rfl⟩ | ⟨rfl, rfl⟩
    · cases hm
      exact .inr (.inl ⟨rfl, hk.elim (fun e => .inl e.symm) .inr⟩)
    · cases hm
      exact .inr (.inr ⟨rfl, hk.elim (fun e => .inl e.symm) .inr⟩)
    · cases hm
      rcases hk with hk | hk
      · exact .inl ⟨rfl, hk.symm⟩
      · exact hk.elim
  have hnew : ∀ {id : Nat} {o : Vm.Obj} {c : Nat}, Store.get (sigN d) id = some o → Blk ⟨w', sigN d, muN tb b0 b1 C0 C1, F⟩ id o c → w.heap.size ≤ c := by
    intro id o c hg hk
    rcases hblk hg hk with ⟨_, rfl⟩ | ⟨_, rfl | hc⟩ | ⟨_, rfl | hc⟩
    · exact h0
    · exact h1
    · exact hS0 c hc
    · exact h2
    · exact hS1 c hc
  refine ⟨_, rfl, muN tb b0 b1 C0 C1, ⟨fun id o hg => ?_, fun i j o o' c hi hj hki hkj => ?_, fun id o c hg hk => hB _ (hnew hg hk), fun c hc => hI.out c (Nat.le_trans hb.size hc), hI.vis, ⟨fun e he => by simp [hF] at he, fun e he => ?_⟩⟩,
    Rep.ptr (X := ⟨w', sigN d, muN tb b0 b1 C0 C1, F⟩) (id := 2) (off := 0) (base := 0) (C := 83) rfl rfl,
    ⟨hb.os, hb.tape, hb.output, hb.size, rfl, fun c hc => ⟨⟨Nat.lt_of_lt_of_le hc.1 hb.size, fun id o hg hk => absurd (hnew hg hk) (Nat.not_le.2 hc.1)⟩, hb.block c hc.1⟩⟩, fun c cells h => by simp [Store.get] at h, fun c k d h => by simp [Store.get] at h⟩
  · rcases sigN_cases hg with ⟨rfl, rfl⟩ | ⟨rfl, rfl⟩ | ⟨rfl, rfl⟩
    · exact .inr ⟨b0, 0, C0, rfl, rfl, hT.rows⟩
    · exact .inr ⟨b1, 0, C1, rfl, rfl, hT.per⟩
    · exact ⟨tb, _, _, rfl, hT.top, .cons e1 (.cons e2 (.cons .int (.cons .int .nil)))⟩
  · rcases hblk hi hki with ⟨rfl, rfl⟩ | ⟨rfl, hc⟩ | ⟨rfl, hc⟩ <;> rcases hblk hj hkj with ⟨rfl, hc'⟩ | ⟨rfl, hc'⟩ | ⟨rfl, hc'⟩
    all_goals first
      | rfl
      | (exfalso
         first
           | exact hc'.elim m1 k1
           | exact hc'.elim m2 k2
           | (rcases hc with rfl | hc
              · first
                  | exact m1 hc'.symm
                  | exact m2 hc'.symm
                  | (rcases hc' with hc' | hc'
                     · first
                         | exact m3 hc'
                         | exact m3 hc'.symm
                     · first
                         | exact k4 hc'
                         | exact k3 hc')
              · first
                  | exact k1 (hc' ▸ hc)
                  | exact k2 (hc' ▸ hc)
                  | (rcases hc' with rfl | hc'
                     · first
                         | exact k3 hc
                         | exact k4 hc
                     · first
                         | exact hap _ hc hc'
                         | exact hap _ hc' hc)))
  · obtain ⟨h1, h2⟩ := hI.marks.gnd e he
    exact ⟨(hb.block _ (Array.getElem?_eq_some_iff.1 h1).1).trans h1, h2⟩
noncomputable def newRun : List V → Store → Option (Prop × V × Store)
  | [v], [] => (asL EnT v : Option (List En)).bind fun N => some (NOk N, .ptr 2 0, sigN (newD N))
  | _, _ => none
end Go.Proofs.Yteaajihmfacinaa.Ta
