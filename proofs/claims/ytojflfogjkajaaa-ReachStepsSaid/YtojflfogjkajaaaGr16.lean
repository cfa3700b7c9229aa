/-
  graph: New, Set, as records.
-/
import Derived.Test.YtojflfogjkajaaaGr15
namespace Go.Proofs.Ytojflfogjkajaaa.Gr
open Go Go.RowKit Go.Shelf Go.Proofs
open Go.Vm

/-- Some numbers, as bits. -/
theorem bits_of (S : Nat → Prop) : ∀ N : Nat, (∀ c, S c → c < N) → ∃ C : Nat, ∀ c, C.testBit c = true ↔ S c
  | 0, h => ⟨0, fun c => by simp; exact fun hc => absurd (h c hc) (Nat.not_lt_zero _)⟩
  | N + 1, h => by
    obtain ⟨C, hC⟩ := bits_of (fun c => S c ∧ c < N) N fun c hc => hc.2
    by_cases hN : S N
    · refine ⟨C ||| 2 ^ N, fun c => ?_⟩
      rw [Nat.testBit_or, Bool.or_eq_true, hC, Nat.testBit_two_pow, decide_eq_true_eq]
      constructor
      · rintro (k | rfl)
        · exact k.1
        · exact hN
      · intro k
        have := h c k
        by_cases e : N = c
        · exact .inr e
        · exact .inl ⟨k, by omega⟩
    · refine ⟨C, fun c => ?_⟩
      rw [hC]
      constructor
      · exact And.left
      · intro k
        have := h c k
        have : c ≠ N := fun e => hN (e ▸ k)
        exact ⟨k, by omega⟩
theorem bits_eq {S : Nat → Prop} {C : Nat} (h : ∀ c, C.testBit c = true ↔ S c) : (fun c => C.testBit c = true) = S := funext fun c => propext (h c)

/-- What New makes. -/
def newR (m : Int) : GI := if 1 ≤ m ∧ m ≤ 20000 then List.replicate m.toNat [] else []
def newE (m : Int) : Int := if 1 ≤ m ∧ m ≤ 20000 then 0 else 2
theorem int_inv {X : Ctx} {k : IntKind} {n : Int} {u : Value} (h : Rep X (.int k n) u) : u = .int k n := by cases h; rfl
theorem new_upd (m : Int) : UpdC Try.prog 26 [.int .i64 m] [] (.tuple [.oref 0, .int .i64 (newE m)]) [(0, .opq .graph (newR m))] := by
  intro B F w μ vs hF hI hB hr
  obtain ⟨u1, r1, rfl, a1, hr⟩ := hr.cons_inv
  obtain rfl := hr.nil_inv
  cases int_inv a1
  by_cases hm : 1 ≤ m ∧ m ≤ 20000
  · refine (callsIn_wide.1 (new_in 20 m hm w)).mono ?_
    rintro e w' ⟨b, S, rfl, hg, hS, hb⟩
    obtain ⟨C, hC⟩ := bits_of S _ hg.lt
    have hR : newR m = List.replicate m.toNat [] := if_pos hm
    refine ⟨_, rfl, fun _ => some (b, 0, C), ⟨fun id o h => ?_, fun i j o o' c hi hj _ _ => ?_, fun id o c hi hk => ?_, fun c hc => hI.out c (Nat.le_trans hb.size hc), hI.vis, ⟨fun e he => by simp [hF] at he, fun e he => ?_⟩⟩, ?_, ⟨hb.os, hb.tape, hb.output, hb.size, rfl, fun c hc => ⟨⟨Nat.lt_of_lt_of_le hc.1 hb.size, fun id o hg' hk => ?_⟩, hb.block c hc.1⟩⟩, fun c cells h => by simp [Store.get] at h, fun c k d h => by simp [Store.get] at h⟩
    · simp only [Store.get] at h
      split at h
      · cases h
        refine .inr ⟨b, 0, C, rfl, ?_, ?_⟩
        · have : 0 < m.toNat := by omega
          simp only [OK.isNil, hR, List.length_replicate, decide_eq_false_iff_not]
          omega
        · rw [bits_eq hC, hR]
          exact hg
      · cases h
    · simp only [Store.get] at hi hj
      split at hi
      · split at hj
        · omega
        · cases hj
      · cases hi
    · simp only [Store.get] at hi
      split at hi
      · cases hi
        obtain ⟨p, hp, hk⟩ := hk
        cases hp
        rcases hk with rfl | hk
        · exact hB _ (hS _ (.inl rfl))
        · exact hB _ (hS _ (.inr ((hC c).1 hk)))
      · cases hi
    · obtain ⟨h1, h2⟩ := hI.marks.gnd e he
      exact ⟨(hb.block _ (Array.getElem?_eq_some_iff.1 h1).1).trans h1, h2⟩
    · refine .tuple rfl fun j c u hc hu => ?_
      match j, hc, hu with
      | 0, hc, hu =>
        cases hc; cases hu
        exact Rep.oref (X := ⟨w', [(0, .opq .graph (newR m))], fun _ => some (b, 0, C), F⟩) (id := 0) rfl
      | 1, hc, hu =>
        cases hc; cases hu
        rw [newE, if_pos hm]
        exact .int
    · simp only [Store.get] at hg'
      split at hg'
      · cases hg'
        obtain ⟨p, hp, hk⟩ := hk
        cases hp
        have := hc.1
        rcases hk with rfl | hk
        · have := hS _ (.inl rfl)
          have h1 : b < w.heap.size := hc.1
          omega
        · have := hS _ (.inr ((hC c).1 hk))
          have h1 : c < w.heap.size := hc.1
          omega
      · cases hg'
  · refine (callsIn_wide.1 (new_bad 20 m hm w)).mono ?_
    rintro e w' ⟨rfl, rfl⟩
    have hR : newR m = [] := if_neg hm
    refine ⟨_, rfl, fun _ => none, ⟨fun id o h => ?_, fun i j o o' c hi hj h => ?_, fun id o c hi hk => ?_, hI.out, hI.vis, ⟨fun e he => by simp [hF] at he, hI.marks.gnd⟩⟩, ?_, ⟨rfl, rfl, rfl, Nat.le_refl _, rfl, fun c hc => ⟨⟨hc.1, fun id o hg' hk => ?_⟩, rfl⟩⟩, fun c cells h => by simp [Store.get] at h, fun c k d h => by simp [Store.get] at h⟩
    · simp only [Store.get] at h
      split at h
      · cases h
        exact .inl ⟨rfl, by rw [hR]; rfl⟩
      · cases h
    · obtain ⟨p, hp, _⟩ := h
      cases hp
    · obtain ⟨p, hp, _⟩ := hk
      cases hp
    · refine .tuple rfl fun j c u hc hu => ?_
      match j, hc, hu with
      | 0, hc, hu =>
        cases hc; cases hu
        exact Rep.oref (X := ⟨w', [(0, .opq .graph (newR m))], fun _ => none, F⟩) (id := 0) rfl
      | 1, hc, hu =>
        cases hc; cases hu
        rw [newE, if_neg hm]
        exact .int
    · obtain ⟨p, hp, _⟩ := hk
      cases hp

end Go.Proofs.Ytojflfogjkajaaa.Gr
