/-
  law14: awake, OrderTells.
-/
import Derived.Test.YtojflfogjkajaaaOd13
namespace Go.Proofs.Ytojflfogjkajaaa.Od
open Go.Vm Go.Proofs.Ytojflfogjkajaaa.Gr Go.Proofs.Ytojflfogjkajaaa.Rc
section
variable {rd : Int → List Int} {all : List Int}
inductive Wt (rd : Int → List Int) (all : List Int) : List (List Int) → Prop
  | nil : Wt rd all []
  | snoc {out : List (List Int)} : Wt rd all out → rowF rd all out.flatten ≠ [] → Wt rd all (out ++ [rowF rd all out.flatten])
theorem wavN_some : ∀ (k : Nat) (out w : List (List Int)), Wt rd all out → wavN rd all k out = some w → Wt rd all w ∧ all.length ≤ w.flatten.length
  | 0, out, w, hb, h => by
    unfold wavN at h
    split at h
    · cases h
      exact ⟨hb, by assumption⟩
    · cases h
  | k + 1, out, w, hb, h => by
    unfold wavN at h
    split at h
    · cases h
      exact ⟨hb, by assumption⟩
    · split at h
      · cases h
      · rename_i hr
        exact wavN_some k _ _ (hb.snoc hr) h
theorem wavN_none : ∀ (k : Nat) (out : List (List Int)), Wt rd all out → all.length - out.flatten.length ≤ k → wavN rd all k out = none → ∃ w, Wt rd all w ∧ rowF rd all w.flatten = [] ∧ w.flatten.length < all.length
  | 0, out, hb, hl, h => by
    unfold wavN at h
    split at h
    · cases h
    · omega
  | k + 1, out, hb, hl, h => by
    unfold wavN at h
    split at h
    · cases h
    · split at h
      · exact ⟨out, hb, by assumption, by omega⟩
      · rename_i hr
        have : 0 < (rowF rd all out.flatten).length := List.length_pos_iff.2 hr
        exact wavN_none k _ (hb.snoc hr) (by rw [flat_snoc, List.length_append]; omega) h
theorem wavR_some {w : List (List Int)} (h : wavR rd all [] = some w) : Wt rd all w ∧ all.length ≤ w.flatten.length := wavN_some _ _ _ .nil h
theorem wavR_none (h : wavR rd all [] = none) : ∃ w, Wt rd all w ∧ rowF rd all w.flatten = [] ∧ w.flatten.length < all.length := wavN_none _ _ .nil (Nat.le_refl _) h
theorem Wt.bt (hn : all.Nodup) {w : List (List Int)} (h : Wt rd all w) : Bt rd all w.flatten := by
  induction h with
  | nil => exact .nil
  | snoc _ _ ih =>
    rw [flat_snoc]
    exact ih.rowF hn
theorem Wt.len {w : List (List Int)} (h : Wt rd all w) : w.length ≤ w.flatten.length ∧ ∀ r ∈ w, r.length ≤ w.flatten.length := by
  induction h with
  | nil => exact ⟨Nat.le_refl _, fun r hr => by cases hr⟩
  | snoc _ hr ih =>
    have := List.length_pos_iff.2 hr
    rw [flat_snoc, List.length_append, List.length_append, List.length_singleton]
    refine ⟨by omega, fun r hr => ?_⟩
    rcases List.mem_append.1 hr with hr | hr
    · have := ih.2 r hr
      omega
    · rw [List.mem_singleton.1 hr]
      omega
end
theorem ordA_len (R : GI) (sm : List Int) : (ordA R sm).length ≤ List.length (α := List Int) R := by
  unfold ordA
  cases h : ordS R sm with
  | none => exact Nat.zero_le _
  | some o =>
    have := (ordR_some h).1.os.le
    have := al_len R sm
    show o.length ≤ _
    omega
set_option maxRecDepth 20000
end Go.Proofs.Ytojflfogjkajaaa.Od
