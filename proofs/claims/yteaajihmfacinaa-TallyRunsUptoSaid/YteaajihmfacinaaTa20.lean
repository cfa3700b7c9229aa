/-
  TallySheets, TallyGrows: the statements.
-/
import Derived.Test.YteaajihmfacinaaRows
import Derived.Test.YteaajihmfacinaaUpt
import Derived.Test.YteaajihmfacinaaTa19
import Derived.WalkKit
import Derived.ProofKit
namespace Go.Proofs.Yteaajihmfacinaa.Ta
open Go.Vm Go.ChangeShapes Go.WideShapes Go.ChangeAt
theorem own : ownKnob Try.prog.godebug = none := by kernel_rfl
theorem laid : laidOutB Try.prog = true := by kernel_rfl
abbrev AtT : Ty := .pair I (.pair I (.pair I I))
def bLn (y : Ln) : Nat := Up.bulkD LnT y
def bEn (x : En) : Nat := Up.bulkD EnT x
theorem bulk_ln : ∀ l : List Ln, l.length ≤ (l.map bLn).sum
  | [] => by simp
  | y :: t => by
    have ih := bulk_ln t
    have e : bLn y = 4 := rfl
    rw [List.map_cons, List.sum_cons, List.length_cons, e]
    omega
theorem bulk_lines : ∀ N : List En, (putsL N).length + N.length ≤ (N.map bEn).sum
  | [] => by simp [putsL]
  | x :: r => by
    have h := bulk_lines r
    have h3 := bulk_ln x.2.2
    have e : bEn x = 1 + (1 + ((x.2.2.map bLn).sum + 1)) := rfl
    rw [show putsL (x :: r) = lnP x.1 x.2.2 ++ putsL r from rfl, List.length_append, lnP, List.length_map, List.length_cons, List.map_cons, List.sum_cons, e]
    omega
theorem in_of {N : List En} (h : okD (.slice EnT) N) (hb : Up.bulkD (.slice EnT) N ≤ 1048576) : NIn N ∧ N.length ≤ 2000000 := by
  have h1 := bulk_lines N
  have h2 : (N.map bEn).sum + 1 ≤ 1048576 := hb
  refine ⟨⟨by omega, by rw [lines_len]; omega, fun y hy => ?_⟩, by omega⟩
  obtain ⟨i, hi⟩ := List.mem_iff_getElem?.1 hy
  have h3 := h.2 i y hi
  refine ⟨h3.1, fun z hz => ?_⟩
  obtain ⟨k, hk⟩ := List.mem_iff_getElem?.1 hz
  exact h3.2.2.2 k z hk
end Go.Proofs.Yteaajihmfacinaa.Ta
