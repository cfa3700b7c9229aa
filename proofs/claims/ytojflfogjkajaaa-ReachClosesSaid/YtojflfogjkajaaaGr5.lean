/-
  graph: maps of readers, step by step.
-/
import Derived.Maps.OwnIn
import Derived.Test.YtojflfogjkajaaaGr4
namespace Go.Proofs.Ytojflfogjkajaaa.Gr
open Go Go.RowKit Go.Shelf Go.Proofs
open Go.Vm (mapOf MAt LAt)

def ins (x : Int) : List Int → List Int
  | [] => [x]
  | y :: r => if x < y then x :: y :: r else y :: ins x r
theorem mem_ins {x z : Int} : ∀ {l : List Int}, z ∈ ins x l ↔ z = x ∨ z ∈ l
  | [] => by simp [ins]
  | y :: r => by
    unfold ins
    split
    · simp
    · simp only [List.mem_cons, mem_ins (l := r)]
      constructor
      · rintro (h | h | h)
        · exact .inr (.inl h)
        · exact .inl h
        · exact .inr (.inr h)
      · rintro (h | h | h)
        · exact .inr (.inl h)
        · exact .inl h
        · exact .inr (.inr h)
theorem sorted_ins {x : Int} : ∀ {l : List Int}, l.Pairwise (· < ·) → x ∉ l → (ins x l).Pairwise (· < ·)
  | [], _, _ => by simp [ins]
  | y :: r, h, hx => by
    obtain ⟨h1, h2⟩ := List.pairwise_cons.1 h
    unfold ins
    split
    · rename_i hlt
      refine List.pairwise_cons.2 ⟨fun z hz => ?_, h⟩
      rcases List.mem_cons.1 hz with rfl | hz
      · exact hlt
      · have := h1 z hz
        omega
    · rename_i hlt
      refine List.pairwise_cons.2 ⟨fun z hz => ?_, sorted_ins h2 (fun hm => hx (List.mem_cons_of_mem _ hm))⟩
      rcases mem_ins.1 hz with rfl | hz
      · have : z ≠ y := fun e => hx (by rw [e]; exact List.mem_cons_self)
        omega
      · exact h1 z hz
theorem sorted_ext : ∀ {l m : List Int}, l.Pairwise (· < ·) → m.Pairwise (· < ·) → (∀ x, x ∈ l ↔ x ∈ m) → l = m
  | [], [], _, _, _ => rfl
  | [], y :: m, _, _, h => by have := (h y).2 List.mem_cons_self; cases this
  | x :: l, [], _, _, h => by have := (h x).1 List.mem_cons_self; cases this
  | x :: l, y :: m, h1, h2, h => by
    obtain ⟨a1, a2⟩ := List.pairwise_cons.1 h1
    obtain ⟨b1, b2⟩ := List.pairwise_cons.1 h2
    have e : x = y := by
      rcases List.mem_cons.1 ((h x).1 List.mem_cons_self) with e | hx
      · exact e
      · rcases List.mem_cons.1 ((h y).2 List.mem_cons_self) with e | hy
        · exact e.symm
        · have := b1 x hx
          have := a1 y hy
          omega
    subst e
    rw [sorted_ext a2 b2 fun z => ?_]
    constructor
    · intro hz
      rcases List.mem_cons.1 ((h z).1 (List.mem_cons_of_mem _ hz)) with e | hz'
      · have := a1 z hz
        omega
      · exact hz'
    · intro hz
      rcases List.mem_cons.1 ((h z).2 (List.mem_cons_of_mem _ hz)) with e | hz'
      · have := b1 z hz
        omega
      · exact hz'
theorem same_int (x v : Int) : Lit.sameKey (.int .i64 x) (.int .i64 v) = decide (x = v) := by simp [Lit.sameKey]
theorem filt_map (l : List Int) (v : Int) : ((l.map fun x => ((.int .i64 x : Lit), (.lit (.int .i64 1) : DataW Unit))).filter fun p => !p.1.sameKey (.int .i64 v)) = (l.filter fun x => decide (x ≠ v)).map fun x => ((.int .i64 x : Lit), (.lit (.int .i64 1) : DataW Unit)) := by
  rw [List.filter_map]
  congr 1
  apply List.filter_congr
  intro x _
  simp [same_int]
theorem del_mapOf (l : List Int) (v : Int) : (mapOf l).del (.int .i64 v) = mapOf (l.filter fun x => decide (x ≠ v)) := by
  simp only [DataW.del, mapOf]
  rw [filt_map]
theorem ins_map (v : Int) : ∀ l : List Int, DataW.insert ((.int .i64 v : Lit), (.lit (.int .i64 1) : DataW Unit)) (l.map fun x => ((.int .i64 x : Lit), (.lit (.int .i64 1) : DataW Unit))) = (ins v l).map fun x => ((.int .i64 x : Lit), (.lit (.int .i64 1) : DataW Unit))
  | [] => rfl
  | y :: r => by
    simp only [List.map_cons, DataW.insert, ins, Lit.before, decide_eq_true_eq]
    split
    · rfl
    · rw [ins_map v r]; rfl
theorem filt_none {l : List Int} {v : Int} (h : v ∉ l) : (l.filter fun x => decide (x ≠ v)) = l := List.filter_eq_self.2 fun x hx => by
  have : x ≠ v := fun e => h (e ▸ hx)
  simpa using this
theorem put_mapOf {l : List Int} {v : Int} (h : v ∉ l) : (mapOf l).put (.int .i64 v) (.lit (.int .i64 1)) = mapOf (ins v l) := by
  simp only [DataW.put, mapOf]
  rw [filt_map, filt_none h, ins_map]
theorem atKey_mapOf {l : List Int} {v : Int} (h : v ∉ l) (z : DataW Unit) : (mapOf l).atKey (.int .i64 v) z = z := by
  simp only [DataW.atKey, mapOf]
  rw [List.find?_eq_none.2]
  intro p hp
  obtain ⟨x, hx, rfl⟩ := List.mem_map.1 hp
  simp only [same_int, decide_eq_true_eq]
  exact fun e => h (e ▸ hx)
theorem size_mapOf (l : List Int) : Maps.size (mapOf l) = l.length := by simp [Maps.size, mapOf]
theorem tight {w : World} {b n : Nat} {l : List Int} (h : w.ownsMap Try.prog 3 (plainElem Try.prog 3) b n (mapOf l)) : w.ownsMap Try.prog 3 (plainElem Try.prog 3) b l.length (mapOf l) := by
  obtain ⟨es, clock, h1, h2, h3, h4⟩ := h
  refine ⟨es, clock, h1, h2, ?_, h4⟩
  have h5 := size_mapOf l
  rw [h4] at h5
  simp only [Maps.size] at h5
  rw [length_read] at h5
  omega
theorem empty_mapOf : mapOf [] = (.map [] : DataW Unit) := rfl

end Go.Proofs.Ytojflfogjkajaaa.Gr
