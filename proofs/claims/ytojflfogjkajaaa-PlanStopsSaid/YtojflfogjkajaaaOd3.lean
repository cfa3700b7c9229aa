/-
  order: who waits for how many; one behind the other.
-/
import Derived.Test.YtojflfogjkajaaaRc7
section
namespace Go.Proofs.Ytojflfogjkajaaa.Od
abbrev Th : Type := Int × Int
def Lt (a b : Th) : Prop := a.1 < b.1 ∨ (a.1 = b.1 ∧ a.2 < b.2)
instance (a b : Th) : Decidable (Lt a b) := by unfold Lt; infer_instance
def at0 (row : List Th) (i : Nat) : Th := row.getD i (0, 0)
def swapL (row : List Th) (i k : Nat) : List Th := (row.set i (at0 row k)).set k (at0 row i)
theorem swap_len (row : List Th) (i k : Nat) : (swapL row i k).length = row.length := by simp [swapL]
theorem at0_get {row : List Th} {i : Nat} (h : i < row.length) : row[i]? = some (at0 row i) := by
  rw [at0, List.getD_eq_getElem?_getD, List.getElem?_eq_getElem h]
  rfl
theorem at0_set {row : List Th} {i : Nat} (h : i < row.length) (x : Th) (j : Nat) : at0 (row.set i x) j = if j = i then x else at0 row j := by
  rw [at0, at0, List.getD_eq_getElem?_getD, List.getD_eq_getElem?_getD, List.getElem?_set]
  by_cases e : i = j
  · rw [if_pos e, if_pos (by omega), if_pos e.symm]
    rfl
  · rw [if_neg e, if_neg (fun h => e h.symm)]
theorem at0_swap {row : List Th} {i k : Nat} (hi : i < row.length) (hk : k < row.length) (j : Nat) : at0 (swapL row i k) j = if j = k then at0 row i else if j = i then at0 row k else at0 row j := by
  rw [swapL, at0_set (by rw [List.length_set]; exact hk), at0_set hi]
def ind (x v : Int) : Nat := if x = v then 1 else 0
def cx (v : Int) (row : List Th) : Nat := (row.map fun x => ind x.1 v).sum
theorem cx_set {row : List Th} {i : Nat} (h : i < row.length) (x : Th) (v : Int) : cx v (row.set i x) + ind (at0 row i).1 v = cx v row + ind x.1 v := by
  induction row generalizing i with
  | nil => simp at h
  | cons a row ih =>
    cases i with
    | zero =>
      simp only [List.set_cons_zero, cx, List.map_cons, List.sum_cons, at0, List.getD_cons_zero]
      omega
    | succ i =>
      have := ih (i := i) (by simpa using h)
      simp only [List.set_cons_succ, cx, List.map_cons, List.sum_cons, at0, List.getD_cons_succ] at this ⊢
      omega
theorem cx_swap {row : List Th} {i k : Nat} (hi : i < row.length) (hk : k < row.length) (v : Int) : cx v (swapL row i k) = cx v row := by
  have h1 := cx_set hi (at0 row k) v
  have h2 := cx_set (row := row.set i (at0 row k)) (i := k) (by rw [List.length_set]; exact hk) (at0 row i) v
  rw [at0_set hi] at h2
  unfold swapL
  by_cases e : k = i
  · rw [if_pos e] at h2
    omega
  · rw [if_neg e] at h2
    omega
def upF (row : List Th) (i : Nat) : List Th := if _h : 0 < i ∧ Lt (at0 row i) (at0 row ((i - 1) / 2)) then upF (swapL row i ((i - 1) / 2)) ((i - 1) / 2) else row
termination_by i
decreasing_by omega
theorem up_len : ∀ (i : Nat) (row : List Th), (upF row i).length = row.length := by
  intro i
  induction i using Nat.strongRecOn with
  | ind i ih =>
    intro row
    rw [upF]
    split
    · rw [ih _ (by omega), swap_len]
    · rfl
def Hp (row : List Th) : Prop := ∀ i, 0 < i → i < row.length → ¬ Lt (at0 row i) (at0 row ((i - 1) / 2))
def HpUp (row : List Th) (i : Nat) : Prop := (∀ j, 0 < j → j < row.length → j ≠ i → ¬ Lt (at0 row j) (at0 row ((j - 1) / 2))) ∧ ∀ j, 0 < j → j < row.length → 0 < i → (j - 1) / 2 = i → ¬ Lt (at0 row j) (at0 row ((i - 1) / 2))
theorem up_ok : ∀ (i : Nat) (row : List Th), i < row.length → HpUp row i → Hp (upF row i) ∧ ∀ v, cx v (upF row i) = cx v row := by
  intro i
  induction i using Nat.strongRecOn with
  | ind i ih =>
    intro row hi ⟨h1, h2⟩
    rw [upF]
    split
    · rename_i hc
      have hp : (i - 1) / 2 < row.length := by omega
      have hs := at0_swap hi hp
      have key := ih ((i - 1) / 2) (by omega) (swapL row i ((i - 1) / 2)) (by rw [swap_len]; exact hp) ⟨fun j j0 jl jn => ?_, fun j j0 jl p0 jp => ?_⟩
      · refine ⟨key.1, fun v => ?_⟩
        rw [key.2, cx_swap hi hp]
      · rw [swap_len] at jl
        rw [hs, hs]
        by_cases e1 : j = i
        · subst e1
          rw [if_neg (by omega), if_pos rfl, if_pos rfl]
          unfold Lt at hc ⊢
          omega
        · rw [if_neg jn, if_neg e1]
          have a := h1 j j0 jl e1
          by_cases e2 : (j - 1) / 2 = i
          · rw [if_neg (by omega), if_pos e2]
            exact h2 j j0 jl hc.1 e2
          · by_cases e3 : (j - 1) / 2 = (i - 1) / 2
            · rw [if_pos e3]
              rw [e3] at a
              unfold Lt at hc a ⊢
              omega
            · rw [if_neg e3, if_neg e2]
              exact a
      · rw [swap_len] at jl
        rw [hs j, hs ((((i - 1) / 2) - 1) / 2), if_neg (show ¬ j = (i - 1) / 2 by omega), if_neg (show ¬ ((i - 1) / 2 - 1) / 2 = (i - 1) / 2 by omega), if_neg (show ¬ ((i - 1) / 2 - 1) / 2 = i by omega)]
        have b := h1 ((i - 1) / 2) p0 hp (by omega)
        by_cases e1 : j = i
        · rw [if_pos e1]
          exact b
        · rw [if_neg e1]
          have a := h1 j j0 jl e1
          rw [jp] at a
          unfold Lt at a b ⊢
          omega
    · rename_i hc
      refine ⟨fun j j0 jl => ?_, fun v => rfl⟩
      by_cases e : j = i
      · subst e
        exact fun hl => hc ⟨j0, hl⟩
      · exact h1 j j0 jl e
def pushF (row : List Th) (x : Int) (w : Int) : List Th := upF (row ++ [(x, w)]) row.length
theorem push_len (row : List Th) (x w : Int) : (pushF row x w).length = row.length + 1 := by simp [pushF, up_len]
theorem at0_app {row : List Th} {j : Nat} (h : j < row.length) (y : Th) : at0 (row ++ [y]) j = at0 row j := by
  rw [at0, at0, List.getD_eq_getElem?_getD, List.getD_eq_getElem?_getD, List.getElem?_append_left h]
theorem push_ok {row : List Th} (h : Hp row) (x w : Int) : Hp (pushF row x w) ∧ ∀ v, cx v (pushF row x w) = cx v row + ind x v := by
  have := up_ok row.length (row ++ [(x, w)]) (by simp) ⟨fun j j0 jl jn => ?_, fun j j0 jl i0 jp => ?_⟩
  · refine ⟨this.1, fun v => ?_⟩
    unfold pushF
    rw [this.2]
    simp [cx]
  · rw [List.length_append] at jl
    simp only [List.length_cons, List.length_nil] at jl
    rw [at0_app (by omega), at0_app (by omega)]
    exact h j j0 (by omega)
  · rw [List.length_append] at jl
    simp only [List.length_cons, List.length_nil] at jl
    omega
def better (row : List Th) (k b : Nat) : Nat := if k < row.length ∧ Lt (at0 row k) (at0 row b) then k else b
def bestF (row : List Th) (i : Nat) : Nat := better row (2 * i + 2) (better row (2 * i + 1) i)
theorem best_of (row : List Th) (i : Nat) : bestF row i = i ∨ (i < bestF row i ∧ bestF row i < row.length ∧ (bestF row i - 1) / 2 = i) := by
  unfold bestF better
  split <;> split <;> omega
def sinkF (row : List Th) (i : Nat) : List Th := if _h : bestF row i = i then row else sinkF (swapL row i (bestF row i)) (bestF row i)
termination_by row.length - i
decreasing_by
  rw [swap_len]
  have := best_of row i
  omega
theorem best_le {row : List Th} {i : Nat} : (¬ Lt (at0 row i) (at0 row (bestF row i))) ∧ (∀ j, 0 < j → j < row.length → (j - 1) / 2 = i → ¬ Lt (at0 row j) (at0 row (bestF row i))) ∧ (bestF row i ≠ i → Lt (at0 row (bestF row i)) (at0 row i)) := by
  have h1 : ∀ b k, ¬ Lt (at0 row b) (at0 row (better row k b)) ∧ (k < row.length → ¬ Lt (at0 row k) (at0 row (better row k b))) ∧ (better row k b ≠ b → Lt (at0 row (better row k b)) (at0 row b)) := fun b k => by
    unfold better
    split
    · rename_i h
      unfold Lt at h ⊢
      omega
    · rename_i h
      unfold Lt at h ⊢
      omega
  obtain ⟨a1, a2, a3⟩ := h1 i (2 * i + 1)
  obtain ⟨b1, b2, b3⟩ := h1 (better row (2 * i + 1) i) (2 * i + 2)
  unfold bestF
  refine ⟨?_, fun j j0 jl jp => ?_, fun hn => ?_⟩
  · unfold Lt at a1 b1 ⊢
    omega
  · have : j = 2 * i + 1 ∨ j = 2 * i + 2 := by omega
    rcases this with rfl | rfl
    · have := a2 jl
      unfold Lt at this b1 ⊢
      omega
    · exact b2 jl
  · by_cases e : better row (2 * i + 2) (better row (2 * i + 1) i) = better row (2 * i + 1) i
    · rw [e] at hn ⊢
      exact a3 hn
    · have c := b3 e
      unfold Lt at a1 c ⊢
      omega
def HpDn (row : List Th) (i : Nat) : Prop := (∀ j, 0 < j → j < row.length → (j - 1) / 2 ≠ i → ¬ Lt (at0 row j) (at0 row ((j - 1) / 2))) ∧ ∀ j, 0 < j → j < row.length → 0 < i → (j - 1) / 2 = i → ¬ Lt (at0 row j) (at0 row ((i - 1) / 2))
theorem sink_ok : ∀ (n : Nat) (row : List Th) (i : Nat), row.length - i ≤ n → HpDn row i → Hp (sinkF row i) ∧ (∀ v, cx v (sinkF row i) = cx v row) ∧ (sinkF row i).length = row.length := by
  intro n
  induction n with
  | zero =>
    intro row i hn ⟨h1, h2⟩
    have hb := best_of row i
    rw [sinkF, dif_pos (by omega)]
    refine ⟨fun j j0 jl => h1 j j0 jl (by omega), fun v => rfl, rfl⟩
  | succ n ih =>
    intro row i hn ⟨h1, h2⟩
    have hb := best_of row i
    obtain ⟨l1, l2, l3⟩ := best_le (row := row) (i := i)
    rw [sinkF]
    split
    · rename_i e
      refine ⟨fun j j0 jl => ?_, fun v => rfl, rfl⟩
      by_cases hj : (j - 1) / 2 = i
      · have := l2 j j0 jl hj
        rw [e] at this
        rw [hj]
        exact this
      · exact h1 j j0 jl hj
    · rename_i e
      have l3 := l3 e
      generalize bestF row i = b at *
      have hi : i < row.length := by omega
      have hbl : b < row.length := by omega
      have hs := at0_swap hi hbl
      have key := ih (swapL row i b) b (by rw [swap_len]; omega) ⟨fun j j0 jl jn => ?_, fun j j0 jl p0 jp => ?_⟩
      · obtain ⟨k1, k2, k3⟩ := key
        exact ⟨k1, fun v => by rw [k2, cx_swap hi hbl], by rw [k3, swap_len]⟩
      · rw [swap_len] at jl
        rw [hs, hs]
        by_cases e1 : j = b
        · rw [if_pos e1, if_neg (by omega), if_pos (by omega)]
          unfold Lt at l3 ⊢
          omega
        · rw [if_neg e1, if_neg jn]
          by_cases e2 : j = i
          · rw [if_pos e2, if_neg (by omega)]
            have := h2 b (by omega) hbl (by omega) (by omega)
            rw [e2]
            exact this
          · rw [if_neg e2]
            by_cases e3 : (j - 1) / 2 = i
            · rw [if_pos e3]
              exact l2 j j0 jl e3
            · rw [if_neg e3]
              exact h1 j j0 jl e3
      · rw [swap_len] at jl
        rw [hs, hs, if_neg (by omega), if_neg (by omega), if_neg (by omega), if_pos (by omega)]
        have := h1 j j0 jl (by omega)
        rw [jp] at this
        exact this
theorem Hp.least {row : List Th} (h : Hp row) : ∀ i, i < row.length → ¬ Lt (at0 row i) (at0 row 0) := by
  intro i
  induction i using Nat.strongRecOn with
  | ind i ih =>
    intro hi
    by_cases e : i = 0
    · subst e
      unfold Lt
      omega
    · have a := h i (by omega) hi
      have b := ih ((i - 1) / 2) (by omega) (by omega)
      unfold Lt at a b ⊢
      omega
def popF (row : List Th) : List Th := sinkF ((row.set 0 (at0 row (row.length - 1))).take (row.length - 1)) 0
theorem at0_take {row : List Th} {n j : Nat} (h : j < n) : at0 (row.take n) j = at0 row j := by
  rw [at0, at0, List.getD_eq_getElem?_getD, List.getD_eq_getElem?_getD, List.getElem?_take, if_pos h]
theorem pop_ok {row : List Th} (h : Hp row) (h0 : 0 < row.length) : Hp (popF row) ∧ (popF row).length = row.length - 1 ∧ ∀ v, cx v (popF row) + ind (at0 row 0).1 v = cx v row := by
  have hl : ((row.set 0 (at0 row (row.length - 1))).take (row.length - 1)).length = row.length - 1 := by simp
  have key := sink_ok _ ((row.set 0 (at0 row (row.length - 1))).take (row.length - 1)) 0 (Nat.le_refl _) ⟨fun j j0 jl jn => ?_, fun j j0 jl i0 => by omega⟩
  · obtain ⟨k1, k2, k3⟩ := key
    refine ⟨k1, by rw [popF, k3, hl], fun v => ?_⟩
    rw [popF, k2]
    have c1 := cx_set h0 (at0 row (row.length - 1)) v
    have c2 : cx v (row.set 0 (at0 row (row.length - 1))) = cx v ((row.set 0 (at0 row (row.length - 1))).take (row.length - 1)) + ind (at0 row (row.length - 1)).1 v := by
      have e : row.set 0 (at0 row (row.length - 1)) = (row.set 0 (at0 row (row.length - 1))).take (row.length - 1) ++ [at0 row (row.length - 1)] := by
        apply List.ext_getElem?
        intro j
        by_cases hj : j < row.length - 1
        · rw [List.getElem?_append_left (by rw [hl]; exact hj), List.getElem?_take, if_pos hj]
        · rw [List.getElem?_append_right (by rw [hl]; omega), hl]
          by_cases e : j = row.length - 1
          · rw [e, Nat.sub_self]
            rw [at0_get (row := row.set 0 (at0 row (row.length - 1))) (by rw [List.length_set]; omega), at0_set h0]
            split <;> rfl
          · rw [List.getElem?_eq_none (by rw [List.length_set]; omega), List.getElem?_eq_none (by simp; omega)]
      have h2 : cx v (row.set 0 (at0 row (row.length - 1))) = cx v ((row.set 0 (at0 row (row.length - 1))).take (row.length - 1) ++ [at0 row (row.length - 1)]) := congrArg (cx v) e
      rw [h2]
      simp [cx]
    omega
  · rw [hl] at jl
    rw [at0_take jl, at0_take (by omega), at0_set h0, at0_set h0, if_neg (by omega), if_neg (by omega)]
    exact h j j0 (by omega)
end Go.Proofs.Ytojflfogjkajaaa.Od
end
section
namespace Go.Proofs.Ytojflfogjkajaaa.Od
open Go.Proofs.Ytojflfogjkajaaa.Rc
instance (n : Nat) (v : Int) : Decidable (Dom n v) := by unfold Dom; infer_instance
def Up (l : List Int) : Prop := l.Pairwise (· < ·)
theorem up_ext : ∀ {l m : List Int}, Up l → Up m → (∀ x, x ∈ l ↔ x ∈ m) → l = m
  | [], [], _, _, _ => rfl
  | [], y :: m, _, _, h => by have := (h y).2 List.mem_cons_self; cases this
  | x :: l, [], _, _, h => by have := (h x).1 List.mem_cons_self; cases this
  | x :: l, y :: m, h1, h2, h => by
    obtain ⟨a1, a2⟩ := List.pairwise_cons.1 h1
    obtain ⟨b1, b2⟩ := List.pairwise_cons.1 h2
    have e : x = y := by
      rcases List.mem_cons.1 ((h x).1 List.mem_cons_self) with e | hx
      · exact e
      · rcases List.mem_cons.1 ((h y).2 List.mem_cons_self) with e | hy
        · exact e.symm
        · have := b1 x hx
          have := a1 y hy
          omega
    subst e
    rw [up_ext a2 b2 fun z => ?_]
    constructor
    · intro hz
      rcases List.mem_cons.1 ((h z).1 (List.mem_cons_of_mem _ hz)) with e | hz'
      · have := a1 z hz
        omega
      · exact hz'
    · intro hz
      rcases List.mem_cons.1 ((h z).2 (List.mem_cons_of_mem _ hz)) with e | hz'
      · have := b1 z hz
        omega
      · exact hz'
theorem ixs_up (p : Nat → Bool) (n : Nat) : Up (ixs p n) := by
  unfold Up ixs
  rw [List.pairwise_map]
  exact List.Pairwise.imp (fun {a b} h => by omega) (List.pairwise_lt_range.filter _)
theorem up_nodup {l : List Int} (h : Up l) : l.Nodup := by
  rw [List.nodup_iff_pairwise_ne]
  exact List.Pairwise.imp (fun {a b} h => by omega) h
def insU (l : List Int) (n : Int) : List Int := l.filter (fun x => decide (x < n)) ++ n :: l.filter (fun x => decide (n < x))
theorem mem_insU {l : List Int} {n x : Int} : x ∈ insU l n ↔ x = n ∨ x ∈ l := by
  unfold insU
  simp only [List.mem_append, List.mem_filter, List.mem_cons, decide_eq_true_eq]
  constructor
  · rintro (h | h | h)
    · exact .inr h.1
    · exact .inl h
    · exact .inr h.1
  · rintro (h | h)
    · exact .inr (.inl h)
    · by_cases e : x = n
      · exact .inr (.inl e)
      · by_cases h2 : x < n
        · exact .inl ⟨h, h2⟩
        · exact .inr (.inr ⟨h, by omega⟩)
theorem insU_up {l : List Int} (h : Up l) (n : Int) : Up (insU l n) := by
  unfold insU Up
  rw [List.pairwise_append]
  refine ⟨h.filter _, List.pairwise_cons.2 ⟨fun x hx => ?_, h.filter _⟩, fun a ha b hb => ?_⟩
  · simp only [List.mem_filter, decide_eq_true_eq] at hx
    exact hx.2
  · simp only [List.mem_filter, decide_eq_true_eq] at ha
    rcases List.mem_cons.1 hb with rfl | hb
    · exact ha.2
    · simp only [List.mem_filter, decide_eq_true_eq] at hb
      omega
def riseF (l : List Int) : List Int := l.foldl insU []
theorem foldl_insU : ∀ (l acc : List Int), Up acc → Up (l.foldl insU acc) ∧ ∀ x, x ∈ l.foldl insU acc ↔ x ∈ acc ∨ x ∈ l
  | [], acc, h => ⟨h, fun x => by simp⟩
  | y :: l, acc, h => by
    obtain ⟨h1, h2⟩ := foldl_insU l (insU acc y) (insU_up h y)
    refine ⟨h1, fun x => ?_⟩
    rw [List.foldl_cons, h2, mem_insU, List.mem_cons]
    constructor
    · rintro ((h | h) | h)
      · exact .inr (.inl h)
      · exact .inl h
      · exact .inr (.inr h)
    · rintro (h | h | h)
      · exact .inl (.inr h)
      · exact .inl (.inl h)
      · exact .inr h
theorem rise_up (l : List Int) : Up (riseF l) := (foldl_insU l [] List.Pairwise.nil).1
theorem mem_rise {l : List Int} {x : Int} : x ∈ riseF l ↔ x ∈ l := by
  rw [riseF, (foldl_insU l [] List.Pairwise.nil).2]
  simp
theorem rise_len (l : List Int) : (riseF l).length ≤ l.length := sub_len (up_nodup (rise_up l)) fun _ h => mem_rise.1 h
def allF (n : Nat) (some : List Int) : List Int := ixs (fun i => some.contains (i : Int)) n
theorem mem_all {n : Nat} {some : List Int} {v : Int} : v ∈ allF n some ↔ Dom n v ∧ v ∈ some := by
  unfold allF
  rw [mem_ixs]
  constructor
  · rintro ⟨h1, h2⟩
    rw [Int.toNat_of_nonneg h1.1] at h2
    exact ⟨h1, List.contains_iff_mem.1 h2⟩
  · rintro ⟨h1, h2⟩
    refine ⟨h1, ?_⟩
    rw [Int.toNat_of_nonneg h1.1]
    exact List.contains_iff_mem.2 h2
theorem all_up (n : Nat) (some : List Int) : Up (allF n some) := ixs_up _ _
theorem all_le (n : Nat) (some : List Int) : (allF n some).length ≤ n := ixs_le _ _
theorem all_rise (n : Nat) (some : List Int) : (riseF some).filter (fun v => decide (Dom n v)) = allF n some := by
  refine up_ext ((rise_up some).filter _) (all_up n some) fun x => ?_
  rw [List.mem_filter, mem_all, mem_rise, decide_eq_true_eq]
  exact And.comm
end Go.Proofs.Ytojflfogjkajaaa.Od
end
section
namespace Go.Proofs.Ytojflfogjkajaaa.Od
open Go.Proofs.Ytojflfogjkajaaa.Rc
def cntO (rd : Int → List Int) (all out : List Int) (v : Int) : Nat := ((rd v).filter fun w => all.contains w && !out.contains w).length
def C (rd : Int → List Int) (all out : List Int) (v : Int) : Prop := v ∈ all ∧ v ∉ out ∧ cntO rd all out v = 0
instance (rd : Int → List Int) (all out : List Int) (v : Int) : Decidable (C rd all out v) := by unfold C; infer_instance
def nextF (rd : Int → List Int) (all out : List Int) : Option Int := all.find? fun v => decide (C rd all out v)
def ordN (rd : Int → List Int) (all : List Int) : Nat → List Int → Option (List Int)
  | 0, out => if all.length ≤ out.length then some out else none
  | k + 1, out => if all.length ≤ out.length then some out else match nextF rd all out with
    | none => none
    | some v => ordN rd all k (out ++ [v])
def ordR (rd : Int → List Int) (all out : List Int) : Option (List Int) := ordN rd all (all.length - out.length) out
theorem ordR_eq (rd : Int → List Int) (all out : List Int) : ordR rd all out = if all.length ≤ out.length then some out else match nextF rd all out with
    | none => none
    | some v => ordR rd all (out ++ [v]) := by
  unfold ordR
  cases h : all.length - out.length with
  | zero =>
    rw [ordN, if_pos (by omega), if_pos (by omega)]
  | succ k =>
    rw [ordN, if_neg (by omega), if_neg (by omega)]
    cases nextF rd all out with
    | none => rfl
    | some v =>
      have : all.length - (out ++ [v]).length = k := by simp; omega
      simp only [this]
structure Gd (rd rs : Int → List Int) : Prop where
  nd : ∀ v, (rd v).Nodup
  ne : ∀ v, v ∉ rd v
  rn : ∀ v, (rs v).Nodup
  iff : ∀ u v, u ∈ rs v ↔ v ∈ rd u
structure Os (rd : Int → List Int) (all out : List Int) : Prop where
  nd : out.Nodup
  sub : ∀ v ∈ out, v ∈ all
  clo : ∀ u ∈ out, ∀ w ∈ rd u, w ∈ all → w ∈ out
section
variable {rd rs : Int → List Int} {all out : List Int}
theorem cnt_zero {v : Int} : cntO rd all out v = 0 ↔ ∀ w ∈ rd v, w ∈ all → w ∈ out := by
  unfold cntO
  rw [List.length_eq_zero_iff, List.filter_eq_nil_iff]
  constructor
  · intro h w hw ha
    have := h w hw
    simp only [Bool.and_eq_true, Bool.not_eq_true', List.contains_iff_mem, not_and, Bool.not_eq_false] at this
    exact this ha
  · intro h w hw
    simp only [Bool.and_eq_true, Bool.not_eq_true', List.contains_iff_mem, not_and, Bool.not_eq_false]
    exact h w hw
theorem count_nodup {l : List Int} (h : l.Nodup) (u : Int) : l.count u = if u ∈ l then 1 else 0 := by
  have h1 := List.nodup_iff_count.1 h u
  have h2 := List.count_pos_iff (a := u) (l := l)
  split
  · rename_i hm
    have := h2.2 hm
    omega
  · rename_i hm
    apply Classical.byContradiction
    intro hn
    exact hm (h2.1 (by omega))
theorem filt_one {l : List Int} {p q : Int → Bool} {v : Int} (hn : l.Nodup) (hv : p v = true) (hq : ∀ w, q w = (p w && !decide (w = v))) : (l.filter p).length = (l.filter q).length + if v ∈ l then 1 else 0 := by
  induction l with
  | nil => simp
  | cons a l ih =>
    obtain ⟨h1, h2⟩ := List.nodup_cons.1 hn
    have ih := ih h2
    rw [List.filter_cons, List.filter_cons]
    by_cases e : a = v
    · subst e
      have hqa : q a = false := by rw [hq]; simp
      rw [if_pos hv, hqa, if_neg (by decide), if_pos (by simp)]
      rw [if_neg h1] at ih
      simp only [List.length_cons]
      omega
    · have hqa : q a = p a := by rw [hq]; simp [e]
      rw [hqa]
      have hm : (v ∈ a :: l) = (v ∈ l) := by
        rw [List.mem_cons]
        exact propext ⟨fun h => h.resolve_left fun h => e h.symm, .inr⟩
      simp only [hm]
      split
      · simp only [List.length_cons]
        omega
      · exact ih
theorem cnt_snoc (hG : Gd rd rs) {v : Int} (hv : v ∈ all) (ho : v ∉ out) (u : Int) : cntO rd all out u = cntO rd all (out ++ [v]) u + if v ∈ rd u then 1 else 0 := by
  unfold cntO
  refine filt_one (v := v) (hG.nd u) ?_ fun w => ?_
  · simp [hv, ho]
  · by_cases e : w = v
    · subst e
      simp
    · simp [e]
theorem Os.snoc (h : Os rd all out) {v : Int} (hv : C rd all out v) : Os rd all (out ++ [v]) := by
  obtain ⟨h1, h2, h3⟩ := hv
  refine ⟨?_, fun w hw => ?_, fun u hu w hw ha => ?_⟩
  · rw [List.nodup_append]
    refine ⟨h.nd, by simp, fun a ha b hb => ?_⟩
    rw [List.mem_singleton] at hb
    subst hb
    exact fun e => h2 (e ▸ ha)
  · rcases List.mem_append.1 hw with hw | hw
    · exact h.sub w hw
    · rw [List.mem_singleton.1 hw]
      exact h1
  · rcases List.mem_append.1 hu with hu | hu
    · exact List.mem_append_left _ (h.clo u hu w hw ha)
    · rw [List.mem_singleton.1 hu] at hw
      exact List.mem_append_left _ (cnt_zero.1 h3 w hw ha)
theorem Os.nil : Os rd all [] := ⟨List.nodup_nil, fun v h => by simp at h, fun u h => by simp at h⟩
theorem Os.le (h : Os rd all out) : out.length ≤ all.length := sub_len h.nd h.sub
def newR (rd rs : Int → List Int) (all out : List Int) (v : Int) : List Int := (rs v).filter fun u => decide (u ∈ all) && decide (cntO rd all out u = 1)
theorem C_snoc (hG : Gd rd rs) (h : Os rd all out) {v : Int} (hv : C rd all out v) (u : Int) : (if C rd all (out ++ [v]) u then 1 else 0) + ind v u = (if C rd all out u then 1 else 0) + (newR rd rs all out v).count u := by
  have hs := cnt_snoc (all := all) (out := out) hG hv.1 hv.2.1 u
  have hc : (newR rd rs all out v).count u = if u ∈ rs v ∧ u ∈ all ∧ cntO rd all out u = 1 then 1 else 0 := by
    have hn : (newR rd rs all out v).Nodup := (hG.rn v).filter _
    have hm : u ∈ newR rd rs all out v ↔ u ∈ rs v ∧ u ∈ all ∧ cntO rd all out u = 1 := by
      unfold newR
      rw [List.mem_filter, Bool.and_eq_true, decide_eq_true_eq, decide_eq_true_eq]
    by_cases hu : u ∈ newR rd rs all out v
    · rw [if_pos (hm.1 hu), count_nodup hn, if_pos hu]
    · rw [if_neg (fun h => hu (hm.2 h)), List.count_eq_zero.2 hu]
  rw [hc]
  unfold ind
  by_cases e : v = u
  · subst e
    have hr : ¬ v ∈ rs v := fun hm => hG.ne v ((hG.iff v v).1 hm)
    rw [if_pos rfl, if_neg (show ¬ C rd all (out ++ [v]) v from fun h => h.2.1 (by simp)), if_pos hv, if_neg (fun h => hr h.1)]
  · rw [if_neg e]
    by_cases hr : v ∈ rd u
    · rw [if_pos hr] at hs
      have hru := (hG.iff u v).2 hr
      have h1 : ¬ C rd all out u := fun h => by have := h.2.2; omega
      by_cases h2 : u ∈ all ∧ cntO rd all out u = 1
      · have k1 : u ∈ rs v ∧ u ∈ all ∧ cntO rd all out u = 1 := ⟨hru, h2⟩
        have k2 : C rd all (out ++ [v]) u := by
          refine ⟨h2.1, fun hm => ?_, by have := h2.2; omega⟩
          rcases List.mem_append.1 hm with hm | hm
          · exact hv.2.1 (h.clo u hm v hr hv.1)
          · exact e (List.mem_singleton.1 hm).symm
        rw [if_pos k1, if_pos k2, if_neg h1]
      · have k1 : ¬ (u ∈ rs v ∧ u ∈ all ∧ cntO rd all out u = 1) := fun h => h2 h.2
        have k2 : ¬ C rd all (out ++ [v]) u := fun h3 => h2 ⟨h3.1, by have := h3.2.2; omega⟩
        rw [if_neg k1, if_neg k2, if_neg h1]
    · rw [if_neg hr] at hs
      have k1 : ¬ (u ∈ rs v ∧ u ∈ all ∧ cntO rd all out u = 1) := fun h => hr ((hG.iff u v).1 h.1)
      rw [if_neg k1]
      have : C rd all (out ++ [v]) u ↔ C rd all out u := by
        unfold C
        rw [show cntO rd all (out ++ [v]) u = cntO rd all out u by omega, List.mem_append, List.mem_singleton, not_or]
        exact ⟨fun ⟨a, b, c⟩ => ⟨a, b.1, c⟩, fun ⟨a, b, c⟩ => ⟨a, ⟨b, fun h => e h.symm⟩, c⟩⟩
      simp only [this]
def Pend (rd : Int → List Int) (all out P : List Int) : Prop := ∀ u, P.count u = if C rd all out u then 1 else 0
theorem count_cons' (v : Int) (P : List Int) (u : Int) : (v :: P).count u = P.count u + ind v u := by
  rw [List.count_cons]
  unfold ind
  by_cases e : v = u <;> simp [e]
theorem Pend.step (hG : Gd rd rs) (h : Os rd all out) {v : Int} {P : List Int} (hp : Pend rd all out (v :: P)) : C rd all out v ∧ Pend rd all (out ++ [v]) (P ++ newR rd rs all out v) := by
  have hv : C rd all out v := by
    have := hp v
    rw [count_cons'] at this
    unfold ind at this
    rw [if_pos rfl] at this
    split at this
    · assumption
    · omega
  refine ⟨hv, fun u => ?_⟩
  have h1 := hp u
  rw [count_cons'] at h1
  have h2 := C_snoc hG h hv u
  rw [List.count_append]
  omega
theorem Pend.mem {P : List Int} (hp : Pend rd all out P) {u : Int} : u ∈ P ↔ C rd all out u := by
  have := hp u
  rw [← List.count_pos_iff, this]
  split <;> simp_all
theorem Pend.nodup {P : List Int} (hp : Pend rd all out P) : P.Nodup := by
  rw [List.nodup_iff_count]
  intro u
  rw [hp u]
  split <;> omega
theorem Pend.le {P : List Int} (hp : Pend rd all out P) (h : Os rd all out) : P.length + out.length ≤ all.length := by
  have := sub_len (l := P ++ out) (m := all) (by
    rw [List.nodup_append]
    refine ⟨hp.nodup, h.nd, fun a ha b hb e => ?_⟩
    subst e
    exact (hp.mem.1 ha).2.1 hb) fun x hx => by
    rcases List.mem_append.1 hx with hx | hx
    · exact (hp.mem.1 hx).1
    · exact h.sub x hx
  rwa [List.length_append] at this
theorem Pend.perm {P Q : List Int} (hp : Pend rd all out P) (h : ∀ u, Q.count u = P.count u) : Pend rd all out Q := fun u => (h u).trans (hp u)
theorem find_up : ∀ {l : List Int} {p : Int → Bool} {v : Int}, Up l → v ∈ l → p v = true → (∀ u ∈ l, p u = true → v ≤ u) → l.find? p = some v
  | a :: l, p, v, hu, hv, hp, hm => by
    obtain ⟨h1, h2⟩ := List.pairwise_cons.1 hu
    rw [List.find?_cons]
    by_cases e : a = v
    · subst e
      rw [hp]
    · have hvl : v ∈ l := by
        rcases List.mem_cons.1 hv with h | h
        · exact absurd h.symm e
        · exact h
      have hpa : p a = false := by
        rw [← Bool.not_eq_true]
        intro ha
        have := hm a List.mem_cons_self ha
        have := h1 v hvl
        omega
      rw [hpa]
      exact find_up h2 hvl hp fun u hu => hm u (List.mem_cons_of_mem _ hu)
theorem next_some (hu : Up all) {v : Int} (hv : C rd all out v) (hm : ∀ u, C rd all out u → v ≤ u) : nextF rd all out = some v :=
  find_up hu hv.1 (decide_eq_true hv) fun u _ hp => hm u (by simpa using hp)
theorem next_none (h : ∀ u, ¬ C rd all out u) : nextF rd all out = none := by
  unfold nextF
  rw [List.find?_eq_none]
  intro u _
  simpa using h u
theorem Pend.next (hu : Up all) (h : Os rd all out) {P : List Int} (hp : Pend rd all out P) {v : Int} (hv : v ∈ P) (hm : ∀ u ∈ P, v ≤ u) : ordR rd all out = ordR rd all (out ++ [v]) := by
  have hc := hp.mem.1 hv
  have := (h.snoc hc).le
  rw [List.length_append] at this
  simp only [List.length_cons, List.length_nil] at this
  rw [ordR_eq, if_neg (by omega), next_some hu hc fun u hu => hm u (hp.mem.2 hu)]
theorem Pend.stuck {P : List Int} (hp : Pend rd all out P) (h0 : P = []) : ordR rd all out = if all.length ≤ out.length then some out else none := by
  rw [ordR_eq]
  split
  · rfl
  · rw [next_none]
    intro u hc
    have := hp.mem.2 hc
    rw [h0] at this
    simp at this
theorem Pend.begin {all : List Int} (ha : all.Nodup) : Pend rd all [] (all.filter fun v => decide (cntO rd all [] v = 0)) := by
  intro u
  have hn : (all.filter fun v => decide (cntO rd all [] v = 0)).Nodup := ha.filter _
  rw [count_nodup hn]
  simp only [List.mem_filter, decide_eq_true_eq]
  unfold C
  simp
theorem cx_count (row : List Th) (v : Int) : cx v row = (row.map fun x => x.1).count v := by
  induction row with
  | nil => rfl
  | cons a row ih =>
    rw [List.map_cons, count_cons', ← ih]
    simp only [cx, List.map_cons, List.sum_cons]
    omega
end
end Go.Proofs.Ytojflfogjkajaaa.Od
end
