/-
  Digits and what they are worth.
-/
import Derived.Test.YteaajihmfacinaaBig1
namespace Go.Proofs.Yteaajihmfacinaa
open Go.Vm
def val : List Int → Int
  | [] => 0
  | d :: r => d + 10 * val r
def Dig (l : List Int) : Prop := ∀ d ∈ l, 0 ≤ d ∧ d ≤ 9
def Can (l : List Int) : Prop := l = digs (val l).toNat
theorem dig_nil : Dig [] := fun d h => by simp at h
theorem dig_cons {d : Int} {l : List Int} : Dig (d :: l) ↔ (0 ≤ d ∧ d ≤ 9) ∧ Dig l := by simp [Dig]
theorem dig_app {l m : List Int} : Dig (l ++ m) ↔ Dig l ∧ Dig m := by
  constructor
  · exact fun h => ⟨fun d hd => h d (by simp [hd]), fun d hd => h d (by simp [hd])⟩
  · rintro ⟨h1, h2⟩ d hd
    rcases List.mem_append.1 hd with h | h
    · exact h1 d h
    · exact h2 d h
theorem dig_get {l : List Int} (h : Dig l) {i : Nat} {d : Int} (hd : l[i]? = some d) : 0 ≤ d ∧ d ≤ 9 := h d (List.mem_of_getElem? hd)
theorem dig_take {l : List Int} (h : Dig l) (n : Nat) : Dig (l.take n) := fun d hd => h d (List.mem_of_mem_take hd)
theorem val_nonneg : ∀ {l : List Int}, Dig l → 0 ≤ val l
  | [], _ => by simp [val]
  | d :: r, h => by
    obtain ⟨h1, h2⟩ := dig_cons.1 h
    have := val_nonneg h2
    simp only [val]
    omega
theorem val_app : ∀ (l m : List Int), val (l ++ m) = val l + 10 ^ l.length * val m
  | [], m => by simp [val]
  | d :: r, m => by
    simp only [List.cons_append, val, val_app r m, List.length_cons, Int.pow_succ]
    rw [Int.mul_add, ← Int.mul_assoc, Int.mul_comm 10 (10 ^ r.length)]
    omega
theorem val_lt : ∀ {l : List Int}, Dig l → val l < 10 ^ l.length
  | [], _ => by simp [val]
  | d :: r, h => by
    obtain ⟨h1, h2⟩ := dig_cons.1 h
    have := val_lt h2
    simp only [val, List.length_cons, Int.pow_succ]
    omega
theorem val_digs (n : Nat) : val (digs n) = n := by
  induction n using Nat.strongRecOn with
  | ind n ih =>
    by_cases h : n = 0
    · subst h; simp [digs_zero, val]
    · rw [digs_pos h]
      simp only [val, ih (n / 10) (by omega)]
      omega
theorem digs_dig (n : Nat) : Dig (digs n) := by
  induction n using Nat.strongRecOn with
  | ind n ih =>
    by_cases h : n = 0
    · subst h; rw [digs_zero]; exact dig_nil
    · rw [digs_pos h, dig_cons]
      exact ⟨by omega, ih (n / 10) (by omega)⟩
theorem can_digs (n : Nat) : Can (digs n) := by unfold Can; rw [val_digs]; rfl
theorem Can.dig {l : List Int} (h : Can l) : Dig l := by rw [h]; exact digs_dig _
theorem can_nil : Can [] := by simp [Can, val, digs_zero]
theorem digs_nil {n : Nat} : digs n = [] ↔ n = 0 := by
  constructor
  · intro h
    by_cases h0 : n = 0
    · exact h0
    · rw [digs_pos h0] at h; cases h
  · rintro rfl; exact digs_zero
theorem Can.nonneg {l : List Int} (h : Can l) : 0 ≤ val l := val_nonneg h.dig
theorem Can.nil_iff {l : List Int} (h : Can l) : l = [] ↔ val l = 0 := by
  have := h.nonneg
  rw [h, digs_nil, val_digs]
  omega
theorem can_of_last : ∀ {l : List Int}, Dig l → (∀ d, l.getLast? = some d → d ≠ 0) → Can l
  | [], _, _ => can_nil
  | [d], h, hl => by
    obtain ⟨h1, _⟩ := dig_cons.1 h
    have h0 : d ≠ 0 := hl d rfl
    unfold Can
    simp only [val, Int.mul_zero, Int.add_zero]
    rw [digs_pos (by omega), show d.toNat / 10 = 0 by omega, digs_zero]
    congr 1
    omega
  | d :: e :: r, h, hl => by
    obtain ⟨h1, h2⟩ := dig_cons.1 h
    have ih := can_of_last h2 (fun x hx => hl x (by rw [List.getLast?_cons_cons]; exact hx))
    have hv := ih.nonneg
    have hne : val (e :: r) ≠ 0 := fun h0 => by have := ih.nil_iff.2 h0; cases this
    show d :: e :: r = digs (d + 10 * val (e :: r)).toNat
    rw [digs_pos (by omega), show (d + 10 * val (e :: r)).toNat / 10 = (val (e :: r)).toNat by omega, ← ih]
    congr 1
    omega
theorem val_zeros : ∀ {l : List Int}, (∀ d ∈ l, d = 0) → val l = 0
  | [], _ => rfl
  | d :: r, h => by
    have h1 := h d (by simp)
    have h2 := val_zeros (l := r) (fun x hx => h x (List.mem_cons_of_mem _ hx))
    simp only [val, h1, h2]
    rfl
theorem val_split (l : List Int) (n : Nat) : val l = val (l.take n) + 10 ^ (l.take n).length * val (l.drop n) := by
  rw [← val_app, List.take_append_drop]
theorem trim_law {l : List Int} (h : Dig l) {n : Nat} (hn : n ≤ l.length) (hz : ∀ i d, n ≤ i → l[i]? = some d → d = 0) (hl : 0 < n → ∀ d, l[n - 1]? = some d → d ≠ 0) : l.take n = digs (val l).toNat := by
  have h0 : val (l.drop n) = 0 := val_zeros fun d hd => by
    obtain ⟨j, hj⟩ := List.getElem?_of_mem hd
    rw [List.getElem?_drop] at hj
    exact hz _ d (by omega) hj
  have hv : val l = val (l.take n) := by
    have := val_split l n
    rw [h0] at this
    simpa using this
  rw [hv]
  refine can_of_last (dig_take h n) (fun d hd => ?_)
  rw [List.getLast?_eq_getElem?, List.length_take, Nat.min_eq_left hn] at hd
  have hn0 : 0 < n := by
    cases n with
    | zero => simp at hd
    | succ n => omega
  rw [List.getElem?_take, if_pos (by omega)] at hd
  exact hl hn0 d hd
theorem can_low {l : List Int} (h : Can l) (hl : l ≠ []) : 10 ^ (l.length - 1) ≤ val l := by
  have hc : ∀ (n : Nat), n ≠ 0 → (10 : Int) ^ ((digs n).length - 1) ≤ n := by
    intro n
    induction n using Nat.strongRecOn with
    | ind n ih =>
      intro hn
      rw [digs_pos hn]
      simp only [List.length_cons, Nat.add_sub_cancel]
      by_cases h0 : n / 10 = 0
      · rw [h0, digs_zero]; simp; omega
      · have := ih (n / 10) (by omega) h0
        have hp : (digs (n / 10)).length = ((digs (n / 10)).length - 1) + 1 := by
          have : digs (n / 10) ≠ [] := fun e => h0 (digs_nil.1 e)
          have : 0 < (digs (n / 10)).length := List.length_pos_iff.2 this
          omega
        rw [hp, Int.pow_succ]
        omega
  have hv := h.nonneg
  have hne : (val l).toNat ≠ 0 := fun e => hl (h.nil_iff.2 (by omega))
  have := hc _ hne
  rw [← h] at this
  omega
theorem pow_le {a b : Nat} (h : a ≤ b) : (10 : Int) ^ a ≤ 10 ^ b := by
  obtain ⟨c, rfl⟩ := Nat.exists_eq_add_of_le h
  rw [Int.pow_add]
  have h1 : (1 : Int) ≤ 10 ^ c := by
    have : 0 < (10 : Int) ^ c := Int.pow_pos (by omega)
    omega
  have h2 : (0 : Int) ≤ 10 ^ a := Int.le_of_lt (Int.pow_pos (by omega))
  calc (10 : Int) ^ a = 10 ^ a * 1 := by rw [Int.mul_one]
    _ ≤ 10 ^ a * 10 ^ c := Int.mul_le_mul_of_nonneg_left h1 h2
theorem can_len_lt {l m : List Int} (h : Can l) (k : Can m) (hl : l.length < m.length) : val l < val m := by
  have h1 := val_lt h.dig
  have h2 := can_low k (fun e => by rw [e] at hl; simp at hl)
  have h3 := pow_le (a := l.length) (b := m.length - 1) (by omega)
  omega
theorem can_len_le {l m : List Int} (h : Can l) (k : Can m) (hv : val l ≤ val m) : l.length ≤ m.length := by
  by_cases hl : l.length ≤ m.length
  · exact hl
  · have := can_len_lt k h (by omega)
    omega
theorem digs_len {n k : Nat} (h : n < 10 ^ k) : (digs n).length ≤ k := by
  by_cases hl : (digs n).length ≤ k
  · exact hl
  · exfalso
    have h1 := can_low (can_digs n) (fun e => by rw [e] at hl; simp at hl)
    rw [val_digs] at h1
    have h2 := pow_le (a := k) (b := (digs n).length - 1) (by omega)
    have h3 : ((10 ^ k : Nat) : Int) = 10 ^ k := by simp
    omega
theorem take_snoc {l : List Int} {i : Nat} {d : Int} (hd : l[i]? = some d) : l.take (i + 1) = l.take i ++ [d] := by
  rw [List.take_add_one, hd]; rfl
theorem val_take_snoc {l : List Int} {i : Nat} {d : Int} (hd : l[i]? = some d) : val (l.take (i + 1)) = val (l.take i) + 10 ^ i * d := by
  have hi := (List.getElem?_eq_some_iff.1 hd).1
  rw [take_snoc hd, val_app, List.length_take, Nat.min_eq_left (by omega)]
  simp [val]
theorem take_all {l : List Int} {i : Nat} (h : l.length ≤ i) : l.take i = l := List.take_of_length_le h
theorem cmp_law {l m : List Int} (h : Dig l) (k : Dig m) (hlen : l.length = m.length) {i : Nat} {a b : Int} (ha : l[i]? = some a) (hb : m[i]? = some b) (hd : l.drop (i + 1) = m.drop (i + 1)) (hab : a < b) : val l < val m := by
  have hi := (List.getElem?_eq_some_iff.1 ha).1
  have e1 := val_split l (i + 1)
  have e2 := val_split m (i + 1)
  rw [val_take_snoc ha, List.length_take, Nat.min_eq_left (by omega)] at e1
  rw [val_take_snoc hb, List.length_take, Nat.min_eq_left (by omega)] at e2
  rw [hd] at e1
  have h1 := val_lt (dig_take h i)
  have h2 := val_nonneg (dig_take k i)
  rw [List.length_take, Nat.min_eq_left (by omega)] at h1
  have hp : (0 : Int) < 10 ^ i := Int.pow_pos (by omega)
  have h3 : (10 : Int) ^ i * (a + 1) ≤ 10 ^ i * b := Int.mul_le_mul_of_nonneg_left (by omega) (Int.le_of_lt hp)
  rw [Int.mul_add, Int.mul_one] at h3
  omega
def at0 (l : List Int) (i : Nat) : Int := (l[i]?).getD 0
theorem at0_dig {l : List Int} (h : Dig l) (i : Nat) : 0 ≤ at0 l i ∧ at0 l i ≤ 9 := by
  unfold at0
  cases hx : l[i]? with
  | none => simp
  | some d => exact dig_get h hx
theorem at0_some {l : List Int} {i : Nat} {d : Int} (h : l[i]? = some d) : at0 l i = d := by simp [at0, h]
theorem at0_none {l : List Int} {i : Nat} (h : l.length ≤ i) : at0 l i = 0 := by simp [at0, h]
theorem val_take_at (l : List Int) (i : Nat) : val (l.take (i + 1)) = val (l.take i) + 10 ^ i * at0 l i := by
  cases hx : l[i]? with
  | none =>
    have := List.getElem?_eq_none_iff.1 hx
    rw [take_all this, take_all (by omega), at0_none this]
    simp
  | some d => rw [val_take_snoc hx, at0_some hx]
def MoreInv (l m : List Int) (i c : Int) (o : List Int) : Prop := 0 ≤ i ∧ 0 ≤ c ∧ c ≤ 1 ∧ i ≤ l.length + m.length + 1 ∧ (o.length : Int) = i ∧ Dig o ∧ val o + 10 ^ i.toNat * c = val (l.take i.toNat) + val (m.take i.toNat) ∧ (l.length + m.length < i → c = 0)
theorem more_0 (l m : List Int) : MoreInv l m 0 0 [] := ⟨by omega, by omega, by omega, by omega, by simp, dig_nil, by simp [val], fun _ => rfl⟩
theorem more_step {l m o : List Int} {i c d : Int} (hl : Dig l) (hm : Dig m) (h : MoreInv l m i c o) (hc : i < l.length ∨ i < m.length ∨ 0 < c) (hd : d = c + at0 l i.toNat + at0 m i.toNat) : MoreInv l m (i + 1) (d.tdiv 10) (o ++ [d.tmod 10]) := by
  obtain ⟨h1, h2, h3, h4, h5, h6, h7, h8⟩ := h
  have a1 := at0_dig hl i.toNat
  have a2 := at0_dig hm i.toNat
  have ed : d.tdiv 10 = d / 10 := Int.tdiv_eq_ediv_of_nonneg (by omega)
  have em : d.tmod 10 = d % 10 := Int.tmod_eq_emod_of_nonneg (by omega)
  rw [ed, em]
  have hi : i ≤ l.length + m.length := by
    rcases hc with hc | hc | hc
    · omega
    · omega
    · by_cases hh : l.length + m.length < i
      · have := h8 hh; omega
      · omega
  have e1 : (i + 1).toNat = i.toNat + 1 := by omega
  refine ⟨by omega, by omega, by omega, by omega, by simp; omega, ?_, ?_, fun hlt => ?_⟩
  · rw [dig_app, dig_cons]
    exact ⟨h6, ⟨by omega, by omega⟩, dig_nil⟩
  · rw [e1, val_app, val_take_at, val_take_at, show o.length = i.toNat by omega]
    simp only [val, Int.mul_zero, Int.add_zero, Int.pow_succ]
    have e2 : (10 : Int) ^ i.toNat * d = 10 ^ i.toNat * c + 10 ^ i.toNat * at0 l i.toNat + 10 ^ i.toNat * at0 m i.toNat := by rw [hd, Int.mul_add, Int.mul_add]
    have e3 : (10 : Int) ^ i.toNat * (d % 10) + 10 ^ i.toNat * 10 * (d / 10) = 10 ^ i.toNat * d := by
      rw [Int.mul_assoc, ← Int.mul_add]
      congr 1
      omega
    omega
  · have b1 : at0 l i.toNat = 0 := at0_none (by omega)
    have b2 : at0 m i.toNat = 0 := at0_none (by omega)
    omega
theorem more_end {l m o : List Int} {i c : Int} (h : MoreInv l m i c o) (h1 : ¬ i < l.length) (h2 : ¬ i < m.length) (h3 : ¬ 0 < c) : Dig o ∧ val o = val l + val m := by
  obtain ⟨k1, k2, k3, k4, k5, k6, k7, k8⟩ := h
  obtain rfl : c = 0 := by omega
  rw [take_all (by omega), take_all (by omega)] at k7
  exact ⟨k6, by simpa using k7⟩
def FewInv (l m : List Int) (i c : Int) (o : List Int) : Prop := 0 ≤ i ∧ 0 ≤ c ∧ c ≤ 1 ∧ i ≤ l.length ∧ (o.length : Int) = i ∧ Dig o ∧ val o + val (m.take i.toNat) = val (l.take i.toNat) + 10 ^ i.toNat * c
theorem few_0 (l m : List Int) : FewInv l m 0 0 [] := ⟨by omega, by omega, by omega, by omega, by simp, dig_nil, by simp [val]⟩
theorem few_step {l m o : List Int} {i c d e b : Int} (hl : Dig l) (hm : Dig m) (h : FewInv l m i c o) (hi : i < l.length) (hd : d = at0 l i.toNat - c - at0 m i.toNat) (he : (d < 0 ∧ e = d + 10 ∧ b = 1) ∨ (¬ d < 0 ∧ e = d ∧ b = 0)) :
    FewInv l m (i + 1) b (o ++ [e]) := by
  obtain ⟨h1, h2, h3, h4, h5, h6, h7⟩ := h
  have a1 := at0_dig hl i.toNat
  have a2 := at0_dig hm i.toNat
  have e1 : (i + 1).toNat = i.toNat + 1 := by omega
  refine ⟨by omega, by omega, by omega, by omega, by simp; omega, ?_, ?_⟩
  · rw [dig_app, dig_cons]
    exact ⟨h6, ⟨by omega, by omega⟩, dig_nil⟩
  · rw [e1, val_app, val_take_at, val_take_at, show o.length = i.toNat by omega]
    simp only [val, Int.mul_zero, Int.add_zero, Int.pow_succ]
    have e2 : (10 : Int) ^ i.toNat * d = 10 ^ i.toNat * at0 l i.toNat - 10 ^ i.toNat * c - 10 ^ i.toNat * at0 m i.toNat := by rw [hd, Int.mul_sub, Int.mul_sub]
    have e3 : (10 : Int) ^ i.toNat * e = 10 ^ i.toNat * d + 10 ^ i.toNat * 10 * b := by
      rw [Int.mul_assoc, ← Int.mul_add]
      congr 1
      omega
    omega
theorem few_end {l m o : List Int} {i c : Int} (hl : Can l) (hm : Can m) (hv : val m ≤ val l) (h : FewInv l m i c o) (h1 : ¬ i < l.length) : Dig o ∧ val o = val l - val m := by
  obtain ⟨k1, k2, k3, k4, k5, k6, k7⟩ := h
  have hlen := can_len_le hm hl hv
  rw [take_all (by omega), take_all (by omega)] at k7
  have h2 := val_lt k6
  have h3 := val_nonneg k6
  have hi : i.toNat = o.length := by omega
  rw [hi] at k7
  have hc : c = 0 := by
    by_cases h0 : c = 0
    · exact h0
    · have : c = 1 := by omega
      subst this
      omega
  subst hc
  exact ⟨k6, by omega⟩
def big (s : Bool) (l : List Int) : Int := if s then -(val l) else val l
def Big (s : Bool) (l : List Int) : Prop := Can l ∧ (s = true → l ≠ [])
theorem big_digs (n : Int) : big (decide (n < 0)) (digs n.natAbs) = n := by
  unfold big
  rw [val_digs]
  split
  · rename_i h; simp at h; omega
  · rename_i h; simp at h; omega
theorem Big_digs (n : Int) : Big (decide (n < 0)) (digs n.natAbs) := ⟨can_digs _, fun h e => by
  have := digs_nil.1 e
  simp at h
  omega⟩
theorem big_abs {s : Bool} {l : List Int} (h : Big s l) : digs (big s l).natAbs = l := by
  have := h.1.nonneg
  have e : (big s l).natAbs = (val l).toNat := by unfold big; cases s <;> simp <;> omega
  rw [e]; exact h.1.symm
end Go.Proofs.Yteaajihmfacinaa
