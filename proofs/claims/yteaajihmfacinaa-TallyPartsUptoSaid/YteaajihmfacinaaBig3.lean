/-
  The document's whole numbers: sums, differences, what is in range.
-/
import Derived.Test.YteaajihmfacinaaSeat
section
namespace Go.Proofs.Yteaajihmfacinaa
open Go.Vm
def digs (n : Nat) : List Int := if h : n = 0 then [] else ((n % 10 : Nat) : Int) :: digs (n / 10)
termination_by n
decreasing_by omega
theorem digs_zero : digs 0 = [] := by unfold digs; simp
theorem digs_pos {n : Nat} (h : n ≠ 0) : digs n = ((n % 10 : Nat) : Int) :: digs (n / 10) := by
  rw [digs, dif_neg h]
def InI (n : Int) : Prop := -9223372036854775808 ≤ n ∧ n ≤ 9223372036854775807
def InvOf (n x : Int) (D : List Int) : Prop := D ++ digs x.natAbs = digs n.natAbs ∧ (0 ≤ n → 0 ≤ x) ∧ (n < 0 → x ≤ 0) ∧ x.natAbs * 10 ^ D.length ≤ n.natAbs
theorem invOf_0 (n : Int) : InvOf n n [] := ⟨by simp, fun h => h, fun h => by omega, by simp⟩
theorem invOf_len {n x : Int} {D : List Int} (h : InvOf n x D) (hx : ¬ x = 0) (hn : InI n) : D.length ≤ 19 := by
  obtain ⟨_, _, _, h4⟩ := h
  by_cases hl : D.length ≤ 19
  · exact hl
  · exfalso
    have h1 : 10 ^ 20 ≤ 10 ^ D.length := Nat.pow_le_pow_right (by omega) (by omega)
    have h2 : 1 * 10 ^ D.length ≤ x.natAbs * 10 ^ D.length := Nat.mul_le_mul_right _ (by omega)
    obtain ⟨h5, h6⟩ := hn
    omega
theorem invOf_step {n x d : Int} {D : List Int} (h : InvOf n x D) (hx : ¬ x = 0) (hd : d = (x.natAbs % 10 : Nat)) : InvOf n (x.tdiv 10) (D ++ [d]) := by
  obtain ⟨h1, h2, h3, h4⟩ := h
  have e : (x.tdiv 10).natAbs = x.natAbs / 10 := by rw [Int.natAbs_tdiv]; rfl
  refine ⟨?_, fun h => Int.tdiv_nonneg (h2 h) (by omega), fun h => ?_, ?_⟩
  · rw [e, List.append_assoc, hd, ← h1, digs_pos (n := x.natAbs) (by omega)]
    rfl
  · have := h3 h
    have h5 : (-x).tdiv 10 = -(x.tdiv 10) := Int.neg_tdiv ..
    have h6 : 0 ≤ (-x).tdiv 10 := Int.tdiv_nonneg (by omega) (by omega)
    omega
  · rw [e]
    simp only [List.length_append, List.length_singleton, Nat.pow_succ]
    have : x.natAbs / 10 * (10 ^ D.length * 10) ≤ x.natAbs * 10 ^ D.length := by
      rw [Nat.mul_comm (10 ^ D.length) 10, ← Nat.mul_assoc]
      exact Nat.mul_le_mul_right _ (Nat.div_mul_le_self _ _)
    omega
theorem invOf_end {n x : Int} {D : List Int} (h : InvOf n x D) (hx : x = 0) : D = digs n.natAbs := by
  obtain ⟨h1, _⟩ := h
  subst hx
  simpa [digs_zero] using h1
theorem tmod10 (x : Int) : (x.tmod 10).natAbs = x.natAbs % 10 := by rw [Int.natAbs_tmod]; rfl
theorem tdiv10 (x : Int) : (x.tdiv 10).natAbs = x.natAbs / 10 := by rw [Int.natAbs_tdiv]; rfl
noncomputable def env_of (n : Int) : Env where
  P := Try.prog
  ty := tys0
  heads := fun
    | 3 => some { slots := [(4, .int .i64)], boxes := [(3, [.bool, .slc 5000 I])], keep := [2], inv := fun _ (x : Int × Bool × List Int × Unit) => x.2.1 = decide (n < 0) ∧ InvOf n x.1 x.2.2.1, measure := fun _ (x : Int × Bool × List Int × Unit) => x.1.natAbs }
    | _ => none
abbrev ann_of : Ann := { slots := numP 0 [.bool, .slc 5000 I], boxes := [], inv := fun _ _ => True }
def g_of_vc (n : Int) : Prop :=
  ((some (Obj.box [V.kb false, V.nils]) = some (Obj.box [V.kb false, V.nils]) ∧ True) ∧ decide (n < (0 : Int)) = decide (n < (0 : Int)) ∧ InvOf n n []) ∧ ∀ (x : Int × Bool × List Int × Unit), x.2.1 = decide (n < (0 : Int)) ∧ InvOf n x.1 x.2.2.1 → ((!decide (x.1 = (0 : Int))) = true → (10 : Int) ≠ (0 : Int) ∧ (decide (x.1.tmod (10 : Int) < (0 : Int)) = true → ((-9223372036854775808 : Int) ≤ (0 : Int) - x.1.tmod (10 : Int) ∧ (0 : Int) - x.1.tmod (10 : Int) ≤ (9223372036854775807 : Int)) ∧ ((x.2.2.1.length + (1 : Nat)) * (8 : Nat) ≤ (140737488355328 : Nat) ∧ x.2.2.1.length + (1 : Nat) ≤ (4611686018427387904 : Nat)) ∧ (10 : Int) ≠ (0 : Int) ∧ ((-9223372036854775808 : Int) ≤ x.1.tdiv (10 : Int) ∧ x.1.tdiv (10 : Int) ≤ (9223372036854775807 : Int)) ∧ (some (Obj.box [V.kb false, V.nils]) = some (Obj.box [V.kb false, V.nils]) ∧ True) ∧ (x.2.1 = decide (n < (0 : Int)) ∧ InvOf n (x.1.tdiv (10 : Int)) (x.2.2.1 ++ [(0 : Int) - x.1.tmod (10 : Int)])) ∧ (x.1.tdiv (10 : Int)).natAbs < x.1.natAbs) ∧ (decide (x.1.tmod (10 : Int) < (0 : Int)) = false → ((x.2.2.1.length + (1 : Nat)) * (8 : Nat) ≤ (140737488355328 : Nat) ∧ x.2.2.1.length + (1 : Nat) ≤ (4611686018427387904 : Nat)) ∧ (10 : Int) ≠ (0 : Int) ∧ ((-9223372036854775808 : Int) ≤ x.1.tdiv (10 : Int) ∧ x.1.tdiv (10 : Int) ≤ (9223372036854775807 : Int)) ∧ (some (Obj.box [V.kb false, V.nils]) = some (Obj.box [V.kb false, V.nils]) ∧ True) ∧ (x.2.1 = decide (n < (0 : Int)) ∧ InvOf n (x.1.tdiv (10 : Int)) (x.2.2.1 ++ [x.1.tmod (10 : Int)])) ∧ (x.1.tdiv (10 : Int)).natAbs < x.1.natAbs)) ∧ ((!decide (x.1 = (0 : Int))) = false → True ∧ (x.2.1, x.2.2.1, ()) = (decide (n < (0 : Int)), digs n.natAbs, ()))
theorem g_of_eq (n : Int) : CondG (env_of n) Try.f27 [.int .i64 n] [some 2] ann_of (decide (n < 0), digs n.natAbs, ()) = g_of_vc n := by kernel_rfl
theorem g_of_ok (n : Int) (h : InI n) : g_of_vc n := by
  refine ⟨⟨⟨rfl, trivial⟩, rfl, invOf_0 n⟩, ?_⟩
  rintro ⟨x, b, D, ⟨⟩⟩ ⟨rfl, hI⟩
  simp only [decide_eq_true_eq, decide_eq_false_iff_not, Bool.not_eq_true', Bool.not_eq_false'] at *
  have h10 := tmod10 x
  have hd10 := tdiv10 x
  obtain ⟨l1, l2⟩ := h
  have hb : x.natAbs ≤ n.natAbs := by
    have h4 := hI.2.2.2
    have : x.natAbs * 1 ≤ x.natAbs * 10 ^ D.length := Nat.mul_le_mul_left _ (Nat.pow_pos (by omega))
    omega
  refine ⟨fun hx => ⟨by omega, fun hm => ?_, fun hm => ?_⟩, fun hx => ⟨trivial, ?_⟩⟩
  · have hl := invOf_len hI hx ⟨l1, l2⟩
    exact ⟨by omega, by omega, by omega, by omega, ⟨trivial, trivial⟩, ⟨trivial, invOf_step hI hx (by omega)⟩, by omega⟩
  · have hl := invOf_len hI hx ⟨l1, l2⟩
    exact ⟨by omega, by omega, by omega, ⟨trivial, trivial⟩, ⟨trivial, invOf_step hI hx (by omega)⟩, by omega⟩
  · rw [invOf_end hI hx]
set_option maxRecDepth 20000
theorem of_pure (n : Int) (h : InI n) : Pure Try.prog 27 [.int .i64 n] (.agg [.bool (decide (n < 0)), .olist I (digs n.natAbs)]) :=
  by have k := Pure.of_condG (r := (.agg [.bool (decide (n < 0)), .olist I (digs n.natAbs)])) (g_of_eq n) (g_of_ok n h) rfl (specs_ok rfl [] [] rfl rfl) mixed Try.func27; exact k
noncomputable def q_of (n : Int) : Prop × V := (InI n, (.agg [.bool (decide (n < 0)), .olist I (digs n.natAbs)]))
noncomputable def sp_of : FSpec Try.prog where
 f := 27
 run := fun
  | [.int .i64 n] => some (q_of n)
  | _ => none
 ok := fun args pre r h hp => by
  split at h
  · rename_i n
    exact of_q h hp fun h => (of_pure n h).weak (.cons (.refl _) .nil)
  · cases h
end Go.Proofs.Yteaajihmfacinaa
end
section
namespace Go.Proofs.Yteaajihmfacinaa
open Go.Vm
def val : List Int → Int
  | [] => 0
  | d :: r => d + 10 * val r
def Dig (l : List Int) : Prop := ∀ d ∈ l, 0 ≤ d ∧ d ≤ 9
def Can (l : List Int) : Prop := l = digs (val l).toNat
theorem dig_nil : Dig [] := fun d h => by simp at h
theorem dig_cons {d : Int} {l : List Int} : Dig (d :: l) ↔ (0 ≤ d ∧ d ≤ 9) ∧ Dig l := by simp [Dig]
theorem dig_app {l m : List Int} : Dig (l ++ m) ↔ Dig l ∧ Dig m := by
  constructor
  · exact fun h => ⟨fun d hd => h d (by simp [hd]), fun d hd => h d (by simp [hd])⟩
  · rintro ⟨h1, h2⟩ d hd
    rcases List.mem_append.1 hd with h | h
    · exact h1 d h
    · exact h2 d h
theorem dig_get {l : List Int} (h : Dig l) {i : Nat} {d : Int} (hd : l[i]? = some d) : 0 ≤ d ∧ d ≤ 9 := h d (List.mem_of_getElem? hd)
theorem dig_take {l : List Int} (h : Dig l) (n : Nat) : Dig (l.take n) := fun d hd => h d (List.mem_of_mem_take hd)
theorem val_nonneg : ∀ {l : List Int}, Dig l → 0 ≤ val l
  | [], _ => by simp [val]
  | d :: r, h => by
    obtain ⟨h1, h2⟩ := dig_cons.1 h
    have := val_nonneg h2
    simp only [val]
    omega
theorem val_app : ∀ (l m : List Int), val (l ++ m) = val l + 10 ^ l.length * val m
  | [], m => by simp [val]
  | d :: r, m => by
    simp only [List.cons_append, val, val_app r m, List.length_cons, Int.pow_succ]
    rw [Int.mul_add, ← Int.mul_assoc, Int.mul_comm 10 (10 ^ r.length)]
    omega
theorem val_lt : ∀ {l : List Int}, Dig l → val l < 10 ^ l.length
  | [], _ => by simp [val]
  | d :: r, h => by
    obtain ⟨h1, h2⟩ := dig_cons.1 h
    have := val_lt h2
    simp only [val, List.length_cons, Int.pow_succ]
    omega
theorem val_digs (n : Nat) : val (digs n) = n := by
  induction n using Nat.strongRecOn with
  | ind n ih =>
    by_cases h : n = 0
    · subst h; simp [digs_zero, val]
    · rw [digs_pos h]
      simp only [val, ih (n / 10) (by omega)]
      omega
theorem digs_dig (n : Nat) : Dig (digs n) := by
  induction n using Nat.strongRecOn with
  | ind n ih =>
    by_cases h : n = 0
    · subst h; rw [digs_zero]; exact dig_nil
    · rw [digs_pos h, dig_cons]
      exact ⟨by omega, ih (n / 10) (by omega)⟩
theorem can_digs (n : Nat) : Can (digs n) := by unfold Can; rw [val_digs]; rfl
theorem Can.dig {l : List Int} (h : Can l) : Dig l := by rw [h]; exact digs_dig _
theorem can_nil : Can [] := by simp [Can, val, digs_zero]
theorem digs_nil {n : Nat} : digs n = [] ↔ n = 0 := by
  constructor
  · intro h
    by_cases h0 : n = 0
    · exact h0
    · rw [digs_pos h0] at h; cases h
  · rintro rfl; exact digs_zero
theorem Can.nonneg {l : List Int} (h : Can l) : 0 ≤ val l := val_nonneg h.dig
theorem Can.nil_iff {l : List Int} (h : Can l) : l = [] ↔ val l = 0 := by
  have := h.nonneg
  rw [h, digs_nil, val_digs]
  omega
theorem can_of_last : ∀ {l : List Int}, Dig l → (∀ d, l.getLast? = some d → d ≠ 0) → Can l
  | [], _, _ => can_nil
  | [d], h, hl => by
    obtain ⟨h1, _⟩ := dig_cons.1 h
    have h0 : d ≠ 0 := hl d rfl
    unfold Can
    simp only [val, Int.mul_zero, Int.add_zero]
    rw [digs_pos (by omega), show d.toNat / 10 = 0 by omega, digs_zero]
    congr 1
    omega
  | d :: e :: r, h, hl => by
    obtain ⟨h1, h2⟩ := dig_cons.1 h
    have ih := can_of_last h2 (fun x hx => hl x (by rw [List.getLast?_cons_cons]; exact hx))
    have hv := ih.nonneg
    have hne : val (e :: r) ≠ 0 := fun h0 => by have := ih.nil_iff.2 h0; cases this
    show d :: e :: r = digs (d + 10 * val (e :: r)).toNat
    rw [digs_pos (by omega), show (d + 10 * val (e :: r)).toNat / 10 = (val (e :: r)).toNat by omega, ← ih]
    congr 1
    omega
theorem val_zeros : ∀ {l : List Int}, (∀ d ∈ l, d = 0) → val l = 0
  | [], _ => rfl
  | d :: r, h => by
    have h1 := h d (by simp)
    have h2 := val_zeros (l := r) (fun x hx => h x (List.mem_cons_of_mem _ hx))
    simp only [val, h1, h2]
    rfl
theorem val_split (l : List Int) (n : Nat) : val l = val (l.take n) + 10 ^ (l.take n).length * val (l.drop n) := by
  rw [← val_app, List.take_append_drop]
theorem trim_law {l : List Int} (h : Dig l) {n : Nat} (hn : n ≤ l.length) (hz : ∀ i d, n ≤ i → l[i]? = some d → d = 0) (hl : 0 < n → ∀ d, l[n - 1]? = some d → d ≠ 0) : l.take n = digs (val l).toNat := by
  have h0 : val (l.drop n) = 0 := val_zeros fun d hd => by
    obtain ⟨j, hj⟩ := List.getElem?_of_mem hd
    rw [List.getElem?_drop] at hj
    exact hz _ d (by omega) hj
  have hv : val l = val (l.take n) := by
    have := val_split l n
    rw [h0] at this
    simpa using this
  rw [hv]
  refine can_of_last (dig_take h n) (fun d hd => ?_)
  rw [List.getLast?_eq_getElem?, List.length_take, Nat.min_eq_left hn] at hd
  have hn0 : 0 < n := by
    cases n with
    | zero => simp at hd
    | succ n => omega
  rw [List.getElem?_take, if_pos (by omega)] at hd
  exact hl hn0 d hd
theorem can_low {l : List Int} (h : Can l) (hl : l ≠ []) : 10 ^ (l.length - 1) ≤ val l := by
  have hc : ∀ (n : Nat), n ≠ 0 → (10 : Int) ^ ((digs n).length - 1) ≤ n := by
    intro n
    induction n using Nat.strongRecOn with
    | ind n ih =>
      intro hn
      rw [digs_pos hn]
      simp only [List.length_cons, Nat.add_sub_cancel]
      by_cases h0 : n / 10 = 0
      · rw [h0, digs_zero]; simp; omega
      · have := ih (n / 10) (by omega) h0
        have hp : (digs (n / 10)).length = ((digs (n / 10)).length - 1) + 1 := by
          have : digs (n / 10) ≠ [] := fun e => h0 (digs_nil.1 e)
          have : 0 < (digs (n / 10)).length := List.length_pos_iff.2 this
          omega
        rw [hp, Int.pow_succ]
        omega
  have hv := h.nonneg
  have hne : (val l).toNat ≠ 0 := fun e => hl (h.nil_iff.2 (by omega))
  have := hc _ hne
  rw [← h] at this
  omega
theorem pow_le {a b : Nat} (h : a ≤ b) : (10 : Int) ^ a ≤ 10 ^ b := by
  obtain ⟨c, rfl⟩ := Nat.exists_eq_add_of_le h
  rw [Int.pow_add]
  have h1 : (1 : Int) ≤ 10 ^ c := by
    have : 0 < (10 : Int) ^ c := Int.pow_pos (by omega)
    omega
  have h2 : (0 : Int) ≤ 10 ^ a := Int.le_of_lt (Int.pow_pos (by omega))
  calc (10 : Int) ^ a = 10 ^ a * 1 := by rw [Int.mul_one]
    _ ≤ 10 ^ a * 10 ^ c := Int.mul_le_mul_of_nonneg_left h1 h2
theorem can_len_lt {l m : List Int} (h : Can l) (k : Can m) (hl : l.length < m.length) : val l < val m := by
  have h1 := val_lt h.dig
  have h2 := can_low k (fun e => by rw [e] at hl; simp at hl)
  have h3 := pow_le (a := l.length) (b := m.length - 1) (by omega)
  omega
theorem can_len_le {l m : List Int} (h : Can l) (k : Can m) (hv : val l ≤ val m) : l.length ≤ m.length := by
  by_cases hl : l.length ≤ m.length
  · exact hl
  · have := can_len_lt k h (by omega)
    omega
theorem digs_len {n k : Nat} (h : n < 10 ^ k) : (digs n).length ≤ k := by
  by_cases hl : (digs n).length ≤ k
  · exact hl
  · exfalso
    have h1 := can_low (can_digs n) (fun e => by rw [e] at hl; simp at hl)
    rw [val_digs] at h1
    have h2 := pow_le (a := k) (b := (digs n).length - 1) (by omega)
    have h3 : ((10 ^ k : Nat) : Int) = 10 ^ k := by simp
    omega
theorem take_snoc {l : List Int} {i : Nat} {d : Int} (hd : l[i]? = some d) : l.take (i + 1) = l.take i ++ [d] := by
  rw [List.take_add_one, hd]; rfl
theorem val_take_snoc {l : List Int} {i : Nat} {d : Int} (hd : l[i]? = some d) : val (l.take (i + 1)) = val (l.take i) + 10 ^ i * d := by
  have hi := (List.getElem?_eq_some_iff.1 hd).1
  rw [take_snoc hd, val_app, List.length_take, Nat.min_eq_left (by omega)]
  simp [val]
theorem take_all {l : List Int} {i : Nat} (h : l.length ≤ i) : l.take i = l := List.take_of_length_le h
theorem cmp_law {l m : List Int} (h : Dig l) (k : Dig m) (hlen : l.length = m.length) {i : Nat} {a b : Int} (ha : l[i]? = some a) (hb : m[i]? = some b) (hd : l.drop (i + 1) = m.drop (i + 1)) (hab : a < b) : val l < val m := by
  have hi := (List.getElem?_eq_some_iff.1 ha).1
  have e1 := val_split l (i + 1)
  have e2 := val_split m (i + 1)
  rw [val_take_snoc ha, List.length_take, Nat.min_eq_left (by omega)] at e1
  rw [val_take_snoc hb, List.length_take, Nat.min_eq_left (by omega)] at e2
  rw [hd] at e1
  have h1 := val_lt (dig_take h i)
  have h2 := val_nonneg (dig_take k i)
  rw [List.length_take, Nat.min_eq_left (by omega)] at h1
  have hp : (0 : Int) < 10 ^ i := Int.pow_pos (by omega)
  have h3 : (10 : Int) ^ i * (a + 1) ≤ 10 ^ i * b := Int.mul_le_mul_of_nonneg_left (by omega) (Int.le_of_lt hp)
  rw [Int.mul_add, Int.mul_one] at h3
  omega
def at0 (l : List Int) (i : Nat) : Int := (l[i]?).getD 0
theorem at0_dig {l : List Int} (h : Dig l) (i : Nat) : 0 ≤ at0 l i ∧ at0 l i ≤ 9 := by
  unfold at0
  cases hx : l[i]? with
  | none => simp
  | some d => exact dig_get h hx
theorem at0_some {l : List Int} {i : Nat} {d : Int} (h : l[i]? = some d) : at0 l i = d := by simp [at0, h]
theorem at0_none {l : List Int} {i : Nat} (h : l.length ≤ i) : at0 l i = 0 := by simp [at0, h]
theorem val_take_at (l : List Int) (i : Nat) : val (l.take (i + 1)) = val (l.take i) + 10 ^ i * at0 l i := by
  cases hx : l[i]? with
  | none =>
    have := List.getElem?_eq_none_iff.1 hx
    rw [take_all this, take_all (by omega), at0_none this]
    simp
  | some d => rw [val_take_snoc hx, at0_some hx]
def MoreInv (l m : List Int) (i c : Int) (o : List Int) : Prop := 0 ≤ i ∧ 0 ≤ c ∧ c ≤ 1 ∧ i ≤ l.length + m.length + 1 ∧ (o.length : Int) = i ∧ Dig o ∧ val o + 10 ^ i.toNat * c = val (l.take i.toNat) + val (m.take i.toNat) ∧ (l.length + m.length < i → c = 0)
theorem more_0 (l m : List Int) : MoreInv l m 0 0 [] := ⟨by omega, by omega, by omega, by omega, by simp, dig_nil, by simp [val], fun _ => rfl⟩
theorem more_step {l m o : List Int} {i c d : Int} (hl : Dig l) (hm : Dig m) (h : MoreInv l m i c o) (hc : i < l.length ∨ i < m.length ∨ 0 < c) (hd : d = c + at0 l i.toNat + at0 m i.toNat) : MoreInv l m (i + 1) (d.tdiv 10) (o ++ [d.tmod 10]) := by
  obtain ⟨h1, h2, h3, h4, h5, h6, h7, h8⟩ := h
  have a1 := at0_dig hl i.toNat
  have a2 := at0_dig hm i.toNat
  have ed : d.tdiv 10 = d / 10 := Int.tdiv_eq_ediv_of_nonneg (by omega)
  have em : d.tmod 10 = d % 10 := Int.tmod_eq_emod_of_nonneg (by omega)
  rw [ed, em]
  have hi : i ≤ l.length + m.length := by
    rcases hc with hc | hc | hc
    · omega
    · omega
    · by_cases hh : l.length + m.length < i
      · have := h8 hh; omega
      · omega
  have e1 : (i + 1).toNat = i.toNat + 1 := by omega
  refine ⟨by omega, by omega, by omega, by omega, by simp; omega, ?_, ?_, fun hlt => ?_⟩
  · rw [dig_app, dig_cons]
    exact ⟨h6, ⟨by omega, by omega⟩, dig_nil⟩
  · rw [e1, val_app, val_take_at, val_take_at, show o.length = i.toNat by omega]
    simp only [val, Int.mul_zero, Int.add_zero, Int.pow_succ]
    have e2 : (10 : Int) ^ i.toNat * d = 10 ^ i.toNat * c + 10 ^ i.toNat * at0 l i.toNat + 10 ^ i.toNat * at0 m i.toNat := by rw [hd, Int.mul_add, Int.mul_add]
    have e3 : (10 : Int) ^ i.toNat * (d % 10) + 10 ^ i.toNat * 10 * (d / 10) = 10 ^ i.toNat * d := by
      rw [Int.mul_assoc, ← Int.mul_add]
      congr 1
      omega
    omega
  · have b1 : at0 l i.toNat = 0 := at0_none (by omega)
    have b2 : at0 m i.toNat = 0 := at0_none (by omega)
    omega
theorem more_end {l m o : List Int} {i c : Int} (h : MoreInv l m i c o) (h1 : ¬ i < l.length) (h2 : ¬ i < m.length) (h3 : ¬ 0 < c) : Dig o ∧ val o = val l + val m := by
  obtain ⟨k1, k2, k3, k4, k5, k6, k7, k8⟩ := h
  obtain rfl : c = 0 := by omega
  rw [take_all (by omega), take_all (by omega)] at k7
  exact ⟨k6, by simpa using k7⟩
def FewInv (l m : List Int) (i c : Int) (o : List Int) : Prop := 0 ≤ i ∧ 0 ≤ c ∧ c ≤ 1 ∧ i ≤ l.length ∧ (o.length : Int) = i ∧ Dig o ∧ val o + val (m.take i.toNat) = val (l.take i.toNat) + 10 ^ i.toNat * c
theorem few_0 (l m : List Int) : FewInv l m 0 0 [] := ⟨by omega, by omega, by omega, by omega, by simp, dig_nil, by simp [val]⟩
theorem few_step {l m o : List Int} {i c d e b : Int} (hl : Dig l) (hm : Dig m) (h : FewInv l m i c o) (hi : i < l.length) (hd : d = at0 l i.toNat - c - at0 m i.toNat) (he : (d < 0 ∧ e = d + 10 ∧ b = 1) ∨ (¬ d < 0 ∧ e = d ∧ b = 0)) :
    FewInv l m (i + 1) b (o ++ [e]) := by
  obtain ⟨h1, h2, h3, h4, h5, h6, h7⟩ := h
  have a1 := at0_dig hl i.toNat
  have a2 := at0_dig hm i.toNat
  have e1 : (i + 1).toNat = i.toNat + 1 := by omega
  refine ⟨by omega, by omega, by omega, by omega, by simp; omega, ?_, ?_⟩
  · rw [dig_app, dig_cons]
    exact ⟨h6, ⟨by omega, by omega⟩, dig_nil⟩
  · rw [e1, val_app, val_take_at, val_take_at, show o.length = i.toNat by omega]
    simp only [val, Int.mul_zero, Int.add_zero, Int.pow_succ]
    have e2 : (10 : Int) ^ i.toNat * d = 10 ^ i.toNat * at0 l i.toNat - 10 ^ i.toNat * c - 10 ^ i.toNat * at0 m i.toNat := by rw [hd, Int.mul_sub, Int.mul_sub]
    have e3 : (10 : Int) ^ i.toNat * e = 10 ^ i.toNat * d + 10 ^ i.toNat * 10 * b := by
      rw [Int.mul_assoc, ← Int.mul_add]
      congr 1
      omega
    omega
theorem few_end {l m o : List Int} {i c : Int} (hl : Can l) (hm : Can m) (hv : val m ≤ val l) (h : FewInv l m i c o) (h1 : ¬ i < l.length) : Dig o ∧ val o = val l - val m := by
  obtain ⟨k1, k2, k3, k4, k5, k6, k7⟩ := h
  have hlen := can_len_le hm hl hv
  rw [take_all (by omega), take_all (by omega)] at k7
  have h2 := val_lt k6
  have h3 := val_nonneg k6
  have hi : i.toNat = o.length := by omega
  rw [hi] at k7
  have hc : c = 0 := by
    by_cases h0 : c = 0
    · exact h0
    · have : c = 1 := by omega
      subst this
      omega
  subst hc
  exact ⟨k6, by omega⟩
def big (s : Bool) (l : List Int) : Int := if s then -(val l) else val l
def Big (s : Bool) (l : List Int) : Prop := Can l ∧ (s = true → l ≠ [])
theorem big_digs (n : Int) : big (decide (n < 0)) (digs n.natAbs) = n := by
  unfold big
  rw [val_digs]
  split
  · rename_i h; simp at h; omega
  · rename_i h; simp at h; omega
theorem Big_digs (n : Int) : Big (decide (n < 0)) (digs n.natAbs) := ⟨can_digs _, fun h e => by
  have := digs_nil.1 e
  simp at h
  omega⟩
theorem big_abs {s : Bool} {l : List Int} (h : Big s l) : digs (big s l).natAbs = l := by
  have := h.1.nonneg
  have e : (big s l).natAbs = (val l).toNat := by unfold big; cases s <;> simp <;> omega
  rw [e]; exact h.1.symm
end Go.Proofs.Yteaajihmfacinaa
end
section
namespace Go.Proofs.Yteaajihmfacinaa
open Go.Vm
def TrimInv (l : List Int) (n : Int) : Prop := 0 ≤ n ∧ n ≤ l.length ∧ ∀ (i : Nat) d, n ≤ i → l[i]? = some d → d = 0
noncomputable def env_trim (l : List Int) : Env where
  P := Try.prog
  ty := tys0
  heads := fun
    | 2 => some { slots := [(3, .int .i64)], boxes := [], inv := fun _ (x : Int × Unit) => TrimInv l x.1, measure := fun _ (x : Int × Unit) => x.1.toNat }
    | _ => none
def g_trim_vc (l : List Int) : Prop :=
  (True ∧ TrimInv l (↑l.length : Int)) ∧ ∀ (x : Int × Unit), TrimInv l x.1 → (decide ((0 : Int) < x.1) = true → ((-9223372036854775808 : Int) ≤ x.1 - (1 : Int) ∧ x.1 - (1 : Int) ≤ (9223372036854775807 : Int)) ∧ ((0 : Int) ≤ x.1 - (1 : Int) ∧ x.1 - (1 : Int) < (↑l.length : Int)) ∧ ∀ (x_1 : Int), l[(x.1 - (1 : Int)).toNat]? = some x_1 → (decide (x_1 = (0 : Int)) = true → ((-9223372036854775808 : Int) ≤ x.1 - (1 : Int) ∧ x.1 - (1 : Int) ≤ (9223372036854775807 : Int)) ∧ True ∧ TrimInv l (x.1 - (1 : Int)) ∧ (x.1 - (1 : Int)).toNat < x.1.toNat) ∧ (decide (x_1 = (0 : Int)) = false → ((0 : Int) ≤ x.1 ∧ x.1 ≤ (↑l.length : Int)) ∧ (List.take x.1.toNat l, ()) = (digs (val l).toNat, ()))) ∧ (decide ((0 : Int) < x.1) = !true → ((0 : Int) ≤ x.1 ∧ x.1 ≤ (↑l.length : Int)) ∧ (List.take x.1.toNat l, ()) = (digs (val l).toNat, ()))
theorem g_trim_eq (l : List Int) : Cond (env_trim l) Try.f61 [.list .part I l] [.list .part I] (digs (val l).toNat, ()) = g_trim_vc l := by kernel_rfl
theorem g_trim_ok (l : List Int) (h : Dig l ∧ l.length ≤ 1000000000) : g_trim_vc l := by
  obtain ⟨hd, hl⟩ := h
  refine ⟨⟨trivial, by omega, by omega, fun i d hi hx => ?_⟩, ?_⟩
  · have := (List.getElem?_eq_some_iff.1 hx).1
    omega
  · rintro ⟨n, ⟨⟩⟩ ⟨h1, h2, h3⟩
    simp only [decide_eq_true_eq, decide_eq_false_iff_not, Bool.not_true] at *
    have e : ∀ (hn : 0 < n.toNat → ∀ d, l[n.toNat - 1]? = some d → d ≠ 0), List.take n.toNat l = digs (val l).toNat := fun hn =>
      trim_law hd (by omega) (fun i d hi hx => h3 i d (by omega) hx) hn
    refine ⟨fun hn => ⟨⟨by omega, by omega⟩, ⟨by omega, by omega⟩, fun x hx => ⟨fun h0 => ⟨⟨by omega, by omega⟩, trivial, ⟨by omega, by omega, fun i d hi hd => ?_⟩, by omega⟩, fun h0 => ⟨⟨by omega, by omega⟩, ?_⟩⟩⟩, fun hn => ⟨⟨by omega, by omega⟩, ?_⟩⟩
    · by_cases hin : n ≤ i
      · exact h3 i d hin hd
      · have : (n - 1).toNat = i := by omega
        rw [this, hd] at hx
        cases hx
        exact h0
    · rw [e fun _ d hd => ?_]
      have : n.toNat - 1 = (n - 1).toNat := by omega
      rw [this, hx] at hd
      cases hd
      exact h0
    · rw [e fun h0 => by omega]
set_option maxRecDepth 20000
theorem trim_pure (l : List Int) (h : Dig l ∧ l.length ≤ 1000000000) : Pure Try.prog 61 [.list .part I l] (.list .part I (digs (val l).toNat)) :=
  by have k := Pure.of_cond (g_trim_eq l) (g_trim_ok l h) (specs_ok rfl [] [] rfl rfl) mixed Try.func61; exact k
noncomputable def q_trim (l : List Int) : Prop × V := (Dig l ∧ l.length ≤ 1000000000, (.list .part I (digs (val l).toNat)))
noncomputable def sp_trim : FSpec Try.prog where
 f := 61
 run := fun
  | [v0] => (asP I v0 : Option (List Int)).bind fun l => some (q_trim l)
  | _ => none
 ok := fun args pre r h hp => by
  split at h
  · rename_i v0
    obtain ⟨l, h0, h⟩ := Option.bind_eq_some_iff.1 h
    exact of_q h hp fun h => (trim_pure l h).weak (.cons (asP_weak h0) .nil)
  · cases h
noncomputable def env_more (l m : List Int) : Env where
  P := Try.prog
  ty := tys0
  specs := specsOf [sp_trim]
  heads := fun
    | 4 => some { slots := [(7, .int .i64), (6, .int .i64), (5, .slc 5000 I)], boxes := [], inv := fun _ (x : Int × Int × List Int × Unit) => MoreInv l m x.1 x.2.1 x.2.2.1, measure := fun _ (x : Int × Int × List Int × Unit) => (l.length + m.length + 2 - x.1).toNat }
    | _ => none
  joins := fun
    | 6 => some { slots := [], boxes := [], keep := [5000], inv := fun st _ => st.int 7 < l.length ∨ st.int 7 < m.length ∨ 0 < st.int 6 }
    | 9 => some { slots := [(8, .int .i64)], boxes := [], keep := [5000], inv := fun st (x : Int × Unit) => x.1 = st.int 6 + at0 l (st.int 7).toNat }
    | 11 => some { slots := [(8, .int .i64)], boxes := [], keep := [5000], inv := fun st (x : Int × Unit) => x.1 = st.int 6 + at0 l (st.int 7).toNat + at0 m (st.int 7).toNat }
    | 13 => some { slots := [(5, .list .part I)], boxes := [], inv := fun _ (x : List Int × Unit) => Dig x.1 ∧ x.1.length ≤ 1000000000 ∧ val x.1 = val l + val m }
    | _ => none
def g_more_vc (l : List Int) (m : List Int) : Prop :=
  ((True ∧ MoreInv l m (0 : Int) (0 : Int) []) ∧ ∀ (x : Int × Int × List Int × Unit), MoreInv l m x.1 x.2.1 x.2.2.1 → ((decide (x.1 < (↑l.length : Int)) = false → (decide (x.1 < (↑m.length : Int)) = false → (decide ((0 : Int) < x.2.1) = true → (some (Obj.arr (0 : Nat) I x.2.2.1) = some (Obj.arr (0 : Nat) I x.2.2.1) ∧ True) ∧ (x.1 < (↑l.length : Int) ∨ x.1 < (↑m.length : Int) ∨ (0 : Int) < x.2.1)) ∧ (decide ((0 : Int) < x.2.1) = false → True ∧ Dig x.2.2.1 ∧ x.2.2.1.length ≤ (1000000000 : Nat) ∧ val x.2.2.1 = val l + val m)) ∧ (decide (x.1 < (↑m.length : Int)) = !false → (some (Obj.arr (0 : Nat) I x.2.2.1) = some (Obj.arr (0 : Nat) I x.2.2.1) ∧ True) ∧ (x.1 < (↑l.length : Int) ∨ x.1 < (↑m.length : Int) ∨ (0 : Int) < x.2.1))) ∧ (decide (x.1 < (↑l.length : Int)) = !false → (some (Obj.arr (0 : Nat) I x.2.2.1) = some (Obj.arr (0 : Nat) I x.2.2.1) ∧ True) ∧ (x.1 < (↑l.length : Int) ∨ x.1 < (↑m.length : Int) ∨ (0 : Int) < x.2.1))) ∧ ∀ (x_1 : Unit), x.1 < (↑l.length : Int) ∨ x.1 < (↑m.length : Int) ∨ (0 : Int) < x.2.1 → ((decide (x.1 < (↑l.length : Int)) = true → ((0 : Int) ≤ x.1 ∧ x.1 < (↑l.length : Int)) ∧ ∀ (x_2 : Int), l[x.1.toNat]? = some x_2 → ((-9223372036854775808 : Int) ≤ x.2.1 + x_2 ∧ x.2.1 + x_2 ≤ (9223372036854775807 : Int)) ∧ (some (Obj.arr (0 : Nat) I x.2.2.1) = some (Obj.arr (0 : Nat) I x.2.2.1) ∧ True) ∧ x.2.1 + x_2 = x.2.1 + at0 l x.1.toNat) ∧ (decide (x.1 < (↑l.length : Int)) = false → (some (Obj.arr (0 : Nat) I x.2.2.1) = some (Obj.arr (0 : Nat) I x.2.2.1) ∧ True) ∧ x.2.1 = x.2.1 + at0 l x.1.toNat)) ∧ ∀ (x_2 : Int × Unit), x_2.1 = x.2.1 + at0 l x.1.toNat → ((decide (x.1 < (↑m.length : Int)) = true → ((0 : Int) ≤ x.1 ∧ x.1 < (↑m.length : Int)) ∧ ∀ (x_3 : Int), m[x.1.toNat]? = some x_3 → ((-9223372036854775808 : Int) ≤ x_2.1 + x_3 ∧ x_2.1 + x_3 ≤ (9223372036854775807 : Int)) ∧ (some (Obj.arr (0 : Nat) I x.2.2.1) = some (Obj.arr (0 : Nat) I x.2.2.1) ∧ True) ∧ x_2.1 + x_3 = x.2.1 + at0 l x.1.toNat + at0 m x.1.toNat) ∧ (decide (x.1 < (↑m.length : Int)) = false → (some (Obj.arr (0 : Nat) I x.2.2.1) = some (Obj.arr (0 : Nat) I x.2.2.1) ∧ True) ∧ x_2.1 = x.2.1 + at0 l x.1.toNat + at0 m x.1.toNat)) ∧ ∀ (x_3 : Int × Unit), x_3.1 = x.2.1 + at0 l x.1.toNat + at0 m x.1.toNat → (10 : Int) ≠ (0 : Int) ∧ ((x.2.2.1.length + (1 : Nat)) * (8 : Nat) ≤ (140737488355328 : Nat) ∧ x.2.2.1.length + (1 : Nat) ≤ (4611686018427387904 : Nat)) ∧ (10 : Int) ≠ (0 : Int) ∧ ((-9223372036854775808 : Int) ≤ x_3.1.tdiv (10 : Int) ∧ x_3.1.tdiv (10 : Int) ≤ (9223372036854775807 : Int)) ∧ ((-9223372036854775808 : Int) ≤ x.1 + (1 : Int) ∧ x.1 + (1 : Int) ≤ (9223372036854775807 : Int)) ∧ True ∧ MoreInv l m (x.1 + (1 : Int)) (x_3.1.tdiv (10 : Int)) (x.2.2.1 ++ [x_3.1.tmod (10 : Int)]) ∧ ((↑l.length : Int) + (↑m.length : Int) + (2 : Int) - (x.1 + (1 : Int))).toNat < ((↑l.length : Int) + (↑m.length : Int) + (2 : Int) - x.1).toNat) ∧ ∀ (x : List Int × Unit), Dig x.1 ∧ x.1.length ≤ (1000000000 : Nat) ∧ val x.1 = val l + val m → (Dig x.1 ∧ x.1.length ≤ (1000000000 : Nat)) ∧ (digs (val x.1).toNat, ()) = (digs (val l + val m).toNat, ())
theorem g_more_eq (l m : List Int) : Cond (env_more l m) Try.f49 [.list .tmp I l, .list .tmp I m] [.list .part I] (digs (val l + val m).toNat, ()) = g_more_vc l m := by kernel_rfl
theorem g_more_ok (l m : List Int) (h : Dig l ∧ Dig m ∧ l.length ≤ 100000000 ∧ m.length ≤ 100000000) : g_more_vc l m := by
  obtain ⟨hl, hm, l1, l2⟩ := h
  refine ⟨⟨⟨trivial, more_0 l m⟩, ?_⟩, ?_⟩
  · rintro ⟨i, c, o, ⟨⟩⟩ hI
    have hI0 := hI
    obtain ⟨h1, h2, h3, h4, h5, h6, h7, h8⟩ := hI0
    simp only [decide_eq_true_eq, decide_eq_false_iff_not, Bool.not_false] at *
    refine ⟨⟨fun c1 => ⟨fun c2 => ⟨fun c3 => ⟨⟨trivial, trivial⟩, .inr (.inr c3)⟩, fun c3 => ?_⟩, fun c2 => ⟨⟨trivial, trivial⟩, .inr (.inl c2)⟩⟩, fun c1 => ⟨⟨trivial, trivial⟩, .inl c1⟩⟩, fun _ hc => ⟨⟨fun c1 => ⟨⟨h1, c1⟩, fun x hx => ?_⟩, fun c1 => ⟨⟨trivial, trivial⟩, ?_⟩⟩, ?_⟩⟩
    · obtain ⟨e1, e2⟩ := more_end hI c1 c2 c3
      exact ⟨trivial, e1, by omega, e2⟩
    · have := dig_get hl hx
      exact ⟨⟨by omega, by omega⟩, ⟨trivial, trivial⟩, by rw [at0_some hx]⟩
    · rw [at0_none (l := l) (by omega), Int.add_zero]
    · rintro ⟨d, ⟨⟩⟩ hd
      have a1 := at0_dig hl i.toNat
      have a2 := at0_dig hm i.toNat
      dsimp only at hd ⊢
      refine ⟨⟨fun c1 => ⟨⟨h1, c1⟩, fun x hx => ?_⟩, fun c1 => ⟨⟨trivial, trivial⟩, ?_⟩⟩, ?_⟩
      · have := dig_get hm hx
        exact ⟨⟨by omega, by omega⟩, ⟨trivial, trivial⟩, by rw [at0_some hx]; omega⟩
      · rw [at0_none (l := m) (by omega), Int.add_zero]
        exact hd
      · rintro ⟨e, ⟨⟩⟩ he
        dsimp only at he ⊢
        have ed : e.tdiv 10 = e / 10 := Int.tdiv_eq_ediv_of_nonneg (by omega)
        have hi : i ≤ l.length + m.length := by
          rcases hc with hc | hc | hc
          · omega
          · omega
          · by_cases hh : (l.length : Int) + m.length < i
            · have := h8 hh; omega
            · omega
        refine ⟨by omega, ⟨by omega, by omega⟩, by omega, ⟨by omega, by omega⟩, ⟨by omega, by omega⟩, trivial, more_step hl hm hI hc (by omega), by omega⟩
  · rintro ⟨o, ⟨⟩⟩ ⟨h1, h2, h3⟩
    refine ⟨⟨h1, h2⟩, ?_⟩
    rw [h3]
theorem more_pure (l m : List Int) (h : Dig l ∧ Dig m ∧ l.length ≤ 100000000 ∧ m.length ≤ 100000000) : Pure Try.prog 49 [.list .tmp I l, .list .tmp I m] (.list .part I (digs (val l + val m).toNat)) :=
  by have k := Pure.of_cond (g_more_eq l m) (g_more_ok l m h) (specs_ok rfl [sp_trim] [] rfl rfl) mixed Try.func49; exact k
noncomputable def q_more (l m : List Int) : Prop × V := (Dig l ∧ Dig m ∧ l.length ≤ 100000000 ∧ m.length ≤ 100000000, (.list .part I (digs (val l + val m).toNat)))
noncomputable def sp_more : FSpec Try.prog where
 f := 49
 run := fun
  | [v0, v1] => (asL I v0 : Option (List Int)).bind fun l => (asL I v1 : Option (List Int)).bind fun m => some (q_more l m)
  | _ => none
 ok := fun args pre r h hp => by
  split at h
  · rename_i v0 v1
    obtain ⟨l, h0, h⟩ := Option.bind_eq_some_iff.1 h
    obtain ⟨m, h1, h⟩ := Option.bind_eq_some_iff.1 h
    exact of_q h hp fun h => (more_pure l m h).weak (.cons (asL_weak h0) (.cons (asL_weak h1) .nil))
  · cases h
noncomputable def env_fewer (l m : List Int) : Env where
  P := Try.prog
  ty := tys0
  specs := specsOf [sp_trim]
  heads := fun
    | 4 => some { slots := [(7, .int .i64), (6, .int .i64), (5, .slc 5000 I), (8, .any)], boxes := [], inv := fun _ (x : Int × Int × List Int × Unit × Unit) => FewInv l m x.1 x.2.1 x.2.2.1, measure := fun _ (x : Int × Int × List Int × Unit × Unit) => (l.length + 2 - x.1).toNat }
    | _ => none
  joins := fun
    | 9 => some { slots := [(8, .int .i64)], boxes := [], keep := [5000], inv := fun st (x : Int × Unit) => x.1 = at0 l (st.int 7).toNat - st.int 6 - at0 m (st.int 7).toNat }
    | 14 => some { slots := [(5, .list .part I)], boxes := [], inv := fun _ (x : List Int × Unit) => Dig x.1 ∧ x.1.length ≤ 1000000000 ∧ val x.1 = val l - val m }
    | _ => none
def g_fewer_vc (l : List Int) (m : List Int) : Prop :=
  ((True ∧ FewInv l m (0 : Int) (0 : Int) []) ∧ ∀ (x : Int × Int × List Int × Unit × Unit), FewInv l m x.1 x.2.1 x.2.2.1 → (decide (x.1 < (↑l.length : Int)) = true → ((0 : Int) ≤ x.1 ∧ x.1 < (↑l.length : Int)) ∧ ∀ (x_1 : Int), l[x.1.toNat]? = some x_1 → ((-9223372036854775808 : Int) ≤ x_1 - x.2.1 ∧ x_1 - x.2.1 ≤ (9223372036854775807 : Int)) ∧ ((decide (x.1 < (↑m.length : Int)) = true → ((0 : Int) ≤ x.1 ∧ x.1 < (↑m.length : Int)) ∧ ∀ (x_2 : Int), m[x.1.toNat]? = some x_2 → ((-9223372036854775808 : Int) ≤ x_1 - x.2.1 - x_2 ∧ x_1 - x.2.1 - x_2 ≤ (9223372036854775807 : Int)) ∧ (some (Obj.arr (0 : Nat) I x.2.2.1) = some (Obj.arr (0 : Nat) I x.2.2.1) ∧ True) ∧ x_1 - x.2.1 - x_2 = at0 l x.1.toNat - x.2.1 - at0 m x.1.toNat) ∧ (decide (x.1 < (↑m.length : Int)) = false → (some (Obj.arr (0 : Nat) I x.2.2.1) = some (Obj.arr (0 : Nat) I x.2.2.1) ∧ True) ∧ x_1 - x.2.1 = at0 l x.1.toNat - x.2.1 - at0 m x.1.toNat)) ∧ ∀ (x_2 : Int × Unit), x_2.1 = at0 l x.1.toNat - x.2.1 - at0 m x.1.toNat → (decide (x_2.1 < (0 : Int)) = true → ((-9223372036854775808 : Int) ≤ x_2.1 + (10 : Int) ∧ x_2.1 + (10 : Int) ≤ (9223372036854775807 : Int)) ∧ ((x.2.2.1.length + (1 : Nat)) * (8 : Nat) ≤ (140737488355328 : Nat) ∧ x.2.2.1.length + (1 : Nat) ≤ (4611686018427387904 : Nat)) ∧ ((-9223372036854775808 : Int) ≤ x.1 + (1 : Int) ∧ x.1 + (1 : Int) ≤ (9223372036854775807 : Int)) ∧ True ∧ FewInv l m (x.1 + (1 : Int)) (1 : Int) (x.2.2.1 ++ [x_2.1 + (10 : Int)]) ∧ ((↑l.length : Int) + (2 : Int) - (x.1 + (1 : Int))).toNat < ((↑l.length : Int) + (2 : Int) - x.1).toNat) ∧ (decide (x_2.1 < (0 : Int)) = false → ((x.2.2.1.length + (1 : Nat)) * (8 : Nat) ≤ (140737488355328 : Nat) ∧ x.2.2.1.length + (1 : Nat) ≤ (4611686018427387904 : Nat)) ∧ ((-9223372036854775808 : Int) ≤ x.1 + (1 : Int) ∧ x.1 + (1 : Int) ≤ (9223372036854775807 : Int)) ∧ True ∧ FewInv l m (x.1 + (1 : Int)) (0 : Int) (x.2.2.1 ++ [x_2.1]) ∧ ((↑l.length : Int) + (2 : Int) - (x.1 + (1 : Int))).toNat < ((↑l.length : Int) + (2 : Int) - x.1).toNat)) ∧ (decide (x.1 < (↑l.length : Int)) = false → True ∧ Dig x.2.2.1 ∧ x.2.2.1.length ≤ (1000000000 : Nat) ∧ val x.2.2.1 = val l - val m)) ∧ ∀ (x : List Int × Unit), Dig x.1 ∧ x.1.length ≤ (1000000000 : Nat) ∧ val x.1 = val l - val m → (Dig x.1 ∧ x.1.length ≤ (1000000000 : Nat)) ∧ (digs (val x.1).toNat, ()) = (digs (val l - val m).toNat, ())
theorem g_fewer_eq (l m : List Int) : Cond (env_fewer l m) Try.f51 [.list .tmp I l, .list .tmp I m] [.list .part I] (digs (val l - val m).toNat, ()) = g_fewer_vc l m := by kernel_rfl
theorem g_fewer_ok (l m : List Int) (h : Can l ∧ Can m ∧ val m ≤ val l ∧ l.length ≤ 100000000) : g_fewer_vc l m := by
  obtain ⟨hl, hm, hv, l1⟩ := h
  have dl := hl.dig
  have dm := hm.dig
  refine ⟨⟨⟨trivial, few_0 l m⟩, ?_⟩, ?_⟩
  · rintro ⟨i, c, o, ⟨⟩, ⟨⟩⟩ hI
    have hI0 := hI
    obtain ⟨h1, h2, h3, h4, h5, h6, h7⟩ := hI0
    simp only [decide_eq_true_eq, decide_eq_false_iff_not] at *
    have a1 := at0_dig dl i.toNat
    have a2 := at0_dig dm i.toNat
    refine ⟨fun c1 => ⟨⟨h1, c1⟩, fun x hx => ?_⟩, fun c1 => ?_⟩
    · have ax := at0_some hx
      refine ⟨⟨by omega, by omega⟩, ⟨fun c2 => ⟨⟨h1, c2⟩, fun y hy => ?_⟩, fun c2 => ⟨⟨trivial, trivial⟩, ?_⟩⟩, ?_⟩
      · have ay := at0_some hy
        exact ⟨⟨by omega, by omega⟩, ⟨trivial, trivial⟩, by omega⟩
      · have ay := at0_none (l := m) (i := i.toNat) (by omega)
        omega
      · rintro ⟨d, ⟨⟩⟩ hd
        dsimp only at hd ⊢
        refine ⟨fun c3 => ⟨⟨by omega, by omega⟩, ⟨by omega, by omega⟩, ⟨by omega, by omega⟩, trivial, few_step dl dm hI c1 hd (.inl ⟨c3, rfl, rfl⟩), by omega⟩,
          fun c3 => ⟨⟨by omega, by omega⟩, ⟨by omega, by omega⟩, trivial, few_step dl dm hI c1 hd (.inr ⟨c3, rfl, rfl⟩), by omega⟩⟩
    · obtain ⟨e1, e2⟩ := few_end hl hm hv hI c1
      exact ⟨trivial, e1, by omega, e2⟩
  · rintro ⟨o, ⟨⟩⟩ ⟨h1, h2, h3⟩
    refine ⟨⟨h1, h2⟩, ?_⟩
    rw [h3]
theorem fewer_pure (l m : List Int) (h : Can l ∧ Can m ∧ val m ≤ val l ∧ l.length ≤ 100000000) : Pure Try.prog 51 [.list .tmp I l, .list .tmp I m] (.list .part I (digs (val l - val m).toNat)) :=
  by have k := Pure.of_cond (g_fewer_eq l m) (g_fewer_ok l m h) (specs_ok rfl [sp_trim] [] rfl rfl) mixed Try.func51; exact k
noncomputable def q_fewer (l m : List Int) : Prop × V := (Can l ∧ Can m ∧ val m ≤ val l ∧ l.length ≤ 100000000, (.list .part I (digs (val l - val m).toNat)))
noncomputable def sp_fewer : FSpec Try.prog where
 f := 51
 run := fun
  | [v0, v1] => (asL I v0 : Option (List Int)).bind fun l => (asL I v1 : Option (List Int)).bind fun m => some (q_fewer l m)
  | _ => none
 ok := fun args pre r h hp => by
  split at h
  · rename_i v0 v1
    obtain ⟨l, h0, h⟩ := Option.bind_eq_some_iff.1 h
    obtain ⟨m, h1, h⟩ := Option.bind_eq_some_iff.1 h
    exact of_q h hp fun h => (fewer_pure l m h).weak (.cons (asL_weak h0) (.cons (asL_weak h1) .nil))
  · cases h
def cmpV (a b : Int) : Int := if a < b then -1 else if b < a then 1 else 0
noncomputable def env_digits (l m : List Int) : Env where
  P := Try.prog
  ty := tys0
  heads := fun
    | 6 => some { slots := [(5, .int .i64)], boxes := [], inv := fun _ (x : Int × Unit) => -1 ≤ x.1 ∧ x.1 < l.length ∧ l.length = m.length ∧ l.drop (x.1 + 1).toNat = m.drop (x.1 + 1).toNat, measure := fun _ (x : Int × Unit) => (x.1 + 1).toNat }
    | _ => none
def g_digits_vc (l : List Int) (m : List Int) : Prop :=
  ((!decide ((↑l.length : Int) = (↑m.length : Int))) = true → (decide ((↑l.length : Int) < (↑m.length : Int)) = true → ((-1 : Int), ()) = (cmpV (val l) (val m), ())) ∧ (decide ((↑l.length : Int) < (↑m.length : Int)) = false → ((1 : Int), ()) = (cmpV (val l) (val m), ()))) ∧ ((!decide ((↑l.length : Int) = (↑m.length : Int))) = false → ((-9223372036854775808 : Int) ≤ (↑l.length : Int) - (1 : Int) ∧ (↑l.length : Int) - (1 : Int) ≤ (9223372036854775807 : Int)) ∧ (True ∧ (-1 : Int) ≤ (↑l.length : Int) - (1 : Int) ∧ (↑l.length : Int) - (1 : Int) < (↑l.length : Int) ∧ l.length = m.length ∧ List.drop ((↑l.length : Int) - (1 : Int) + (1 : Int)).toNat l = List.drop ((↑l.length : Int) - (1 : Int) + (1 : Int)).toNat m) ∧ ∀ (x : Int × Unit), (-1 : Int) ≤ x.1 ∧ x.1 < (↑l.length : Int) ∧ l.length = m.length ∧ List.drop (x.1 + (1 : Int)).toNat l = List.drop (x.1 + (1 : Int)).toNat m → (decide ((0 : Int) ≤ x.1) = true → ((0 : Int) ≤ x.1 ∧ x.1 < (↑l.length : Int)) ∧ ∀ (x_1 : Int), l[x.1.toNat]? = some x_1 → ((0 : Int) ≤ x.1 ∧ x.1 < (↑m.length : Int)) ∧ ∀ (x_2 : Int), m[x.1.toNat]? = some x_2 → (decide (x_1 < x_2) = true → ((-1 : Int), ()) = (cmpV (val l) (val m), ())) ∧ (decide (x_1 < x_2) = false → ((0 : Int) ≤ x.1 ∧ x.1 < (↑l.length : Int)) ∧ ∀ (x_3 : Int), l[x.1.toNat]? = some x_3 → ((0 : Int) ≤ x.1 ∧ x.1 < (↑m.length : Int)) ∧ ∀ (x_4 : Int), m[x.1.toNat]? = some x_4 → (decide (x_4 < x_3) = true → ((1 : Int), ()) = (cmpV (val l) (val m), ())) ∧ (decide (x_4 < x_3) = false → ((-9223372036854775808 : Int) ≤ x.1 - (1 : Int) ∧ x.1 - (1 : Int) ≤ (9223372036854775807 : Int)) ∧ True ∧ ((-1 : Int) ≤ x.1 - (1 : Int) ∧ x.1 - (1 : Int) < (↑l.length : Int) ∧ l.length = m.length ∧ List.drop (x.1 - (1 : Int) + (1 : Int)).toNat l = List.drop (x.1 - (1 : Int) + (1 : Int)).toNat m) ∧ (x.1 - (1 : Int) + (1 : Int)).toNat < (x.1 + (1 : Int)).toNat))) ∧ (decide ((0 : Int) ≤ x.1) = false → ((0 : Int), ()) = (cmpV (val l) (val m), ())))
theorem g_digits_eq (l m : List Int) : Cond (env_digits l m) Try.f50 [.list .tmp I l, .list .tmp I m] [.int .i64] (cmpV (val l) (val m), ()) = g_digits_vc l m := by kernel_rfl
theorem g_digits_ok (l m : List Int) (h : Can l ∧ Can m ∧ l.length ≤ 1000000000) : g_digits_vc l m := by
  obtain ⟨hl, hm, l1⟩ := h
  unfold g_digits_vc cmpV
  simp only [decide_eq_true_eq, decide_eq_false_iff_not, Bool.not_eq_true', Bool.not_eq_false']
  refine ⟨fun c1 => ⟨fun c2 => ?_, fun c2 => ?_⟩, fun c1 => ⟨⟨by omega, by omega⟩, ⟨trivial, by omega, by omega, by omega, ?_⟩, ?_⟩⟩
  · rw [if_pos (can_len_lt hl hm (by omega))]
  · have := can_len_lt hm hl (by omega)
    rw [if_neg (by omega), if_pos this]
  · rw [List.drop_of_length_le (by omega), List.drop_of_length_le (by omega)]
  · rintro ⟨i, ⟨⟩⟩ ⟨h1, h2, h3, h4⟩
    simp only at *
    have e1 : (i + 1).toNat = i.toNat + 1 ∨ i = -1 := by omega
    refine ⟨fun c2 => ⟨⟨c2, h2⟩, fun x hx => ⟨⟨c2, by omega⟩, fun y hy => ⟨fun c3 => ?_, fun c3 => ⟨⟨c2, h2⟩, fun x' hx' => ⟨⟨c2, by omega⟩, fun y' hy' => ?_⟩⟩⟩⟩⟩, fun c2 => ?_⟩
    · have e2 : (i + 1).toNat = i.toNat + 1 := by omega
      rw [e2] at h4
      rw [if_pos (cmp_law hl.dig hm.dig h3 hx hy h4 c3)]
    · rw [hx] at hx'
      cases hx'
      rw [hy] at hy'
      cases hy'
      have e2 : (i + 1).toNat = i.toNat + 1 := by omega
      rw [e2] at h4
      refine ⟨fun c4 => ?_, fun c4 => ⟨⟨by omega, by omega⟩, trivial, ⟨by omega, by omega, h3, ?_⟩, by omega⟩⟩
      · have := cmp_law hm.dig hl.dig h3.symm hy hx h4.symm c4
        rw [if_neg (by omega), if_pos this]
      · have e3 : (i - 1 + 1).toNat = i.toNat := by omega
        have exy : x = y := by omega
        subst exy
        rw [e3]
        obtain ⟨q1, q2⟩ := List.getElem?_eq_some_iff.1 hx
        obtain ⟨q3, q4⟩ := List.getElem?_eq_some_iff.1 hy
        rw [List.drop_eq_getElem_cons q1, List.drop_eq_getElem_cons q3, h4, q2, q4]
    · have : i = -1 := by omega
      subst this
      have : l = m := by simpa using h4
      subst this
      rw [if_neg (by omega), if_neg (by omega)]
theorem digits_pure (l m : List Int) (h : Can l ∧ Can m ∧ l.length ≤ 1000000000) : Pure Try.prog 50 [.list .tmp I l, .list .tmp I m] (.int .i64 (cmpV (val l) (val m))) :=
  by have k := Pure.of_cond (g_digits_eq l m) (g_digits_ok l m h) (specs_ok rfl [] [] rfl rfl) mixed Try.func50; exact k
noncomputable def q_digits (l m : List Int) : Prop × V := (Can l ∧ Can m ∧ l.length ≤ 1000000000, (.int .i64 (cmpV (val l) (val m))))
noncomputable def sp_digits : FSpec Try.prog where
 f := 50
 run := fun
  | [v0, v1] => (asL I v0 : Option (List Int)).bind fun l => (asL I v1 : Option (List Int)).bind fun m => some (q_digits l m)
  | _ => none
 ok := fun args pre r h hp => by
  split at h
  · rename_i v0 v1
    obtain ⟨l, h0, h⟩ := Option.bind_eq_some_iff.1 h
    obtain ⟨m, h1, h⟩ := Option.bind_eq_some_iff.1 h
    exact of_q h hp fun h => (digits_pure l m h).weak (.cons (asL_weak h0) (.cons (asL_weak h1) .nil))
  · cases h
noncomputable def env_bplus (s t : Bool) (l m : List Int) : Env where
  P := Try.prog
  ty := tys0
  specs := specsOf [sp_more, sp_digits, sp_fewer]
  frz := fun | 17 => true | 29 => true | 45 => true | _ => false
abbrev ann_bplus : Ann := { slots := numP 0 [.bool, .list .part I], boxes := [], inv := fun _ _ => True }
def g_bplus_vc (s : Bool) (t : Bool) (l : List Int) (m : List Int) : Prop :=
  ((s == t) = true → (Dig l ∧ Dig m ∧ l.length ≤ (100000000 : Nat) ∧ m.length ≤ (100000000 : Nat)) ∧ True ∧ (s, digs (val l + val m).toNat, ()) = (decide (big s l + big t m < (0 : Int)), digs (big s l + big t m).natAbs, ())) ∧ ((s == t) = false → (Can l ∧ Can m ∧ l.length ≤ (1000000000 : Nat)) ∧ (decide ((0 : Int) ≤ cmpV (val l) (val m)) = true → (Can l ∧ Can m ∧ val m ≤ val l ∧ l.length ≤ (100000000 : Nat)) ∧ (s = true → True ∧ (decide ((0 : Int) < (↑(digs (val l - val m).toNat).length : Int)), digs (val l - val m).toNat, ()) = (decide (big s l + big t m < (0 : Int)), digs (big s l + big t m).natAbs, ())) ∧ (s = !true → True ∧ (false, digs (val l - val m).toNat, ()) = (decide (big s l + big t m < (0 : Int)), digs (big s l + big t m).natAbs, ()))) ∧ (decide ((0 : Int) ≤ cmpV (val l) (val m)) = false → (Can m ∧ Can l ∧ val l ≤ val m ∧ m.length ≤ (100000000 : Nat)) ∧ True ∧ (t, digs (val m - val l).toNat, ()) = (decide (big s l + big t m < (0 : Int)), digs (big s l + big t m).natAbs, ())))
theorem g_bplus_eq (s t : Bool) (l m : List Int) : CondG (env_bplus s t l m) Try.f26 [.agg [.bool s, .list .part I l], .agg [.bool t, .list .part I m]] [some 2] ann_bplus (decide (big s l + big t m < 0), digs (big s l + big t m).natAbs, ()) = g_bplus_vc s t l m := by kernel_rfl
theorem g_bplus_ok (s t : Bool) (l m : List Int) (h : Big s l ∧ Big t m ∧ l.length ≤ 1000000 ∧ m.length ≤ 1000000) : g_bplus_vc s t l m := by
  obtain ⟨⟨hl, hs⟩, ⟨hm, ht⟩, l1, l2⟩ := h
  have vl := hl.nonneg
  have vm := hm.nonneg
  have ps : s = true → 0 < val l := fun e => by
    have : val l ≠ 0 := fun e0 => hs e (hl.nil_iff.2 e0)
    omega
  have pt : t = true → 0 < val m := fun e => by
    have : val m ≠ 0 := fun e0 => ht e (hm.nil_iff.2 e0)
    omega
  have key : ∀ {b : Bool} {n : Nat} {z : Int}, (b = true ↔ z < 0) → n = z.natAbs → (b, digs n, ()) = (decide (z < 0), digs z.natAbs, ()) := by
    rintro b n z hb rfl
    cases b with
    | true => rw [decide_eq_true (hb.1 rfl)]
    | false => rw [decide_eq_false (fun h => by have := hb.2 h; cases this)]
  have len0 : ∀ n : Nat, ((0 : Int) < ((digs n).length : Int)) ↔ 0 < n := fun n => by
    by_cases h0 : n = 0
    · subst h0; simp [digs_zero]
    · rw [digs_pos h0]; simp; omega
  unfold g_bplus_vc cmpV
  refine ⟨fun c1 => ⟨⟨hl.dig, hm.dig, by omega, by omega⟩, trivial, ?_⟩, fun c1 => ⟨⟨hl, hm, by omega⟩, fun c2 => ⟨⟨hl, hm, ?_, by omega⟩, fun c3 => ⟨trivial, ?_⟩, fun c3 => ⟨trivial, ?_⟩⟩, fun c2 => ⟨⟨hm, hl, ?_, by omega⟩, trivial, ?_⟩⟩⟩
  · have e : s = t := by simpa using c1
    subst e
    refine key ?_ ?_ <;> cases s
    · simp only [big, if_false, Bool.false_eq_true, false_iff]; omega
    · have := ps rfl; simp only [big, if_true, true_iff]; omega
    · simp only [big, if_false, Bool.false_eq_true]; omega
    · simp only [big, if_true]; omega
  · rw [decide_eq_true_eq] at c2
    by_cases h1 : val l < val m
    · rw [if_pos h1] at c2; omega
    · omega
  · subst c3
    have e : t = false := by
      cases t with
      | false => rfl
      | true => exact absurd c1 (by decide)
    subst e
    have := ps rfl
    have hge : val m ≤ val l := by
      rw [decide_eq_true_eq] at c2
      by_cases h1 : val l < val m
      · rw [if_pos h1] at c2; omega
      · omega
    refine key ?_ ?_
    · rw [decide_eq_true_eq, len0]; simp only [big, if_true, if_false, Bool.false_eq_true]; omega
    · simp only [big, if_true, if_false, Bool.false_eq_true]; omega
  · have e1 : s = false := by simpa using c3
    subst e1
    have e : t = true := by
      cases t with
      | true => rfl
      | false => exact absurd c1 (by decide)
    subst e
    have hge : val m ≤ val l := by
      rw [decide_eq_true_eq] at c2
      by_cases h1 : val l < val m
      · rw [if_pos h1] at c2; omega
      · omega
    refine key ?_ ?_
    · simp only [big, if_true, if_false, Bool.false_eq_true, false_iff]; omega
    · simp only [big, if_true, if_false, Bool.false_eq_true]; omega
  · rw [decide_eq_false_iff_not] at c2
    by_cases h1 : val l < val m
    · omega
    · rw [if_neg h1] at c2
      split at c2 <;> omega
  · have hlt : val l < val m := by
      rw [decide_eq_false_iff_not] at c2
      by_cases h1 : val l < val m
      · exact h1
      · rw [if_neg h1] at c2
        split at c2 <;> omega
    cases s <;> cases t
    · simp at c1
    · refine key ?_ ?_
      · simp only [big, if_true, if_false, Bool.false_eq_true, true_iff]; omega
      · simp only [big, if_true, if_false, Bool.false_eq_true]; omega
    · refine key ?_ ?_
      · simp only [big, if_true, if_false, Bool.false_eq_true, false_iff]; omega
      · simp only [big, if_true, if_false, Bool.false_eq_true]; omega
    · simp at c1
theorem bplus_pure (s t : Bool) (l m : List Int) (h : Big s l ∧ Big t m ∧ l.length ≤ 1000000 ∧ m.length ≤ 1000000) : Pure Try.prog 26 [.agg [.bool s, .list .part I l], .agg [.bool t, .list .part I m]] (.agg [.bool (decide (big s l + big t m < 0)), .list .part I (digs (big s l + big t m).natAbs)]) :=
  by have k := Pure.of_condG (r := (.agg [.bool (decide (big s l + big t m < 0)), .list .part I (digs (big s l + big t m).natAbs)])) (g_bplus_eq s t l m) (g_bplus_ok s t l m h) rfl (specs_ok rfl [sp_more, sp_digits, sp_fewer] [] rfl rfl) mixed Try.func26; exact k
noncomputable def q_bplus (s t : Bool) (l m : List Int) : Prop × V := (Big s l ∧ Big t m ∧ l.length ≤ 1000000 ∧ m.length ≤ 1000000, (.agg [.bool (decide (big s l + big t m < 0)), .list .part I (digs (big s l + big t m).natAbs)]))
noncomputable def sp_bplus : FSpec Try.prog where
 f := 26
 run := fun
  | [.agg [v0_0, v0_1], .agg [v1_0, v1_1]] => (boolOf v0_0).bind fun s => (asP I v0_1 : Option (List Int)).bind fun l => (boolOf v1_0).bind fun t => (asP I v1_1 : Option (List Int)).bind fun m => some (q_bplus s t l m)
  | _ => none
 ok := fun args pre r h hp => by
  split at h
  · rename_i v0_0 v0_1 v1_0 v1_1
    obtain ⟨s, h0_0, h⟩ := Option.bind_eq_some_iff.1 h
    obtain ⟨l, h0_1, h⟩ := Option.bind_eq_some_iff.1 h
    obtain ⟨t, h1_0, h⟩ := Option.bind_eq_some_iff.1 h
    obtain ⟨m, h1_1, h⟩ := Option.bind_eq_some_iff.1 h
    exact of_q h hp fun h => (bplus_pure s t l m h).weak (.cons (Weak.agg (.cons (boolOf_weak h0_0) (.cons (asP_weak h0_1) .nil))) (.cons (Weak.agg (.cons (boolOf_weak h1_0) (.cons (asP_weak h1_1) .nil))) .nil))
  · cases h
noncomputable def env_flip (s : Bool) (l : List Int) : Env where
  P := Try.prog
  ty := tys0
abbrev ann_flip : Ann := { slots := numP 0 [.bool, .list .part I], boxes := [], inv := fun _ _ => True }
def g_flip_vc (s : Bool) (l : List Int) : Prop :=
  ((!s) = true → True ∧ (decide ((0 : Int) < (↑l.length : Int)), l, ()) = (decide ((0 : Int) - big s l < (0 : Int)), digs ((0 : Int) - big s l).natAbs, ())) ∧ ((!s) = !true → True ∧ (false, l, ()) = (decide ((0 : Int) - big s l < (0 : Int)), digs ((0 : Int) - big s l).natAbs, ()))
theorem g_flip_eq (s : Bool) (l : List Int) : CondG (env_flip s l) Try.f60 [.agg [.bool s, .list .part I l]] [some 2] ann_flip (decide (0 - big s l < 0), digs (0 - big s l).natAbs, ()) = g_flip_vc s l := by kernel_rfl
theorem g_flip_ok (s : Bool) (l : List Int) (h : Big s l) : g_flip_vc s l := by
  have hb := h
  obtain ⟨hl, hs⟩ := h
  have vl := hl.nonneg
  have hn := hl.nil_iff
  have e : (0 - big s l).natAbs = (big s l).natAbs := by omega
  unfold g_flip_vc
  rw [e, big_abs hb]
  refine ⟨fun c => ⟨trivial, ?_⟩, fun c => ⟨trivial, ?_⟩⟩
  · have : s = false := by simpa using c
    subst this
    have : ((0 : Int) < l.length) ↔ (0 - val l < 0) := by
      have h1 : ((0 : Int) < l.length) ↔ ¬ l = [] := by rw [← List.length_eq_zero_iff]; omega
      rw [h1, hn]; omega
    simp only [big, if_false, Bool.false_eq_true, this]
  · have : s = true := by simpa using c
    subst this
    have : ¬ (0 - big true l < 0) := by simp only [big, if_true]; omega
    rw [decide_eq_false this]
theorem flip_pure (s : Bool) (l : List Int) (h : Big s l) : Pure Try.prog 60 [.agg [.bool s, .list .part I l]] (.agg [.bool (decide (0 - big s l < 0)), .list .part I (digs (0 - big s l).natAbs)]) :=
  by have k := Pure.of_condG (r := (.agg [.bool (decide (0 - big s l < 0)), .list .part I (digs (0 - big s l).natAbs)])) (g_flip_eq s l) (g_flip_ok s l h) rfl (specs_ok rfl [] [] rfl rfl) mixed Try.func60; exact k
noncomputable def q_flip (s : Bool) (l : List Int) : Prop × V := (Big s l, (.agg [.bool (decide (0 - big s l < 0)), .list .part I (digs (0 - big s l).natAbs)]))
noncomputable def sp_flip : FSpec Try.prog where
 f := 60
 run := fun
  | [.agg [v0_0, v0_1]] => (boolOf v0_0).bind fun s => (asP I v0_1 : Option (List Int)).bind fun l => some (q_flip s l)
  | _ => none
 ok := fun args pre r h hp => by
  split at h
  · rename_i v0_0 v0_1
    obtain ⟨s, h0_0, h⟩ := Option.bind_eq_some_iff.1 h
    obtain ⟨l, h0_1, h⟩ := Option.bind_eq_some_iff.1 h
    exact of_q h hp fun h => (flip_pure s l h).weak (.cons (Weak.agg (.cons (boolOf_weak h0_0) (.cons (asP_weak h0_1) .nil))) .nil)
  · cases h
noncomputable def env_bminus (s t : Bool) (l m : List Int) : Env where
  P := Try.prog
  ty := tys0
  specs := specsOf [sp_flip, sp_bplus]
  frz := fun | 7 => true | 8 => true | _ => false
abbrev ann_bminus : Ann := { slots := numP 0 [.bool, .list .part I], boxes := [], inv := fun _ _ => True }
def g_bminus_vc (s : Bool) (t : Bool) (l : List Int) (m : List Int) : Prop :=
  Big t m ∧ (Big s l ∧ Big (decide ((0 : Int) - big t m < (0 : Int))) (digs ((0 : Int) - big t m).natAbs) ∧ l.length ≤ (1000000 : Nat) ∧ (digs ((0 : Int) - big t m).natAbs).length ≤ (1000000 : Nat)) ∧ True ∧ (decide (big s l + big (decide ((0 : Int) - big t m < (0 : Int))) (digs ((0 : Int) - big t m).natAbs) < (0 : Int)), digs (big s l + big (decide ((0 : Int) - big t m < (0 : Int))) (digs ((0 : Int) - big t m).natAbs)).natAbs, ()) = (decide (big s l - big t m < (0 : Int)), digs (big s l - big t m).natAbs, ())
theorem g_bminus_eq (s t : Bool) (l m : List Int) : CondG (env_bminus s t l m) Try.f47 [.agg [.bool s, .list .part I l], .agg [.bool t, .list .part I m]] [some 2] ann_bminus (decide (big s l - big t m < 0), digs (big s l - big t m).natAbs, ()) = g_bminus_vc s t l m := by kernel_rfl
theorem g_bminus_ok (s t : Bool) (l m : List Int) (h : Big s l ∧ Big t m ∧ l.length ≤ 1000000 ∧ m.length ≤ 1000000) : g_bminus_vc s t l m := by
  obtain ⟨h1, h2, l1, l2⟩ := h
  have e : (0 - big t m).natAbs = (big t m).natAbs := by omega
  refine ⟨h2, ⟨h1, Big_digs _, l1, by rw [e, big_abs h2]; exact l2⟩, trivial, ?_⟩
  rw [big_digs, show big s l + (0 - big t m) = big s l - big t m by omega]
theorem bminus_pure (s t : Bool) (l m : List Int) (h : Big s l ∧ Big t m ∧ l.length ≤ 1000000 ∧ m.length ≤ 1000000) : Pure Try.prog 47 [.agg [.bool s, .list .part I l], .agg [.bool t, .list .part I m]] (.agg [.bool (decide (big s l - big t m < 0)), .list .part I (digs (big s l - big t m).natAbs)]) :=
  by have k := Pure.of_condG (r := (.agg [.bool (decide (big s l - big t m < 0)), .list .part I (digs (big s l - big t m).natAbs)])) (g_bminus_eq s t l m) (g_bminus_ok s t l m h) rfl (specs_ok rfl [sp_flip, sp_bplus] [] rfl rfl) mixed Try.func47; exact k
noncomputable def q_bminus (s t : Bool) (l m : List Int) : Prop × V := (Big s l ∧ Big t m ∧ l.length ≤ 1000000 ∧ m.length ≤ 1000000, (.agg [.bool (decide (big s l - big t m < 0)), .list .part I (digs (big s l - big t m).natAbs)]))
noncomputable def sp_bminus : FSpec Try.prog where
 f := 47
 run := fun
  | [.agg [v0_0, v0_1], .agg [v1_0, v1_1]] => (boolOf v0_0).bind fun s => (asP I v0_1 : Option (List Int)).bind fun l => (boolOf v1_0).bind fun t => (asP I v1_1 : Option (List Int)).bind fun m => some (q_bminus s t l m)
  | _ => none
 ok := fun args pre r h hp => by
  split at h
  · rename_i v0_0 v0_1 v1_0 v1_1
    obtain ⟨s, h0_0, h⟩ := Option.bind_eq_some_iff.1 h
    obtain ⟨l, h0_1, h⟩ := Option.bind_eq_some_iff.1 h
    obtain ⟨t, h1_0, h⟩ := Option.bind_eq_some_iff.1 h
    obtain ⟨m, h1_1, h⟩ := Option.bind_eq_some_iff.1 h
    exact of_q h hp fun h => (bminus_pure s t l m h).weak (.cons (Weak.agg (.cons (boolOf_weak h0_0) (.cons (asP_weak h0_1) .nil))) (.cons (Weak.agg (.cons (boolOf_weak h1_0) (.cons (asP_weak h1_1) .nil))) .nil))
  · cases h
noncomputable def env_bcmp (s t : Bool) (l m : List Int) : Env where
  P := Try.prog
  ty := tys0
  specs := specsOf [sp_bminus]
def g_bcmp_vc (s : Bool) (t : Bool) (l : List Int) (m : List Int) : Prop :=
  (Big s l ∧ Big t m ∧ l.length ≤ (1000000 : Nat) ∧ m.length ≤ (1000000 : Nat)) ∧ (decide (big s l - big t m < (0 : Int)) = true → ((-1 : Int), ()) = (cmpV (big s l) (big t m), ())) ∧ (decide (big s l - big t m < (0 : Int)) = false → (decide ((0 : Int) < (↑(digs (big s l - big t m).natAbs).length : Int)) = true → ((1 : Int), ()) = (cmpV (big s l) (big t m), ())) ∧ (decide ((0 : Int) < (↑(digs (big s l - big t m).natAbs).length : Int)) = false → ((0 : Int), ()) = (cmpV (big s l) (big t m), ())))
theorem g_bcmp_eq (s t : Bool) (l m : List Int) : Cond (env_bcmp s t l m) Try.f28 [.agg [.bool s, .list .part I l], .agg [.bool t, .list .part I m]] [.int .i64] (cmpV (big s l) (big t m), ()) = g_bcmp_vc s t l m := by kernel_rfl
theorem g_bcmp_ok (s t : Bool) (l m : List Int) (h : Big s l ∧ Big t m ∧ l.length ≤ 1000000 ∧ m.length ≤ 1000000) : g_bcmp_vc s t l m := by
  have len0 : ∀ n : Nat, ((0 : Int) < ((digs n).length : Int)) ↔ 0 < n := fun n => by
    by_cases h0 : n = 0
    · subst h0; simp [digs_zero]
    · rw [digs_pos h0]; simp; omega
  unfold g_bcmp_vc cmpV
  simp only [decide_eq_true_eq, decide_eq_false_iff_not, len0]
  refine ⟨h, fun c => ?_, fun c => ⟨fun c2 => ?_, fun c2 => ?_⟩⟩
  · rw [if_pos (by omega)]
  · rw [if_neg (by omega), if_pos (by omega)]
  · rw [if_neg (by omega), if_neg (by omega)]
theorem bcmp_pure (s t : Bool) (l m : List Int) (h : Big s l ∧ Big t m ∧ l.length ≤ 1000000 ∧ m.length ≤ 1000000) : Pure Try.prog 28 [.agg [.bool s, .list .part I l], .agg [.bool t, .list .part I m]] (.int .i64 (cmpV (big s l) (big t m))) :=
  by have k := Pure.of_cond (g_bcmp_eq s t l m) (g_bcmp_ok s t l m h) (specs_ok rfl [sp_bminus] [] rfl rfl) mixed Try.func28; exact k
noncomputable def q_bcmp (s t : Bool) (l m : List Int) : Prop × V := (Big s l ∧ Big t m ∧ l.length ≤ 1000000 ∧ m.length ≤ 1000000, (.int .i64 (cmpV (big s l) (big t m))))
noncomputable def sp_bcmp : FSpec Try.prog where
 f := 28
 run := fun
  | [.agg [v0_0, v0_1], .agg [v1_0, v1_1]] => (boolOf v0_0).bind fun s => (asP I v0_1 : Option (List Int)).bind fun l => (boolOf v1_0).bind fun t => (asP I v1_1 : Option (List Int)).bind fun m => some (q_bcmp s t l m)
  | _ => none
 ok := fun args pre r h hp => by
  split at h
  · rename_i v0_0 v0_1 v1_0 v1_1
    obtain ⟨s, h0_0, h⟩ := Option.bind_eq_some_iff.1 h
    obtain ⟨l, h0_1, h⟩ := Option.bind_eq_some_iff.1 h
    obtain ⟨t, h1_0, h⟩ := Option.bind_eq_some_iff.1 h
    obtain ⟨m, h1_1, h⟩ := Option.bind_eq_some_iff.1 h
    exact of_q h hp fun h => (bcmp_pure s t l m h).weak (.cons (Weak.agg (.cons (boolOf_weak h0_0) (.cons (asP_weak h0_1) .nil))) (.cons (Weak.agg (.cons (boolOf_weak h1_0) (.cons (asP_weak h1_1) .nil))) .nil))
  · cases h
def intB (z : Int) : Int := if -9223372036854775808 ≤ z ∧ z ≤ 9223372036854775807 then z else 0
def okB (z : Int) : Bool := decide (-9223372036854775808 ≤ z) && decide (z ≤ 9223372036854775807)
def IntInv (s : Bool) (l : List Int) (i n : Int) : Prop := -1 ≤ i ∧ i < l.length ∧ n = big s (l.drop (i + 1).toNat)
noncomputable def env_bint (s : Bool) (l : List Int) : Env where
  P := Try.prog
  ty := tys0
  specs := specsOf [sp_of, sp_bcmp]
  frz := fun | 7 => true | 8 => true | 12 => true | 13 => true | _ => false
  heads := fun
    | 5 => some { slots := [(5, .int .i64), (4, .int .i64)], boxes := [], keep := [1], inv := fun _ (x : Int × Int × Unit) => IntInv s l x.1 x.2.1, measure := fun _ (x : Int × Int × Unit) => (x.1 + 1).toNat }
    | _ => none
def g_bint_vc (s : Bool) (l : List Int) : Prop :=
  InI (-9223372036854775808 : Int) ∧ (Big s l ∧ Big (decide ((-9223372036854775808 : Int) < (0 : Int))) (digs (-9223372036854775808 : Int).natAbs) ∧ l.length ≤ (1000000 : Nat) ∧ (digs (-9223372036854775808 : Int).natAbs).length ≤ (1000000 : Nat)) ∧ (decide (cmpV (big s l) (big (decide ((-9223372036854775808 : Int) < (0 : Int))) (digs (-9223372036854775808 : Int).natAbs)) < (0 : Int)) = false → InI (9223372036854775807 : Int) ∧ (Big s l ∧ Big (decide ((9223372036854775807 : Int) < (0 : Int))) (digs (Int.natAbs (9223372036854775807 : Int))) ∧ l.length ≤ (1000000 : Nat) ∧ (digs (Int.natAbs (9223372036854775807 : Int))).length ≤ (1000000 : Nat)) ∧ (decide ((0 : Int) < cmpV (big s l) (big (decide ((9223372036854775807 : Int) < (0 : Int))) (digs (Int.natAbs (9223372036854775807 : Int))))) = true → ((0 : Int), false, ()) = (intB (big s l), okB (big s l), ())) ∧ (decide ((0 : Int) < cmpV (big s l) (big (decide ((9223372036854775807 : Int) < (0 : Int))) (digs (Int.natAbs (9223372036854775807 : Int))))) = false → ((-9223372036854775808 : Int) ≤ (↑l.length : Int) - (1 : Int) ∧ (↑l.length : Int) - (1 : Int) ≤ (9223372036854775807 : Int)) ∧ ((some (Obj.box [V.bool s, V.list LK.part I l]) = some (Obj.box [V.bool s, V.list LK.part I l]) ∧ True) ∧ IntInv s l ((↑l.length : Int) - (1 : Int)) (0 : Int)) ∧ ∀ (x : Int × Int × Unit), IntInv s l x.1 x.2.1 → (decide ((0 : Int) ≤ x.1) = true → (s = true → ((-9223372036854775808 : Int) ≤ x.2.1 * (10 : Int) ∧ x.2.1 * (10 : Int) ≤ (9223372036854775807 : Int)) ∧ ((0 : Int) ≤ x.1 ∧ x.1 < (↑l.length : Int)) ∧ ∀ (x_1 : Int), l[x.1.toNat]? = some x_1 → ((-9223372036854775808 : Int) ≤ x.2.1 * (10 : Int) - x_1 ∧ x.2.1 * (10 : Int) - x_1 ≤ (9223372036854775807 : Int)) ∧ ((-9223372036854775808 : Int) ≤ x.1 - (1 : Int) ∧ x.1 - (1 : Int) ≤ (9223372036854775807 : Int)) ∧ (some (Obj.box [V.bool s, V.list LK.part I l]) = some (Obj.box [V.bool s, V.list LK.part I l]) ∧ True) ∧ IntInv s l (x.1 - (1 : Int)) (x.2.1 * (10 : Int) - x_1) ∧ (x.1 - (1 : Int) + (1 : Int)).toNat < (x.1 + (1 : Int)).toNat) ∧ (s = false → ((-9223372036854775808 : Int) ≤ x.2.1 * (10 : Int) ∧ x.2.1 * (10 : Int) ≤ (9223372036854775807 : Int)) ∧ ((0 : Int) ≤ x.1 ∧ x.1 < (↑l.length : Int)) ∧ ∀ (x_1 : Int), l[x.1.toNat]? = some x_1 → ((-9223372036854775808 : Int) ≤ x.2.1 * (10 : Int) + x_1 ∧ x.2.1 * (10 : Int) + x_1 ≤ (9223372036854775807 : Int)) ∧ ((-9223372036854775808 : Int) ≤ x.1 - (1 : Int) ∧ x.1 - (1 : Int) ≤ (9223372036854775807 : Int)) ∧ (some (Obj.box [V.bool s, V.list LK.part I l]) = some (Obj.box [V.bool s, V.list LK.part I l]) ∧ True) ∧ IntInv s l (x.1 - (1 : Int)) (x.2.1 * (10 : Int) + x_1) ∧ (x.1 - (1 : Int) + (1 : Int)).toNat < (x.1 + (1 : Int)).toNat)) ∧ (decide ((0 : Int) ≤ x.1) = false → (x.2.1, true, ()) = (intB (big s l), okB (big s l), ())))) ∧ (decide (cmpV (big s l) (big (decide ((-9223372036854775808 : Int) < (0 : Int))) (digs (-9223372036854775808 : Int).natAbs)) < (0 : Int)) = !false → ((0 : Int), false, ()) = (intB (big s l), okB (big s l), ()))
theorem g_bint_eq (s : Bool) (l : List Int) : Cond (env_bint s l) Try.f39 [.agg [.bool s, .list .part I l]] [.int .i64, .bool] (intB (big s l), okB (big s l), ()) = g_bint_vc s l := by kernel_rfl
theorem g_bint_ok (s : Bool) (l : List Int) (h : Big s l ∧ l.length ≤ 1000000) : g_bint_vc s l := by
  obtain ⟨hb, hl⟩ := h
  have hd := hb.1.dig
  have vl := hb.1.nonneg
  have cl : ∀ z : Int, -9223372036854775808 ≤ z → z ≤ 9223372036854775807 → (digs z.natAbs).length ≤ 1000000 := fun z h1 h2 => Nat.le_trans (digs_len (k := 19) (by omega)) (by omega)
  have bv : ∀ (i : Nat), val (l.drop i) ≤ val l ∧ 0 ≤ val (l.drop i) := fun i => by
    have h1 := val_split l i
    have h2 := val_nonneg (dig_take hd i)
    have h3 : 0 ≤ val (l.drop i) := val_nonneg fun d hd' => hd d (List.mem_of_mem_drop hd')
    have h4 : (1 : Int) ≤ 10 ^ (l.take i).length := by
      have : (0 : Int) < 10 ^ (l.take i).length := Int.pow_pos (by omega)
      omega
    have h5 : 1 * val (l.drop i) ≤ 10 ^ (l.take i).length * val (l.drop i) := Int.mul_le_mul_of_nonneg_right h4 h3
    omega
  unfold g_bint_vc
  simp only [decide_eq_true_eq, decide_eq_false_iff_not, Bool.not_false]
  rw [big_digs, big_digs]
  refine ⟨by constructor <;> decide, ⟨hb, Big_digs _, by omega, cl _ (by omega) (by omega)⟩, fun c1 => ⟨by constructor <;> decide, ⟨hb, Big_digs _, by omega, cl _ (by omega) (by omega)⟩, fun c2 => ?_, fun c2 => ?_⟩, fun c1 => ?_⟩
  · have : ¬ (big s l ≤ 9223372036854775807) := by
      unfold cmpV at c2
      split at c2
      · omega
      · split at c2 <;> omega
    simp only [intB, okB]
    rw [if_neg (by omega), decide_eq_false this, Bool.and_false]
  · have r1 : -9223372036854775808 ≤ big s l := by
      unfold cmpV at c1
      split at c1
      · omega
      · omega
    have r2 : big s l ≤ 9223372036854775807 := by
      unfold cmpV at c2
      split at c2
      · omega
      · split at c2 <;> omega
    refine ⟨⟨by omega, by omega⟩, ⟨⟨trivial, trivial⟩, by omega, by omega, ?_⟩, ?_⟩
    · rw [List.drop_of_length_le (by omega)]
      simp [big, val]
    · rintro ⟨i, n, ⟨⟩⟩ ⟨h1, h2, h3⟩
      dsimp only at h1 h2 h3 ⊢
      have step : ∀ d, l[i.toNat]? = some d → 0 ≤ i → val (l.drop i.toNat) = d + 10 * val (l.drop (i + 1).toNat) ∧ 0 ≤ d := fun d hx h0 => by
        obtain ⟨q1, q2⟩ := List.getElem?_eq_some_iff.1 hx
        rw [List.drop_eq_getElem_cons q1, q2, show (i + 1).toNat = i.toNat + 1 by omega]
        exact ⟨rfl, (dig_get hd hx).1⟩
      have b0 := bv i.toNat
      have b1 := bv (i + 1).toNat
      refine ⟨fun c3 => ⟨fun c4 => ?_, fun c4 => ?_⟩, fun c3 => ?_⟩
      · subst c4
        simp only [big, if_true] at *
        obtain ⟨d, hd0⟩ : ∃ d, l[i.toNat]? = some d := ⟨_, List.getElem?_eq_getElem (by omega)⟩
        obtain ⟨s1, s2⟩ := step d hd0 c3
        refine ⟨⟨by omega, by omega⟩, ⟨c3, h2⟩, fun x hx => ?_⟩
        rw [hd0] at hx
        cases hx
        refine ⟨⟨by omega, by omega⟩, ⟨by omega, by omega⟩, ⟨trivial, trivial⟩, ⟨by omega, by omega, ?_⟩, by omega⟩
        simp only [big, if_true]
        rw [show i - 1 + 1 = i by omega]
        omega
      · subst c4
        simp only [big, if_false, Bool.false_eq_true] at *
        obtain ⟨d, hd0⟩ : ∃ d, l[i.toNat]? = some d := ⟨_, List.getElem?_eq_getElem (by omega)⟩
        obtain ⟨s1, s2⟩ := step d hd0 c3
        refine ⟨⟨by omega, by omega⟩, ⟨c3, h2⟩, fun x hx => ?_⟩
        rw [hd0] at hx
        cases hx
        refine ⟨⟨by omega, by omega⟩, ⟨by omega, by omega⟩, ⟨trivial, trivial⟩, ⟨by omega, by omega, ?_⟩, by omega⟩
        simp only [big, if_false, Bool.false_eq_true]
        rw [show i - 1 + 1 = i by omega]
        omega
      · have : i = -1 := by omega
        subst this
        have e : n = big s l := by simpa using h3
        simp only [intB, okB]
        rw [if_pos ⟨r1, r2⟩, decide_eq_true r1, decide_eq_true r2, e]
        rfl
  · have : ¬ (-9223372036854775808 ≤ big s l) := by
      unfold cmpV at c1
      split at c1
      · omega
      · split at c1 <;> omega
    simp only [intB, okB]
    rw [if_neg (by omega), decide_eq_false this, Bool.false_and]
theorem bint_pure (s : Bool) (l : List Int) (h : Big s l ∧ l.length ≤ 1000000) : Pure Try.prog 39 [.agg [.bool s, .list .part I l]] (.tuple [.int .i64 (intB (big s l)), .bool (okB (big s l))]) :=
  by have k := Pure.of_cond (g_bint_eq s l) (g_bint_ok s l h) (specs_ok rfl [sp_of, sp_bcmp] [] rfl rfl) mixed Try.func39; exact k
noncomputable def q_bint (s : Bool) (l : List Int) : Prop × V := (Big s l ∧ l.length ≤ 1000000, (.tuple [.int .i64 (intB (big s l)), .bool (okB (big s l))]))
noncomputable def sp_bint : FSpec Try.prog where
 f := 39
 run := fun
  | [.agg [v0_0, v0_1]] => (boolOf v0_0).bind fun s => (asP I v0_1 : Option (List Int)).bind fun l => some (q_bint s l)
  | _ => none
 ok := fun args pre r h hp => by
  split at h
  · rename_i v0_0 v0_1
    obtain ⟨s, h0_0, h⟩ := Option.bind_eq_some_iff.1 h
    obtain ⟨l, h0_1, h⟩ := Option.bind_eq_some_iff.1 h
    exact of_q h hp fun h => (bint_pure s l h).weak (.cons (Weak.agg (.cons (boolOf_weak h0_0) (.cons (asP_weak h0_1) .nil))) .nil)
  · cases h
def faultB (z : Int) : Int := if okB z then 0 else 10
noncomputable def env_told (s : Bool) (l : List Int) : Env where
  P := Try.prog
  ty := tys0
  specs := specsOf [sp_bint]
def g_told_vc (s : Bool) (l : List Int) : Prop :=
  (Big s l ∧ l.length ≤ (1000000 : Nat)) ∧ ((!okB (big s l)) = true → ((0 : Int), (10 : Int), ()) = (intB (big s l), faultB (big s l), ())) ∧ ((!okB (big s l)) = false → (intB (big s l), (0 : Int), ()) = (intB (big s l), faultB (big s l), ()))
theorem g_told_eq (s : Bool) (l : List Int) : Cond (env_told s l) Try.f46 [.agg [.bool s, .list .part I l]] [.int .i64, .int .i64] (intB (big s l), faultB (big s l), ()) = g_told_vc s l := by kernel_rfl
theorem g_told_ok (s : Bool) (l : List Int) (h : Big s l ∧ l.length ≤ 1000000) : g_told_vc s l := by
  unfold g_told_vc faultB
  refine ⟨h, fun c => ?_, fun c => ?_⟩
  · have c : okB (big s l) = false := by simpa using c
    have : intB (big s l) = 0 := by
      unfold okB at c
      unfold intB
      rw [Bool.and_eq_false_iff, decide_eq_false_iff_not, decide_eq_false_iff_not] at c
      rw [if_neg (by omega)]
    rw [c, this]
    rfl
  · have c : okB (big s l) = true := by simpa using c
    rw [c]
    rfl
theorem told_pure (s : Bool) (l : List Int) (h : Big s l ∧ l.length ≤ 1000000) : Pure Try.prog 46 [.agg [.bool s, .list .part I l]] (.tuple [.int .i64 (intB (big s l)), .int .i64 (faultB (big s l))]) :=
  by have k := Pure.of_cond (g_told_eq s l) (g_told_ok s l h) (specs_ok rfl [sp_bint] [] rfl rfl) mixed Try.func46; exact k
noncomputable def q_told (s : Bool) (l : List Int) : Prop × V := (Big s l ∧ l.length ≤ 1000000, (.tuple [.int .i64 (intB (big s l)), .int .i64 (faultB (big s l))]))
noncomputable def sp_told : FSpec Try.prog where
 f := 46
 run := fun
  | [.agg [v0_0, v0_1]] => (boolOf v0_0).bind fun s => (asP I v0_1 : Option (List Int)).bind fun l => some (q_told s l)
  | _ => none
 ok := fun args pre r h hp => by
  split at h
  · rename_i v0_0 v0_1
    obtain ⟨s, h0_0, h⟩ := Option.bind_eq_some_iff.1 h
    obtain ⟨l, h0_1, h⟩ := Option.bind_eq_some_iff.1 h
    exact of_q h hp fun h => (told_pure s l h).weak (.cons (Weak.agg (.cons (boolOf_weak h0_0) (.cons (asP_weak h0_1) .nil))) .nil)
  · cases h
end Go.Proofs.Yteaajihmfacinaa
end
