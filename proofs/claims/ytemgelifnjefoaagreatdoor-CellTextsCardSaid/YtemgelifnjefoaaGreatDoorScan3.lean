/-
  Whole numbers: products; numerals read.
-/
import Derived.Test.YtemgelifnjefoaaGreatDoorScan2
namespace Go.Proofs.YtemgelifnjefoaaGreatDoor
open Go.Vm

/-- A row of the product: so many zeros, then a digit's products, with what is carried. -/
def RowInv (l : List Int) (i : Nat) (d : Int) (k c : Int) (o : List Int) : Prop :=
  0 ≤ k ∧ 0 ≤ c ∧ c ≤ 9 ∧ (k ≤ l.length ∨ c = 0) ∧ k ≤ l.length + 1 ∧ (o.length : Int) = i + k ∧ Dig o ∧ val o + 10 ^ (i + k.toNat) * c = 10 ^ i * (d * val (l.take k.toNat))
theorem row_0 (l : List Int) (i : Nat) (d : Int) : RowInv l i d 0 0 (List.replicate i 0) := by
  refine ⟨by omega, by omega, by omega, .inr rfl, by omega, by simp, fun x hx => ?_, ?_⟩
  · have := (List.mem_replicate.1 hx).2
    omega
  · rw [val_zeros (fun x hx => (List.mem_replicate.1 hx).2)]
    simp [val]
theorem row_step {l o : List Int} {i : Nat} {d k c n : Int} (hl : Dig l) (h : RowInv l i d k c o) (hd : 0 ≤ d ∧ d ≤ 9) (hc : k < l.length ∨ 0 < c) (hn : n = c + at0 l k.toNat * d) :
    RowInv l i d (k + 1) (n.tdiv 10) (o ++ [n.tmod 10]) := by
  obtain ⟨h1, h2, h3, h4, h5, h6, h7, h8⟩ := h
  obtain ⟨a1, a2⟩ := at0_dig hl k.toNat
  have p1 : 0 ≤ at0 l k.toNat * d := Int.mul_nonneg a1 hd.1
  have p2 : at0 l k.toNat * d ≤ 9 * 9 := Int.mul_le_mul a2 hd.2 hd.1 (by omega)
  have hn0 : 0 ≤ n := by omega
  have e1 : n.tdiv 10 = n / 10 := Int.tdiv_eq_ediv_of_nonneg hn0
  have e2 : n.tmod 10 = n % 10 := Int.tmod_eq_emod_of_nonneg hn0
  have hlen : o.length = i + k.toNat := by omega
  rw [e1, e2]
  refine ⟨by omega, by omega, by omega, ?_, ?_, by simp; omega, dig_app.2 ⟨h7, fun x hx => ?_⟩, ?_⟩
  · by_cases hk : k < l.length
    · exact .inl (by omega)
    · right
      have z : at0 l k.toNat = 0 := at0_none (by omega)
      rw [z, Int.zero_mul] at hn
      omega
  · omega
  · simp only [List.mem_singleton] at hx
    omega
  · have ek : (k + 1).toNat = k.toNat + 1 := by omega
    have ev : n = n % 10 + 10 * (n / 10) := by omega
    rw [ek, val_take_at, val_app, hlen]
    have e3 : (10 : Int) ^ (i + (k.toNat + 1)) = 10 ^ (i + k.toNat) * 10 := by rw [← Nat.add_assoc, Int.pow_succ]
    have e4 : (10 : Int) ^ (i + k.toNat) = 10 ^ i * 10 ^ k.toNat := Int.pow_add ..
    rw [e3]
    simp only [val, Int.mul_zero, Int.add_zero]
    generalize n % 10 = r at *
    generalize n / 10 = q at *
    generalize at0 l k.toNat = a at *
    generalize val (l.take k.toNat) = v at *
    generalize val o = vo at *
    rw [e4] at h8 ⊢
    generalize (10 : Int) ^ i = A at *
    generalize (10 : Int) ^ k.toNat = B at *
    grind
theorem row_end {l o : List Int} {i : Nat} {d k c : Int} (h : RowInv l i d k c o) (h1 : ¬ k < l.length) (h2 : ¬ 0 < c) : Dig o ∧ val o = 10 ^ i * (d * val l) ∧ (o.length : Int) ≤ i + l.length + 1 := by
  obtain ⟨k1, k2, k3, k4, k5, k6, k7, k8⟩ := h
  have hc : c = 0 := by omega
  rw [hc, Int.mul_zero, Int.add_zero, List.take_of_length_le (by omega)] at k8
  exact ⟨k7, k8, by omega⟩
theorem mul_take {l m : List Int} (i : Nat) : val l * val (m.take (i + 1)) = val l * val (m.take i) + 10 ^ i * (at0 m i * val l) := by
  rw [val_take_at]
  generalize val l = a
  generalize val (m.take i) = b
  generalize at0 m i = c
  generalize (10 : Int) ^ i = d
  grind
theorem mul_nonneg' {l m : List Int} (hl : Dig l) (hm : Dig m) (i : Nat) : 0 ≤ val l * val (m.take i) := Int.mul_nonneg (val_nonneg hl) (val_nonneg (dig_take hm i))
theorem mul_len {l m : List Int} (hl : Dig l) (hm : Dig m) (i : Nat) : (digs (val l * val (m.take i)).toNat).length ≤ l.length + m.length := by
  refine digs_len ?_
  have h1 := val_lt hl
  have h2 := val_lt (dig_take hm i)
  have h3 : (10 : Int) ^ (m.take i).length ≤ 10 ^ m.length := pow_le (by rw [List.length_take]; omega)
  have n1 := val_nonneg hl
  have n2 := val_nonneg (dig_take hm i)
  have h4 : val l * val (m.take i) < 10 ^ l.length * 10 ^ m.length := by
    refine Int.lt_of_le_of_lt (Int.mul_le_mul_of_nonneg_right (Int.le_of_lt h1) n2) ?_
    exact Int.mul_lt_mul_of_pos_left (by omega) (by omega)
  have h5 : ((10 ^ (l.length + m.length) : Nat) : Int) = 10 ^ l.length * 10 ^ m.length := by
    rw [Int.natCast_pow, Int.pow_add]
    rfl
  exact (Int.toNat_lt (mul_nonneg' hl hm i)).2 (by rw [h5]; exact h4)
theorem big_sign {s t : Bool} {l m : List Int} (h : Big s l) (k : Big t m) : (big s l * big t m).natAbs = (val l * val m).toNat ∧ (decide (big s l * big t m < 0) = ((!s == t) && decide ((0 : Int) < ((digs (val l * val m).toNat).length : Int)))) := by
  have hP : 0 ≤ val l * val m := Int.mul_nonneg (val_nonneg h.1.dig) (val_nonneg k.1.dig)
  have hlen : (0 : Int) < ((digs (val l * val m).toNat).length : Int) ↔ val l * val m ≠ 0 := by
    have h1 := @digs_nil (val l * val m).toNat
    have h2 := @List.length_eq_zero_iff _ (digs (val l * val m).toNat)
    rw [← h2] at h1
    omega
  have ed : decide ((0 : Int) < ((digs (val l * val m).toNat).length : Int)) = decide (val l * val m ≠ 0) := decide_eq_decide.2 hlen
  rw [ed]
  cases s <;> cases t <;> simp only [big, if_true, Int.neg_mul, Int.mul_neg, Int.neg_neg, Bool.false_eq_true, if_false]
  · exact ⟨by omega, by simp; omega⟩
  · refine ⟨by omega, ?_⟩
    show decide (-(val l * val m) < 0) = decide (val l * val m ≠ 0)
    exact decide_eq_decide.2 (by omega)
  · refine ⟨by omega, ?_⟩
    show decide (-(val l * val m) < 0) = decide (val l * val m ≠ 0)
    exact decide_eq_decide.2 (by omega)
  · exact ⟨by omega, by simp; omega⟩
noncomputable def env_times (s t : Bool) (l m : List Int) : Env where
  P := Tryz.prog
  ty := tys0
  specs := specsOf [sp_trim, sp_more]
  frz := fun | 66 => true | 67 => true | _ => false
  heads := fun
    | 3 => some { slots := [(6, .int .i64), (5, .list .part I), (7, .any), (8, .any), (9, .any), (10, .any), (11, .any)], boxes := [], keep := [2, 3, 4], inv := fun _ (x : Int × List Int × Unit × Unit × Unit × Unit × Unit × Unit) => 0 ≤ x.1 ∧ x.1 ≤ m.length ∧ x.2.1 = digs (val l * val (m.take x.1.toNat)).toNat, measure := fun _ (x : Int × List Int × Unit × Unit × Unit × Unit × Unit × Unit) => (m.length - x.1).toNat }
    | 7 => some { slots := [(8, .int .i64), (7, .slc 5000 I)], boxes := [], keep := [2, 3, 4], inv := fun st (x : Int × List Int × Unit) => 0 ≤ x.1 ∧ x.1 ≤ st.int 6 ∧ x.2.1 = List.replicate x.1.toNat 0, measure := fun st (x : Int × List Int × Unit) => (st.int 6 - x.1).toNat }
    | 12 => some { slots := [(10, .int .i64), (9, .int .i64), (7, .slc 5001 I), (11, .any)], boxes := [], keep := [2, 3, 4], inv := fun st (x : Int × Int × List Int × Unit × Unit) => RowInv l (st.int 6).toNat (at0 m (st.int 6).toNat) x.1 x.2.1 x.2.2.1, measure := fun _ (x : Int × Int × List Int × Unit × Unit) => 10 * (l.length + 1 - x.1).toNat + x.2.1.toNat }
    | _ => none
  joins := fun
    | 19 => some { slots := [(7, .list .part I)], boxes := [], keep := [2, 3, 4], inv := fun st (x : List Int × Unit) => Dig x.1 ∧ val x.1 = 10 ^ (st.int 6).toNat * (at0 m (st.int 6).toNat * val l) ∧ x.1.length ≤ 300000 }
    | 17 => some { slots := [(11, .int .i64)], boxes := [], keep := [2, 3, 4, 5001], inv := fun st (x : Int × Unit) => x.1 = st.int 9 + at0 l (st.int 10).toNat * at0 m (st.int 6).toNat }
    | _ => none
abbrev ann_times : Ann := { slots := numP 0 [.bool, .list .part I], boxes := [], inv := fun _ _ => True }
noncomputable def g_times (s t : Bool) (l m : List Int) : Prop := vc (env_times s t l m) (codeOf Tryz.f52) (start0 Tryz.f52 [.agg [.bool s, .list .part I l], .agg [.bool t, .list .part I m]]) (exitG (env_times s t l m).P Tryz.f52.results.toList [some 2] (env_times s t l m).pins ann_times (decide (big s l * big t m < 0), digs (big s l * big t m).natAbs, ()))
def g_times_vc (s : Bool) (t : Bool) (l : List Int) (m : List Int) : Prop :=
  ((some (Obj.box [V.bool s, V.list LK.part I l]) = some (Obj.box [V.bool s, V.list LK.part I l]) ∧ some (Obj.box [V.bool t, V.list LK.part I m]) = some (Obj.box [V.bool t, V.list LK.part I m]) ∧ some (Obj.box [V.kb false, V.nils]) = some (Obj.box [V.kb false, V.nils]) ∧ True) ∧ (0 : Int) ≤ (0 : Int) ∧ (0 : Int) ≤ (↑m.length : Int) ∧ [] = digs (val l * val (List.take (Int.toNat (0 : Int)) m)).toNat) ∧ ∀ (x : Int × List Int × Unit × Unit × Unit × Unit × Unit × Unit), (0 : Int) ≤ x.fst ∧ x.fst ≤ (↑m.length : Int) ∧ x.snd.fst = digs (val l * val (List.take x.fst.toNat m)).toNat → (decide (x.fst < (↑m.length : Int)) = true → ((some (Obj.box [V.bool s, V.list LK.part I l]) = some (Obj.box [V.bool s, V.list LK.part I l]) ∧ some (Obj.box [V.bool t, V.list LK.part I m]) = some (Obj.box [V.bool t, V.list LK.part I m]) ∧ some (Obj.box [V.kb false, V.nils]) = some (Obj.box [V.kb false, V.nils]) ∧ True) ∧ (0 : Int) ≤ (0 : Int) ∧ (0 : Int) ≤ x.fst ∧ [] = List.replicate (Int.toNat (0 : Int)) (0 : Int)) ∧ ∀ (x_1 : Int × List Int × Unit), (0 : Int) ≤ x_1.fst ∧ x_1.fst ≤ x.fst ∧ x_1.snd.fst = List.replicate x_1.fst.toNat (0 : Int) → (decide (x_1.fst < x.fst) = true → ((x_1.snd.fst.length + (1 : Nat)) * (8 : Nat) ≤ (140737488355328 : Nat) ∧ x_1.snd.fst.length + (1 : Nat) ≤ (4611686018427387904 : Nat)) ∧ ((-9223372036854775808 : Int) ≤ x_1.fst + (1 : Int) ∧ x_1.fst + (1 : Int) ≤ (9223372036854775807 : Int)) ∧ (some (Obj.box [V.bool s, V.list LK.part I l]) = some (Obj.box [V.bool s, V.list LK.part I l]) ∧ some (Obj.box [V.bool t, V.list LK.part I m]) = some (Obj.box [V.bool t, V.list LK.part I m]) ∧ some (Obj.box [V.kb false, V.nils]) = some (Obj.box [V.kb false, V.nils]) ∧ True) ∧ ((0 : Int) ≤ x_1.fst + (1 : Int) ∧ x_1.fst + (1 : Int) ≤ x.fst ∧ x_1.snd.fst ++ [(0 : Int)] = List.replicate (x_1.fst + (1 : Int)).toNat (0 : Int)) ∧ (x.fst - (x_1.fst + (1 : Int))).toNat < (x.fst - x_1.fst).toNat) ∧ (decide (x_1.fst < x.fst) = false → (((some (Obj.box [V.bool s, V.list LK.part I l]) = some (Obj.box [V.bool s, V.list LK.part I l]) ∧ some (Obj.box [V.bool t, V.list LK.part I m]) = some (Obj.box [V.bool t, V.list LK.part I m]) ∧ some (Obj.box [V.kb false, V.nils]) = some (Obj.box [V.kb false, V.nils]) ∧ True) ∧ RowInv l x.fst.toNat (at0 m x.fst.toNat) (0 : Int) (0 : Int) x_1.snd.fst) ∧ ∀ (x_2 : Int × Int × List Int × Unit × Unit), RowInv l x.fst.toNat (at0 m x.fst.toNat) x_2.fst x_2.snd.fst x_2.snd.snd.fst → (decide (x_2.fst < (↑l.length : Int)) = false → (decide ((0 : Int) < x_2.snd.fst) = true → ((decide (x_2.fst < (↑l.length : Int)) = true → ((0 : Int) ≤ x_2.fst ∧ x_2.fst < (↑l.length : Int)) ∧ ∀ (x_3 : Int), l[x_2.fst.toNat]? = some x_3 → ((0 : Int) ≤ x.fst ∧ x.fst < (↑m.length : Int)) ∧ ∀ (x_4 : Int), m[x.fst.toNat]? = some x_4 → ((-9223372036854775808 : Int) ≤ x_3 * x_4 ∧ x_3 * x_4 ≤ (9223372036854775807 : Int)) ∧ ((-9223372036854775808 : Int) ≤ x_2.snd.fst + x_3 * x_4 ∧ x_2.snd.fst + x_3 * x_4 ≤ (9223372036854775807 : Int)) ∧ (some (Obj.box [V.bool s, V.list LK.part I l]) = some (Obj.box [V.bool s, V.list LK.part I l]) ∧ some (Obj.box [V.bool t, V.list LK.part I m]) = some (Obj.box [V.bool t, V.list LK.part I m]) ∧ some (Obj.box [V.kb false, V.nils]) = some (Obj.box [V.kb false, V.nils]) ∧ some (Obj.arr (0 : Nat) I x_2.snd.snd.fst) = some (Obj.arr (0 : Nat) I x_2.snd.snd.fst) ∧ True) ∧ x_2.snd.fst + x_3 * x_4 = x_2.snd.fst + at0 l x_2.fst.toNat * at0 m x.fst.toNat) ∧ (decide (x_2.fst < (↑l.length : Int)) = false → (some (Obj.box [V.bool s, V.list LK.part I l]) = some (Obj.box [V.bool s, V.list LK.part I l]) ∧ some (Obj.box [V.bool t, V.list LK.part I m]) = some (Obj.box [V.bool t, V.list LK.part I m]) ∧ some (Obj.box [V.kb false, V.nils]) = some (Obj.box [V.kb false, V.nils]) ∧ some (Obj.arr (0 : Nat) I x_2.snd.snd.fst) = some (Obj.arr (0 : Nat) I x_2.snd.snd.fst) ∧ True) ∧ x_2.snd.fst = x_2.snd.fst + at0 l x_2.fst.toNat * at0 m x.fst.toNat)) ∧ ∀ (x_3 : Int × Unit), x_3.fst = x_2.snd.fst + at0 l x_2.fst.toNat * at0 m x.fst.toNat → (10 : Int) ≠ (0 : Int) ∧ ((x_2.snd.snd.fst.length + (1 : Nat)) * (8 : Nat) ≤ (140737488355328 : Nat) ∧ x_2.snd.snd.fst.length + (1 : Nat) ≤ (4611686018427387904 : Nat)) ∧ (10 : Int) ≠ (0 : Int) ∧ ((-9223372036854775808 : Int) ≤ x_3.fst.tdiv (10 : Int) ∧ x_3.fst.tdiv (10 : Int) ≤ (9223372036854775807 : Int)) ∧ ((-9223372036854775808 : Int) ≤ x_2.fst + (1 : Int) ∧ x_2.fst + (1 : Int) ≤ (9223372036854775807 : Int)) ∧ (some (Obj.box [V.bool s, V.list LK.part I l]) = some (Obj.box [V.bool s, V.list LK.part I l]) ∧ some (Obj.box [V.bool t, V.list LK.part I m]) = some (Obj.box [V.bool t, V.list LK.part I m]) ∧ some (Obj.box [V.kb false, V.nils]) = some (Obj.box [V.kb false, V.nils]) ∧ True) ∧ RowInv l x.fst.toNat (at0 m x.fst.toNat) (x_2.fst + (1 : Int)) (x_3.fst.tdiv (10 : Int)) (x_2.snd.snd.fst ++ [x_3.fst.tmod (10 : Int)]) ∧ (10 : Nat) * ((↑l.length : Int) + (1 : Int) - (x_2.fst + (1 : Int))).toNat + (x_3.fst.tdiv (10 : Int)).toNat < (10 : Nat) * ((↑l.length : Int) + (1 : Int) - x_2.fst).toNat + x_2.snd.fst.toNat) ∧ (decide ((0 : Int) < x_2.snd.fst) = false → (some (Obj.box [V.bool s, V.list LK.part I l]) = some (Obj.box [V.bool s, V.list LK.part I l]) ∧ some (Obj.box [V.bool t, V.list LK.part I m]) = some (Obj.box [V.bool t, V.list LK.part I m]) ∧ some (Obj.box [V.kb false, V.nils]) = some (Obj.box [V.kb false, V.nils]) ∧ True) ∧ Dig x_2.snd.snd.fst ∧ val x_2.snd.snd.fst = (10 : Int) ^ x.fst.toNat * (at0 m x.fst.toNat * val l) ∧ x_2.snd.snd.fst.length ≤ (300000 : Nat))) ∧ (decide (x_2.fst < (↑l.length : Int)) = !false → ((decide (x_2.fst < (↑l.length : Int)) = true → ((0 : Int) ≤ x_2.fst ∧ x_2.fst < (↑l.length : Int)) ∧ ∀ (x_3 : Int), l[x_2.fst.toNat]? = some x_3 → ((0 : Int) ≤ x.fst ∧ x.fst < (↑m.length : Int)) ∧ ∀ (x_4 : Int), m[x.fst.toNat]? = some x_4 → ((-9223372036854775808 : Int) ≤ x_3 * x_4 ∧ x_3 * x_4 ≤ (9223372036854775807 : Int)) ∧ ((-9223372036854775808 : Int) ≤ x_2.snd.fst + x_3 * x_4 ∧ x_2.snd.fst + x_3 * x_4 ≤ (9223372036854775807 : Int)) ∧ (some (Obj.box [V.bool s, V.list LK.part I l]) = some (Obj.box [V.bool s, V.list LK.part I l]) ∧ some (Obj.box [V.bool t, V.list LK.part I m]) = some (Obj.box [V.bool t, V.list LK.part I m]) ∧ some (Obj.box [V.kb false, V.nils]) = some (Obj.box [V.kb false, V.nils]) ∧ some (Obj.arr (0 : Nat) I x_2.snd.snd.fst) = some (Obj.arr (0 : Nat) I x_2.snd.snd.fst) ∧ True) ∧ x_2.snd.fst + x_3 * x_4 = x_2.snd.fst + at0 l x_2.fst.toNat * at0 m x.fst.toNat) ∧ (decide (x_2.fst < (↑l.length : Int)) = false → (some (Obj.box [V.bool s, V.list LK.part I l]) = some (Obj.box [V.bool s, V.list LK.part I l]) ∧ some (Obj.box [V.bool t, V.list LK.part I m]) = some (Obj.box [V.bool t, V.list LK.part I m]) ∧ some (Obj.box [V.kb false, V.nils]) = some (Obj.box [V.kb false, V.nils]) ∧ some (Obj.arr (0 : Nat) I x_2.snd.snd.fst) = some (Obj.arr (0 : Nat) I x_2.snd.snd.fst) ∧ True) ∧ x_2.snd.fst = x_2.snd.fst + at0 l x_2.fst.toNat * at0 m x.fst.toNat)) ∧ ∀ (x_3 : Int × Unit), x_3.fst = x_2.snd.fst + at0 l x_2.fst.toNat * at0 m x.fst.toNat → (10 : Int) ≠ (0 : Int) ∧ ((x_2.snd.snd.fst.length + (1 : Nat)) * (8 : Nat) ≤ (140737488355328 : Nat) ∧ x_2.snd.snd.fst.length + (1 : Nat) ≤ (4611686018427387904 : Nat)) ∧ (10 : Int) ≠ (0 : Int) ∧ ((-9223372036854775808 : Int) ≤ x_3.fst.tdiv (10 : Int) ∧ x_3.fst.tdiv (10 : Int) ≤ (9223372036854775807 : Int)) ∧ ((-9223372036854775808 : Int) ≤ x_2.fst + (1 : Int) ∧ x_2.fst + (1 : Int) ≤ (9223372036854775807 : Int)) ∧ (some (Obj.box [V.bool s, V.list LK.part I l]) = some (Obj.box [V.bool s, V.list LK.part I l]) ∧ some (Obj.box [V.bool t, V.list LK.part I m]) = some (Obj.box [V.bool t, V.list LK.part I m]) ∧ some (Obj.box [V.kb false, V.nils]) = some (Obj.box [V.kb false, V.nils]) ∧ True) ∧ RowInv l x.fst.toNat (at0 m x.fst.toNat) (x_2.fst + (1 : Int)) (x_3.fst.tdiv (10 : Int)) (x_2.snd.snd.fst ++ [x_3.fst.tmod (10 : Int)]) ∧ (10 : Nat) * ((↑l.length : Int) + (1 : Int) - (x_2.fst + (1 : Int))).toNat + (x_3.fst.tdiv (10 : Int)).toNat < (10 : Nat) * ((↑l.length : Int) + (1 : Int) - x_2.fst).toNat + x_2.snd.fst.toNat)) ∧ ∀ (x_2 : List Int × Unit), Dig x_2.fst ∧ val x_2.fst = (10 : Int) ^ x.fst.toNat * (at0 m x.fst.toNat * val l) ∧ x_2.fst.length ≤ (300000 : Nat) → (Dig x_2.fst ∧ x_2.fst.length ≤ (1000000000 : Nat)) ∧ (Dig x.snd.fst ∧ Dig (digs (val x_2.fst).toNat) ∧ x.snd.fst.length ≤ (100000000 : Nat) ∧ (digs (val x_2.fst).toNat).length ≤ (100000000 : Nat)) ∧ ((-9223372036854775808 : Int) ≤ x.fst + (1 : Int) ∧ x.fst + (1 : Int) ≤ (9223372036854775807 : Int)) ∧ (some (Obj.box [V.bool s, V.list LK.part I l]) = some (Obj.box [V.bool s, V.list LK.part I l]) ∧ some (Obj.box [V.bool t, V.list LK.part I m]) = some (Obj.box [V.bool t, V.list LK.part I m]) ∧ some (Obj.box [V.kb false, V.nils]) = some (Obj.box [V.kb false, V.nils]) ∧ True) ∧ ((0 : Int) ≤ x.fst + (1 : Int) ∧ x.fst + (1 : Int) ≤ (↑m.length : Int) ∧ digs (val x.snd.fst + val (digs (val x_2.fst).toNat)).toNat = digs (val l * val (List.take (x.fst + (1 : Int)).toNat m)).toNat) ∧ ((↑m.length : Int) - (x.fst + (1 : Int))).toNat < ((↑m.length : Int) - x.fst).toNat)) ∧ (decide (x.fst < (↑m.length : Int)) = false → ((!s == t) = true → True ∧ (decide ((0 : Int) < (↑x.snd.fst.length : Int)), x.snd.fst, ()) = (decide (big s l * big t m < (0 : Int)), digs (big s l * big t m).natAbs, ())) ∧ ((!s == t) = !true → True ∧ (false, x.snd.fst, ()) = (decide (big s l * big t m < (0 : Int)), digs (big s l * big t m).natAbs, ())))
theorem g_times_eq (s t : Bool) (l m : List Int) : g_times s t l m = g_times_vc s t l m := by kernel_rfl
theorem times_body {l o : List Int} {i : Nat} {d k c n : Int} (hl : Dig l) (ll : l.length ≤ 100000) (hi : i ≤ 100000) (h : RowInv l i d k c o) (hd : 0 ≤ d ∧ d ≤ 9) (hc : k < l.length ∨ 0 < c) (hn : n = c + at0 l k.toNat * d) :
    ((o.length + 1) * 8 ≤ 140737488355328 ∧ o.length + 1 ≤ 4611686018427387904) ∧ (-9223372036854775808 ≤ n.tdiv 10 ∧ n.tdiv 10 ≤ 9223372036854775807) ∧ (-9223372036854775808 ≤ k + 1 ∧ k + 1 ≤ 9223372036854775807) ∧
      RowInv l i d (k + 1) (n.tdiv 10) (o ++ [n.tmod 10]) ∧ 10 * ((l.length : Int) + 1 - (k + 1)).toNat + (n.tdiv 10).toNat < 10 * ((l.length : Int) + 1 - k).toNat + c.toNat := by
  have hs := row_step hl h hd hc hn
  obtain ⟨s1, s2, s3, s4, s5, s6, s7, s8⟩ := hs
  obtain ⟨h1, h2, h3, h4, h5, h6, h7, h8⟩ := h
  exact ⟨by omega, by omega, by omega, ⟨s1, s2, s3, s4, s5, s6, s7, s8⟩, by omega⟩
theorem times_prod {l m : List Int} {i j : Nat} {p q : Int} (hl : Dig l) (hm : Dig m) (hp : l[i]? = some p) (hq : m[j]? = some q) : 0 ≤ p * q ∧ p * q ≤ 81 ∧ p * q = at0 l i * at0 m j := by
  have a := dig_get hl hp
  have b := dig_get hm hq
  have p1 : 0 ≤ p * q := Int.mul_nonneg a.1 b.1
  have p2 : p * q ≤ 9 * 9 := Int.mul_le_mul a.2 b.2 b.1 (by omega)
  exact ⟨p1, by omega, by rw [at0_some hp, at0_some hq]⟩
theorem g_times_ok (s t : Bool) (l m : List Int) (h : Big s l ∧ Big t m ∧ l.length ≤ 100000 ∧ m.length ≤ 100000) : g_times_vc s t l m := by
  obtain ⟨hl, hm, ll, lm⟩ := h
  have dl := hl.1.dig
  have dm := hm.1.dig
  unfold g_times_vc
  simp only [decide_eq_true_eq, decide_eq_false_iff_not, Bool.not_false]
  refine ⟨⟨⟨by trivial, by trivial, by trivial, by trivial⟩, by omega, by omega, by simp [val, digs_zero]⟩, fun x hx => ⟨fun c => ?_, fun c => ?_⟩⟩
  · obtain ⟨x1, x2, x3⟩ := hx
    have hd := at0_dig dm x.1.toNat
    refine ⟨⟨⟨by trivial, by trivial, by trivial, by trivial⟩, by omega, by omega, by trivial⟩, fun y hy => ⟨fun d => ?_, fun d => ⟨⟨⟨⟨by trivial, by trivial, by trivial, by trivial⟩, ?_⟩, fun z hz => ?_⟩, fun u hu => ?_⟩⟩⟩
    · have yl : y.2.1.length ≤ 100000 := by rw [hy.2.2, List.length_replicate]; omega
      refine ⟨⟨by omega, by omega⟩, by omega, ⟨by trivial, by trivial, by trivial, by trivial⟩, ⟨by omega, by omega, ?_⟩, by omega⟩
      rw [hy.2.2, toNat_next hy.1, List.replicate_succ']
    · have e : y.1 = x.1 := by omega
      rw [hy.2.2, e]
      exact row_0 l _ _
    · have hz' := hz
      obtain ⟨z1, z2, z3, z4, z5, z6, z7, z8⟩ := hz'
      refine ⟨fun e => ⟨fun f => ⟨⟨fun g => absurd g e, fun g => ⟨⟨by trivial, by trivial, by trivial, by trivial, by trivial⟩, ?_⟩⟩, fun n hn => ?_⟩, fun f => ?_⟩, fun e => ⟨⟨fun g => ⟨⟨z1, g⟩, fun p hp => ⟨⟨x1, c⟩, fun q hq => ?_⟩⟩, fun g => absurd e g⟩, fun n hn => ?_⟩⟩
      · rw [at0_none (by omega), Int.zero_mul, Int.add_zero]
      · obtain ⟨b1, b2, b3, b4, b5⟩ := times_body dl ll (by omega) hz hd (.inr f) hn
        exact ⟨by omega, b1, by omega, b2, b3, ⟨by trivial, by trivial, by trivial, by trivial⟩, b4, b5⟩
      · obtain ⟨r1, r2, r3⟩ := row_end hz e f
        exact ⟨⟨by trivial, by trivial, by trivial, by trivial⟩, r1, r2, by omega⟩
      · obtain ⟨p1, p2, p3⟩ := times_prod dl dm hp hq
        exact ⟨by omega, by omega, ⟨by trivial, by trivial, by trivial, by trivial, by trivial⟩, by rw [p3]⟩
      · obtain ⟨b1, b2, b3, b4, b5⟩ := times_body dl ll (by omega) hz hd (.inl e) hn
        exact ⟨by omega, b1, by omega, b2, b3, ⟨by trivial, by trivial, by trivial, by trivial⟩, b4, b5⟩
    · obtain ⟨u1, u2, u3⟩ := hu
      have n1 := mul_nonneg' dl dm x.1.toNat
      have n2 := val_nonneg u1
      have l1 := mul_len dl dm x.1.toNat
      have l2 : (digs (val u.1).toNat).length ≤ u.1.length := by
        refine digs_len ?_
        have := val_lt u1
        exact (Int.toNat_lt n2).2 (by rw [Int.natCast_pow]; exact this)
      refine ⟨⟨u1, by omega⟩, ⟨by rw [x3]; exact digs_dig _, digs_dig _, by rw [x3]; omega, by omega⟩, by omega, ⟨by trivial, by trivial, by trivial, by trivial⟩, ⟨by omega, by omega, ?_⟩, by omega⟩
      rw [x3, val_digs, val_digs, toNat_next x1, mul_take, ← u2]
      congr 1
      omega
  · have e : x.2.1 = digs (val l * val m).toNat := by rw [hx.2.2, List.take_of_length_le (by omega)]
    obtain ⟨b1, b2⟩ := big_sign hl hm
    rw [e, b1, b2]
    refine ⟨fun d => ⟨trivial, ?_⟩, fun d => ⟨trivial, ?_⟩⟩
    · rw [d, Bool.true_and]
    · rw [d]
      rfl
set_option maxRecDepth 20000 in
theorem times_pure (s t : Bool) (l m : List Int) (h : Big s l ∧ Big t m ∧ l.length ≤ 100000 ∧ m.length ≤ 100000) : Pure Tryz.prog 52 [.agg [.bool s, .list .part I l], .agg [.bool t, .list .part I m]] (.agg [.bool (decide (big s l * big t m < 0)), .list .part I (digs (big s l * big t m).natAbs)]) :=
  Pure.of_gG (E := env_times s t l m) (sh := [some 2]) (ann := ann_times) (x := (decide (big s l * big t m < 0), digs (big s l * big t m).natAbs, ())) (fn := Tryz.f52) (c := codeOf Tryz.f52) (specs_ok (P := Tryz.prog) rfl [sp_trim, sp_more] [] rfl rfl) mixed Tryz.func52 rfl rfl rfl rfl rfl (g := g_times s t l m) (by delta g_times start0; first | with_reducible exact Eq.refl _ | exact Eq.refl _) (by rw [g_times_eq s t l m]; exact g_times_ok s t l m h)
noncomputable def q_times (s t : Bool) (l m : List Int) : Prop × V := (Big s l ∧ Big t m ∧ l.length ≤ 100000 ∧ m.length ≤ 100000, (.agg [.bool (decide (big s l * big t m < 0)), .list .part I (digs (big s l * big t m).natAbs)]))
noncomputable def sp_times : FSpec Tryz.prog where
  f := 52
  run := fun args => match args with
    | [.agg [v0_0, v0_1], .agg [v1_0, v1_1]] => (match boolOf v0_0 with | some s => (match (asP I v0_1 : Option (List Int)) with | some l => (match boolOf v1_0 with | some t => (match (asP I v1_1 : Option (List Int)) with | some m => some (q_times s t l m) | none => none) | none => none) | none => none) | none => none)
    | _ => none
  ok := fun args pre r h hp => by
    try dsimp only at h
    split at h
    · rename_i v0_0 v0_1 v1_0 v1_1
      cases h0_0 : boolOf v0_0 with
      | none => rw [h0_0] at h; cases h
      | some s =>
      rw [h0_0] at h
      try dsimp only at h
      cases h0_1 : (asP I v0_1 : Option (List Int)) with
      | none => rw [h0_1] at h; cases h
      | some l =>
      rw [h0_1] at h
      try dsimp only at h
      cases h1_0 : boolOf v1_0 with
      | none => rw [h1_0] at h; cases h
      | some t =>
      rw [h1_0] at h
      try dsimp only at h
      cases h1_1 : (asP I v1_1 : Option (List Int)) with
      | none => rw [h1_1] at h; cases h
      | some m =>
      rw [h1_1] at h
      try dsimp only at h
      have h := Option.some.inj h
      unfold q_times at h
      cases h
      exact (times_pure s t l m hp).weak (.cons (Weak.agg (.cons (boolOf_weak h0_0) (.cons (asP_weak h0_1) .nil))) (.cons (Weak.agg (.cons (boolOf_weak h1_0) (.cons (asP_weak h1_1) .nil))) .nil))
    · cases h

end Go.Proofs.YtemgelifnjefoaaGreatDoor
