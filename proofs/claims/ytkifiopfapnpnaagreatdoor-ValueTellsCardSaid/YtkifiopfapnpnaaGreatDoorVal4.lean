/-
  ValueFaults: the walk.
-/
import Derived.Test.YtkifiopfapnpnaaGreatDoorVal3
namespace Go.Proofs.YtkifiopfapnpnaaGreatDoor
open Go.Vm

abbrev sumI (l : List Int) : Int := l.foldl (· + ·) 0
/-- What the first i come to, the first ones and less the others. -/
def partS (l m : List (Int × Int)) (i : Int) : Int := sumI (amts (l.take i.toNat)) - sumI (amts (m.take (i - l.length).toNat))
def InvF (l m : List (Int × Int)) (i : Int) (b : Bool) (d : List Int) : Prop :=
  0 ≤ i ∧ i ≤ l.length + m.length ∧ b = decide (partS l m i < 0) ∧ d = digs (partS l m i).natAbs ∧ firstF 0 ((l ++ m).take i.toNat) = 0
def InVs (l : List (Int × Int)) : Prop := ∀ v ∈ l, InI v.1 ∧ InI v.2
theorem sum_bound : ∀ (l : List Int), (∀ n ∈ l, InI n) → -((l.length : Int) * 9223372036854775808) ≤ sumI l ∧ sumI l ≤ (l.length : Int) * 9223372036854775808
  | [], _ => ⟨by simp, by simp⟩
  | a :: r, h => by
    obtain ⟨h1, h2⟩ := h a (by simp)
    obtain ⟨k1, k2⟩ := sum_bound r (fun n hn => h n (by simp [hn]))
    have e : sumI (a :: r) = a + sumI r := by
      unfold sumI
      rw [List.foldl_cons, fold_sum r (0 + a), Int.zero_add]
    rw [e, List.length_cons]
    refine ⟨by omega, by omega⟩
theorem sum_snoc (l : List Int) (a : Int) : sumI (l ++ [a]) = sumI l + a := by
  unfold sumI
  rw [List.foldl_append]
  rfl
theorem amts_all {l : List (Int × Int)} (h : InVs l) (k : Nat) : ∀ n ∈ amts (l.take k), InI n := by
  intro n hn
  obtain ⟨v, hv, rfl⟩ := List.mem_map.1 hn
  exact (h v (List.mem_of_mem_take hv)).1
theorem part_bound {l m : List (Int × Int)} (hl : InVs l) (hm : InVs m) (h1 : l.length ≤ 100) (h2 : m.length ≤ 100) (i : Int) : -1844674407370955161600 ≤ partS l m i ∧ partS l m i ≤ 1844674407370955161600 := by
  obtain ⟨a1, a2⟩ := sum_bound _ (amts_all hl i.toNat)
  obtain ⟨b1, b2⟩ := sum_bound _ (amts_all hm (i - l.length).toNat)
  have c1 : (amts (l.take i.toNat)).length ≤ 100 := by rw [List.length_map, List.length_take]; omega
  have c2 : (amts (m.take (i - l.length).toNat)).length ≤ 100 := by rw [List.length_map, List.length_take]; omega
  unfold partS
  omega
theorem part_len {l m : List (Int × Int)} (hl : InVs l) (hm : InVs m) (h1 : l.length ≤ 100) (h2 : m.length ≤ 100) (i : Int) : (digs (partS l m i).natAbs).length ≤ 1000000 := by
  obtain ⟨a1, a2⟩ := part_bound hl hm h1 h2 i
  exact Nat.le_trans (digs_len (k := 30) (by omega)) (by decide)
theorem part_stepL {l m : List (Int × Int)} {i : Int} {y : Int × Int} (h0 : 0 ≤ i) (hi : i < l.length) (hy : (l ++ m)[i.toNat]? = some y) : partS l m (i + 1) = partS l m i + y.1 := by
  rw [List.getElem?_append_left (by omega)] at hy
  unfold partS
  rw [show (i + 1).toNat = i.toNat + 1 by omega, List.take_add_one, hy, show (i + 1 - (l.length : Int)).toNat = 0 by omega, show (i - (l.length : Int)).toNat = 0 by omega]
  have : amts (l.take i.toNat ++ (some y).toList) = amts (l.take i.toNat) ++ [y.1] := by unfold amts; rw [List.map_append]; rfl
  rw [this, sum_snoc]
  omega
theorem part_stepM {l m : List (Int × Int)} {i : Int} {y : Int × Int} (hi : ¬ i < l.length) (hy : (l ++ m)[i.toNat]? = some y) : partS l m (i + 1) = partS l m i - y.1 := by
  rw [List.getElem?_append_right (by omega)] at hy
  unfold partS
  rw [show (i + 1 - (l.length : Int)).toNat = (i.toNat - l.length) + 1 by omega, List.take_add_one, hy, show (i - (l.length : Int)).toNat = i.toNat - l.length by omega,
    List.take_of_length_le (l := l) (i := (i + 1).toNat) (by omega), List.take_of_length_le (l := l) (i := i.toNat) (by omega)]
  have : amts (m.take (i.toNat - l.length) ++ (some y).toList) = amts (m.take (i.toNat - l.length)) ++ [y.1] := by unfold amts; rw [List.map_append]; rfl
  rw [this, sum_snoc]
  omega
theorem first_keep {e : Int} (h : e ≠ 0) : ∀ r : List (Int × Int), firstF e r = e
  | [] => rfl
  | v :: r => by
    unfold firstF
    rw [List.foldl_cons, if_neg h]
    exact first_keep h r
theorem first_at {L : List (Int × Int)} {i : Nat} {y : Int × Int} (h : firstF 0 (L.take i) = 0) (hy : L[i]? = some y) : firstF 0 (L.take (i + 1)) = y.2 ∧ (y.2 ≠ 0 → firstF 0 L = y.2) := by
  have e1 : firstF 0 (L.take (i + 1)) = y.2 := by
    rw [List.take_add_one, hy, first_app, h]
    rfl
  refine ⟨e1, fun hn => ?_⟩
  rw [← List.take_append_drop (i + 1) L, first_app, e1, first_keep hn]
theorem invF_next {l m : List (Int × Int)} {i : Int} {b : Bool} {d : List Int} {y : Int × Int} {z : Int} (h : InvF l m i b d) (hy : (l ++ m)[i.toNat]? = some y) (h2 : y.2 = 0) (hz : partS l m (i + 1) = z) :
    InvF l m (i + 1) (decide (z < 0)) (digs z.natAbs) := by
  obtain ⟨h0, _, _, _, hf⟩ := h
  have hlt := (List.getElem?_eq_some_iff.1 hy).1
  rw [List.length_append] at hlt
  refine ⟨by omega, by omega, by rw [hz], by rw [hz], ?_⟩
  rw [show (i + 1).toNat = i.toNat + 1 by omega, (first_at hf hy).1, h2]
theorem vnet_end {l m : List (Int × Int)} (hl : InVs l) (hm : InVs m) (h1 : l.length ≤ 100) (h2 : m.length ≤ 100) {i : Int} (hi : i = l.length + m.length) (hf : firstF 0 ((l ++ m).take i.toNat) = 0) :
    vnetF l m = toldF (intB (partS l m i)) (faultB (partS l m i)) := by
  have ht : (l ++ m).take i.toNat = l ++ m := List.take_of_length_le (by rw [List.length_append]; omega)
  rw [ht] at hf
  obtain ⟨a1, a2⟩ := part_bound hl hm h1 h2 i
  have hs : partS l m i = sumI (amts l) - sumI (amts m) := by
    unfold partS
    rw [List.take_of_length_le (l := l) (i := i.toNat) (by omega), List.take_of_length_le (l := m) (i := (i - l.length).toNat) (by omega)]
  have hn := netF_law (l := amts l) (m := amts m) (by have := amts_all hl l.length; rw [List.take_length] at this; exact this) (by have := amts_all hm m.length; rw [List.take_length] at this; exact this) (partS l m i) hs (by omega)
  unfold vnetF
  rw [if_pos hf, hn]

end Go.Proofs.YtkifiopfapnpnaaGreatDoor
