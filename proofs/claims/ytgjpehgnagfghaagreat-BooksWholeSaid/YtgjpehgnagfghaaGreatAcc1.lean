/-
  account: the tree's ways up, and whether they come round: plain laws.
-/
import Derived.Test.YtgjpehgnagfghaaGreatSeat
namespace Go.Proofs.YtgjpehgnagfghaaGreat.Acc
open Go.Vm
abbrev AcD := Int × Int × Bool × Bool
def isIn (l : List AcD) (a : Int) : Prop := 1 ≤ a ∧ a ≤ l.length
instance (l : List AcD) (a : Int) : Decidable (isIn l a) := by unfold isIn; infer_instance
def parA (l : List AcD) (a : Int) : Int := ((l[(a - 1).toNat]?).map (·.1)).getD 0
theorem parA_at {l : List AcD} {a : Int} {x : AcD} (h : l[(a - 1).toNat]? = some x) : parA l a = x.1 := by unfold parA; rw [h]; rfl
def upGo (l : List AcD) (a : Int) : Nat → Int → List Int → List Int
  | 0, _, out => out
  | n + 1, p, out => if isIn l p ∧ p ≠ a ∧ p ∉ out then upGo l a n (parA l p) (out ++ [p]) else out
def upF (l : List AcD) (a : Int) : List Int := if isIn l a then upGo l a (l.length + 1) (parA l a) [] else []
def rndGo (l : List AcD) (a : Int) : Nat → Int → Int
  | 0, p => p
  | n + 1, p => if parA l p = a ∨ ¬ isIn l (parA l p) then parA l p else rndGo l a n (parA l p)
def roundF (l : List AcD) (a : Int) : Bool := decide (rndGo l a l.length a = a)
def roundR (l : List AcD) (a : Int) : Bool := decide (parA l ((upF l a).getLast?.getD a) = a)
theorem nodup_le : ∀ (n : Nat) (out : List Int), out.Nodup → (∀ x ∈ out, 1 ≤ x ∧ x ≤ n) → out.length ≤ n
  | 0, out, _, hb => by
    cases out with
    | nil => simp
    | cons x r => have := hb x (by simp); omega
  | n + 1, out, hd, hb => by
    by_cases h : ((n + 1 : Nat) : Int) ∈ out
    · have h1 := nodup_le n (out.erase ((n + 1 : Nat) : Int)) (hd.erase _) (fun x hx => by
        have h2 := hb x (List.mem_of_mem_erase hx)
        have h3 : x ≠ ((n + 1 : Nat) : Int) := ((hd.mem_erase_iff).1 hx).1
        omega)
      rw [List.length_erase_of_mem h] at h1
      omega
    · have := nodup_le n out hd (fun x hx => by
        have h2 := hb x hx
        have h3 : x ≠ ((n + 1 : Nat) : Int) := fun e => h (e ▸ hx)
        omega)
      omega
def it (l : List AcD) (a : Int) : Nat → Int
  | 0 => a
  | k + 1 => parA l (it l a k)
def its (l : List AcD) (a : Int) (m : Nat) : List Int := (List.range m).map fun i => it l a (i + 1)
theorem its_succ (l : List AcD) (a : Int) (m : Nat) : its l a (m + 1) = its l a m ++ [it l a (m + 1)] := by
  unfold its
  rw [List.range_succ, List.map_append]
  rfl
theorem mem_its {l : List AcD} {a x : Int} {m : Nat} : x ∈ its l a m ↔ ∃ i, i < m ∧ it l a (i + 1) = x := by
  unfold its
  simp
structure Way (l : List AcD) (a : Int) (m : Nat) : Prop where
  dup : (its l a m).Nodup
  inn : ∀ x ∈ its l a m, isIn l x ∧ x ≠ a
theorem Way.len {l : List AcD} {a : Int} {m : Nat} (h : Way l a m) (ha : isIn l a) : m + 1 ≤ l.length := by
  have h1 : (a :: its l a m).Nodup := List.nodup_cons.2 ⟨fun k => (h.inn a k).2 rfl, h.dup⟩
  have h2 := nodup_le l.length (a :: its l a m) h1 (fun x hx => by
    rcases List.mem_cons.1 hx with rfl | hx
    · exact ha
    · exact (h.inn x hx).1)
  simp [its] at h2
  omega
theorem Way.next {l : List AcD} {a : Int} {m : Nat} (h : Way l a m) (h1 : isIn l (it l a (m + 1))) (h2 : it l a (m + 1) ≠ a) (h3 : it l a (m + 1) ∉ its l a m) : Way l a (m + 1) := by
  refine ⟨?_, fun x hx => ?_⟩
  · rw [its_succ]
    exact List.nodup_append.2 ⟨h.dup, by simp, fun x hx y hy => by
      rw [List.mem_singleton.1 hy]
      exact fun e => h3 (e ▸ hx)⟩
  · rw [its_succ, List.mem_append, List.mem_singleton] at hx
    rcases hx with hx | rfl
    · exact h.inn x hx
    · exact ⟨h1, h2⟩
theorem Way.zero (l : List AcD) (a : Int) : Way l a 0 := ⟨by simp [its], fun x hx => by simp [its] at hx⟩
theorem up_way {l : List AcD} {a : Int} (ha : isIn l a) : ∀ (n m : Nat), l.length ≤ m + n → Way l a m →
    ∃ k, upGo l a (n + 1) (it l a (m + 1)) (its l a m) = its l a k ∧ Way l a k ∧ ¬ (isIn l (it l a (k + 1)) ∧ it l a (k + 1) ≠ a ∧ it l a (k + 1) ∉ its l a k)
  | 0, m, hn, hw => by
    have := hw.len ha
    omega
  | n + 1, m, hn, hw => by
    rw [upGo]
    by_cases c : isIn l (it l a (m + 1)) ∧ it l a (m + 1) ≠ a ∧ it l a (m + 1) ∉ its l a m
    · rw [if_pos c, ← its_succ]
      exact up_way ha n (m + 1) (by omega) (hw.next c.1 c.2.1 c.2.2)
    · rw [if_neg c]
      exact ⟨m, rfl, hw, c⟩
theorem up_its {l : List AcD} {a : Int} (ha : isIn l a) : ∃ k, upF l a = its l a k ∧ Way l a k ∧ ¬ (isIn l (it l a (k + 1)) ∧ it l a (k + 1) ≠ a ∧ it l a (k + 1) ∉ its l a k) := by
  unfold upF
  rw [if_pos ha]
  exact up_way ha l.length 0 (by omega) (.zero l a)
theorem rnd_it {l : List AcD} {a : Int} : ∀ (n j : Nat), (∃ k, j < k ∧ k ≤ j + n ∧ rndGo l a n (it l a j) = it l a k ∧ (it l a k = a ∨ ¬ isIn l (it l a k)) ∧ ∀ i, j < i → i < k → it l a i ≠ a ∧ isIn l (it l a i)) ∨
    (rndGo l a n (it l a j) = it l a (j + n) ∧ ∀ i, j < i → i ≤ j + n → it l a i ≠ a ∧ isIn l (it l a i))
  | 0, j => .inr ⟨rfl, fun i h1 h2 => by omega⟩
  | n + 1, j => by
    have e : parA l (it l a j) = it l a (j + 1) := rfl
    rw [rndGo, e]
    by_cases c : it l a (j + 1) = a ∨ ¬ isIn l (it l a (j + 1))
    · rw [if_pos c]
      exact .inl ⟨j + 1, by omega, by omega, rfl, c, fun i h1 h2 => by omega⟩
    · rw [if_neg c]
      have c2 : it l a (j + 1) ≠ a ∧ isIn l (it l a (j + 1)) := ⟨fun k => c (.inl k), Classical.byContradiction fun k => c (.inr k)⟩
      rcases rnd_it n (j + 1) with ⟨k, k1, k2, k3, k4, k5⟩ | ⟨k1, k2⟩
      · refine .inl ⟨k, by omega, by omega, k3, k4, fun i h1 h2 => ?_⟩
        by_cases hi : i = j + 1
        · subst hi; exact c2
        · exact k5 i (by omega) h2
      · refine .inr ⟨by rw [k1]; congr 1; omega, fun i h1 h2 => ?_⟩
        by_cases hi : i = j + 1
        · subst hi; exact c2
        · exact k2 i (by omega) (by omega)
theorem it_per {l : List AcD} {a : Int} {j d : Nat} (h : it l a (j + d) = it l a j) : ∀ i, j ≤ i → it l a (i + d) = it l a i
  | i, hi => by
    obtain ⟨e, rfl⟩ : ∃ e, i = j + e := ⟨i - j, by omega⟩
    induction e with
    | zero => exact h
    | succ e ih =>
      have := ih (by omega)
      rw [show j + (e + 1) + d = (j + e + d) + 1 by omega, show j + (e + 1) = (j + e) + 1 by omega, it, it, this]
theorem last_its {l : List AcD} {a : Int} (m : Nat) : (its l a m).getLast?.getD a = it l a m := by
  cases m with
  | zero => rfl
  | succ m => rw [its_succ]; simp
theorem round_eq {l : List AcD} {a : Int} (ha : isIn l a) : roundF l a = roundR l a := by
  unfold roundF roundR
  obtain ⟨m, e, hw, hs⟩ := up_its ha
  rw [e, last_its, show parA l (it l a m) = it l a (m + 1) from rfl]
  have hlen := hw.len ha
  have hno : ∀ i, 0 < i → i ≤ m → it l a i ≠ a ∧ isIn l (it l a i) := fun i h0 h1 => by
    have := hw.inn (it l a i) (mem_its.2 ⟨i - 1, by omega, by rw [show i - 1 + 1 = i by omega]⟩)
    exact ⟨this.2, this.1⟩
  congr 1
  refine propext ⟨fun h => ?_, fun h => ?_⟩
  · rcases rnd_it (l := l) (a := a) l.length 0 with ⟨k, k1, k2, k3, k4, k5⟩ | ⟨k1, k2⟩
    · have hk : it l a k = a := k3.symm.trans h
      by_cases e1 : it l a (m + 1) = a
      · exact e1
      · exfalso
        have hkm : m + 1 < k := by
          by_cases h1 : k ≤ m
          · exact absurd hk (hno k k1 h1).1
          · by_cases h2 : k = m + 1
            · exact absurd (h2 ▸ hk) e1
            · omega
        have hin := (k5 (m + 1) (by omega) hkm).2
        have hmem : it l a (m + 1) ∈ its l a m := Classical.byContradiction fun hn => hs ⟨hin, e1, hn⟩
        obtain ⟨j, hj, ej⟩ := mem_its.1 hmem
        have hper := it_per (l := l) (a := a) (j := j + 1) (d := m - j) (by rw [show j + 1 + (m - j) = m + 1 by omega]; exact ej.symm)
        have := hper (k - (m - j)) (by omega)
        rw [show k - (m - j) + (m - j) = k by omega, hk] at this
        exact (k5 (k - (m - j)) (by omega) (by omega)).1 this.symm
    · have hlast := k2 l.length (by omega) (by omega)
      have : rndGo l a l.length a = it l a (0 + l.length) := k1
      rw [this, Nat.zero_add] at h
      exact absurd h hlast.1
  · rcases rnd_it (l := l) (a := a) l.length 0 with ⟨k, k1, k2, k3, k4, k5⟩ | ⟨k1, k2⟩
    · have k3 : rndGo l a l.length a = it l a k := k3
      rw [k3]
      by_cases hkm : k < m + 1
      · have := hno k k1 (by omega)
        rcases k4 with k4 | k4
        · exact absurd k4 this.1
        · exact absurd this.2 k4
      · by_cases hk : k = m + 1
        · rw [hk]; exact h
        · exact absurd h (k5 (m + 1) (by omega) (by omega)).1
    · exact absurd h (k2 (m + 1) (by omega) (by omega)).1
end Go.Proofs.YtgjpehgnagfghaaGreat.Acc
