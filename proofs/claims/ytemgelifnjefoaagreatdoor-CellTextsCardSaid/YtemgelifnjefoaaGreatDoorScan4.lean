/-
  Numerals: the plain laws.
-/
import Derived.Test.YtemgelifnjefoaaGreatDoorScan3
namespace Go.Proofs.YtemgelifnjefoaaGreatDoor
open Go.Vm

def pzStep (n : Int) (c : UInt8) : Int := if isDig c then n * 10 + ((c.toNat : Int) - 48) else n
def pz (s : By) : Int := s.foldl pzStep 0
def pzs (s : By) : Int := if s.head? = some 45 then 0 - pz s else pz s
def AllD (D : By) : Prop := ∀ c ∈ D, isDig c = true
theorem isDig_iff {c : UInt8} : isDig c = true ↔ 48 ≤ c.toNat ∧ c.toNat ≤ 57 := by
  simp only [isDig, Bool.and_eq_true, decide_eq_true_eq]
  omega
theorem pz_snoc (s : By) (c : UInt8) : pz (s ++ [c]) = pzStep (pz s) c := by simp [pz]
theorem pz_take {s : By} {i : Nat} {c : UInt8} (h : s[i]? = some c) : pz (s.take (i + 1)) = pzStep (pz (s.take i)) c := by rw [take_next h, pz_snoc]
theorem fold_bound : ∀ (s : By) (n : Int) (k : Nat), 0 ≤ n → n < 10 ^ k → n ≤ s.foldl pzStep n ∧ s.foldl pzStep n < 10 ^ (k + s.length)
  | [], n, k, h0, h1 => ⟨Int.le_refl _, h1⟩
  | c :: r, n, k, h0, h1 => by
    have e : (10 : Int) ^ (k + 1) = 10 ^ k * 10 := Int.pow_succ ..
    have h2 : n ≤ pzStep n c ∧ pzStep n c < 10 ^ (k + 1) := by
      unfold pzStep
      split
      · rename_i hd
        have := isDig_iff.1 hd
        omega
      · omega
    obtain ⟨k1, k2⟩ := fold_bound r (pzStep n c) (k + 1) (by omega) h2.2
    rw [List.foldl_cons, List.length_cons]
    refine ⟨by omega, ?_⟩
    rw [show k + (r.length + 1) = k + 1 + r.length by omega]
    exact k2
theorem pz_bound (s : By) : 0 ≤ pz s ∧ pz s < 10 ^ s.length := by
  have := fold_bound s 0 0 (by omega) (by omega)
  rw [Nat.zero_add] at this
  exact this
theorem pz_len (s : By) : (digs (pz s).natAbs).length ≤ s.length := by
  obtain ⟨h1, h2⟩ := pz_bound s
  refine digs_len ?_
  have h3 : pz s < ((10 ^ s.length : Nat) : Int) := by rw [Int.natCast_pow]; exact h2
  omega
theorem pz_neg (D : By) : pz (45 :: D) = pz D := by
  unfold pz
  rw [List.foldl_cons]
  rfl
theorem head_app {l m : By} (h : l ≠ []) : (l ++ m).head? = l.head? := by
  cases l with
  | nil => exact absurd rfl h
  | cons x r => rfl
theorem dec_ne (n : Nat) : Lib.decDigits n ≠ [] := by
  intro c
  have h1 := Lib.decDigits_length n
  have h2 := Lib.nDigits_pos n
  rw [c] at h1
  simp at h1
  omega
theorem dec_head {n : Nat} (h : 0 < n) : (Lib.decDigits n).head? ≠ some 48 := by
  induction n using Nat.strongRecOn with
  | _ n ih =>
    by_cases h10 : n < 10
    · rw [Lib.decDigits, dif_pos h10]
      simp only [List.head?_cons, ne_eq, Option.some.injEq]
      intro c
      have := congrArg UInt8.toNat c
      rw [UInt8.toNat_ofNat'] at this
      have e : (48 : UInt8).toNat = 48 := rfl
      omega
    · rw [Lib.decDigits, dif_neg h10]
      rw [head_app (dec_ne _)]
      exact ih (n / 10) (by omega) (by omega)
theorem dec_of : ∀ (n : Nat) (D : By), D.length = n → D ≠ [] → AllD D → (D.head? ≠ some 48 ∨ D.length = 1) → Lib.decDigits (pz D).toNat = D := by
  intro n
  induction n with
  | zero => intro D h1 h2; exact absurd (List.eq_nil_of_length_eq_zero h1) h2
  | succ n ih =>
    intro D hlen hne hD hc
    obtain ⟨D', c, rfl⟩ : ∃ D' c, D = D' ++ [c] := ⟨D.dropLast, D.getLast hne, (List.dropLast_concat_getLast hne).symm⟩
    have hcd := isDig_iff.1 (hD c (by simp))
    have hpc : pz (D' ++ [c]) = pz D' * 10 + ((c.toNat : Int) - 48) := by
      rw [pz_snoc]
      unfold pzStep
      rw [if_pos (isDig_iff.2 hcd)]
    have p0 := (pz_bound D').1
    have ec : ∀ m : Nat, m = c.toNat - 48 → UInt8.ofNat (48 + m) = c := by
      intro m hm
      rw [hm, show 48 + (c.toNat - 48) = c.toNat by omega]
      exact UInt8.ofNat_toNat
    by_cases h' : D' = []
    · subst h'
      have e : pz ([] ++ [c]) = (c.toNat : Int) - 48 := by rw [hpc]; simp [pz]
      rw [e, Lib.decDigits, dif_pos (by omega)]
      simp only [List.nil_append]
      rw [ec _ (by omega)]
    · have hh : D'.head? ≠ some 48 := by
        rcases hc with h | h
        · rw [head_app h'] at h
          exact h
        · have : D'.length ≠ 0 := fun k => h' (List.eq_nil_of_length_eq_zero k)
          simp at h
          exact absurd h h'
      have hi := ih D' (by simpa using hlen) h' (fun x hx => hD x (by simp [hx])) (.inl hh)
      have p1 : 1 ≤ pz D' := by
        by_cases k : pz D' = 0
        · rw [k] at hi
          have : Lib.decDigits (Int.toNat 0) = [48] := by
            rw [Lib.decDigits, dif_pos (by decide)]
            rfl
          rw [this] at hi
          rw [← hi] at hh
          exact absurd rfl hh
        · omega
      rw [hpc, Lib.decDigits, dif_neg (by omega)]
      have e1 : (pz D' * 10 + ((c.toNat : Int) - 48)).toNat / 10 = (pz D').toNat := by omega
      rw [e1, hi, ec _ (by omega)]
theorem dec_iff {D : By} (hne : D ≠ []) (hD : AllD D) : Lib.decDigits (pz D).toNat = D ↔ (D.head? ≠ some 48 ∨ D.length = 1) := by
  refine ⟨fun h => ?_, dec_of _ D rfl hne hD⟩
  by_cases k : (pz D).toNat = 0
  · right
    rw [k] at h
    have : Lib.decDigits 0 = [48] := by
      rw [Lib.decDigits, dif_pos (by decide)]
      rfl
    rw [this] at h
    rw [← h]
    rfl
  · left
    rw [← h]
    exact dec_head (by omega)

/-! What is read. -/
theorem mag_law : ∀ (D : By) (acc : Nat), AllD D → acc < 18446744073709551616 → Lib.parseUint10 acc D = if D.foldl pzStep (acc : Int) < 18446744073709551616 then .ok (D.foldl pzStep (acc : Int)).toNat else .range
  | [], acc, _, h => by
    unfold Lib.parseUint10
    rw [List.foldl_nil, if_pos (by omega)]
    simp
  | c :: r, acc, hD, h => by
    have hd := hD c (by simp)
    have hcd := isDig_iff.1 hd
    have hr : AllD r := fun x hx => hD x (by simp [hx])
    have he : pzStep (acc : Int) c = ((acc * 10 + (c.toNat - 48) : Nat) : Int) := by
      unfold pzStep
      rw [if_pos hd]
      omega
    have hge : ((acc * 10 + (c.toNat - 48) : Nat) : Int) ≤ r.foldl pzStep ((acc * 10 + (c.toNat - 48) : Nat) : Int) := by
      have : ∀ (l : By) (n : Int), 0 ≤ n → n ≤ l.foldl pzStep n := by
        intro l
        induction l with
        | nil => intro n _; exact Int.le_refl _
        | cons x l ih =>
          intro n hn
          have h2 : n ≤ pzStep n x := by
            unfold pzStep
            split
            · rename_i hx
              have := isDig_iff.1 hx
              omega
            · omega
          exact Int.le_trans h2 (ih _ (by omega))
      exact this r _ (by omega)
    rw [List.foldl_cons, he]
    unfold Lib.parseUint10
    rw [if_pos hcd]
    by_cases h1 : 1844674407370955162 ≤ acc
    · rw [if_pos h1, if_neg (by omega)]
    · rw [if_neg h1]
      by_cases h2 : 18446744073709551616 ≤ acc * 10 + (c.toNat - 48)
      · rw [if_pos h2, if_neg (by omega)]
      · rw [if_neg h2]
        exact mag_law r _ hr (by omega)
theorem mag_all {D : By} (hne : D ≠ []) (hD : AllD D) : Lib.parseMag D = if pz D < 18446744073709551616 then .ok (pz D).toNat else .range := by
  unfold Lib.parseMag
  rw [if_neg hne, mag_law D 0 hD (by decide)]
  rfl
theorem head_dig {D : By} (hD : AllD D) : D.head? ≠ some 45 := by
  cases D with
  | nil => simp
  | cons c r =>
    have := isDig_iff.1 (hD c (by simp))
    simp only [List.head?_cons, ne_eq, Option.some.injEq]
    intro k
    rw [k] at this
    exact absurd this (by decide)
/-- A sign, or none, and digits. -/
def Numl (t D : By) : Prop := D ≠ [] ∧ AllD D ∧ (t = D ∨ t = 45 :: D)
theorem atoi_law {t D : By} (h : Numl t D) : Lib.atoiAll t = if -9223372036854775808 ≤ pzs t ∧ pzs t ≤ 9223372036854775807 then .ok (pzs t) else .range := by
  obtain ⟨hne, hD, ht⟩ := h
  have p0 := (pz_bound D).1
  rcases ht with rfl | rfl
  · have hp : pzs t = pz t := by unfold pzs; rw [if_neg (head_dig hD)]
    rw [hp]
    cases t with
    | nil => exact absurd rfl hne
    | cons c r =>
      have hcd := isDig_iff.1 (hD c (by simp))
      unfold Lib.atoiAll
      simp only
      rw [if_neg (by omega), mag_all hne hD]
      by_cases h1 : pz (c :: r) < 18446744073709551616
      · rw [if_pos h1]
        simp only
        by_cases h2 : pz (c :: r) ≤ 9223372036854775807
        · rw [if_neg (by omega), if_neg (by omega), if_neg (by omega), if_pos (by omega)]
          congr 1
          omega
        · rw [if_pos (by omega), if_neg (by omega)]
      · rw [if_neg h1, if_neg (by omega)]
  · have hp : pzs (45 :: D) = 0 - pz D := by
      unfold pzs
      rw [if_pos (show (45 :: D : By).head? = some 45 from rfl), pz_neg]
    rw [hp]
    unfold Lib.atoiAll
    have e45 : (45 : UInt8).toNat = 45 := rfl
    simp only [e45, or_true, if_true, not_true_eq_false, false_and, if_false, true_and]
    rw [mag_all hne hD]
    by_cases h1 : pz D < 18446744073709551616
    · rw [if_pos h1]
      simp only
      by_cases h2 : pz D ≤ 9223372036854775808
      · rw [if_neg (by omega), if_pos (by omega)]
        congr 1
        omega
      · rw [if_pos (by omega), if_neg (by omega)]
    · rw [if_neg h1, if_neg (by omega)]
/-- Its text is the numeral just if there are no idle zeros, and none with a sign. -/
theorem itoa_law {t D : By} (h : Numl t D) : Lib.itoa (pzs t) = t ↔ ¬ (D.head? = some 48 ∧ (D.length ≠ 1 ∨ t = 45 :: D)) := by
  obtain ⟨hne, hD, ht⟩ := h
  have p0 := (pz_bound D).1
  have hnt : D ≠ 45 :: D := fun k => by have := congrArg List.length k; simp at this
  rcases ht with rfl | rfl
  · have hp : pzs t = pz t := by unfold pzs; rw [if_neg (head_dig hD)]
    rw [hp]
    unfold Lib.itoa
    rw [if_neg (by omega), dec_iff hne hD]
    constructor
    · rintro (k | k) ⟨k1, k2⟩
      · exact k k1
      · exact k2.elim (fun q => q k) (fun q => hnt q)
    · intro k
      by_cases k1 : t.head? = some 48
      · right
        exact Classical.byContradiction fun q => k ⟨k1, .inl q⟩
      · exact .inl k1
  · have hp : pzs (45 :: D) = 0 - pz D := by
      unfold pzs
      rw [if_pos (show (45 :: D : By).head? = some 45 from rfl), pz_neg]
    rw [hp]
    unfold Lib.itoa
    by_cases z : pz D = 0
    · rw [if_neg (by omega)]
      have e : Lib.decDigits (0 - pz D).toNat = [48] := by
        rw [z, Lib.decDigits, dif_pos (by decide)]
        rfl
      rw [e]
      constructor
      · intro k
        exact absurd (List.cons.inj k).1 (by decide)
      · intro k
        exfalso
        refine k ⟨?_, .inr rfl⟩
        exact Classical.byContradiction fun q => by
          have := dec_of _ D rfl hne hD (.inl q)
          rw [z, Lib.decDigits, dif_pos (by decide)] at this
          rw [← this] at q
          exact q rfl
    · rw [if_pos (by omega)]
      have e : (0 - pz D).natAbs = (pz D).toNat := by omega
      rw [e]
      constructor
      · intro k
        have k' := (List.cons.inj k).2
        rintro ⟨k1, _⟩
        have := dec_head (n := (pz D).toNat) (by omega)
        rw [k'] at this
        exact this k1
      · intro k
        have k1 : D.head? ≠ some 48 := fun q => k ⟨q, .inr rfl⟩
        rw [dec_of _ D rfl hne hD (.inl k1)]

/-! The numeral at a place. -/
theorem pre_minus (r : By) : Lib.hasPrefix r [45] = true ↔ r.head? = some 45 := by
  unfold Lib.hasPrefix
  cases r with
  | nil => simp [List.isPrefixOf]
  | cons c r =>
    simp only [List.isPrefixOf, List.head?_cons, Option.some.injEq, Bool.and_true, beq_iff_eq]
    exact eq_comm
theorem trim_minus (r : By) : Lib.trimPrefix r [45] = if r.head? = some 45 then r.drop 1 else r := by
  unfold Lib.trimPrefix
  by_cases h : r.head? = some 45
  · rw [if_pos ((pre_minus r).2 h), if_pos h]
    rfl
  · rw [if_neg (fun k => h ((pre_minus r).1 k)), if_neg h]
def dOf (r : By) : By := (Lib.trimPrefix r [45]).takeWhile isDig
def wideF (r : By) : Int := r.length - (Lib.trimPrefix r [45]).length + runF (Lib.trimPrefix r [45])
theorem dOf_len (r : By) : ((dOf r).length : Int) = runF (Lib.trimPrefix r [45]) := rfl
theorem dOf_all (r : By) : AllD (dOf r) := fun c hc => by
  have := List.all_takeWhile (p := isDig) (l := Lib.trimPrefix r [45])
  exact List.all_eq_true.1 this c hc
theorem dOf_take (r : By) : dOf r = (Lib.trimPrefix r [45]).take (dOf r).length := List.prefix_iff_eq_take.1 (List.takeWhile_prefix _)
theorem dOf_head {r : By} (h : runF (Lib.trimPrefix r [45]) ≠ 0) : (dOf r).head? = (Lib.trimPrefix r [45]).head? := by
  have hl := dOf_len r
  have ht := dOf_take r
  generalize Lib.trimPrefix r [45] = b at *
  cases b with
  | nil => rw [ht]; simp
  | cons c q =>
    rw [ht]
    obtain ⟨k, hk⟩ : ∃ k, (dOf r).length = k + 1 := ⟨(dOf r).length - 1, by omega⟩
    rw [hk]
    rfl
theorem wide_num {r : By} (h : runF (Lib.trimPrefix r [45]) ≠ 0) : Numl (r.take (wideF r).toNat) (dOf r) ∧ (r.take (wideF r).toNat = 45 :: dOf r ↔ Lib.hasPrefix r [45] = true) ∧ 0 ≤ wideF r ∧ wideF r ≤ r.length := by
  have hl := dOf_len r
  have ht := dOf_take r
  have hlt : (dOf r).length ≤ (Lib.trimPrefix r [45]).length := (List.takeWhile_prefix isDig).length_le
  have hne : dOf r ≠ [] := fun k => h (by rw [← hl, k]; rfl)
  have hnt : dOf r ≠ 45 :: dOf r := fun k => by have := congrArg List.length k; simp at this
  by_cases hm : r.head? = some 45
  · have hb : Lib.trimPrefix r [45] = r.drop 1 := by rw [trim_minus, if_pos hm]
    cases r with
    | nil => simp at hm
    | cons c q =>
      have hc : c = 45 := by simpa using hm
      subst hc
      have hbq : Lib.trimPrefix (45 :: q) [45] = q := hb
      have hw : wideF (45 :: q) = (dOf (45 :: q)).length + 1 := by
        unfold wideF
        rw [← hl, hbq, List.length_cons]
        omega
      have e : (45 :: q).take (wideF (45 :: q)).toNat = 45 :: dOf (45 :: q) := by
        rw [hw, show (((dOf (45 :: q)).length : Int) + 1).toNat = (dOf (45 :: q)).length + 1 by omega, List.take_succ_cons]
        congr 1
        rw [hbq] at ht
        exact ht.symm
      rw [hbq] at hlt
      refine ⟨⟨hne, dOf_all _, .inr e⟩, ⟨fun _ => (pre_minus _).2 rfl, fun _ => e⟩, by omega, by rw [hw, List.length_cons]; omega⟩
  · have hb : Lib.trimPrefix r [45] = r := by rw [trim_minus, if_neg hm]
    have hw : wideF r = (dOf r).length := by
      unfold wideF
      rw [← hl, hb]
      omega
    have e : r.take (wideF r).toNat = dOf r := by
      rw [hw, Int.toNat_natCast]
      rw [hb] at ht
      exact ht.symm
    rw [hb] at hlt
    exact ⟨⟨hne, dOf_all _, .inl e⟩, ⟨fun k => absurd (e.symm.trans k) hnt, fun k => absurd ((pre_minus r).1 k) hm⟩, by omega, by omega⟩
theorem wide_canon {r : By} (h : runF (Lib.trimPrefix r [45]) ≠ 0) : Lib.itoa (pzs (r.take (wideF r).toNat)) = r.take (wideF r).toNat ↔
    ¬ ((Lib.trimPrefix r [45]).head? = some 48 ∧ (1 < runF (Lib.trimPrefix r [45]) ∨ Lib.hasPrefix r [45] = true)) := by
  obtain ⟨h1, h2, _⟩ := wide_num h
  have hl := dOf_len r
  have hpos : 0 ≤ runF (Lib.trimPrefix r [45]) := by unfold runF; omega
  rw [itoa_law h1, dOf_head h, h2]
  have : (dOf r).length ≠ 1 ↔ 1 < runF (Lib.trimPrefix r [45]) := by omega
  rw [this]

end Go.Proofs.YtemgelifnjefoaaGreatDoor
