/-
  Numbers and their numerals: what comes back.
-/
import Derived.Test.YtemgelifnjefoaaGreatDoorScan5
namespace Go.Proofs.YtemgelifnjefoaaGreatDoor
open Go.Vm

theorem dec_all (u : Nat) : AllD (Lib.decDigits u) := by
  induction u using Nat.strongRecOn with
  | _ u ih =>
    have hd : ∀ v, v < 10 → isDig (UInt8.ofNat (48 + v)) = true := by
      intro v hv
      rw [isDig_iff, UInt8.toNat_ofNat']
      omega
    by_cases h : u < 10
    · rw [Lib.decDigits, dif_pos h]
      intro c hc
      rw [List.mem_singleton.1 hc]
      exact hd u h
    · rw [Lib.decDigits, dif_neg h]
      intro c hc
      rcases List.mem_append.1 hc with k | k
      · exact ih (u / 10) (by omega) c k
      · rw [List.mem_singleton.1 k]
        exact hd (u % 10) (by omega)
theorem pz_dec (u : Nat) : pz (Lib.decDigits u) = u := by
  induction u using Nat.strongRecOn with
  | _ u ih =>
    have hs : ∀ (n : Int) v, v < 10 → pzStep n (UInt8.ofNat (48 + v)) = n * 10 + v := by
      intro n v hv
      have e : (UInt8.ofNat (48 + v)).toNat = 48 + v := by rw [UInt8.toNat_ofNat']; omega
      unfold pzStep
      rw [if_pos (isDig_iff.2 (by omega)), e]
      omega
    by_cases h : u < 10
    · rw [Lib.decDigits, dif_pos h]
      show pzStep 0 _ = _
      rw [hs 0 u h]
      omega
    · rw [Lib.decDigits, dif_neg h, pz_snoc, ih (u / 10) (by omega), hs _ _ (by omega)]
      omega
theorem while_app {D s : By} (hD : AllD D) (hs : ∀ c, s.head? = some c → isDig c = false) : (D ++ s).takeWhile isDig = D := by
  induction D with
  | nil =>
    cases s with
    | nil => rfl
    | cons c r =>
      have := hs c rfl
      rw [List.nil_append, List.takeWhile_cons, if_neg (by rw [this]; decide)]
  | cons x r ih =>
    rw [List.cons_append, List.takeWhile_cons, if_pos (hD x (by simp)), ih (fun c hc => hD c (by simp [hc]))]
theorem numR_back {n a lo hi : Int} {s : By} (h : InI n) (hlo : lo ≤ n) (hhi : n ≤ hi) (hs : ∀ c, s.head? = some c → isDig c = false) : numR (Lib.itoa n ++ s) a lo hi = (n, a + ((Lib.itoa n).length : Int), 0) := by
  have hz : ∀ (b : By) (u : Nat), b = Lib.decDigits u ++ s → runF b = (Lib.decDigits u).length := by
    intro b u hb
    unfold runF
    rw [hb, while_app (dec_all u) hs]
  obtain ⟨u, hu⟩ : ∃ u : Nat, u = n.natAbs := ⟨_, rfl⟩
  have hpos : 0 < (Lib.decDigits u).length := List.length_pos_iff.2 (dec_ne u)
  have hone : (Lib.decDigits u).head? = some 48 → u = 0 := by
    intro k
    by_cases z : u = 0
    · exact z
    · exact absurd k (dec_head (by omega))
  have hzero : u = 0 → (Lib.decDigits u).length = 1 := by
    intro z
    rw [z, Lib.decDigits, dif_pos (by decide)]
    rfl
  by_cases hn : n < 0
  · have ei : Lib.itoa n = 45 :: Lib.decDigits u := by unfold Lib.itoa; rw [if_pos hn, hu]
    have et : Lib.trimPrefix (Lib.itoa n ++ s) [45] = Lib.decDigits u ++ s := by
      rw [trim_minus, ei, if_pos (show ((45 : UInt8) :: Lib.decDigits u ++ s).head? = some 45 from rfl)]
      rfl
    have hr := hz _ u et
    have hw : wideF (Lib.itoa n ++ s) = (Lib.itoa n).length := by
      unfold wideF
      rw [hr, et, ei, List.length_append, List.length_append, List.length_cons]
      omega
    have htk : (Lib.itoa n ++ s).take (wideF (Lib.itoa n ++ s)).toNat = Lib.itoa n := by
      rw [hw, Int.toNat_natCast]
      exact List.take_left' rfl
    have hp : pzs (Lib.itoa n) = n := by
      unfold pzs
      rw [ei, if_pos (show ((45 : UInt8) :: Lib.decDigits u).head? = some 45 from rfl), pz_neg, pz_dec]
      omega
    have hh : (Lib.decDigits u ++ s).head? = (Lib.decDigits u).head? := head_app (dec_ne u)
    rw [numR_ok (by rw [et]; intro k; have := congrArg List.length k; rw [List.length_append, List.length_nil] at this; omega) (by
      rw [hr, et, hh]
      rintro (k | ⟨k, _⟩)
      · omega
      · have := hone k
        omega)]
    rw [htk, hp, hw]
    obtain ⟨h1, h2⟩ := h
    rw [if_pos (by unfold inR; rw [decide_eq_true_eq]; omega)]
  · have ei : Lib.itoa n = Lib.decDigits u := by
      unfold Lib.itoa
      rw [if_neg hn, hu, show n.toNat = n.natAbs by omega]
    have hh : (Lib.decDigits u ++ s).head? = (Lib.decDigits u).head? := head_app (dec_ne u)
    have h45 : ¬ (Lib.itoa n ++ s).head? = some 45 := by
      rw [ei, hh]
      exact head_dig (dec_all u)
    have et : Lib.trimPrefix (Lib.itoa n ++ s) [45] = Lib.decDigits u ++ s := by
      rw [trim_minus, if_neg h45, ei]
    have hr := hz _ u et
    have hw : wideF (Lib.itoa n ++ s) = (Lib.itoa n).length := by
      unfold wideF
      rw [hr, et, ei]
      omega
    have htk : (Lib.itoa n ++ s).take (wideF (Lib.itoa n ++ s)).toNat = Lib.itoa n := by
      rw [hw, Int.toNat_natCast]
      exact List.take_left' rfl
    have hp : pzs (Lib.itoa n) = n := by
      unfold pzs
      rw [ei, if_neg (head_dig (dec_all u)), pz_dec]
      omega
    rw [numR_ok (by rw [et]; intro k; have := congrArg List.length k; rw [List.length_append, List.length_nil] at this; omega) (by
      rw [hr, et, hh]
      rintro (k | ⟨k, q | q⟩)
      · omega
      · have := hzero (hone k)
        omega
      · exact h45 ((pre_minus _).1 q))]
    rw [htk, hp, hw]
    obtain ⟨h1, h2⟩ := h
    rw [if_pos (by unfold inR; rw [decide_eq_true_eq]; omega)]
theorem numF_err {s : By} {a lo hi : Int} (h : ¬ (numF s a lo hi).2.2 = 0) : (numF s a lo hi).1 = 0 ∧ (numF s a lo hi).2.1 = 0 := by
  unfold numF at h ⊢
  repeat' split
  all_goals first
    | exact ⟨rfl, rfl⟩
    | (rename_i h1 h2 h3 h4
       rw [if_neg h1, if_neg h2, if_neg h3, if_pos h4] at h
       exact absurd rfl h)
theorem run_stop (b : By) (c : UInt8) (h : b[(runF b).toNat]? = some c) : isDig c = false := by
  induction b with
  | nil => simp at h
  | cons x r ih =>
    unfold runF at h ih
    rw [List.takeWhile_cons] at h
    by_cases k : isDig x = true
    · rw [if_pos k, List.length_cons] at h
      refine ih ?_
      rw [Int.toNat_natCast] at h ⊢
      rw [List.getElem?_cons_succ] at h
      exact h
    · rw [if_neg k] at h
      have : some x = some c := h
      cases this
      simpa using k
theorem numF_zero {s : By} {a lo hi : Int} (h : (numF s a lo hi).2.2 = 0) : (0 ≤ a ∧ a ≤ s.length) ∧ (a ≤ (numF s a lo hi).2.1 ∧ (numF s a lo hi).2.1 ≤ s.length) ∧ (lo ≤ (numF s a lo hi).1 ∧ (numF s a lo hi).1 ≤ hi) ∧ InI (numF s a lo hi).1 ∧
    Lib.itoa (numF s a lo hi).1 = (s.take (numF s a lo hi).2.1.toNat).drop a.toNat ∧ ∀ c, s[(numF s a lo hi).2.1.toNat]? = some c → isDig c = false := by
  by_cases hb : a < 0 ∨ (s.length : Int) < a
  · rw [numF_bad hb] at h
    cases h
  rw [numF_in hb] at h ⊢
  have hrl : (s.drop a.toNat).length = s.length - a.toNat := List.length_drop
  by_cases h1 : Lib.trimPrefix (s.drop a.toNat) [45] = []
  · rw [numR_short h1] at h
    cases h
  by_cases h2 : runF (Lib.trimPrefix (s.drop a.toNat) [45]) = 0 ∨ ((Lib.trimPrefix (s.drop a.toNat) [45]).head? = some 48 ∧ (1 < runF (Lib.trimPrefix (s.drop a.toNat) [45]) ∨ Lib.hasPrefix (s.drop a.toNat) [45] = true))
  · rw [numR_form h1 h2] at h
    cases h
  rw [numR_ok h1 h2] at h ⊢
  by_cases h3 : inR (pzs ((s.drop a.toNat).take (wideF (s.drop a.toNat)).toNat)) lo hi = true
  · rw [if_pos h3]
    dsimp only
    unfold inR at h3
    rw [decide_eq_true_eq] at h3
    have hr : runF (Lib.trimPrefix (s.drop a.toNat) [45]) ≠ 0 := fun k => h2 (.inl k)
    obtain ⟨n1, _, n2, n3⟩ := wide_num hr
    have hc := (wide_canon hr).2 (fun k => h2 (.inr k))
    obtain ⟨p1, p2, p3, p4⟩ := first_parts hb
    refine ⟨by omega, by omega, by omega, ⟨by omega, by omega⟩, ?_, fun c hc => ?_⟩
    · rw [hc, List.take_drop]
      congr 2
      omega
    · refine run_stop (Lib.trimPrefix (s.drop a.toNat) [45]) c ?_
      have hr0 : 0 ≤ runF (Lib.trimPrefix (s.drop a.toNat) [45]) := by unfold runF; omega
      rw [← p1, drop_get, p1, ← hc]
      congr 1
      omega
  · rw [if_neg h3] at h
    cases h
theorem itoa_len {n : Int} (h : InI n) : (Lib.itoa n).length ≤ 40 := by
  have h1 := itoa_text (Big_digs n)
  rw [big_digs] at h1
  have h2 := digI_len h
  rw [h1]
  unfold textL padL
  split <;> split <;> simp <;> omega

end Go.Proofs.YtemgelifnjefoaaGreatDoor
