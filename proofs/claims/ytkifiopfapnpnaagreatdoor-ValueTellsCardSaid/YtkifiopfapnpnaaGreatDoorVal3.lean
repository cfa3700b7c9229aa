/-
  ValueRates: the walk, the plain laws.
-/
import Derived.Test.YtkifiopfapnpnaaGreatDoorVal2
import Derived.Test.YtkifiopfapnpnaaGreatDoorNum3
namespace Go.Proofs.YtkifiopfapnpnaaGreatDoor
open Go.Vm

def plainF (a e : Int) : Int × Int := (if e = 0 then a else 0, e)
theorem plain_told {a e : Int} : plainF a e = toldF a e := by
  unfold plainF toldF
  split <;> simp_all
theorem int_self {a : Int} (h : InI a) : intB a = a ∧ faultB a = 0 := by
  obtain ⟨h1, h2⟩ := h
  unfold intB faultB okB
  rw [if_pos ⟨h1, h2⟩, decide_eq_true h1, decide_eq_true h2]
  exact ⟨rfl, rfl⟩
theorem scale_whole {a e : Int} (h : InI a) : vscaleF a e 1 1 true = plainF a e := by
  unfold vscaleF plainF
  by_cases c : e = 0
  · rw [if_pos c, if_pos c, c]
    by_cases k : a = 0
    · rw [if_pos k, k]
    · rw [if_neg k, if_pos rfl]
      have e1 : applyF a 1 1 = (a, 0) := by
        have e2 : applyF a 1 1 = evenF (a * 1) 1 := rfl
        have e3 : nearZ a 1 = a := by
          unfold nearZ
          rw [if_neg (by omega), Int.ediv_one]
        rw [e2, Int.mul_one]
        unfold evenF
        rw [if_neg (by decide), e3, (int_self h).1, (int_self h).2]
      rw [e1]
      rfl
  · rw [if_neg c, if_neg c]
theorem net_one {a e : Int} (h : InI a) : vnetF [(a, e)] [] = plainF a e := by
  have hn := netF_law (l := [a]) (m := []) (fun n hn => by rw [List.mem_singleton.1 hn]; exact h) (fun n hn => by cases hn) a (by simp) (by have := h.1; have := h.2; omega)
  rw [(int_self h).1, (int_self h).2] at hn
  have e1 : vnetF [(a, e)] [] = if e = 0 then toldF (netF [a] []).1 (netF [a] []).2 else (0, e) := rfl
  rw [e1, hn]
  unfold plainF toldF
  split <;> simp_all
theorem print_len {a e : Int} (h : InI a ∧ InI e) : (vprintF a e).length ≤ 10000 := by
  have h1 := itoa_len h.1
  have h2 := itoa_len h.2
  unfold vprintF
  split
  · omega
  · rw [List.length_append]
    have : errB.length = 6 := rfl
    omega
theorem itoa_head {n : Int} {c : UInt8} (h : (Lib.itoa n).head? = some c) : c = 45 ∨ isDig c = true := by
  unfold Lib.itoa at h
  split at h
  · left
    cases h
    rfl
  · right
    refine dec_all n.toNat c ?_
    exact List.mem_of_mem_head? h
theorem num_back {n a lo hi : Int} {s : By} (ha : 0 ≤ a) (hl : a ≤ s.length) (h : InI n) (hlo : lo ≤ n) (hhi : n ≤ hi) (hs : s.drop a.toNat = Lib.itoa n) : numF s a lo hi = (n, (s.length : Int), 0) := by
  rw [numF_in (by omega), hs]
  have := numR_back (s := []) (a := a) h hlo hhi (fun c hc => by cases hc)
  rw [List.append_nil] at this
  rw [this, ← hs, List.length_drop]
  congr 2
  omega
theorem parse_back {a e : Int} (h : InI a) (h0 : 0 ≤ e) (h1 : e ≤ 99) : vparseF (vprintF a e) = ((plainF a e).1, (plainF a e).2, 0) := by
  have he : InI e := ⟨by omega, by omega⟩
  by_cases c : e = 0
  · have ep : vprintF a e = Lib.itoa a := by unfold vprintF; rw [if_pos c]
    have hp : ¬ Lib.hasPrefix (Lib.itoa a) [101] = true := fun k => by
      rw [head_pre, ← List.head?_eq_getElem?] at k
      rcases itoa_head k with k | k <;> revert k <;> decide
    rw [ep]
    unfold vparseF plainF
    rw [if_neg hp, if_pos c, num_back (by omega) (by omega) h h.1 h.2 rfl]
    unfold restV
    rw [if_pos rfl, if_neg (by dsimp only; omega)]
    rw [c]
    rfl
  · have ep : vprintF a e = errB ++ Lib.itoa e := by unfold vprintF; rw [if_neg c]
    have hp : Lib.hasPrefix (errB ++ Lib.itoa e) [101] = true := by rw [head_pre]; rfl
    have hl : litF (errB ++ Lib.itoa e) 0 errB = (6, 0) := by
      unfold litF
      rw [if_neg (by omega), if_pos ((hasPrefix_iff _ _).2 rfl)]
      rfl
    rw [ep]
    unfold vparseF plainF
    rw [if_pos hp, hl, if_pos rfl, if_neg c]
    have hn := num_back (n := e) (a := 6) (lo := 1) (hi := 99) (s := errB ++ Lib.itoa e) (by omega) (by rw [List.length_append]; have : errB.length = 6 := rfl; omega) he (by omega) h1 rfl
    rw [hn]
    unfold restV
    rw [if_pos rfl, if_neg (by dsimp only; omega)]
    rfl
theorem rest_err {b : Bool} {n : Int} {r : Int × Int × Int} (h : ¬ (restV b n r).2.2 = 0) : (restV b n r).1 = 0 ∧ (restV b n r).2.1 = 0 := by
  unfold restV at h ⊢
  split
  · split
    · exact ⟨rfl, rfl⟩
    · rename_i h1 h2
      rw [if_pos h1, if_neg h2] at h
      cases b <;> exact absurd rfl h
  · exact ⟨rfl, rfl⟩
theorem parse_err {s : By} (h : ¬ (vparseF s).2.2 = 0) : (vparseF s).1 = 0 ∧ (vparseF s).2.1 = 0 := by
  unfold vparseF at h ⊢
  split
  · rename_i h1
    rw [if_pos h1] at h
    split
    · rename_i h2
      rw [if_pos h2] at h
      exact rest_err h
    · exact ⟨rfl, rfl⟩
  · rename_i h1
    rw [if_neg h1] at h
    exact rest_err h
theorem rest_ok {b : Bool} {n : Int} {r : Int × Int × Int} (h : (restV b n r).2.2 = 0) : r.2.2 = 0 ∧ n ≤ r.2.1 ∧ (restV b n r).1 = (if b then 0 else r.1) ∧ (restV b n r).2.1 = (if b then r.1 else 0) := by
  unfold restV at h ⊢
  by_cases h1 : r.2.2 = 0
  · rw [if_pos h1] at h ⊢
    by_cases h2 : r.2.1 < n
    · rw [if_pos h2] at h
      cases h
    · rw [if_neg h2] at h ⊢
      refine ⟨h1, by omega, ?_, ?_⟩ <;> cases b <;> rfl
  · rw [if_neg h1] at h
    exact absurd h h1
theorem pre_split {s p : By} (h : Lib.hasPrefix s p = true) : p ++ s.drop p.length = s := by
  rw [hasPrefix_iff] at h
  have := List.take_append_drop p.length s
  rw [h] at this
  exact this
theorem parse_text {s : By} (h : (vparseF s).2.2 = 0) : (InI (vparseF s).1 ∧ InI (vparseF s).2.1) ∧ vprintF (vparseF s).1 (vparseF s).2.1 = s := by
  have i0 : InI (0 : Int) := ⟨by decide, by decide⟩
  by_cases c : Lib.hasPrefix s [101] = true
  · by_cases k : (litF s 0 errB).2 = 0
    · have e : vparseF s = restV true s.length (numF s (litF s 0 errB).1 1 99) := by unfold vparseF; rw [if_pos c, if_pos k]
      have hq : litF s 0 errB = (6, 0) ∧ Lib.hasPrefix s errB = true := by
        unfold litF at k ⊢
        rw [if_neg (by omega)] at k ⊢
        have ed : s.drop (Int.toNat 0) = s := rfl
        rw [ed] at k ⊢
        by_cases p : Lib.hasPrefix s errB = true
        · rw [if_pos p]
          exact ⟨rfl, p⟩
        · rw [if_neg p] at k
          split at k <;> exact absurd k (by decide)
      rw [hq.1] at e
      change vparseF s = restV true s.length (numF s 6 1 99) at e
      rw [e] at h ⊢
      obtain ⟨r1, r2, r3, r4⟩ := rest_ok h
      obtain ⟨_, q2, q3, q4, q5, _⟩ := numF_zero r1
      rw [r3, r4]
      refine ⟨⟨i0, q4⟩, ?_⟩
      have hn : ¬ (numF s 6 1 99).1 = 0 := by omega
      have hl : (numF s 6 1 99).2.1.toNat = s.length := by omega
      simp only [if_true]
      unfold vprintF
      rw [if_neg hn, q5, hl, List.take_length]
      exact pre_split hq.2
    · have e : vparseF s = (0, 0, (litF s 0 errB).2) := by unfold vparseF; rw [if_pos c, if_neg k]
      rw [e] at h
      exact absurd h k
  · have e : vparseF s = restV false s.length (numF s 0 (-9223372036854775808) 9223372036854775807) := by unfold vparseF; rw [if_neg c]
    rw [e] at h ⊢
    obtain ⟨r1, r2, r3, r4⟩ := rest_ok h
    obtain ⟨_, q2, q3, q4, q5, _⟩ := numF_zero r1
    rw [r3, r4]
    refine ⟨⟨q4, i0⟩, ?_⟩
    have hl : (numF s 0 (-9223372036854775808) 9223372036854775807).2.1.toNat = s.length := by omega
    simp only [Bool.false_eq_true, if_false]
    unfold vprintF
    rw [if_pos rfl, q5, hl, List.take_length]
    rfl

end Go.Proofs.YtkifiopfapnpnaaGreatDoor
