/-
  Numerals: the walks.
-/
import Derived.Test.YtemgelifnjefoaaDoorScan4
namespace Go.Proofs.YtemgelifnjefoaaDoor
open Go.Vm

def mayF (d : Int) : Bool := decide (0 ≤ d) && decide (d ≤ 6)
def parseF (s : By) : Int × Int := if Lib.itoa (pzs s) = s then (intB (pzs s), faultB (pzs s)) else (0, 5)
theorem parseF_bad {s : By} (h : ¬ Lib.itoa (pzs s) = s) : parseF s = (0, 5) := by unfold parseF; rw [if_neg h]
theorem parseF_ok {s : By} (h : Lib.itoa (pzs s) = s) : parseF s = (intB (pzs s), faultB (pzs s)) := by unfold parseF; rw [if_pos h]
theorem pz10_len (s : By) : (digs (pz s * 10).natAbs).length ≤ s.length + 1 := by
  obtain ⟨h1, h2⟩ := pz_bound s
  refine digs_len ?_
  have h3 : ((10 ^ (s.length + 1) : Nat) : Int) = 10 ^ s.length * 10 := by rw [Int.natCast_pow, Int.pow_succ]; rfl
  omega
def inR (z lo hi : Int) : Bool := decide (-9223372036854775808 ≤ z ∧ z ≤ 9223372036854775807 ∧ lo ≤ z ∧ z ≤ hi)
def numF (s : By) (a lo hi : Int) : Int × Int × Int :=
  if a < 0 ∨ (s.length : Int) < a then (0, 0, 2) else if Lib.trimPrefix (s.drop a.toNat) [45] = [] then (0, 0, 4) else
    if runF (Lib.trimPrefix (s.drop a.toNat) [45]) = 0 ∨ ((Lib.trimPrefix (s.drop a.toNat) [45]).head? = some 48 ∧ (1 < runF (Lib.trimPrefix (s.drop a.toNat) [45]) ∨ Lib.hasPrefix (s.drop a.toNat) [45] = true)) then (0, 0, 5) else
      if inR (pzs ((s.drop a.toNat).take (wideF (s.drop a.toNat)).toNat)) lo hi then (pzs ((s.drop a.toNat).take (wideF (s.drop a.toNat)).toNat), a + wideF (s.drop a.toNat), 0) else (0, 0, 7)
noncomputable def env_num (s : By) (a lo hi : Int) : Env where
  P := Tryd.prog
  ty := tys0
  specs := specsOf [sp_from, sp_cutPrefix, sp_run, sp_atoi]
noncomputable def g_num (s : By) (a lo hi : Int) : Prop := vc (env_num s a lo hi) (codeOf Tryd.f40) (start0 Tryd.f40 [.str s, .int .i64 a, .int .i64 lo, .int .i64 hi]) (exitK (tsOf Tryd.f40) [.int .i64, .int .i64, .int .i64] ((numF s a lo hi).1, (numF s a lo hi).2.1, (numF s a lo hi).2.2, ()))
def g_num_vc (s : By) (a : Int) (lo : Int) (hi : Int) : Prop :=
  True ∧ ((!(fromF s a).snd) = true → ((0 : Int), (0 : Int), (2 : Int), ()) = ((numF s a lo hi).fst, (numF s a lo hi).snd.fst, (numF s a lo hi).snd.snd, ())) ∧ ((!(fromF s a).snd) = false → True ∧ (Lib.trimPrefix (fromF s a).fst [(45 : UInt8)]).length ≤ (1000000 : Nat) ∧ (decide ((↑(Lib.trimPrefix (fromF s a).fst [(45 : UInt8)]).length : Int) = (0 : Int)) = true → ((0 : Int), (0 : Int), (4 : Int), ()) = ((numF s a lo hi).fst, (numF s a lo hi).snd.fst, (numF s a lo hi).snd.snd, ())) ∧ (decide ((↑(Lib.trimPrefix (fromF s a).fst [(45 : UInt8)]).length : Int) = (0 : Int)) = false → (decide (runF (Lib.trimPrefix (fromF s a).fst [(45 : UInt8)]) = (0 : Int)) = false → ((0 : Int) ≤ (0 : Int) ∧ (0 : Int) < (↑(Lib.trimPrefix (fromF s a).fst [(45 : UInt8)]).length : Int)) ∧ ∀ (c : UInt8), (Lib.trimPrefix (fromF s a).fst [(45 : UInt8)])[Int.toNat (0 : Int)]? = some c → (decide ((↑c.toNat : Int) = (48 : Int)) = true → (decide ((1 : Int) < runF (Lib.trimPrefix (fromF s a).fst [(45 : UInt8)])) = false → (Lib.hasPrefix (fromF s a).fst [(45 : UInt8)] = true → ((0 : Int), (0 : Int), (5 : Int), ()) = ((numF s a lo hi).fst, (numF s a lo hi).snd.fst, (numF s a lo hi).snd.snd, ())) ∧ (Lib.hasPrefix (fromF s a).fst [(45 : UInt8)] = false → ((-9223372036854775808 : Int) ≤ (↑(List.length (fromF s a).fst) : Int) - (↑(Lib.trimPrefix (fromF s a).fst [(45 : UInt8)]).length : Int) ∧ (↑(List.length (fromF s a).fst) : Int) - (↑(Lib.trimPrefix (fromF s a).fst [(45 : UInt8)]).length : Int) ≤ (9223372036854775807 : Int)) ∧ ((-9223372036854775808 : Int) ≤ (↑(List.length (fromF s a).fst) : Int) - (↑(Lib.trimPrefix (fromF s a).fst [(45 : UInt8)]).length : Int) + runF (Lib.trimPrefix (fromF s a).fst [(45 : UInt8)]) ∧ (↑(List.length (fromF s a).fst) : Int) - (↑(Lib.trimPrefix (fromF s a).fst [(45 : UInt8)]).length : Int) + runF (Lib.trimPrefix (fromF s a).fst [(45 : UInt8)]) ≤ (9223372036854775807 : Int)) ∧ ((0 : Int) ≤ (↑(List.length (fromF s a).fst) : Int) - (↑(Lib.trimPrefix (fromF s a).fst [(45 : UInt8)]).length : Int) + runF (Lib.trimPrefix (fromF s a).fst [(45 : UInt8)]) ∧ (↑(List.length (fromF s a).fst) : Int) - (↑(Lib.trimPrefix (fromF s a).fst [(45 : UInt8)]).length : Int) + runF (Lib.trimPrefix (fromF s a).fst [(45 : UInt8)]) ≤ (↑(List.length (fromF s a).fst) : Int)) ∧ (List.take ((↑(List.length (fromF s a).fst) : Int) - (↑(Lib.trimPrefix (fromF s a).fst [(45 : UInt8)]).length : Int) + runF (Lib.trimPrefix (fromF s a).fst [(45 : UInt8)])).toNat (fromF s a).fst).length ≤ (281474976710656 : Nat) ∧ ((!!atoiE (List.take ((↑(List.length (fromF s a).fst) : Int) - (↑(Lib.trimPrefix (fromF s a).fst [(45 : UInt8)]).length : Int) + runF (Lib.trimPrefix (fromF s a).fst [(45 : UInt8)])).toNat (fromF s a).fst)) = false → (decide (atoiV (List.take ((↑(List.length (fromF s a).fst) : Int) - (↑(Lib.trimPrefix (fromF s a).fst [(45 : UInt8)]).length : Int) + runF (Lib.trimPrefix (fromF s a).fst [(45 : UInt8)])).toNat (fromF s a).fst) < lo) = false → (decide (hi < atoiV (List.take ((↑(List.length (fromF s a).fst) : Int) - (↑(Lib.trimPrefix (fromF s a).fst [(45 : UInt8)]).length : Int) + runF (Lib.trimPrefix (fromF s a).fst [(45 : UInt8)])).toNat (fromF s a).fst)) = true → ((0 : Int), (0 : Int), (7 : Int), ()) = ((numF s a lo hi).fst, (numF s a lo hi).snd.fst, (numF s a lo hi).snd.snd, ())) ∧ (decide (hi < atoiV (List.take ((↑(List.length (fromF s a).fst) : Int) - (↑(Lib.trimPrefix (fromF s a).fst [(45 : UInt8)]).length : Int) + runF (Lib.trimPrefix (fromF s a).fst [(45 : UInt8)])).toNat (fromF s a).fst)) = false → ((-9223372036854775808 : Int) ≤ a + ((↑(List.length (fromF s a).fst) : Int) - (↑(Lib.trimPrefix (fromF s a).fst [(45 : UInt8)]).length : Int) + runF (Lib.trimPrefix (fromF s a).fst [(45 : UInt8)])) ∧ a + ((↑(List.length (fromF s a).fst) : Int) - (↑(Lib.trimPrefix (fromF s a).fst [(45 : UInt8)]).length : Int) + runF (Lib.trimPrefix (fromF s a).fst [(45 : UInt8)])) ≤ (9223372036854775807 : Int)) ∧ (atoiV (List.take ((↑(List.length (fromF s a).fst) : Int) - (↑(Lib.trimPrefix (fromF s a).fst [(45 : UInt8)]).length : Int) + runF (Lib.trimPrefix (fromF s a).fst [(45 : UInt8)])).toNat (fromF s a).fst), a + ((↑(List.length (fromF s a).fst) : Int) - (↑(Lib.trimPrefix (fromF s a).fst [(45 : UInt8)]).length : Int) + runF (Lib.trimPrefix (fromF s a).fst [(45 : UInt8)])), (0 : Int), ()) = ((numF s a lo hi).fst, (numF s a lo hi).snd.fst, (numF s a lo hi).snd.snd, ()))) ∧ (decide (atoiV (List.take ((↑(List.length (fromF s a).fst) : Int) - (↑(Lib.trimPrefix (fromF s a).fst [(45 : UInt8)]).length : Int) + runF (Lib.trimPrefix (fromF s a).fst [(45 : UInt8)])).toNat (fromF s a).fst) < lo) = !false → ((0 : Int), (0 : Int), (7 : Int), ()) = ((numF s a lo hi).fst, (numF s a lo hi).snd.fst, (numF s a lo hi).snd.snd, ()))) ∧ ((!!atoiE (List.take ((↑(List.length (fromF s a).fst) : Int) - (↑(Lib.trimPrefix (fromF s a).fst [(45 : UInt8)]).length : Int) + runF (Lib.trimPrefix (fromF s a).fst [(45 : UInt8)])).toNat (fromF s a).fst)) = !false → ((0 : Int), (0 : Int), (7 : Int), ()) = ((numF s a lo hi).fst, (numF s a lo hi).snd.fst, (numF s a lo hi).snd.snd, ())))) ∧ (decide ((1 : Int) < runF (Lib.trimPrefix (fromF s a).fst [(45 : UInt8)])) = !false → ((0 : Int), (0 : Int), (5 : Int), ()) = ((numF s a lo hi).fst, (numF s a lo hi).snd.fst, (numF s a lo hi).snd.snd, ()))) ∧ (decide ((↑c.toNat : Int) = (48 : Int)) = !true → ((-9223372036854775808 : Int) ≤ (↑(List.length (fromF s a).fst) : Int) - (↑(Lib.trimPrefix (fromF s a).fst [(45 : UInt8)]).length : Int) ∧ (↑(List.length (fromF s a).fst) : Int) - (↑(Lib.trimPrefix (fromF s a).fst [(45 : UInt8)]).length : Int) ≤ (9223372036854775807 : Int)) ∧ ((-9223372036854775808 : Int) ≤ (↑(List.length (fromF s a).fst) : Int) - (↑(Lib.trimPrefix (fromF s a).fst [(45 : UInt8)]).length : Int) + runF (Lib.trimPrefix (fromF s a).fst [(45 : UInt8)]) ∧ (↑(List.length (fromF s a).fst) : Int) - (↑(Lib.trimPrefix (fromF s a).fst [(45 : UInt8)]).length : Int) + runF (Lib.trimPrefix (fromF s a).fst [(45 : UInt8)]) ≤ (9223372036854775807 : Int)) ∧ ((0 : Int) ≤ (↑(List.length (fromF s a).fst) : Int) - (↑(Lib.trimPrefix (fromF s a).fst [(45 : UInt8)]).length : Int) + runF (Lib.trimPrefix (fromF s a).fst [(45 : UInt8)]) ∧ (↑(List.length (fromF s a).fst) : Int) - (↑(Lib.trimPrefix (fromF s a).fst [(45 : UInt8)]).length : Int) + runF (Lib.trimPrefix (fromF s a).fst [(45 : UInt8)]) ≤ (↑(List.length (fromF s a).fst) : Int)) ∧ (List.take ((↑(List.length (fromF s a).fst) : Int) - (↑(Lib.trimPrefix (fromF s a).fst [(45 : UInt8)]).length : Int) + runF (Lib.trimPrefix (fromF s a).fst [(45 : UInt8)])).toNat (fromF s a).fst).length ≤ (281474976710656 : Nat) ∧ ((!!atoiE (List.take ((↑(List.length (fromF s a).fst) : Int) - (↑(Lib.trimPrefix (fromF s a).fst [(45 : UInt8)]).length : Int) + runF (Lib.trimPrefix (fromF s a).fst [(45 : UInt8)])).toNat (fromF s a).fst)) = false → (decide (atoiV (List.take ((↑(List.length (fromF s a).fst) : Int) - (↑(Lib.trimPrefix (fromF s a).fst [(45 : UInt8)]).length : Int) + runF (Lib.trimPrefix (fromF s a).fst [(45 : UInt8)])).toNat (fromF s a).fst) < lo) = false → (decide (hi < atoiV (List.take ((↑(List.length (fromF s a).fst) : Int) - (↑(Lib.trimPrefix (fromF s a).fst [(45 : UInt8)]).length : Int) + runF (Lib.trimPrefix (fromF s a).fst [(45 : UInt8)])).toNat (fromF s a).fst)) = true → ((0 : Int), (0 : Int), (7 : Int), ()) = ((numF s a lo hi).fst, (numF s a lo hi).snd.fst, (numF s a lo hi).snd.snd, ())) ∧ (decide (hi < atoiV (List.take ((↑(List.length (fromF s a).fst) : Int) - (↑(Lib.trimPrefix (fromF s a).fst [(45 : UInt8)]).length : Int) + runF (Lib.trimPrefix (fromF s a).fst [(45 : UInt8)])).toNat (fromF s a).fst)) = false → ((-9223372036854775808 : Int) ≤ a + ((↑(List.length (fromF s a).fst) : Int) - (↑(Lib.trimPrefix (fromF s a).fst [(45 : UInt8)]).length : Int) + runF (Lib.trimPrefix (fromF s a).fst [(45 : UInt8)])) ∧ a + ((↑(List.length (fromF s a).fst) : Int) - (↑(Lib.trimPrefix (fromF s a).fst [(45 : UInt8)]).length : Int) + runF (Lib.trimPrefix (fromF s a).fst [(45 : UInt8)])) ≤ (9223372036854775807 : Int)) ∧ (atoiV (List.take ((↑(List.length (fromF s a).fst) : Int) - (↑(Lib.trimPrefix (fromF s a).fst [(45 : UInt8)]).length : Int) + runF (Lib.trimPrefix (fromF s a).fst [(45 : UInt8)])).toNat (fromF s a).fst), a + ((↑(List.length (fromF s a).fst) : Int) - (↑(Lib.trimPrefix (fromF s a).fst [(45 : UInt8)]).length : Int) + runF (Lib.trimPrefix (fromF s a).fst [(45 : UInt8)])), (0 : Int), ()) = ((numF s a lo hi).fst, (numF s a lo hi).snd.fst, (numF s a lo hi).snd.snd, ()))) ∧ (decide (atoiV (List.take ((↑(List.length (fromF s a).fst) : Int) - (↑(Lib.trimPrefix (fromF s a).fst [(45 : UInt8)]).length : Int) + runF (Lib.trimPrefix (fromF s a).fst [(45 : UInt8)])).toNat (fromF s a).fst) < lo) = !false → ((0 : Int), (0 : Int), (7 : Int), ()) = ((numF s a lo hi).fst, (numF s a lo hi).snd.fst, (numF s a lo hi).snd.snd, ()))) ∧ ((!!atoiE (List.take ((↑(List.length (fromF s a).fst) : Int) - (↑(Lib.trimPrefix (fromF s a).fst [(45 : UInt8)]).length : Int) + runF (Lib.trimPrefix (fromF s a).fst [(45 : UInt8)])).toNat (fromF s a).fst)) = !false → ((0 : Int), (0 : Int), (7 : Int), ()) = ((numF s a lo hi).fst, (numF s a lo hi).snd.fst, (numF s a lo hi).snd.snd, ())))) ∧ (decide (runF (Lib.trimPrefix (fromF s a).fst [(45 : UInt8)]) = (0 : Int)) = !false → ((0 : Int), (0 : Int), (5 : Int), ()) = ((numF s a lo hi).fst, (numF s a lo hi).snd.fst, (numF s a lo hi).snd.snd, ()))))
theorem g_num_eq (s : By) (a lo hi : Int) : g_num s a lo hi = g_num_vc s a lo hi := by kernel_rfl
/-- The same, of what stands at the place. -/
def numR (r : By) (a lo hi : Int) : Int × Int × Int :=
  if Lib.trimPrefix r [45] = [] then (0, 0, 4) else
    if runF (Lib.trimPrefix r [45]) = 0 ∨ ((Lib.trimPrefix r [45]).head? = some 48 ∧ (1 < runF (Lib.trimPrefix r [45]) ∨ Lib.hasPrefix r [45] = true)) then (0, 0, 5) else
      if inR (pzs (r.take (wideF r).toNat)) lo hi then (pzs (r.take (wideF r).toNat), a + wideF r, 0) else (0, 0, 7)
theorem numF_bad {s : By} {a lo hi : Int} (h : a < 0 ∨ (s.length : Int) < a) : numF s a lo hi = (0, 0, 2) := by unfold numF; rw [if_pos h]
theorem numF_in {s : By} {a lo hi : Int} (h : ¬ (a < 0 ∨ (s.length : Int) < a)) : numF s a lo hi = numR (s.drop a.toNat) a lo hi := by unfold numF numR; rw [if_neg h]
theorem numR_short {r : By} {a lo hi : Int} (h : Lib.trimPrefix r [45] = []) : numR r a lo hi = (0, 0, 4) := by unfold numR; rw [if_pos h]
theorem numR_form {r : By} {a lo hi : Int} (h : ¬ Lib.trimPrefix r [45] = []) (k : runF (Lib.trimPrefix r [45]) = 0 ∨ ((Lib.trimPrefix r [45]).head? = some 48 ∧ (1 < runF (Lib.trimPrefix r [45]) ∨ Lib.hasPrefix r [45] = true))) : numR r a lo hi = (0, 0, 5) := by
  unfold numR; rw [if_neg h, if_pos k]
theorem numR_ok {r : By} {a lo hi : Int} (h : ¬ Lib.trimPrefix r [45] = []) (k : ¬ (runF (Lib.trimPrefix r [45]) = 0 ∨ ((Lib.trimPrefix r [45]).head? = some 48 ∧ (1 < runF (Lib.trimPrefix r [45]) ∨ Lib.hasPrefix r [45] = true)))) :
    numR r a lo hi = if inR (pzs (r.take (wideF r).toNat)) lo hi then (pzs (r.take (wideF r).toNat), a + wideF r, 0) else (0, 0, 7) := by
  unfold numR; rw [if_neg h, if_neg k]
theorem head_48 {b : By} {c : UInt8} (h : b[Int.toNat 0]? = some c) (e : (c.toNat : Int) = 48) : b.head? = some 48 := by
  rw [List.head?_eq_getElem?]
  rw [show (48 : UInt8) = c from (u8_ext (by rw [e]; rfl)).symm]
  exact h
theorem num_rest {t D : By} {w a lo hi : Int} {n : Int × Int × Int} (ht : Numl t D) (hw : -10000000 ≤ w ∧ w ≤ 10000000) (ha : -10000000 ≤ a ∧ a ≤ 10000000) (hn : n = if inR (pzs t) lo hi then (pzs t, a + w, 0) else (0, 0, 7)) :
    ((!!atoiE t) = false → (¬ atoiV t < lo → (hi < atoiV t → ((0 : Int), (0 : Int), (7 : Int), ()) = (n.1, n.2.1, n.2.2, ())) ∧ (¬ hi < atoiV t → (-9223372036854775808 ≤ a + w ∧ a + w ≤ 9223372036854775807) ∧ (atoiV t, a + w, (0 : Int), ()) = (n.1, n.2.1, n.2.2, ()))) ∧
      (atoiV t < lo → ((0 : Int), (0 : Int), (7 : Int), ()) = (n.1, n.2.1, n.2.2, ()))) ∧ ((!!atoiE t) = true → ((0 : Int), (0 : Int), (7 : Int), ()) = (n.1, n.2.1, n.2.2, ())) := by
  have hl := atoi_law ht
  unfold atoiE atoiV
  by_cases c : -9223372036854775808 ≤ pzs t ∧ pzs t ≤ 9223372036854775807
  · rw [if_pos c] at hl
    rw [hl]
    dsimp only
    refine ⟨fun _ => ⟨fun d => ⟨fun e => ?_, fun e => ⟨by omega, ?_⟩⟩, fun d => ?_⟩, fun d => by cases d⟩
    · rw [hn, if_neg (by unfold inR; rw [decide_eq_true_eq]; omega)]
    · rw [hn, if_pos (by unfold inR; rw [decide_eq_true_eq]; omega)]
    · rw [hn, if_neg (by unfold inR; rw [decide_eq_true_eq]; omega)]
  · rw [if_neg c] at hl
    rw [hl]
    dsimp only
    refine ⟨fun d => (by cases d), fun _ => ?_⟩
    rw [hn, if_neg (by unfold inR; rw [decide_eq_true_eq]; omega)]
theorem g_num_ok (s : By) (a lo hi : Int) (h : s.length ≤ 10000) : g_num_vc s a lo hi := by
  unfold g_num_vc
  by_cases c : a < 0 ∨ (s.length : Int) < a
  · rw [fromF_bad c, numF_bad c]
    exact ⟨trivial, fun _ => rfl, fun d => by cases d⟩
  · rw [fromF_good c]
    dsimp only
    have hrl : (s.drop a.toNat).length ≤ 10000 := by rw [List.length_drop]; omega
    have hnum := numF_in (s := s) (a := a) (lo := lo) (hi := hi) c
    generalize s.drop a.toNat = r at *
    rw [hnum]
    have htl : (Lib.trimPrefix r [45]).length ≤ r.length := by
      rw [trim_minus]
      split
      · rw [List.length_drop]; omega
      · omega
    simp only [decide_eq_true_eq, decide_eq_false_iff_not, Bool.not_false, Bool.not_true]
    refine ⟨trivial, fun d => (by cases d), fun _ => ⟨trivial, by omega, fun d => ?_, fun d => ⟨fun e => ⟨⟨by omega, by omega⟩, fun q hq => ⟨fun f => ⟨fun g => ⟨fun k => ?_, fun k => ?_⟩, fun g => ?_⟩, fun f => ?_⟩⟩, fun e => ?_⟩⟩⟩
    · rw [numR_short (List.eq_nil_of_length_eq_zero (by omega))]
    · rw [numR_form (fun w => d (by rw [w]; rfl)) (.inr ⟨head_48 hq f, .inr k⟩)]
    · have hcan : ¬ ((Lib.trimPrefix r [45]).head? = some 48 ∧ (1 < runF (Lib.trimPrefix r [45]) ∨ Lib.hasPrefix r [45] = true)) := by
        rintro ⟨_, w | w⟩
        · exact g w
        · rw [k] at w
          cases w
      obtain ⟨n1, _, n2, n3⟩ := wide_num e
      unfold wideF at n1 n2 n3
      refine ⟨by omega, by omega, by omega, by rw [List.length_take]; omega, num_rest n1 (by omega) (by omega) (numR_ok (fun w => d (by rw [w]; rfl)) (by rintro (w | w); exact e w; exact hcan w))⟩
    · rw [numR_form (fun w => d (by rw [w]; rfl)) (.inr ⟨head_48 hq f, .inl g⟩)]
    · have hcan : ¬ ((Lib.trimPrefix r [45]).head? = some 48 ∧ (1 < runF (Lib.trimPrefix r [45]) ∨ Lib.hasPrefix r [45] = true)) := by
        rintro ⟨w, _⟩
        rw [List.head?_eq_getElem?] at w
        have := hq.symm.trans w
        cases this
        exact f rfl
      obtain ⟨n1, _, n2, n3⟩ := wide_num e
      unfold wideF at n1 n2 n3
      refine ⟨by omega, by omega, by omega, by rw [List.length_take]; omega, num_rest n1 (by omega) (by omega) (numR_ok (fun w => d (by rw [w]; rfl)) (by rintro (w | w); exact e w; exact hcan w))⟩
    · rw [numR_form (fun w => d (by rw [w]; rfl)) (.inl e)]
set_option maxRecDepth 20000 in
theorem num_pure (s : By) (a lo hi : Int) (h : s.length ≤ 10000) : Pure Tryd.prog 40 [.str s, .int .i64 a, .int .i64 lo, .int .i64 hi] (.tuple [.int .i64 (numF s a lo hi).1, .int .i64 (numF s a lo hi).2.1, .int .i64 (numF s a lo hi).2.2]) :=
  Pure.of_g (E := env_num s a lo hi) (ts := tsOf Tryd.f40) (ps := [.int .i64, .int .i64, .int .i64]) (r := ((numF s a lo hi).1, (numF s a lo hi).2.1, (numF s a lo hi).2.2, ())) (fn := Tryd.f40) (c := codeOf Tryd.f40) (specs_ok (P := Tryd.prog) rfl [sp_from, sp_cutPrefix, sp_run, sp_atoi] [] rfl rfl) mixed Tryd.func40 rfl rfl (g := g_num s a lo hi) (by delta g_num start0; first | with_reducible exact Eq.refl _ | exact Eq.refl _) (by rw [g_num_eq s a lo hi]; exact g_num_ok s a lo hi h)
noncomputable def q_num (s : By) (a lo hi : Int) : Prop × V := (s.length ≤ 10000, (.tuple [.int .i64 (numF s a lo hi).1, .int .i64 (numF s a lo hi).2.1, .int .i64 (numF s a lo hi).2.2]))
noncomputable def sp_num : FSpec Tryd.prog where
  f := 40
  run := fun args => match args with
    | [.str s, .int .i64 a, .int .i64 lo, .int .i64 hi] => some (q_num s a lo hi)
    | _ => none
  ok := fun args pre r h hp => by
    try dsimp only at h
    split at h
    · rename_i s a lo hi
      have h := Option.some.inj h
      unfold q_num at h
      cases h
      exact (num_pure s a lo hi hp).weak (.cons (Weak.refl _) (.cons (Weak.refl _) (.cons (Weak.refl _) (.cons (Weak.refl _) .nil))))
    · cases h

def firstP (s : By) (a : Int) : Int := if s[a.toNat]? = some 45 then a + 1 else a
theorem rnum_rest {t D : By} {e lo hi : Int} {n : Int × Int × Int} (ht : Numl t D) (hn : n = if Lib.itoa (pzs t) = t then (if inR (pzs t) lo hi then (pzs t, e, 0) else (0, 0, 7)) else (0, 0, 5)) :
    ((parseF t).2 = 5 → ((0 : Int), (0 : Int), (5 : Int), ()) = (n.1, n.2.1, n.2.2, ())) ∧ (¬ (parseF t).2 = 5 → ((parseF t).2 = 0 → (¬ (parseF t).1 < lo → (hi < (parseF t).1 → ((0 : Int), (0 : Int), (7 : Int), ()) = (n.1, n.2.1, n.2.2, ())) ∧ (¬ hi < (parseF t).1 → ((parseF t).1, e, (0 : Int), ()) = (n.1, n.2.1, n.2.2, ()))) ∧
      ((parseF t).1 < lo → ((0 : Int), (0 : Int), (7 : Int), ()) = (n.1, n.2.1, n.2.2, ()))) ∧ (¬ (parseF t).2 = 0 → ((0 : Int), (0 : Int), (7 : Int), ()) = (n.1, n.2.1, n.2.2, ()))) := by
  by_cases k : Lib.itoa (pzs t) = t
  · rw [if_pos k] at hn
    rw [parseF_ok k]
    unfold intB faultB
    by_cases c : -9223372036854775808 ≤ pzs t ∧ pzs t ≤ 9223372036854775807
    · have ho : okB (pzs t) = true := by unfold okB; rw [decide_eq_true c.1, decide_eq_true c.2]; rfl
      rw [if_pos c, if_pos ho]
      refine ⟨fun d => (by cases d), fun _ => ⟨fun _ => ⟨fun d => ⟨fun g => ?_, fun g => ?_⟩, fun d => ?_⟩, fun d => absurd rfl d⟩⟩
      · rw [hn, if_neg (by unfold inR; rw [decide_eq_true_eq]; omega)]
      · rw [hn, if_pos (by unfold inR; rw [decide_eq_true_eq]; omega)]
      · rw [hn, if_neg (by unfold inR; rw [decide_eq_true_eq]; omega)]
    · have ho : okB (pzs t) = false := by
        unfold okB
        rw [Bool.and_eq_false_iff, decide_eq_false_iff_not, decide_eq_false_iff_not]
        omega
      rw [if_neg c, if_neg (by rw [ho]; decide)]
      refine ⟨fun d => (by cases d), fun _ => ⟨fun d => (by cases d), fun _ => ?_⟩⟩
      rw [hn, if_neg (by unfold inR; rw [decide_eq_true_eq]; omega)]
  · rw [if_neg k] at hn
    rw [parseF_bad k, hn]
    exact ⟨fun _ => rfl, fun d => absurd rfl d⟩
theorem first_parts {s : By} {a : Int} (h : ¬ (a < 0 ∨ (s.length : Int) < a)) : s.drop (firstP s a).toNat = Lib.trimPrefix (s.drop a.toNat) [45] ∧ a ≤ firstP s a ∧ firstP s a ≤ s.length ∧ firstP s a + runF (Lib.trimPrefix (s.drop a.toNat) [45]) = a + wideF (s.drop a.toNat) := by
  have hd : (s.drop a.toNat).head? = s[a.toNat]? := by rw [List.head?_eq_getElem?, drop_get]; rfl
  have hdl : (s.drop a.toNat).length = s.length - a.toNat := List.length_drop
  unfold firstP wideF
  rw [trim_minus, hd]
  by_cases c : s[a.toNat]? = some 45
  · have := (List.getElem?_eq_some_iff.1 c).1
    have l2 : (s.drop (a.toNat + 1)).length = s.length - (a.toNat + 1) := List.length_drop
    rw [if_pos c, if_pos c, List.drop_drop]
    refine ⟨by rw [toNat_next (by omega)], by omega, by omega, by omega⟩
  · rw [if_neg c, if_neg c]
    exact ⟨rfl, by omega, by omega, by omega⟩

end Go.Proofs.YtemgelifnjefoaaDoor
