/-
  command: the document reads what the code reads. Plain Lean.
-/
import Derived.Test.YtgdcjefnhcamgaaDoorCmd9
namespace Go.Proofs.YtgdcjefnhcamgaaDoor
open Go.Vm

theorem within_err {s : By} {a e lo hi : Int} (h : ¬ e = 0) : withinF s a e lo hi = (0, a, e) := by
  unfold withinF
  rw [if_neg h]
theorem any_err {s : By} {a e : Int} (h : ¬ e = 0) : anyF s a e = (0, a, e) := within_err h
theorem parts_err {s : By} {e : Int} (h : ¬ e = 0) : ∀ (L : List Int) (a : Int) (l : List Int), (partsGo s L (a, e, l)).2.1 = e
  | [], _, _ => rfl
  | j :: r, a, l => by
    show (partsGo s r ((withinF s a e (loF j) (hiF j)).2.1, (withinF s a e (loF j) (hiF j)).2.2, _)).2.1 = e
    rw [within_err h]
    exact parts_err h r a _
theorem line_err {s : By} {e : Int} (h : ¬ e = 0) : ∀ (n : Nat) (a : Int) (ls : List LnD), (lineGo s n (a, e, ls)).2.1 = e
  | 0, _, _ => rfl
  | n + 1, a, ls => by
    unfold lineGo
    simp only [any_err h]
    exact line_err h n _ _
theorem tail_err {s : By} {k a e : Int} (h : ¬ e = 0) : (tailF s k a e).2.1 = e := by
  unfold tailF
  split
  · simp only [within_err h]
    exact line_err h _ _ _
  · rfl
theorem rest_err {s : By} {c : CmD} {a e : Int} (h : ¬ e = 0) : restF s c a e = (nilC, e) := if_neg h

/-- Numbers put into places, one behind the other. -/
def setR (l : List Int) : Nat → List Int → List Int
  | _, [] => l
  | i, v :: r => setR (l.set i v) (i + 1) r
theorem row_parts (s : By) (M : List Int) : ∀ (n : Nat) (a : Int) (i : Nat) (l out : List Int), i + n ≤ 4 →
    ((rowGo s n a out).2.2 = 0 → ∃ vs, (rowGo s n a out).1 = out ++ vs ∧ vs.length = n ∧ partsGo s ((List.range' i n).map Int.ofNat ++ M) (a, 0, l) = partsGo s M ((rowGo s n a out).2.1, 0, setR l i vs)) ∧
    (¬ (rowGo s n a out).2.2 = 0 → (partsGo s ((List.range' i n).map Int.ofNat ++ M) (a, 0, l)).2.1 = (rowGo s n a out).2.2)
  | 0, a, i, l, out, _ => ⟨fun _ => ⟨[], by simp [rowGo], rfl, rfl⟩, fun h => absurd rfl h⟩
  | n + 1, a, i, l, out, hi => by
    have hlo : loF (Int.ofNat i) = -9223372036854775808 := if_neg (by simp only [Int.ofNat_eq_natCast]; omega)
    have hhi : hiF (Int.ofNat i) = 9223372036854775807 := if_neg (by simp only [Int.ofNat_eq_natCast]; omega)
    have e1 : partsGo s ((List.range' i (n + 1)).map Int.ofNat ++ M) (a, 0, l) = partsGo s ((List.range' (i + 1) n).map Int.ofNat ++ M) ((anyF s a 0).2.1, (anyF s a 0).2.2, l.set i (anyF s a 0).1) := by
      show partsGo s (Int.ofNat i :: ((List.range' (i + 1) n).map Int.ofNat ++ M)) (a, 0, l) = _
      show partsGo s _ ((withinF s a 0 (loF (Int.ofNat i)) (hiF (Int.ofNat i))).2.1, (withinF s a 0 (loF (Int.ofNat i)) (hiF (Int.ofNat i))).2.2, l.set i (withinF s a 0 (loF (Int.ofNat i)) (hiF (Int.ofNat i))).1) = _
      rw [hlo, hhi]
      rfl
    rw [e1]
    unfold rowGo
    by_cases h : (anyF s a 0).2.2 = 0
    · rw [if_pos h, h]
      obtain ⟨ih1, ih2⟩ := row_parts s M n (anyF s a 0).2.1 (i + 1) (l.set i (anyF s a 0).1) (out ++ [(anyF s a 0).1]) (by omega)
      refine ⟨fun h0 => ?_, ih2⟩
      obtain ⟨vs, q1, q2, q3⟩ := ih1 h0
      exact ⟨(anyF s a 0).1 :: vs, by rw [q1]; simp, by simp [q2], q3⟩
    · rw [if_neg h]
      exact ⟨fun h0 => absurd h0 h, fun _ => parts_err h _ _ _⟩
theorem lines_eq (s : By) : ∀ (n : Nat) (a : Int) (out : List LnD),
    ((linesGo s n a out).2.2 = 0 → lineGo s n (a, 0, out) = ((linesGo s n a out).2.1, 0, (linesGo s n a out).1)) ∧ (¬ (linesGo s n a out).2.2 = 0 → (lineGo s n (a, 0, out)).2.1 = (linesGo s n a out).2.2)
  | 0, a, out => ⟨fun _ => rfl, fun h => absurd rfl h⟩
  | n + 1, a, out => by
    have e0 : ∀ (m : Nat) (b : Int) (o : List Int), rowGo s (m + 1) b o = if (anyF s b 0).2.2 = 0 then rowGo s m (anyF s b 0).2.1 (o ++ [(anyF s b 0).1]) else ([], 0, (anyF s b 0).2.2) := fun _ _ _ => rfl
    unfold linesGo lineGo
    dsimp only
    by_cases h1 : (anyF s a 0).2.2 = 0
    · rw [h1]
      by_cases h2 : (anyF s (anyF s a 0).2.1 0).2.2 = 0
      · rw [h2]
        by_cases h3 : (anyF s (anyF s (anyF s a 0).2.1 0).2.1 0).2.2 = 0
        · rw [h3]
          by_cases h4 : (anyF s (anyF s (anyF s (anyF s a 0).2.1 0).2.1 0).2.1 0).2.2 = 0
          · rw [e0, if_pos h1, e0, if_pos h2, e0, if_pos h3, e0, if_pos h4, h4]
            exact lines_eq s n _ _
          · rw [e0, if_pos h1, e0, if_pos h2, e0, if_pos h3, e0, if_neg h4]
            rw [if_neg h4]
            exact ⟨fun h0 => absurd h0 h4, fun _ => line_err h4 _ _ _⟩
        · rw [e0, if_pos h1, e0, if_pos h2, e0, if_neg h3]
          rw [if_neg h3]
          simp only [any_err h3]
          exact ⟨fun h0 => absurd h0 h3, fun _ => line_err h3 _ _ _⟩
      · rw [e0, if_pos h1, e0, if_neg h2]
        rw [if_neg h2]
        simp only [any_err h2]
        exact ⟨fun h0 => absurd h0 h2, fun _ => line_err h2 _ _ _⟩
    · rw [e0, if_neg h1]
      rw [if_neg h1]
      simp only [any_err h1]
      exact ⟨fun h0 => absurd h0 h1, fun _ => line_err h1 _ _ _⟩
theorem tail_seven (s : By) (a : Int) : ((linesFr s a).2.2 = 0 → tailF s 7 a 0 = ((linesFr s a).2.1, 0, (linesFr s a).1)) ∧ (¬ (linesFr s a).2.2 = 0 → (tailF s 7 a 0).2.1 = (linesFr s a).2.2) := by
  unfold tailF linesFr
  rw [if_pos rfl]
  dsimp only
  have e : withinF s a 0 0 50 = rnumF s a 0 50 := rfl
  rw [e]
  by_cases h : (rnumF s a 0 50).2.2 = 0
  · rw [if_pos h, h]
    exact lines_eq s _ _ _
  · rw [if_neg h]
    exact ⟨fun h0 => absurd h0 h, fun _ => line_err h _ _ _⟩

theorem cp_fin {s : By} (h : (kindF s).2.2 = 0) (h2 : ¬ (P0 s).2.1 = 0) : cparseF s = (nilC, (P0 s).2.1) := by
  rw [cp_rest h rfl, tail_err h2]
  exact rest_err h2
theorem rp_fin {s : By} (h : (kindF s).2.2 = 0) (h2 : (R0 s).2.2 = 0) : rparseF s = restF s (C7 s) (S7 s).1 (S7 s).2.1 := by
  unfold rparseF
  rw [if_pos h, if_pos h2]
theorem R0_at {s : By} {k n : Int} (hk : (kindF s).1 = k) (hn : numN k = n) : R0 s = rowGo s n.toNat (kindF s).2.1 [] := by
  unfold R0
  rw [hk, hn]
theorem P0_at {s : By} {k : Int} {L : List Int} (hk : (kindF s).1 = k) (hp : partF k = L) : P0 s = partsGo s L ((kindF s).2.1, 0, zeros) := by
  unfold P0
  rw [hk, hp]
/-- A row that went wrong goes wrong in both. -/
theorem both_err {s : By} (e : (kindF s).2.2 = 0) {k : Int} {n : Nat} {M : List Int} (hk : (kindF s).1 = k) (hn : numN k = n) (hp : partF k = (List.range' 0 n).map Int.ofNat ++ M) (h4 : n ≤ 4) (h : ¬ (R0 s).2.2 = 0) : rparseF s = cparseF s := by
  have hR := R0_at hk hn
  rw [Int.toNat_natCast] at hR
  have hP := P0_at hk hp
  have h1 := (row_parts s M n (kindF s).2.1 0 zeros [] (by omega)).2 (by rw [← hR]; exact h)
  rw [← hP, ← hR] at h1
  rw [cp_fin e (by rw [h1]; exact h), h1]
  unfold rparseF
  rw [if_pos e, if_neg h]
theorem both_ok {s : By} {k : Int} {n : Nat} {M : List Int} (hk : (kindF s).1 = k) (hn : numN k = n) (hp : partF k = (List.range' 0 n).map Int.ofNat ++ M) (h4 : n ≤ 4) (h : (R0 s).2.2 = 0) :
    ∃ vs, (R0 s).1 = vs ∧ vs.length = n ∧ P0 s = partsGo s M ((R0 s).2.1, 0, setR zeros 0 vs) := by
  have hR := R0_at hk hn
  rw [Int.toNat_natCast] at hR
  have hP := P0_at hk hp
  obtain ⟨vs, q1, q2, q3⟩ := (row_parts s M n (kindF s).2.1 0 zeros [] (by omega)).1 (by rw [← hR]; exact h)
  rw [← hP, ← hR] at q3
  exact ⟨vs, by rw [hR, q1]; rfl, q2, q3⟩
theorem C7_eq {s : By} {vs : List Int} {b p : Bool} {n m : Int} {ls : List LnD} {all : List Int} (h0 : (R0 s).1 = vs) (h2 : (S2 s).2.2 = (b, p)) (h5 : (S5 s).2.2 = (n, m)) (h7 : (S7 s).2.2 = ls) (ha : (P0 s).2.2 = all)
    (e0 : nthI (pad4 vs) 0 = nthI all 0) (e1 : nthI (pad4 vs) 1 = nthI all 1) (e2 : nthI (pad4 vs) 2 = nthI all 2) (e3 : nthI (pad4 vs) 3 = nthI all 3) (e4 : b = decide (nthI all 4 = 1)) (e5 : p = decide (nthI all 5 = 1)) (e6 : n = nthI all 6) (e7 : m = nthI all 7) :
    C7 s = hdC s ls := by
  unfold C7 hdC mkC base5
  rw [h0, h2, h5, h7, ha, e0, e1, e2, e3, e4, e5, e6, e7]
theorem len_one {vs : List Int} (h : vs.length = 1) : ∃ v, vs = [v] := List.length_eq_one_iff.1 h
theorem len_two {vs : List Int} (h : vs.length = 2) : ∃ v w, vs = [v, w] := by
  match vs, h with
  | [v, w], _ => exact ⟨v, w, rfl⟩
theorem len_four {vs : List Int} (h : vs.length = 4) : ∃ v w x y, vs = [v, w, x, y] := by
  match vs, h with
  | [v, w, x, y], _ => exact ⟨v, w, x, y, rfl⟩
/-- Kinds with nothing behind the first numbers. -/
theorem eq_plain {s : By} (e : (kindF s).2.2 = 0) {k : Int} {n : Nat} (hk : (kindF s).1 = k) (hn : numN k = n) (hp : partF k = (List.range' 0 n).map Int.ofNat) (h4 : n = 1 ∨ n = 2 ∨ n = 4) (k2 : k ≠ 2) (k5 : k ≠ 5) (k7 : k ≠ 7) : rparseF s = cparseF s := by
  have hp' : partF k = (List.range' 0 n).map Int.ofNat ++ [] := by rw [hp, List.append_nil]
  by_cases h : (R0 s).2.2 = 0
  · obtain ⟨vs, q1, q2, q3⟩ := both_ok hk hn hp' (by omega) h
    have s2 : S2 s = ((R0 s).2.1, 0, false, false) := if_neg (by rw [hk]; exact k2)
    have s5 : S5 s = ((R0 s).2.1, 0, 0, 0) := by unfold S5; rw [if_neg (by rw [hk]; exact k5), s2]
    have s7 : S7 s = ((R0 s).2.1, 0, []) := by unfold S7; rw [if_neg (by rw [hk]; exact k7), s5]
    have ht : tailF s (kindF s).1 (P0 s).1 (P0 s).2.1 = ((R0 s).2.1, 0, []) := by
      rw [q3]
      unfold tailF
      rw [if_neg (by rw [hk]; exact k7)]
      rfl
    rw [rp_fin e h, cp_rest e ht, s7]
    have hc : C7 s = hdC s [] := by
      rcases h4 with rfl | rfl | rfl
      · obtain ⟨v, rfl⟩ := len_one q2
        exact C7_eq (b := false) (p := false) (n := 0) (m := 0) (ls := []) (all := setR zeros 0 _) q1 (by rw [s2]) (by rw [s5]) (by rw [s7]) (by rw [q3]; rfl) rfl rfl rfl rfl rfl rfl rfl rfl
      · obtain ⟨v, w, rfl⟩ := len_two q2
        exact C7_eq (b := false) (p := false) (n := 0) (m := 0) (ls := []) (all := setR zeros 0 _) q1 (by rw [s2]) (by rw [s5]) (by rw [s7]) (by rw [q3]; rfl) rfl rfl rfl rfl rfl rfl rfl rfl
      · obtain ⟨v, w, x, y, rfl⟩ := len_four q2
        exact C7_eq (b := false) (p := false) (n := 0) (m := 0) (ls := []) (all := setR zeros 0 _) q1 (by rw [s2]) (by rw [s5]) (by rw [s7]) (by rw [q3]; rfl) rfl rfl rfl rfl rfl rfl rfl rfl
    rw [hc]
  · exact both_err e hk hn hp' (by omega) h
theorem eq_two {s : By} (e : (kindF s).2.2 = 0) (hk : (kindF s).1 = 2) : rparseF s = cparseF s := by
  have hn : numN 2 = (2 : Nat) := rfl
  have hp : partF 2 = (List.range' 0 2).map Int.ofNat ++ [4, 5] := rfl
  by_cases h : (R0 s).2.2 = 0
  · obtain ⟨vs, q1, q2, q3⟩ := both_ok hk hn hp (by omega) h
    obtain ⟨v, w, rfl⟩ := len_two q2
    generalize ha : (R0 s).2.1 = a at q3
    have q3 : P0 s = ((withinF s (rnumF s a 0 1).2.1 (rnumF s a 0 1).2.2 0 1).2.1, (withinF s (rnumF s a 0 1).2.1 (rnumF s a 0 1).2.2 0 1).2.2, [v, w, 0, 0, (rnumF s a 0 1).1, (withinF s (rnumF s a 0 1).2.1 (rnumF s a 0 1).2.2 0 1).1, 0, 0]) := q3
    by_cases hx : (rnumF s a 0 1).2.2 = 0
    · rw [hx] at q3
      have s2 : S2 s = ((rnumF s (rnumF s a 0 1).2.1 0 1).2.1, (rnumF s (rnumF s a 0 1).2.1 0 1).2.2, decide ((rnumF s a 0 1).1 = 1), decide ((rnumF s (rnumF s a 0 1).2.1 0 1).1 = 1)) := by
        unfold S2
        rw [ha, if_pos hk, if_pos hx]
      have s5 : S5 s = ((S2 s).1, (S2 s).2.1, 0, 0) := if_neg (by rw [hk]; decide)
      have s7 : S7 s = ((S2 s).1, (S2 s).2.1, []) := by unfold S7; rw [if_neg (by rw [hk]; decide), s5]
      have ht : tailF s (kindF s).1 (P0 s).1 (P0 s).2.1 = ((S2 s).1, (S2 s).2.1, []) := by
        rw [q3, s2]
        unfold tailF
        rw [if_neg (by rw [hk]; decide)]
        rfl
      rw [rp_fin e h, cp_rest e ht, s7]
      have hc : C7 s = hdC s [] := C7_eq (b := decide ((rnumF s a 0 1).1 = 1)) (p := decide ((rnumF s (rnumF s a 0 1).2.1 0 1).1 = 1)) (n := 0) (m := 0) (ls := []) (all := [v, w, 0, 0, (rnumF s a 0 1).1, (rnumF s (rnumF s a 0 1).2.1 0 1).1, 0, 0]) q1 (by rw [s2]) (by rw [s5]) (by rw [s7]) (by rw [q3]; rfl) rfl rfl rfl rfl rfl rfl rfl rfl
      rw [hc]
    · have hP : (P0 s).2.1 = (rnumF s a 0 1).2.2 := by rw [q3, within_err hx]
      rw [cp_fin e (by rw [hP]; exact hx), hP, rp_fin e h]
      have s2 : S2 s = ((rnumF s a 0 1).2.1, (rnumF s a 0 1).2.2, decide ((rnumF s a 0 1).1 = 1), false) := by
        unfold S2
        rw [ha, if_pos hk, if_neg hx]
      have s5 : S5 s = ((S2 s).1, (S2 s).2.1, 0, 0) := if_neg (by rw [hk]; decide)
      have s7 : S7 s = ((S2 s).1, (S2 s).2.1, []) := by unfold S7; rw [if_neg (by rw [hk]; decide), s5]
      rw [s7, s2]
      exact rest_err hx
  · exact both_err e hk hn hp (by omega) h
theorem eq_five {s : By} (e : (kindF s).2.2 = 0) (hk : (kindF s).1 = 5) : rparseF s = cparseF s := by
  have hn : numN 5 = (4 : Nat) := rfl
  have hp : partF 5 = (List.range' 0 4).map Int.ofNat ++ [6, 7] := rfl
  by_cases h : (R0 s).2.2 = 0
  · obtain ⟨vs, q1, q2, q3⟩ := both_ok hk hn hp (by omega) h
    obtain ⟨v, w, x, y, rfl⟩ := len_four q2
    generalize ha : (R0 s).2.1 = a at q3
    have q3 : P0 s = ((anyF s (anyF s a 0).2.1 (anyF s a 0).2.2).2.1, (anyF s (anyF s a 0).2.1 (anyF s a 0).2.2).2.2, [v, w, x, y, 0, 0, (anyF s a 0).1, (anyF s (anyF s a 0).2.1 (anyF s a 0).2.2).1]) := q3
    have s2 : S2 s = (a, 0, false, false) := by
      unfold S2
      rw [if_neg (by rw [hk]; decide), ha]
    have hrow : rowGo s 2 a [] = if (anyF s a 0).2.2 = 0 then (if (anyF s (anyF s a 0).2.1 0).2.2 = 0 then ([(anyF s a 0).1, (anyF s (anyF s a 0).2.1 0).1], (anyF s (anyF s a 0).2.1 0).2.1, 0) else ([], 0, (anyF s (anyF s a 0).2.1 0).2.2)) else ([], 0, (anyF s a 0).2.2) := rfl
    have s5 : S5 s = if (rowGo s 2 a []).2.2 = 0 then ((rowGo s 2 a []).2.1, 0, nthI (rowGo s 2 a []).1 0, nthI (rowGo s 2 a []).1 1) else ((rowGo s 2 a []).2.1, (rowGo s 2 a []).2.2, 0, 0) := by
      unfold S5
      rw [if_pos hk, s2]
    have s7 : S7 s = ((S5 s).1, (S5 s).2.1, []) := if_neg (by rw [hk]; decide)
    by_cases hx : (anyF s a 0).2.2 = 0
    · rw [hx] at q3
      by_cases hy : (anyF s (anyF s a 0).2.1 0).2.2 = 0
      · rw [hrow, if_pos hx, if_pos hy] at s5
        have s5 : S5 s = ((anyF s (anyF s a 0).2.1 0).2.1, 0, (anyF s a 0).1, (anyF s (anyF s a 0).2.1 0).1) := s5
        have ht : tailF s (kindF s).1 (P0 s).1 (P0 s).2.1 = ((anyF s (anyF s a 0).2.1 0).2.1, 0, []) := by
          rw [q3, hy]
          unfold tailF
          rw [if_neg (by rw [hk]; decide)]
        rw [rp_fin e h, cp_rest e ht, s7, s5]
        have hc : C7 s = hdC s [] := C7_eq (b := false) (p := false) (n := (anyF s a 0).1) (m := (anyF s (anyF s a 0).2.1 0).1) (ls := []) (all := [v, w, x, y, 0, 0, (anyF s a 0).1, (anyF s (anyF s a 0).2.1 0).1]) q1 (by rw [s2]) (by rw [s5]) (by rw [s7]) (by rw [q3]) rfl rfl rfl rfl rfl rfl rfl rfl
        rw [hc]
      · have hP : (P0 s).2.1 = (anyF s (anyF s a 0).2.1 0).2.2 := by rw [q3]
        rw [cp_fin e (by rw [hP]; exact hy), hP, rp_fin e h]
        rw [hrow, if_pos hx, if_neg hy] at s5
        have s5 : S5 s = (0, (anyF s (anyF s a 0).2.1 0).2.2, 0, 0) := s5.trans (if_neg hy)
        rw [s7, s5]
        exact rest_err hy
    · have hP : (P0 s).2.1 = (anyF s a 0).2.2 := by rw [q3, any_err hx]
      rw [cp_fin e (by rw [hP]; exact hx), hP, rp_fin e h]
      rw [hrow, if_neg hx] at s5
      have s5 : S5 s = (0, (anyF s a 0).2.2, 0, 0) := s5.trans (if_neg hx)
      rw [s7, s5]
      exact rest_err hx
  · exact both_err e hk hn hp (by omega) h
theorem eq_seven {s : By} (e : (kindF s).2.2 = 0) (hk : (kindF s).1 = 7) : rparseF s = cparseF s := by
  have hn : numN 7 = (1 : Nat) := rfl
  have hp : partF 7 = (List.range' 0 1).map Int.ofNat ++ [] := rfl
  by_cases h : (R0 s).2.2 = 0
  · obtain ⟨vs, q1, q2, q3⟩ := both_ok hk hn hp (by omega) h
    obtain ⟨v, rfl⟩ := len_one q2
    generalize ha : (R0 s).2.1 = a at q3
    have q3 : P0 s = (a, 0, [v, 0, 0, 0, 0, 0, 0, 0]) := q3
    have s2 : S2 s = (a, 0, false, false) := by
      unfold S2
      rw [if_neg (by rw [hk]; decide), ha]
    have s5 : S5 s = (a, 0, 0, 0) := by
      unfold S5
      rw [if_neg (by rw [hk]; decide), s2]
    have s7 : S7 s = ((linesFr s a).2.1, (linesFr s a).2.2, (linesFr s a).1) := by
      unfold S7
      rw [if_pos hk, s5]
    obtain ⟨t1, t2⟩ := tail_seven s a
    by_cases hx : (linesFr s a).2.2 = 0
    · have ht : tailF s (kindF s).1 (P0 s).1 (P0 s).2.1 = ((linesFr s a).2.1, 0, (linesFr s a).1) := by
        rw [q3, hk]
        exact t1 hx
      rw [rp_fin e h, cp_rest e ht, s7, hx]
      have hc : C7 s = hdC s (linesFr s a).1 := C7_eq (b := false) (p := false) (n := 0) (m := 0) (ls := (linesFr s a).1) (all := [v, 0, 0, 0, 0, 0, 0, 0]) q1 (by rw [s2]) (by rw [s5]) (by rw [s7]) (by rw [q3]) rfl rfl rfl rfl rfl rfl rfl rfl
      rw [hc]
    · have ht : (tailF s (kindF s).1 (P0 s).1 (P0 s).2.1).2.1 = (linesFr s a).2.2 := by
        rw [q3, hk]
        exact t2 hx
      rw [rp_fin e h, cp_rest e rfl, s7, ht, rest_err hx, rest_err hx]
  · exact both_err e hk hn hp (by omega) h
theorem rparse_eq (s : By) : rparseF s = cparseF s := by
  by_cases e : (kindF s).2.2 = 0
  · obtain ⟨h1, h8⟩ := kindF_in e
    rcases kinds_of h1 h8 with hk | hk | hk | hk | hk | hk | hk | hk
    · exact eq_plain e hk (n := 1) rfl rfl (by omega) (by decide) (by decide) (by decide)
    · exact eq_two e hk
    · exact eq_plain e hk (n := 2) rfl rfl (by omega) (by decide) (by decide) (by decide)
    · exact eq_plain e hk (n := 4) rfl rfl (by omega) (by decide) (by decide) (by decide)
    · exact eq_five e hk
    · exact eq_plain e hk (n := 2) rfl rfl (by omega) (by decide) (by decide) (by decide)
    · exact eq_seven e hk
    · exact eq_plain e hk (n := 2) rfl rfl (by omega) (by decide) (by decide) (by decide)
  · rw [cp_err e]
    unfold rparseF
    rw [if_neg e]

end Go.Proofs.YtgdcjefnhcamgaaDoor
