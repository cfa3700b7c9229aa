/-
  cell: a key comes back of its text: the plain law.
-/
import Derived.Test.YtemgelifnjefoaaDoorCell6
namespace Go.Proofs.YtemgelifnjefoaaDoor
open Go.Vm

theorem lit_at {s w : By} {a : Int} (h : 0 ≤ a ∧ a ≤ s.length) : litF s a w = if Lib.hasPrefix (s.drop a.toNat) w then (a + w.length, 0) else if Lib.hasPrefix w (s.drop a.toNat) then (0, 4) else (0, 8) := by
  unfold litF
  rw [if_neg (by omega)]
theorem lit_read {s w : By} {a : Int} (h : (litF s a w).2 = 0) : 0 ≤ a ∧ a ≤ s.length ∧ (litF s a w).1 = a + w.length ∧ a + w.length ≤ s.length ∧ s.take (a + w.length).toNat = s.take a.toNat ++ w := by
  by_cases hb : a < 0 ∨ (s.length : Int) < a
  · rw [litF_bad hb] at h
    cases h
  rw [lit_at (by omega)] at h ⊢
  by_cases hp : Lib.hasPrefix (s.drop a.toNat) w = true
  · rw [if_pos hp]
    have e := (hasPrefix_iff _ _).1 hp
    have hl := congrArg List.length e
    rw [List.length_take, List.length_drop] at hl
    refine ⟨by omega, by omega, rfl, by omega, ?_⟩
    rw [show (a + (w.length : Int)).toNat = a.toNat + w.length by omega, List.take_add, e]
  · rw [if_neg hp] at h
    split at h <;> cases h
theorem seven {k : Int} (h1 : 1 ≤ k) (h7 : k ≤ 7) : k = 1 ∨ k = 2 ∨ k = 3 ∨ k = 4 ∨ k = 5 ∨ k = 6 ∨ k = 7 := by omega
theorem wd_text {k : Int} (h1 : 1 ≤ k) (h7 : k ≤ 7) (pre suf : By) : wdF (pre ++ (wordC k ++ suf)) pre.length = (k, ((pre ++ wordC k).length : Int), 0) := by
  have hd : (pre ++ (wordC k ++ suf)).drop pre.length = wordC k ++ suf := List.drop_left
  have hl : ∀ w, litF (pre ++ (wordC k ++ suf)) pre.length w = if Lib.hasPrefix (wordC k ++ suf) w then ((pre.length : Int) + w.length, 0) else if Lib.hasPrefix w (wordC k ++ suf) then (0, 4) else (0, 8) := fun w => by
    rw [lit_at ⟨by omega, by rw [List.length_append]; omega⟩, Int.toNat_natCast, hd]
  rw [List.length_append, Int.natCast_add]
  clear hd
  generalize pre ++ (wordC k ++ suf) = S at hl ⊢
  rcases seven h1 h7 with rfl | rfl | rfl | rfl | rfl | rfl | rfl <;> simp [wdF, wordsL, wdL, hl, Lib.hasPrefix, wordC, List.isPrefixOf]
theorem wdL_read {s : By} {a : Int} : ∀ (l : List By) (i : Int) (sh : Bool), (∀ (j : Nat) (w : By), l[j]? = some w → 1 ≤ i + 1 + j ∧ i + 1 + j ≤ 7 ∧ wordC (i + 1 + j) = w) → (wdL s a l i sh).2.2 = 0 →
    0 ≤ a ∧ 1 ≤ (wdL s a l i sh).1 ∧ (wdL s a l i sh).1 ≤ 7 ∧ a ≤ (wdL s a l i sh).2.1 ∧ (wdL s a l i sh).2.1 ≤ s.length ∧ s.take (wdL s a l i sh).2.1.toNat = s.take a.toNat ++ wordC (wdL s a l i sh).1
  | [], i, sh, _, h => by
    unfold wdL at h
    split at h <;> cases h
  | w :: r, i, sh, hw, h => by
    unfold wdL at h ⊢
    by_cases e : (litF s a w).2 = 0
    · rw [if_pos e]
      obtain ⟨p1, p2, p3, p4, p5⟩ := lit_read e
      obtain ⟨q1, q2, q3⟩ := hw 0 w rfl
      simp only [Int.natCast_zero, Int.add_zero] at q1 q2 q3
      dsimp only
      rw [p3, q3]
      exact ⟨p1, q1, q2, by omega, p4, p5⟩
    · rw [if_neg e] at h ⊢
      by_cases f : (litF s a w).2 = 2
      · rw [if_pos f] at h
        cases h
      · rw [if_neg f] at h ⊢
        refine wdL_read r _ _ (fun j x hx => ?_) h
        have := hw (j + 1) x (by simpa using hx)
        rwa [show i + 1 + ((j + 1 : Nat) : Int) = i + 1 + 1 + j by omega] at this
theorem wd_read {s : By} {a : Int} (h : (wdF s a).2.2 = 0) : 0 ≤ a ∧ 1 ≤ (wdF s a).1 ∧ (wdF s a).1 ≤ 7 ∧ a ≤ (wdF s a).2.1 ∧ (wdF s a).2.1 ≤ s.length ∧ s.take (wdF s a).2.1.toNat = s.take a.toNat ++ wordC (wdF s a).1 :=
  wdL_read wordsL 0 false (fun j w hj => by
    have hl : j < 7 := (List.getElem?_eq_some_iff.1 hj).1
    refine ⟨by omega, by omega, ?_⟩
    unfold wordC
    rw [show ((0 : Int) + 1 + j - 1).toNat = j by omega, hj]
    rfl) h

theorem say_one (n : Int) : sayF [n] = 32 :: Lib.itoa n := by simp [sayF]
theorem nm_text {s pre suf : By} {n : Int} (hs : s = pre ++ (sayF [n] ++ suf)) (h0 : 0 ≤ n) (h1 : n ≤ 99) (hc : ∀ c, suf.head? = some c → isDig c = false) : nmF s pre.length 0 = (n, ((pre ++ sayF [n]).length : Int), 0) := by
  have hn : InI n := by unfold InI; omega
  have hd : s.drop pre.length = 32 :: (Lib.itoa n ++ suf) := by rw [hs, List.drop_left, say_one]; rfl
  have hlen : s.length = pre.length + (1 + (Lib.itoa n).length + suf.length) := by
    rw [hs, say_one, List.length_append, List.length_append, List.length_cons]
    omega
  have hl : litF s pre.length [32] = ((pre.length : Int) + 1, 0) := by
    unfold litF
    rw [if_neg (by omega), Int.toNat_natCast, hd, if_pos (by simp [Lib.hasPrefix])]
    rfl
  have hd2 : s.drop ((pre.length : Int) + 1).toNat = Lib.itoa n ++ suf := by
    rw [show ((pre.length : Int) + 1).toNat = pre.length + 1 by omega, ← List.drop_drop, hd]
    rfl
  unfold nmF
  rw [if_pos rfl, hl, if_pos rfl]
  dsimp only
  rw [numF_in (by omega), hd2, numR_back hn h0 h1 hc, List.length_append, say_one, List.length_cons]
  congr 2
  omega
theorem nm_read {s : By} {a : Int} (ha : 0 ≤ a) (ha2 : a ≤ s.length) (h : (nmF s a 0).2.2 = 0) :
    a ≤ (nmF s a 0).2.1 ∧ (nmF s a 0).2.1 ≤ s.length ∧ s.take (nmF s a 0).2.1.toNat = s.take a.toNat ++ sayF [(nmF s a 0).1] := by
  unfold nmF at h ⊢
  rw [if_pos rfl] at h ⊢
  by_cases hl : (litF s a [32]).2 = 0
  · rw [if_pos hl] at h ⊢
    obtain ⟨_, _, l1, l2, l3⟩ := lit_read hl
    rw [l1] at h ⊢
    have l2 : a + 1 ≤ s.length := l2
    have l3 : s.take (a + 1).toNat = s.take a.toNat ++ [32] := l3
    show a ≤ (numF s (a + 1) 0 99).2.1 ∧ (numF s (a + 1) 0 99).2.1 ≤ s.length ∧ s.take (numF s (a + 1) 0 99).2.1.toNat = s.take a.toNat ++ sayF [(numF s (a + 1) 0 99).1]
    have h : (numF s (a + 1) 0 99).2.2 = 0 := h
    obtain ⟨⟨_, n2⟩, ⟨n3, n4⟩, ⟨n5, n6⟩, n7, n8, _⟩ := numF_zero h
    refine ⟨by omega, n4, ?_⟩
    generalize (numF s (a + 1) 0 99).2.1 = b at n3 n4 n8 ⊢
    generalize (numF s (a + 1) 0 99).1 = n at n8 ⊢
    have e2 : sayF [n] = [32] ++ Lib.itoa n := by simp [sayF]
    rw [e2, n8, ← List.append_assoc, ← l3]
    have : s.take (a + 1).toNat = (s.take b.toNat).take (a + 1).toNat := by
      rw [List.take_take, Nat.min_eq_left (by omega)]
    rw [this, List.take_append_drop]
  · rw [if_neg hl] at h
    exact absurd h hl
theorem nm_err {s : By} {a e : Int} (h : ¬ e = 0) : nmF s a e = (0, a, e) := if_neg h
theorem nx_err {s : By} {x : Int × Int × Int} (h : ¬ x.2.2 = 0) : ¬ (nx s x).2.2 = 0 := by
  unfold nx
  rw [nm_err h]
  exact h
theorem head_say {suf : By} (hc : ∀ c, suf.head? = some c → isDig c = false) : ∀ (l : List Int) (c : UInt8), (sayF l ++ suf).head? = some c → isDig c = false
  | [], c, h => hc c h
  | n :: r, c, h => by
    have : some (32 : UInt8) = some c := by
      rw [← h]
      simp [sayF]
    cases this
    decide
theorem ok_nums {c : CeD} (h : okC c) : ∀ n ∈ numsC c, 0 ≤ n ∧ n ≤ 99 := by
  obtain ⟨h1, h2, h3, h4, h5, h6, h7, h8, h9, h10, h11, h12, h13, h14⟩ := h
  intro n hn
  simp only [numsC, List.mem_cons, List.not_mem_nil, or_false] at hn
  by_cases h : c.1 ≤ 2
  · have := h9 h
    omega
  · have := h10 (by omega)
    omega
theorem nx_text {s pre suf : By} {n : Int} {x : Int × Int × Int} (hx : x.2.1 = pre.length) (hx2 : x.2.2 = 0) (hs : s = pre ++ (sayF [n] ++ suf)) (h0 : 0 ≤ n ∧ n ≤ 99) (hc : ∀ c, suf.head? = some c → isDig c = false) : nx s x = (n, ((pre ++ sayF [n]).length : Int), 0) := by
  unfold nx
  rw [hx, hx2]
  exact nm_text hs h0.1 h0.2 hc
/-- A key, written, is read. -/
theorem take_text {c : CeD} (h : okC c) (pre suf : By) (hc : ∀ c, suf.head? = some c → isDig c = false) : takeF (pre ++ (textC c ++ suf)) pre.length = (c, ((pre ++ textC c).length : Int), 0) := by
  obtain ⟨r, e, a, p, cu, q⟩ := c
  have hn := ok_nums h
  simp only [numsC, List.mem_cons, List.not_mem_nil, or_false] at hn
  have hsay : sayF (numsC (r, e, a, p, cu, q)) = sayF [e] ++ (sayF [a] ++ (sayF [p] ++ (sayF [cu] ++ sayF [q]))) := by simp [numsC, sayF]
  generalize hS : pre ++ (textC (r, e, a, p, cu, q) ++ suf) = S
  have hT : S = pre ++ (wordC r ++ (sayF [e] ++ (sayF [a] ++ (sayF [p] ++ (sayF [cu] ++ (sayF [q] ++ suf)))))) := by
    rw [← hS, textC, hsay]
    simp
  have w : wdF S pre.length = (r, ((pre ++ wordC r).length : Int), 0) := by rw [hT]; exact wd_text h.1 h.2.1 _ _
  have hd := fun l => head_say hc l
  have e1 : n1F S pre.length = (e, (((pre ++ wordC r) ++ sayF [e]).length : Int), 0) := by
    unfold n1F
    rw [w]
    exact nm_text (suf := sayF [a, p, cu, q] ++ suf) (by rw [hT]; simp [sayF]) (hn e (by simp)).1 (hn e (by simp)).2 (hd _)
  have e2 := nx_text (s := S) (x := n1F S pre.length) (pre := (pre ++ wordC r) ++ sayF [e]) (n := a) (suf := sayF [p, cu, q] ++ suf) (by rw [e1]) (by rw [e1]) (by rw [hT]; simp [sayF]) (hn a (by simp)) (hd _)
  have e3 := nx_text (s := S) (x := nx S (n1F S pre.length)) (pre := (pre ++ wordC r) ++ sayF [e] ++ sayF [a]) (n := p) (suf := sayF [cu, q] ++ suf) (by rw [e2]) (by rw [e2]) (by rw [hT]; simp [sayF]) (hn p (by simp)) (hd _)
  have e4 := nx_text (s := S) (x := nx S (nx S (n1F S pre.length))) (pre := (pre ++ wordC r) ++ sayF [e] ++ sayF [a] ++ sayF [p]) (n := cu) (suf := sayF [q] ++ suf) (by rw [e3]) (by rw [e3]) (by rw [hT]; simp [sayF]) (hn cu (by simp)) (hd _)
  have e5 := nx_text (s := S) (x := nx S (nx S (nx S (n1F S pre.length)))) (pre := (pre ++ wordC r) ++ sayF [e] ++ sayF [a] ++ sayF [p] ++ sayF [cu]) (n := q) (suf := suf) (by rw [e4]) (by rw [e4]) (by rw [hT]; simp [sayF]) (hn q (by simp)) hc
  have hk : keyF S pre.length = (r, e, a, p, cu, q) := by
    unfold keyF
    rw [w, e5, e4, e3, e2, e1]
  unfold takeF endF
  rw [w, hk, e5, if_pos rfl, if_pos rfl, if_pos h]
  congr 2
  rw [textC, hsay]
  simp
theorem take_err {s : By} {a : Int} (h : ¬ (takeF s a).2.2 = 0) : (takeF s a).1 = nilK ∧ (takeF s a).2.1 = 0 := by
  unfold takeF at h ⊢
  repeat' split
  all_goals first | exact ⟨rfl, rfl⟩ | (rename_i h1 h2 h3; exact absurd rfl (by rwa [if_pos h1, if_pos h2, if_pos h3] at h))
/-- A key, read, is written. -/
theorem take_read {s : By} {a : Int} (h : (takeF s a).2.2 = 0) : okC (takeF s a).1 ∧ 0 ≤ a ∧ a ≤ (takeF s a).2.1 ∧ (takeF s a).2.1 ≤ s.length ∧ s.take (takeF s a).2.1.toNat = s.take a.toNat ++ textC (takeF s a).1 := by
  by_cases h1 : (wdF s a).2.2 = 0
  rotate_left
  · have : takeF s a = (nilK, 0, (wdF s a).2.2) := if_neg h1
    rw [this] at h
    exact absurd h h1
  by_cases h2 : (endF s a).2.2 = 0
  rotate_left
  · have : takeF s a = (nilK, 0, (endF s a).2.2) := by unfold takeF; rw [if_pos h1, if_neg h2]
    rw [this] at h
    exact absurd h h2
  by_cases h3 : okC (keyF s a)
  rotate_left
  · have : takeF s a = (nilK, 0, 41) := by unfold takeF; rw [if_pos h1, if_pos h2, if_neg h3]
    rw [this] at h
    cases h
  have ht : takeF s a = (keyF s a, (endF s a).2.1, 0) := by unfold takeF; rw [if_pos h1, if_pos h2, if_pos h3]
  rw [ht]
  obtain ⟨w1, w2, w3, w4, w5, w6⟩ := wd_read h1
  have step : ∀ x : Int × Int × Int, (nx s x).2.2 = 0 → 0 ≤ x.2.1 → x.2.1 ≤ s.length → x.2.1 ≤ (nx s x).2.1 ∧ (nx s x).2.1 ≤ s.length ∧ s.take (nx s x).2.1.toNat = s.take x.2.1.toNat ++ sayF [(nx s x).1] := fun x hx p1 p2 => by
    have h0 : x.2.2 = 0 := Classical.byContradiction fun k => nx_err k hx
    unfold nx at hx ⊢
    rw [h0] at hx ⊢
    exact nm_read p1 p2 hx
  have z4 : (nx s (nx s (nx s (n1F s a)))).2.2 = 0 := Classical.byContradiction fun k => nx_err k h2
  have z3 : (nx s (nx s (n1F s a))).2.2 = 0 := Classical.byContradiction fun k => nx_err k z4
  have z2 : (nx s (n1F s a)).2.2 = 0 := Classical.byContradiction fun k => nx_err k z3
  have z1 : (n1F s a).2.2 = 0 := Classical.byContradiction fun k => nx_err k z2
  obtain ⟨a1, a2, a3⟩ := nm_read (by omega) w5 z1
  have a1 : (wdF s a).2.1 ≤ (n1F s a).2.1 := a1
  have a2 : (n1F s a).2.1 ≤ s.length := a2
  obtain ⟨b1, b2, b3⟩ := step _ z2 (by omega) a2
  obtain ⟨c1, c2, c3⟩ := step _ z3 (by omega) b2
  obtain ⟨d1, d2, d3⟩ := step _ z4 (by omega) c2
  obtain ⟨e1, e2, e3⟩ := step _ h2 (by omega) d2
  have e1 : _ ≤ (endF s a).2.1 := e1
  refine ⟨h3, w1, (show a ≤ (endF s a).2.1 by omega), e2, ?_⟩
  show s.take (endF s a).2.1.toNat = _
  have e3 : s.take (endF s a).2.1.toNat = _ := e3
  have a3 : s.take (n1F s a).2.1.toNat = s.take (wdF s a).2.1.toNat ++ sayF [(n1F s a).1] := a3
  rw [e3, d3, c3, b3, a3, w6]
  unfold textC keyF numsC
  simp [sayF]

end Go.Proofs.YtemgelifnjefoaaDoor
