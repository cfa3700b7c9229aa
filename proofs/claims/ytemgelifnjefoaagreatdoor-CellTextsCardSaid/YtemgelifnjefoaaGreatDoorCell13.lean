/-
  cell: both read the same: the plain law; CellTexts: the walk.
-/
import Derived.Test.YtemgelifnjefoaaGreatDoorCell12
import Derived.Test.YtemgelifnjefoaaGreatDoorCell8
namespace Go.Proofs.YtemgelifnjefoaaGreatDoor
open Go.Vm

theorem numL_step (s : By) (n : Nat) (a : Int) (l : List Int) : numL s (n + 1) a l = if (nmF s a 0).2.2 = 0 then numL s n (nmF s a 0).2.1 (l ++ [(nmF s a 0).1]) else (l, 0, (nmF s a 0).2.2) := by
  rw [numL]
  unfold nmF
  rw [if_pos rfl]
  by_cases h : (litF s a [32]).2 = 0
  · rw [if_pos h, if_pos h]
  · rw [if_neg h, if_neg h, if_neg (by exact h)]
theorem nx_zero {s : By} {x : Int × Int × Int} (h : x.2.2 = 0) : nx s x = nmF s x.2.1 0 := by
  unfold nx
  rw [h]
theorem nx_stay {s : By} {x : Int × Int × Int} (h : ¬ x.2.2 = 0) : (nx s x).2.2 = x.2.2 := by
  unfold nx nmF
  rw [if_neg h]
/-- The numbers, both ways. -/
theorem nums_both (s : By) (a : Int) :
    let x1 := nmF s a 0
    let x2 := nx s x1
    let x3 := nx s x2
    let x4 := nx s x3
    let x5 := nx s x4
    (x5.2.2 = 0 → numL s 5 a [] = ([x1.1, x2.1, x3.1, x4.1, x5.1], x5.2.1, 0)) ∧ (¬ x5.2.2 = 0 → (numL s 5 a []).2.2 = x5.2.2) := by
  intro x1 x2 x3 x4 x5
  rw [numL_step]
  by_cases h1 : x1.2.2 = 0
  rotate_left
  · have e2 : x2.2.2 = x1.2.2 := nx_stay h1
    have e3 : x3.2.2 = x2.2.2 := nx_stay (by rw [e2]; exact h1)
    have e4 : x4.2.2 = x3.2.2 := nx_stay (by rw [e3, e2]; exact h1)
    have e5 : x5.2.2 = x4.2.2 := nx_stay (by rw [e4, e3, e2]; exact h1)
    rw [e5, e4, e3, e2, if_neg h1]
    exact ⟨fun h => absurd h h1, fun _ => rfl⟩
  have y2 : nmF s x1.2.1 0 = x2 := (nx_zero h1).symm
  rw [if_pos h1, numL_step, show nmF s (nmF s a 0).2.1 0 = x2 from y2]
  by_cases h2 : x2.2.2 = 0
  rotate_left
  · have e3 : x3.2.2 = x2.2.2 := nx_stay h2
    have e4 : x4.2.2 = x3.2.2 := nx_stay (by rw [e3]; exact h2)
    have e5 : x5.2.2 = x4.2.2 := nx_stay (by rw [e4, e3]; exact h2)
    rw [e5, e4, e3, if_neg h2]
    exact ⟨fun h => absurd h h2, fun _ => rfl⟩
  have y3 : nmF s x2.2.1 0 = x3 := (nx_zero h2).symm
  rw [if_pos h2, numL_step, y3]
  by_cases h3 : x3.2.2 = 0
  rotate_left
  · have e4 : x4.2.2 = x3.2.2 := nx_stay h3
    have e5 : x5.2.2 = x4.2.2 := nx_stay (by rw [e4]; exact h3)
    rw [e5, e4, if_neg h3]
    exact ⟨fun h => absurd h h3, fun _ => rfl⟩
  have y4 : nmF s x3.2.1 0 = x4 := (nx_zero h3).symm
  rw [if_pos h3, numL_step, y4]
  by_cases h4 : x4.2.2 = 0
  rotate_left
  · have e5 : x5.2.2 = x4.2.2 := nx_stay h4
    rw [e5, if_neg h4]
    exact ⟨fun h => absurd h h4, fun _ => rfl⟩
  have y5 : nmF s x4.2.1 0 = x5 := (nx_zero h4).symm
  rw [if_pos h4, numL_step, y5]
  by_cases h5 : x5.2.2 = 0
  · rw [if_pos h5]
    exact ⟨fun _ => rfl, fun h => absurd h5 h⟩
  · rw [if_neg h5]
    exact ⟨fun h => absurd h h5, fun _ => rfl⟩

theorem lit_two {s w : By} {a : Int} (h : ¬ (a < 0 ∨ (s.length : Int) < a)) : ¬ (litF s a w).2 = 2 := by
  unfold litF
  rw [if_neg h]
  repeat' split
  all_goals simp
theorem lit_rd {s w : By} {a : Int} (h : (litF s a w).2 = 0) : (s.drop a.toNat).take w.length = w := by
  unfold litF at h
  split at h
  · cases h
  · split at h
    · rename_i hp
      exact (hasPrefix_iff _ _).1 hp
    · split at h <;> cases h
theorem lit_pre {s w : By} {a : Int} {x y : UInt8} {r : By} (hw : w = x :: y :: r) (h : (litF s a w).2 = 0) : ((s.drop a.toNat)[0]?, (s.drop a.toNat)[1]?) = (some x, some y) := by
  have h5 := lit_rd h
  subst hw
  generalize s.drop a.toNat = t at h5
  match t, h5 with
  | p :: q :: t, h5 =>
    simp only [List.length_cons, List.take_succ_cons, List.cons.injEq] at h5
    obtain ⟨rfl, rfl, _⟩ := h5
    rfl
  | [p], h5 => simp at h5
  | [], h5 => simp at h5
/-- The word, both ways. -/
theorem word_both {s : By} {a : Int} (h : ¬ (a < 0 ∨ (s.length : Int) < a)) :
    ((wdF s a).2.2 = 0 → (lw s a).1 = (wdF s a).1 ∧ (lw s a).2.1 = (wdF s a).2.1 ∧ ¬ (lw s a).1 = 0) ∧ (¬ (wdF s a).2.2 = 0 → (lw s a).1 = 0 ∧ (wdF s a).2.2 = if (lw s a).2.2 = true then 4 else 8) := by
  have t := fun w => lit_two (s := s) (w := w) h
  generalize hp : ((s.drop a.toNat)[0]?, (s.drop a.toNat)[1]?) = p
  have p1 : (litF s a (wordC 1)).2 = 0 → p = (some 109, some 111) := fun k => hp.symm.trans (lit_pre (r := [118, 101]) rfl k)
  have p2 : (litF s a (wordC 2)).2 = 0 → p = (some 98, some 97) := fun k => hp.symm.trans (lit_pre (r := [108, 97, 110, 99, 101]) rfl k)
  have p3 : (litF s a (wordC 3)).2 = 0 → p = (some 116, some 114) := fun k => hp.symm.trans (lit_pre (r := [97, 110, 115]) rfl k)
  have p4 : (litF s a (wordC 4)).2 = 0 → p = (some 112, some 97) := fun k => hp.symm.trans (lit_pre (r := [114, 101, 110, 116]) rfl k)
  have p5 : (litF s a (wordC 5)).2 = 0 → p = (some 109, some 105) := fun k => hp.symm.trans (lit_pre (r := [110, 111, 114]) rfl k)
  have p6 : (litF s a (wordC 6)).2 = 0 → p = (some 101, some 108) := fun k => hp.symm.trans (lit_pre (r := [105, 109]) rfl k)
  have p7 : (litF s a (wordC 7)).2 = 0 → p = (some 99, some 111) := fun k => hp.symm.trans (lit_pre (r := [110, 115]) rfl k)
  have hw : wdF s a = wdL s a [wordC 1, wordC 2, wordC 3, wordC 4, wordC 5, wordC 6, wordC 7] 0 false := rfl
  have hr : lw s a = lastW s a 7 (0, 0, false) := rfl
  rw [hw, hr]
  have r1 : wordR 1 = wordC 1 := rfl
  have r2 : wordR 2 = wordC 2 := rfl
  have r3 : wordR 3 = wordC 3 := rfl
  have r4 : wordR 4 = wordC 4 := rfl
  have r5 : wordR 5 = wordC 5 := rfl
  have r6 : wordR 6 = wordC 6 := rfl
  have r7 : wordR 7 = wordC 7 := rfl
  have t1 := t (wordC 1)
  have t2 := t (wordC 2)
  have t3 := t (wordC 3)
  have t4 := t (wordC 4)
  have t5 := t (wordC 5)
  have t6 := t (wordC 6)
  have t7 := t (wordC 7)
  simp only [wdL, lastW, show (7 : Int) - (6 : Nat) = 1 from rfl, show (7 : Int) - (5 : Nat) = 2 from rfl, show (7 : Int) - (4 : Nat) = 3 from rfl, show (7 : Int) - (3 : Nat) = 4 from rfl, show (7 : Int) - (2 : Nat) = 5 from rfl, show (7 : Int) - (1 : Nat) = 6 from rfl, show (7 : Int) - (0 : Nat) = 7 from rfl, r1, r2, r3, r4, r5, r6, r7, if_neg t1, if_neg t2, if_neg t3, if_neg t4, if_neg t5, if_neg t6, if_neg t7]
  clear hw hr t t1 t2 t3 t4 t5 t6 t7 r1 r2 r3 r4 r5 r6 r7
  generalize litF s a (wordC 1) = l1 at *
  generalize litF s a (wordC 2) = l2 at *
  generalize litF s a (wordC 3) = l3 at *
  generalize litF s a (wordC 4) = l4 at *
  generalize litF s a (wordC 5) = l5 at *
  generalize litF s a (wordC 6) = l6 at *
  generalize litF s a (wordC 7) = l7 at *
  by_cases e1 : l1.2 = 0
  · have q := p1 e1
    have n2 : ¬ l2.2 = 0 := fun k => by rw [p2 k] at q; cases q
    have n3 : ¬ l3.2 = 0 := fun k => by rw [p3 k] at q; cases q
    have n4 : ¬ l4.2 = 0 := fun k => by rw [p4 k] at q; cases q
    have n5 : ¬ l5.2 = 0 := fun k => by rw [p5 k] at q; cases q
    have n6 : ¬ l6.2 = 0 := fun k => by rw [p6 k] at q; cases q
    have n7 : ¬ l7.2 = 0 := fun k => by rw [p7 k] at q; cases q
    simp [e1, n2, n3, n4, n5, n6, n7]
  by_cases e2 : l2.2 = 0
  · have q := p2 e2
    have n3 : ¬ l3.2 = 0 := fun k => by rw [p3 k] at q; cases q
    have n4 : ¬ l4.2 = 0 := fun k => by rw [p4 k] at q; cases q
    have n5 : ¬ l5.2 = 0 := fun k => by rw [p5 k] at q; cases q
    have n6 : ¬ l6.2 = 0 := fun k => by rw [p6 k] at q; cases q
    have n7 : ¬ l7.2 = 0 := fun k => by rw [p7 k] at q; cases q
    simp [e1, e2, n3, n4, n5, n6, n7]
  by_cases e3 : l3.2 = 0
  · have q := p3 e3
    have n4 : ¬ l4.2 = 0 := fun k => by rw [p4 k] at q; cases q
    have n5 : ¬ l5.2 = 0 := fun k => by rw [p5 k] at q; cases q
    have n6 : ¬ l6.2 = 0 := fun k => by rw [p6 k] at q; cases q
    have n7 : ¬ l7.2 = 0 := fun k => by rw [p7 k] at q; cases q
    simp [e1, e2, e3, n4, n5, n6, n7]
  by_cases e4 : l4.2 = 0
  · have q := p4 e4
    have n5 : ¬ l5.2 = 0 := fun k => by rw [p5 k] at q; cases q
    have n6 : ¬ l6.2 = 0 := fun k => by rw [p6 k] at q; cases q
    have n7 : ¬ l7.2 = 0 := fun k => by rw [p7 k] at q; cases q
    simp [e1, e2, e3, e4, n5, n6, n7]
  by_cases e5 : l5.2 = 0
  · have q := p5 e5
    have n6 : ¬ l6.2 = 0 := fun k => by rw [p6 k] at q; cases q
    have n7 : ¬ l7.2 = 0 := fun k => by rw [p7 k] at q; cases q
    simp [e1, e2, e3, e4, e5, n6, n7]
  by_cases e6 : l6.2 = 0
  · have q := p6 e6
    have n7 : ¬ l7.2 = 0 := fun k => by rw [p7 k] at q; cases q
    simp [e1, e2, e3, e4, e5, e6, n7]
  by_cases e7 : l7.2 = 0
  · simp [e1, e2, e3, e4, e5, e6, e7]
  · simp only [if_neg e1, if_neg e2, if_neg e3, if_neg e4, if_neg e5, if_neg e6, if_neg e7]
    split <;> simp [*]
theorem rtake_eq (s : By) (a : Int) : rtakeF s a = takeF s a := by
  unfold rtakeF takeF
  by_cases hb : a < 0 ∨ (s.length : Int) < a
  · have : wdF s a = (0, 0, 2) := by
      show wdL s a wordsL 0 false = _
      unfold wordsL
      rw [wdL, litF_bad hb]
      rfl
    rw [if_pos hb, this]
    rfl
  rw [if_neg hb]
  obtain ⟨w1, w2⟩ := word_both hb
  by_cases hw : (wdF s a).2.2 = 0
  rotate_left
  · obtain ⟨a1, a2⟩ := w2 hw
    rw [if_pos a1, if_neg hw, a2]
    split <;> rfl
  obtain ⟨b1, b2, b3⟩ := w1 hw
  rw [if_neg b3, if_pos hw]
  have nb := nums_both s (wdF s a).2.1
  have hn : nl s a = numL s 5 (wdF s a).2.1 [] := by unfold nl; rw [b2]
  dsimp only at nb
  by_cases he : (endF s a).2.2 = 0
  · have := nb.1 he
    rw [hn, this, if_pos rfl, if_pos he, b1]
    rfl
  · have := nb.2 he
    rw [hn, this, if_neg (by exact he), if_neg he]
    rfl

noncomputable def env_texts (r e a p c q : Int) (s : By) (i : Int) : Env where
  P := Tryz.prog
  ty := tys0
  specs := specsOf [sp_awake, sp_print, sp_rprint, sp_take, sp_rtake]
noncomputable def g_texts (r e a p c q : Int) (s : By) (i : Int) : Prop := vc (env_texts r e a p c q s i) (codeOf Tryz.f3) (start0 Tryz.f3 [.agg [.int .i64 r, .int .i64 e, .int .i64 a, .int .i64 p, .int .i64 c, .int .i64 q], .str s, .int .i64 i]) (exitK (tsOf Tryz.f3) [.bool] (true, ()))
def g_texts_vc (r : Int) (e : Int) (a : Int) (p : Int) (c : Int) (q : Int) (s : By) (i : Int) : Prop :=
  (decide ((500 : Int) < (↑(List.length s) : Int)) = true → True ∧ (true, ()) = (true, ())) ∧ (decide ((500 : Int) < (↑(List.length s) : Int)) = false → True ∧ True ∧ List.length s ≤ (10000 : Nat) ∧ List.length s ≤ (10000 : Nat) ∧ (decide ((printC (r, e, a, p, c, q)).fst = (printC (r, e, a, p, c, q)).fst) = true → (decide ((printC (r, e, a, p, c, q)).snd = (printC (r, e, a, p, c, q)).snd) = true → ((decide ((takeF s i).fst.fst = (rtakeF s i).fst.fst) && (decide ((takeF s i).fst.snd.fst = (rtakeF s i).fst.snd.fst) && (decide ((takeF s i).fst.snd.snd.fst = (rtakeF s i).fst.snd.snd.fst) && (decide ((takeF s i).fst.snd.snd.snd.fst = (rtakeF s i).fst.snd.snd.snd.fst) && (decide ((takeF s i).fst.snd.snd.snd.snd.fst = (rtakeF s i).fst.snd.snd.snd.snd.fst) && (decide ((takeF s i).fst.snd.snd.snd.snd.snd = (rtakeF s i).fst.snd.snd.snd.snd.snd) && true)))))) = true → (decide ((takeF s i).snd.fst = (rtakeF s i).snd.fst) = true → (decide ((takeF s i).snd.snd = (rtakeF s i).snd.snd) = true → True ∧ (true, ()) = (true, ())) ∧ (decide ((takeF s i).snd.snd = (rtakeF s i).snd.snd) = !true → (false, ()) = (true, ()))) ∧ (decide ((takeF s i).snd.fst = (rtakeF s i).snd.fst) = !true → (false, ()) = (true, ()))) ∧ ((decide ((takeF s i).fst.fst = (rtakeF s i).fst.fst) && (decide ((takeF s i).fst.snd.fst = (rtakeF s i).fst.snd.fst) && (decide ((takeF s i).fst.snd.snd.fst = (rtakeF s i).fst.snd.snd.fst) && (decide ((takeF s i).fst.snd.snd.snd.fst = (rtakeF s i).fst.snd.snd.snd.fst) && (decide ((takeF s i).fst.snd.snd.snd.snd.fst = (rtakeF s i).fst.snd.snd.snd.snd.fst) && (decide ((takeF s i).fst.snd.snd.snd.snd.snd = (rtakeF s i).fst.snd.snd.snd.snd.snd) && true)))))) = !true → (false, ()) = (true, ()))) ∧ (decide ((printC (r, e, a, p, c, q)).snd = (printC (r, e, a, p, c, q)).snd) = !true → (false, ()) = (true, ()))) ∧ (decide ((printC (r, e, a, p, c, q)).fst = (printC (r, e, a, p, c, q)).fst) = !true → (false, ()) = (true, ())))
theorem g_texts_eq (r e a p c q : Int) (s : By) (i : Int) : g_texts r e a p c q s i = g_texts_vc r e a p c q s i := by kernel_rfl
theorem g_texts_ok (r e a p c q : Int) (s : By) (i : Int) : g_texts_vc r e a p c q s i := by
  unfold g_texts_vc
  simp only [rtake_eq, decide_eq_true_eq, decide_eq_false_iff_not, Bool.not_eq_true', Bool.not_eq_false', Bool.not_true, Bool.not_false]
  repeat' (first | with_reducible apply And.intro | intro _)
  all_goals try (first | trivial | rfl | omega)
set_option maxRecDepth 20000 in
theorem texts_pure (r e a p c q : Int) (s : By) (i : Int) : Pure Tryz.prog 3 [.agg [.int .i64 r, .int .i64 e, .int .i64 a, .int .i64 p, .int .i64 c, .int .i64 q], .str s, .int .i64 i] (.bool true) :=
  Pure.of_g (E := env_texts r e a p c q s i) (ts := tsOf Tryz.f3) (ps := [.bool]) (r := (true, ())) (fn := Tryz.f3) (c := codeOf Tryz.f3) (specs_ok (P := Tryz.prog) rfl [sp_awake, sp_print, sp_rprint, sp_take, sp_rtake] [] rfl rfl) mixed Tryz.func3 rfl rfl (g := g_texts r e a p c q s i) (by delta g_texts start0; first | with_reducible exact Eq.refl _ | exact Eq.refl _) (by rw [g_texts_eq r e a p c q s i]; exact g_texts_ok r e a p c q s i)
noncomputable def q_texts (r e a p c q : Int) (s : By) (i : Int) : Prop × V := (True, (.bool true))
noncomputable def sp_texts : FSpec Tryz.prog where
  f := 3
  run := fun args => match args with
    | [.agg [.int .i64 r, .int .i64 e, .int .i64 a, .int .i64 p, .int .i64 c, .int .i64 q], .str s, .int .i64 i] => some (q_texts r e a p c q s i)
    | _ => none
  ok := fun args pre r h hp => by
    try dsimp only at h
    split at h
    · rename_i r e a p c q s i
      have h := Option.some.inj h
      unfold q_texts at h
      cases h
      exact (texts_pure r e a p c q s i).weak (.cons (Weak.refl _) (.cons (Weak.refl _) (.cons (Weak.refl _) .nil)))
    · cases h

end Go.Proofs.YtemgelifnjefoaaGreatDoor
