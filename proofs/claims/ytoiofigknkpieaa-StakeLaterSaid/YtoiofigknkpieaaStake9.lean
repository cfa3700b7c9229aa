/-
  stake.Spans; ref18.Spans.
-/
import Derived.Test.YtoiofigknkpieaaStake8
namespace Go.Proofs.Ytoiofigknkpieaa
open Go.Vm

/-- The last piece ends at q. -/
def setTo (o : List Stk) (q : Int) : List Stk := o.set (o.length - 1) ((lastS o).1, q, (lastS o).2.2)
def spStep (l : List Stk) (e : Int) (acc : List Stk) (p : Nat) : List Stk :=
  if acc ≠ [] ∧ (lastS acc).2.2.1 = (atF l e p).1 ∧ (lastS acc).2.2.2 = (atF l e p).2 then setTo acc p else acc ++ [((p : Int), (p : Int), (atF l e p).1, (atF l e p).2)]
def upto (l : List Stk) (e : Int) (k : Nat) : List Stk := (List.range k).foldl (spStep l e) []
def spansF (l : List Stk) (e : Int) : List Stk := upto l e 24

theorem lastS_app (o : List Stk) (x : Stk) : lastS (o ++ [x]) = x := by simp [lastS]
theorem snoc_of {o : List Stk} (h : 0 < o.length) : ∃ a x, o = a ++ [x] := by
  refine ⟨o.dropLast, o.getLast (by intro e; subst e; simp at h), ?_⟩
  exact (List.dropLast_concat_getLast _).symm
theorem setTo_app (a : List Stk) (x : Stk) (q : Int) : setTo (a ++ [x]) q = a ++ [(x.1, q, x.2.2)] := by
  unfold setTo
  rw [lastS_app, List.length_append, List.length_singleton, Nat.add_sub_cancel, List.set_append_right _ _ (Nat.le_refl _)]
  simp
theorem setTo_len (o : List Stk) (q : Int) : (setTo o q).length = o.length := by simp [setTo]
theorem setTo_setTo {o : List Stk} (h : 0 < o.length) (q r : Int) : setTo (setTo o q) r = setTo o r := by
  obtain ⟨a, x, rfl⟩ := snoc_of h
  rw [setTo_app, setTo_app, setTo_app]
theorem lastS_setTo {o : List Stk} (h : 0 < o.length) (q : Int) : lastS (setTo o q) = ((lastS o).1, q, (lastS o).2.2) := by
  obtain ⟨a, x, rfl⟩ := snoc_of h
  rw [setTo_app, lastS_app, lastS_app]
theorem setTo_same {o : List Stk} (h : 0 < o.length) : setTo o (lastS o).2.1 = o := by
  obtain ⟨a, x, rfl⟩ := snoc_of h
  rw [setTo_app, lastS_app]
theorem set_eq {o : List Stk} (h : 0 < o.length) {y : Stk} (hy : o[((o.length : Int) - 1).toNat]? = some y) (v : Int) : y = lastS o ∧ o.set ((o.length : Int) - 1).toNat (y.1, v, y.2.2.1, y.2.2.2) = setTo o v := by
  have e : ((o.length : Int) - 1).toNat = o.length - 1 := by omega
  rw [e, lastS_at h] at hy
  cases hy
  exact ⟨rfl, by rw [e]; rfl⟩
theorem upto_succ (l : List Stk) (e : Int) (k : Nat) : upto l e (k + 1) = spStep l e (upto l e k) k := by
  unfold upto
  rw [List.range_succ, List.foldl_append]
  rfl
theorem spStep_pos (l : List Stk) (e : Int) (acc : List Stk) (p : Nat) : 0 < (spStep l e acc p).length := by
  unfold spStep
  split
  · rename_i h; rw [setTo_len]; exact List.length_pos_iff.2 h.1
  · simp
theorem upto_pos (l : List Stk) (e : Int) (k : Nat) : 0 < (upto l e (k + 1)).length := by rw [upto_succ]; exact spStep_pos _ _ _ _
theorem upto_last (l : List Stk) (e : Int) (k : Nat) : (lastS (upto l e (k + 1))).2.1 = k ∧ (lastS (upto l e (k + 1))).2.2 = atF l e k := by
  rw [upto_succ]
  unfold spStep
  split
  · rename_i h
    rw [lastS_setTo (List.length_pos_iff.2 h.1)]
    exact ⟨rfl, Prod.ext h.2.1 h.2.2⟩
  · rw [lastS_app]; exact ⟨rfl, rfl⟩
theorem best_const {e p q : Int} : ∀ (l : List Stk) (b : Option Stk), (∀ s ∈ l, s.1 = e → ¬ (p < s.2.2.2 ∧ s.2.2.2 ≤ q)) → p ≤ q → l.foldl (take e q) b = l.foldl (take e p) b
  | [], _, _, _ => rfl
  | s :: r, b, h, hpq => by
    rw [List.foldl_cons, List.foldl_cons]
    have : take e q b s = take e p b s := by
      have h0 := h s List.mem_cons_self
      unfold take
      by_cases h1 : s.1 = e
      · have h2 := h0 h1
        by_cases h3 : s.2.2.2 ≤ p
        · rw [if_pos ⟨h1, by omega⟩, if_pos ⟨h1, h3⟩]
        · rw [if_neg (fun hh => h2 ⟨by omega, hh.2⟩), if_neg (fun hh => h3 hh.2)]
      · rw [if_neg (fun hh => h1 hh.1), if_neg (fun hh => h1 hh.1)]
    rw [this]
    exact best_const r _ (fun s hs => h s (List.mem_cons_of_mem _ hs)) hpq
theorem at_const {l : List Stk} {e p q : Int} (h : ∀ f ∈ fromsF l e, ¬ (p < f ∧ f ≤ q)) (hpq : p ≤ q) : atF l e q = atF l e p := by
  have : best l e q = best l e p := best_const l none (fun s hs he => h _ (by
    unfold fromsF
    rw [mem_fold]
    exact .inr (List.mem_map.2 ⟨s, List.mem_filter.2 ⟨hs, by simpa using he⟩, rfl⟩))) hpq
  unfold atF
  rw [this]
theorem upto_ext {l : List Stk} {e : Int} {p : Nat} : ∀ (k : Nat), (∀ f ∈ fromsF l e, ¬ ((p : Int) < f ∧ f ≤ ((p + k : Nat) : Int))) → upto l e (p + k + 1) = setTo (upto l e (p + 1)) ((p + k : Nat) : Int)
  | 0, _ => by
    have := setTo_same (upto_pos l e p)
    rw [(upto_last l e p).1] at this
    exact this.symm
  | k + 1, h => by
    have ih := upto_ext (p := p) k (fun f hf hh => h f hf ⟨hh.1, by omega⟩)
    have hc : atF l e ((p + (k + 1) : Nat) : Int) = atF l e (p : Int) := at_const h (by omega)
    have hl := (upto_last l e p).2
    have hp := upto_pos l e p
    rw [show p + (k + 1) + 1 = (p + k + 1) + 1 by omega, upto_succ, ih]
    unfold spStep
    have hls := lastS_setTo hp ((p + k : Nat) : Int)
    rw [if_pos]
    · rw [setTo_setTo hp]; rfl
    · refine ⟨List.length_pos_iff.1 (by rw [setTo_len]; exact hp), ?_, ?_⟩
      · rw [hls, show p + k + 1 = p + (k + 1) by omega, hc, hl]
      · rw [hls, show p + k + 1 = p + (k + 1) by omega, hc, hl]

def InvS (l : List Stk) (e : Int) (i : Int) (acc : List Stk) : Prop :=
  0 ≤ i ∧ i ≤ (fromsF l e).length ∧ 0 < acc.length ∧ acc.length ≤ i.toNat + 1 ∧
    ∀ q : Nat, q ≤ 23 → (∀ f ∈ (fromsF l e).take i.toNat, 1 ≤ f → f ≤ 23 → f ≤ q) → (∀ f ∈ (fromsF l e).drop i.toNat, 1 ≤ f → (q : Int) < f) → setTo acc q = upto l e (q + 1)
noncomputable def env_spans (l : List Stk) (e : Int) : Env where
  P := Try.prog
  ty := tys
  asArr := fun | 22 => true | _ => false
  specs := specsOf [sp_at_, sp_froms]
  heads := fun
    | 4 => some { slots := [(27, .int .i64), (7, .slc 5000 STy), (22, .any)], boxes := [], inv := fun _ (x : Int × List Stk × Unit × Unit) => InvS l e x.1 x.2.1, measure := fun _ (x : Int × List Stk × Unit × Unit) => ((fromsF l e).length - x.1).toNat }
    | _ => none
noncomputable def g_spans (l : List Stk) (e : Int) : Prop := vc (env_spans l e) (codeOf Try.f19) (start0 Try.f19 [.list .tmp STy l, .int .i64 e]) (exitK (tsOf Try.f19) [.list .part STy] (spansF l e, ()))
def g_spans_vc (l : List Stk) (e : Int) : Prop :=
  l.length ≤ (1000000000 : Nat) ∧
  l.length ≤ (1000000000 : Nat) ∧
    (True ∧ InvS l e (0 : Int) [((0 : Int), (0 : Int), (atF l e (0 : Int)).fst, (atF l e (0 : Int)).snd)]) ∧
      ∀ (x : Int × List (Int × Int × Int × Int) × Unit × Unit),
        InvS l e x.fst x.snd.fst →
          (decide (x.fst < (↑(fromsF l e).length : Int)) = true →
              ((0 : Int) ≤ x.fst ∧ x.fst < (↑(fromsF l e).length : Int)) ∧
                ∀ (x_1 : Int),
                  (fromsF l e)[x.fst.toNat]? = some x_1 →
                    (decide (x_1 < (1 : Int)) = false →
                        (decide ((24 : Int) ≤ x_1) = true →
                            ((-9223372036854775808 : Int) ≤ x.fst + (1 : Int) ∧ x.fst + (1 : Int) ≤ (9223372036854775807 : Int)) ∧
                              True ∧ InvS l e (x.fst + (1 : Int)) x.snd.fst ∧ ((↑(fromsF l e).length : Int) - (x.fst + (1 : Int))).toNat < ((↑(fromsF l e).length : Int) - x.fst).toNat) ∧
                          (decide ((24 : Int) ≤ x_1) = false →
                            ((-9223372036854775808 : Int) ≤ (↑x.snd.fst.length : Int) - (1 : Int) ∧ (↑x.snd.fst.length : Int) - (1 : Int) ≤ (9223372036854775807 : Int)) ∧
                              ((0 : Int) ≤ (↑x.snd.fst.length : Int) - (1 : Int) ∧ (↑x.snd.fst.length : Int) - (1 : Int) < (↑x.snd.fst.length : Int)) ∧
                                l.length ≤ (1000000000 : Nat) ∧
                                  ((↑x.snd.fst.length : Int) - (1 : Int)).toNat < x.snd.fst.length ∧
                                    ∀ (x_2 : Int × Int × Int × Int),
                                      x.snd.fst[((↑x.snd.fst.length : Int) - (1 : Int)).toNat]? = some x_2 →
                                        (decide ((atF l e x_1).fst = x_2.snd.snd.fst) = true →
                                            ((↑x.snd.fst.length : Int) - (1 : Int)).toNat < x.snd.fst.length ∧
                                              ∀ (x_3 : Int × Int × Int × Int),
                                                x.snd.fst[((↑x.snd.fst.length : Int) - (1 : Int)).toNat]? = some x_3 →
                                                  (decide ((atF l e x_1).snd = x_3.snd.snd.snd) = true →
                                                      ((-9223372036854775808 : Int) ≤ x.fst + (1 : Int) ∧ x.fst + (1 : Int) ≤ (9223372036854775807 : Int)) ∧
                                                        True ∧
                                                          InvS l e (x.fst + (1 : Int)) x.snd.fst ∧
                                                            ((↑(fromsF l e).length : Int) - (x.fst + (1 : Int))).toNat < ((↑(fromsF l e).length : Int) - x.fst).toNat) ∧
                                                    (decide ((atF l e x_1).snd = x_3.snd.snd.snd) = false →
                                                      ((-9223372036854775808 : Int) ≤ x_1 - (1 : Int) ∧ x_1 - (1 : Int) ≤ (9223372036854775807 : Int)) ∧
                                                        ((↑x.snd.fst.length : Int) - (1 : Int)).toNat < x.snd.fst.length ∧
                                                          ∀ (y : Int × Int × Int × Int),
                                                            x.snd.fst[((↑x.snd.fst.length : Int) - (1 : Int)).toNat]? = some y →
                                                              (((x.snd.fst.set ((↑x.snd.fst.length : Int) - (1 : Int)).toNat (y.fst, x_1 - (1 : Int), y.snd.snd.fst, y.snd.snd.snd)).length +
                                                                        (1 : Nat)) *
                                                                      (32 : Nat) ≤
                                                                    (140737488355328 : Nat) ∧
                                                                  (x.snd.fst.set ((↑x.snd.fst.length : Int) - (1 : Int)).toNat (y.fst, x_1 - (1 : Int), y.snd.snd.fst, y.snd.snd.snd)).length +
                                                                      (1 : Nat) ≤
                                                                    (4611686018427387904 : Nat)) ∧
                                                                ((-9223372036854775808 : Int) ≤ x.fst + (1 : Int) ∧ x.fst + (1 : Int) ≤ (9223372036854775807 : Int)) ∧
                                                                  True ∧
                                                                    InvS l e (x.fst + (1 : Int))
                                                                        (x.snd.fst.set ((↑x.snd.fst.length : Int) - (1 : Int)).toNat (y.fst, x_1 - (1 : Int), y.snd.snd.fst, y.snd.snd.snd) ++
                                                                          [(x_1, (0 : Int), (atF l e x_1).fst, (atF l e x_1).snd)]) ∧
                                                                      ((↑(fromsF l e).length : Int) - (x.fst + (1 : Int))).toNat < ((↑(fromsF l e).length : Int) - x.fst).toNat)) ∧
                                          (decide ((atF l e x_1).fst = x_2.snd.snd.fst) = !true →
                                            ((-9223372036854775808 : Int) ≤ x_1 - (1 : Int) ∧ x_1 - (1 : Int) ≤ (9223372036854775807 : Int)) ∧
                                              ((↑x.snd.fst.length : Int) - (1 : Int)).toNat < x.snd.fst.length ∧
                                                ∀ (y : Int × Int × Int × Int),
                                                  x.snd.fst[((↑x.snd.fst.length : Int) - (1 : Int)).toNat]? = some y →
                                                    (((x.snd.fst.set ((↑x.snd.fst.length : Int) - (1 : Int)).toNat (y.fst, x_1 - (1 : Int), y.snd.snd.fst, y.snd.snd.snd)).length + (1 : Nat)) *
                                                            (32 : Nat) ≤
                                                          (140737488355328 : Nat) ∧
                                                        (x.snd.fst.set ((↑x.snd.fst.length : Int) - (1 : Int)).toNat (y.fst, x_1 - (1 : Int), y.snd.snd.fst, y.snd.snd.snd)).length + (1 : Nat) ≤
                                                          (4611686018427387904 : Nat)) ∧
                                                      ((-9223372036854775808 : Int) ≤ x.fst + (1 : Int) ∧ x.fst + (1 : Int) ≤ (9223372036854775807 : Int)) ∧
                                                        True ∧
                                                          InvS l e (x.fst + (1 : Int))
                                                              (x.snd.fst.set ((↑x.snd.fst.length : Int) - (1 : Int)).toNat (y.fst, x_1 - (1 : Int), y.snd.snd.fst, y.snd.snd.snd) ++
                                                                [(x_1, (0 : Int), (atF l e x_1).fst, (atF l e x_1).snd)]) ∧
                                                            ((↑(fromsF l e).length : Int) - (x.fst + (1 : Int))).toNat < ((↑(fromsF l e).length : Int) - x.fst).toNat))) ∧
                      (decide (x_1 < (1 : Int)) = !false →
                        ((-9223372036854775808 : Int) ≤ x.fst + (1 : Int) ∧ x.fst + (1 : Int) ≤ (9223372036854775807 : Int)) ∧
                          True ∧ InvS l e (x.fst + (1 : Int)) x.snd.fst ∧ ((↑(fromsF l e).length : Int) - (x.fst + (1 : Int))).toNat < ((↑(fromsF l e).length : Int) - x.fst).toNat)) ∧
            (decide (x.fst < (↑(fromsF l e).length : Int)) = false →
              ((-9223372036854775808 : Int) ≤ (↑x.snd.fst.length : Int) - (1 : Int) ∧ (↑x.snd.fst.length : Int) - (1 : Int) ≤ (9223372036854775807 : Int)) ∧
                ((0 : Int) ≤ (↑x.snd.fst.length : Int) - (1 : Int) ∧ (↑x.snd.fst.length : Int) - (1 : Int) < (↑x.snd.fst.length : Int)) ∧
                  ((↑x.snd.fst.length : Int) - (1 : Int)).toNat < x.snd.fst.length ∧
                    ∀ (y : Int × Int × Int × Int),
                      x.snd.fst[((↑x.snd.fst.length : Int) - (1 : Int)).toNat]? = some y →
                        (x.snd.fst.set ((↑x.snd.fst.length : Int) - (1 : Int)).toNat (y.fst, (23 : Int), y.snd.snd.fst, y.snd.snd.snd), ()) = (spansF l e, ()))

theorem g_spans_eq (l : List Stk) (e : Int) : g_spans l e = g_spans_vc l e := by kernel_rfl

def InvR (l : List Stk) (e : Int) (p : Int) (acc : List Stk) : Prop := 0 ≤ p ∧ p ≤ 24 ∧ acc.length ≤ p.toNat ∧ acc = upto l e p.toNat
noncomputable def env_refSpans (l : List Stk) (e : Int) : Env where
  P := Try.prog
  ty := tys
  specs := specsOf [sp_refAt]
  heads := fun
    | 3 => some { slots := [(6, .int .i64), (5, .slc 5000 STy)], boxes := [], inv := fun _ (x : Int × List Stk × Unit) => InvR l e x.1 x.2.1, measure := fun _ (x : Int × List Stk × Unit) => (24 - x.1).toNat }
    | _ => none
noncomputable def g_refSpans (l : List Stk) (e : Int) : Prop := vc (env_refSpans l e) (codeOf Try.f20) (start0 Try.f20 [.list .tmp STy l, .int .i64 e]) (exitK (tsOf Try.f20) [.list .part STy] (spansF l e, ()))
def g_refSpans_vc (l : List Stk) (e : Int) : Prop :=
  (True ∧ InvR l e (0 : Int) []) ∧
  ∀ (x : Int × List (Int × Int × Int × Int) × Unit),
    InvR l e x.fst x.snd.fst →
      (decide (x.fst < (24 : Int)) = true →
          l.length ≤ (1000000000 : Nat) ∧
            (decide ((0 : Int) < (↑x.snd.fst.length : Int)) = true →
                ((-9223372036854775808 : Int) ≤ (↑x.snd.fst.length : Int) - (1 : Int) ∧ (↑x.snd.fst.length : Int) - (1 : Int) ≤ (9223372036854775807 : Int)) ∧
                  ((0 : Int) ≤ (↑x.snd.fst.length : Int) - (1 : Int) ∧ (↑x.snd.fst.length : Int) - (1 : Int) < (↑x.snd.fst.length : Int)) ∧
                    ((↑x.snd.fst.length : Int) - (1 : Int)).toNat < x.snd.fst.length ∧
                      ∀ (x_1 : Int × Int × Int × Int),
                        x.snd.fst[((↑x.snd.fst.length : Int) - (1 : Int)).toNat]? = some x_1 →
                          (decide (x_1.snd.snd.fst = (atF l e x.fst).fst) = true →
                              ((-9223372036854775808 : Int) ≤ (↑x.snd.fst.length : Int) - (1 : Int) ∧ (↑x.snd.fst.length : Int) - (1 : Int) ≤ (9223372036854775807 : Int)) ∧
                                ((0 : Int) ≤ (↑x.snd.fst.length : Int) - (1 : Int) ∧ (↑x.snd.fst.length : Int) - (1 : Int) < (↑x.snd.fst.length : Int)) ∧
                                  ((↑x.snd.fst.length : Int) - (1 : Int)).toNat < x.snd.fst.length ∧
                                    ∀ (x_2 : Int × Int × Int × Int),
                                      x.snd.fst[((↑x.snd.fst.length : Int) - (1 : Int)).toNat]? = some x_2 →
                                        (decide (x_2.snd.snd.snd = (atF l e x.fst).snd) = true →
                                            ((-9223372036854775808 : Int) ≤ (↑x.snd.fst.length : Int) - (1 : Int) ∧ (↑x.snd.fst.length : Int) - (1 : Int) ≤ (9223372036854775807 : Int)) ∧
                                              ((0 : Int) ≤ (↑x.snd.fst.length : Int) - (1 : Int) ∧ (↑x.snd.fst.length : Int) - (1 : Int) < (↑x.snd.fst.length : Int)) ∧
                                                ((↑x.snd.fst.length : Int) - (1 : Int)).toNat < x.snd.fst.length ∧
                                                  ∀ (y : Int × Int × Int × Int),
                                                    x.snd.fst[((↑x.snd.fst.length : Int) - (1 : Int)).toNat]? = some y →
                                                      ((-9223372036854775808 : Int) ≤ x.fst + (1 : Int) ∧ x.fst + (1 : Int) ≤ (9223372036854775807 : Int)) ∧
                                                        True ∧
                                                          InvR l e (x.fst + (1 : Int)) (x.snd.fst.set ((↑x.snd.fst.length : Int) - (1 : Int)).toNat (y.fst, x.fst, y.snd.snd.fst, y.snd.snd.snd)) ∧
                                                            ((24 : Int) - (x.fst + (1 : Int))).toNat < ((24 : Int) - x.fst).toNat) ∧
                                          (decide (x_2.snd.snd.snd = (atF l e x.fst).snd) = false →
                                            ((x.snd.fst.length + (1 : Nat)) * (32 : Nat) ≤ (140737488355328 : Nat) ∧ x.snd.fst.length + (1 : Nat) ≤ (4611686018427387904 : Nat)) ∧
                                              ((-9223372036854775808 : Int) ≤ x.fst + (1 : Int) ∧ x.fst + (1 : Int) ≤ (9223372036854775807 : Int)) ∧
                                                True ∧
                                                  InvR l e (x.fst + (1 : Int)) (x.snd.fst ++ [(x.fst, x.fst, (atF l e x.fst).fst, (atF l e x.fst).snd)]) ∧
                                                    ((24 : Int) - (x.fst + (1 : Int))).toNat < ((24 : Int) - x.fst).toNat)) ∧
                            (decide (x_1.snd.snd.fst = (atF l e x.fst).fst) = !true →
                              ((x.snd.fst.length + (1 : Nat)) * (32 : Nat) ≤ (140737488355328 : Nat) ∧ x.snd.fst.length + (1 : Nat) ≤ (4611686018427387904 : Nat)) ∧
                                ((-9223372036854775808 : Int) ≤ x.fst + (1 : Int) ∧ x.fst + (1 : Int) ≤ (9223372036854775807 : Int)) ∧
                                  True ∧
                                    InvR l e (x.fst + (1 : Int)) (x.snd.fst ++ [(x.fst, x.fst, (atF l e x.fst).fst, (atF l e x.fst).snd)]) ∧
                                      ((24 : Int) - (x.fst + (1 : Int))).toNat < ((24 : Int) - x.fst).toNat)) ∧
              (decide ((0 : Int) < (↑x.snd.fst.length : Int)) = !true →
                ((x.snd.fst.length + (1 : Nat)) * (32 : Nat) ≤ (140737488355328 : Nat) ∧ x.snd.fst.length + (1 : Nat) ≤ (4611686018427387904 : Nat)) ∧
                  ((-9223372036854775808 : Int) ≤ x.fst + (1 : Int) ∧ x.fst + (1 : Int) ≤ (9223372036854775807 : Int)) ∧
                    True ∧
                      InvR l e (x.fst + (1 : Int)) (x.snd.fst ++ [(x.fst, x.fst, (atF l e x.fst).fst, (atF l e x.fst).snd)]) ∧ ((24 : Int) - (x.fst + (1 : Int))).toNat < ((24 : Int) - x.fst).toNat)) ∧
        (decide (x.fst < (24 : Int)) = false → (x.snd.fst, ()) = (spansF l e, ()))

theorem g_refSpans_eq (l : List Stk) (e : Int) : g_refSpans l e = g_refSpans_vc l e := by kernel_rfl
theorem g_refSpans_ok (l : List Stk) (e : Int) (h : l.length ≤ 1000000000) : g_refSpans_vc l e := by
  unfold g_refSpans_vc
  refine ⟨⟨trivial, by omega, by omega, by simp, rfl⟩, ?_⟩
  rintro ⟨p, acc, _⟩ ⟨h1, h2, h3, h4⟩
  simp only at h1 h2 h3 h4
  have next : p < 24 → upto l e (p + 1).toNat = spStep l e acc p.toNat := fun hp => by rw [toNat_next h1, upto_succ, h4]
  have ep : ((p.toNat : Nat) : Int) = p := by omega
  have app : p < 24 → ¬ (acc ≠ [] ∧ (lastS acc).2.2.1 = (atF l e p).1 ∧ (lastS acc).2.2.2 = (atF l e p).2) → InvR l e (p + 1) (acc ++ [(p, p, (atF l e p).1, (atF l e p).2)]) := by
    intro hp hn
    refine ⟨by omega, by omega, by simp only [List.length_append, List.length_singleton]; omega, ?_⟩
    rw [next hp, spStep, ep, if_neg hn]
  simp only [decide_eq_true_eq, decide_eq_false_iff_not, Bool.not_true, true_and]
  refine ⟨fun hp => ⟨h, fun hl => ⟨by omega, by omega, by omega, fun x hx => ?_⟩, fun hl => ⟨by omega, by omega, ?_, by omega⟩⟩, fun hp => ?_⟩
  · have hl0 : 0 < acc.length := by omega
    obtain ⟨rfl, _⟩ := set_eq hl0 hx 0
    refine ⟨fun c1 => ⟨by omega, by omega, by omega, fun y hy => ?_⟩, fun c1 => ⟨by omega, by omega, app hp (fun hh => c1 hh.2.1), by omega⟩⟩
    obtain ⟨rfl, _⟩ := set_eq hl0 hy 0
    refine ⟨fun c2 => ⟨by omega, by omega, by omega, fun z hz => ⟨by omega, ?_, by omega⟩⟩, fun c2 => ⟨by omega, by omega, app hp (fun hh => c2 hh.2.2), by omega⟩⟩
    obtain ⟨rfl, e3⟩ := set_eq hl0 hz p
    rw [e3]
    refine ⟨by omega, by omega, by rw [setTo_len]; omega, ?_⟩
    rw [next hp, spStep, ep, if_pos ⟨List.length_pos_iff.1 hl0, c1, c2⟩]
  · exact app hp (fun hh => hl (by have := List.length_pos_iff.2 hh.1; omega))
  · have : p.toNat = 24 := by omega
    rw [h4, this]; rfl
theorem refSpans_pure (l : List Stk) (e : Int) (h : l.length ≤ 1000000000) : Pure Try.prog 20 [.list .tmp STy l, .int .i64 e] (.list .part STy (spansF l e)) :=
  Pure.of_vc (E := env_refSpans l e) (ts := tsOf Try.f20) (ps := [.list .part STy]) (r := (spansF l e, ())) (fn := Try.f20) (c := codeOf Try.f20) (specs_ok (P := Try.prog) rfl [sp_refAt] [] rfl rfl) mixed Try.func20 rfl rfl (by
    have := g_refSpans_ok l e h
    rw [← g_refSpans_eq] at this
    exact this)
def q_refSpans (l : List Stk) (e : Int) : Prop × V := (l.length ≤ 1000000000, (.list .part STy (spansF l e)))
noncomputable def sp_refSpans : FSpec Try.prog where
  f := 20
  run := fun args => match args with
    | [v0, .int .i64 e] => (match (asL STy v0 : Option (List Stk)) with | some l => some (q_refSpans l e) | none => none)
    | _ => none
  ok := fun args pre r h hp => by
    try dsimp only at h
    split at h
    · rename_i v0 e
      cases h0 : (asL STy v0 : Option (List Stk)) with
      | none => rw [h0] at h; cases h
      | some l =>
      rw [h0] at h
      try dsimp only at h
      have h := Option.some.inj h
      unfold q_refSpans at h
      cases h
      exact (refSpans_pure l e hp).weak (.cons (asL_weak h0) (.cons (Weak.refl _) .nil))
    · cases h
theorem invS_skip {l : List Stk} {e i : Int} {acc : List Stk} {p : Int} (hI : InvS l e i acc) (hi : i < (fromsF l e).length) (hp : (fromsF l e)[i.toNat]? = some p) (hs : p < 1 ∨ 24 ≤ p) : InvS l e (i + 1) acc := by
  obtain ⟨h1, h2, h3, h4, h5⟩ := hI
  refine ⟨by omega, by omega, h3, by omega, fun q hq ha hb => h5 q hq (fun f hf => ha f ?_) (fun f hf h0 => ?_)⟩
  · rw [toNat_next h1, List.take_add_one]; exact List.mem_append_left _ hf
  · rw [List.drop_eq_getElem_cons (by omega : i.toNat < (fromsF l e).length)] at hf
    have e0 : (fromsF l e)[i.toNat]'(by omega) = p := by
      have := List.getElem?_eq_getElem (by omega : i.toNat < (fromsF l e).length)
      rw [hp] at this
      exact (Option.some.inj this).symm
    rcases List.mem_cons.1 hf with hf | hf
    · rw [e0] at hf
      omega
    · exact hb f (by rw [toNat_next h1]; exact hf) h0
theorem rises_froms (l : List Stk) (e : Int) : Rises (fromsF l e) := rises_fold List.Pairwise.nil
theorem invS_at {l : List Stk} {e i : Int} {acc : List Stk} {p : Int} (hI : InvS l e i acc) (hi : i < (fromsF l e).length) (hp : (fromsF l e)[i.toNat]? = some p) (h1 : 1 ≤ p) (h2 : p < 24) :
    setTo acc (p - 1) = upto l e p.toNat ∧ (∀ q : Nat, q ≤ 23 → (∀ f ∈ (fromsF l e).take (i + 1).toNat, 1 ≤ f → f ≤ 23 → f ≤ q) → (∀ f ∈ (fromsF l e).drop (i + 1).toNat, 1 ≤ f → (q : Int) < f) → p ≤ q ∧ upto l e (q + 1) = setTo (upto l e (p.toNat + 1)) q) := by
  obtain ⟨k1, k2, k3, k4, k5⟩ := hI
  have hlt : i.toNat < (fromsF l e).length := by omega
  have e0 : (fromsF l e)[i.toNat]'hlt = p := by
    have := List.getElem?_eq_getElem hlt
    rw [hp] at this
    exact (Option.some.inj this).symm
  have hR := rises_froms l e
  have low : ∀ f ∈ (fromsF l e).take i.toNat, f < p := by
    intro f hf
    obtain ⟨j, hj, ej⟩ := List.mem_iff_getElem.1 hf
    simp only [List.length_take] at hj
    rw [List.getElem_take] at ej
    have := List.pairwise_iff_getElem.1 hR j i.toNat (by omega) hlt (by omega)
    rw [ej, e0] at this
    exact this
  have high : ∀ f ∈ (fromsF l e).drop (i + 1).toNat, p < f := by
    intro f hf
    obtain ⟨j, hj, ej⟩ := List.mem_iff_getElem.1 hf
    simp only [List.length_drop] at hj
    rw [List.getElem_drop] at ej
    have := List.pairwise_iff_getElem.1 hR i.toNat ((i + 1).toNat + j) hlt (by omega) (by omega)
    rw [ej, e0] at this
    exact this
  constructor
  · have := k5 (p - 1).toNat (by omega) (fun f hf _ _ => by have := low f hf; omega) (fun f hf hf1 => by
      rw [List.drop_eq_getElem_cons hlt, e0] at hf
      rcases List.mem_cons.1 hf with hf | hf
      · omega
      · have := high f (by rw [toNat_next k1]; exact hf); omega)
    rw [show (((p - 1).toNat : Nat) : Int) = p - 1 by omega, show (p - 1).toNat + 1 = p.toNat by omega] at this
    exact this
  · intro q hq ha hb
    have hpq : p ≤ q := ha p (by rw [toNat_next k1, List.take_add_one, hp]; simp) h1 (by omega)
    refine ⟨hpq, ?_⟩
    have := upto_ext (l := l) (e := e) (p := p.toNat) (q - p.toNat) (fun f hf hh => by
      rw [← List.take_append_drop (i + 1).toNat (fromsF l e)] at hf
      rcases List.mem_append.1 hf with hf | hf
      · rw [toNat_next k1, List.take_add_one, hp] at hf
        rcases List.mem_append.1 hf with hf | hf
        · have := low f hf; omega
        · simp at hf; omega
      · have := hb f hf (by omega); omega)
    rw [show p.toNat + (q - p.toNat) = q by omega] at this
    exact this
theorem invS_same {l : List Stk} {e i : Int} {acc : List Stk} {p : Int} (hI : InvS l e i acc) (hi : i < (fromsF l e).length) (hp : (fromsF l e)[i.toNat]? = some p) (h1 : 1 ≤ p) (h2 : p < 24)
    (c1 : (atF l e p).1 = (lastS acc).2.2.1) (c2 : (atF l e p).2 = (lastS acc).2.2.2) : InvS l e (i + 1) acc := by
  obtain ⟨a1, a2⟩ := invS_at hI hi hp h1 h2
  obtain ⟨k1, k2, k3, k4, k5⟩ := hI
  refine ⟨by omega, by omega, k3, by omega, fun q hq ha hb => ?_⟩
  obtain ⟨hpq, b2⟩ := a2 q hq ha hb
  have ep : ((p.toNat : Nat) : Int) = p := by omega
  rw [b2, upto_succ, ← a1, spStep, if_pos]
  · rw [setTo_setTo k3, setTo_setTo k3]
  · rw [lastS_setTo k3, ep]
    exact ⟨List.length_pos_iff.1 (by rw [setTo_len]; exact k3), c1.symm, c2.symm⟩
theorem invS_new {l : List Stk} {e i : Int} {acc : List Stk} {p : Int} (hI : InvS l e i acc) (hi : i < (fromsF l e).length) (hp : (fromsF l e)[i.toNat]? = some p) (h1 : 1 ≤ p) (h2 : p < 24)
    (c : ¬ ((atF l e p).1 = (lastS acc).2.2.1 ∧ (atF l e p).2 = (lastS acc).2.2.2)) : InvS l e (i + 1) (setTo acc (p - 1) ++ [(p, 0, (atF l e p).1, (atF l e p).2)]) := by
  obtain ⟨a1, a2⟩ := invS_at hI hi hp h1 h2
  obtain ⟨k1, k2, k3, k4, k5⟩ := hI
  refine ⟨by omega, by omega, by simp, by rw [List.length_append, setTo_len, List.length_singleton]; omega, fun q hq ha hb => ?_⟩
  obtain ⟨hpq, b2⟩ := a2 q hq ha hb
  have ep : ((p.toNat : Nat) : Int) = p := by omega
  rw [b2, upto_succ, ← a1, spStep, if_neg]
  · rw [setTo_app, setTo_app, ep]
  · rw [lastS_setTo k3, ep]
    exact fun hh => c ⟨hh.2.1.symm, hh.2.2.symm⟩
theorem invS_end {l : List Stk} {e i : Int} {acc : List Stk} (hI : InvS l e i acc) (hi : ¬ i < (fromsF l e).length) : setTo acc 23 = spansF l e := by
  obtain ⟨k1, k2, k3, k4, k5⟩ := hI
  exact k5 23 (by omega) (fun f _ _ h => h) (fun f hf _ => by rw [List.drop_of_length_le (by omega)] at hf; simp at hf)
theorem invS_0 (l : List Stk) (e : Int) : InvS l e 0 [(0, 0, (atF l e 0).1, (atF l e 0).2)] := by
  refine ⟨by omega, by omega, by simp, by simp, fun q hq _ hb => ?_⟩
  have := upto_ext (l := l) (e := e) (p := 0) q (fun f hf hh => by
    have := hb f (by simpa using hf) (by omega)
    omega)
  rw [Nat.zero_add] at this
  rw [this]
  congr 1
theorem invS_b {l : List Stk} {e i : Int} {acc : List Stk} (hI : InvS l e i acc) : 0 ≤ i ∧ i ≤ (fromsF l e).length ∧ 0 < acc.length ∧ acc.length ≤ i.toNat + 1 := ⟨hI.1, hI.2.1, hI.2.2.1, hI.2.2.2.1⟩
theorem g_spans_ok (l : List Stk) (e : Int) (h : l.length ≤ 1000000000) : g_spans_vc l e := by
  unfold g_spans_vc
  have hF := fromsF_len l e
  refine ⟨h, h, ⟨trivial, invS_0 l e⟩, ?_⟩
  rintro ⟨i, acc, _⟩ hI
  simp only at hI
  have hb := invS_b hI
  simp only [decide_eq_true_eq, decide_eq_false_iff_not, Bool.not_true, Bool.not_false, true_and]
  refine ⟨fun hi => ⟨by omega, fun p hp => ⟨fun c0 => ⟨fun c1 => ⟨by omega, invS_skip hI hi hp (.inr c1), by omega⟩, fun c1 => ?_⟩, fun c0 => ⟨by omega, invS_skip hI hi hp (.inl c0), by omega⟩⟩⟩, fun hi => ⟨by omega, by omega, by omega, fun y hy => ?_⟩⟩
  · refine ⟨by omega, by omega, h, by omega, fun x hx => ?_⟩
    obtain ⟨rfl, _⟩ := set_eq hb.2.2.1 hx 0
    refine ⟨fun c2 => ⟨by omega, fun y hy => ?_⟩, fun c2 => ⟨by omega, by omega, fun y hy => ?_⟩⟩
    · obtain ⟨rfl, _⟩ := set_eq hb.2.2.1 hy 0
      refine ⟨fun c3 => ⟨by omega, invS_same hI hi hp (by omega) (by omega) c2 c3, by omega⟩, fun c3 => ⟨by omega, by omega, fun z hz => ?_⟩⟩
      obtain ⟨rfl, e3⟩ := set_eq hb.2.2.1 hz (p - 1)
      rw [e3, setTo_len]
      exact ⟨by omega, by omega, invS_new hI hi hp (by omega) (by omega) (fun hh => c3 hh.2), by omega⟩
    · obtain ⟨rfl, e3⟩ := set_eq hb.2.2.1 hy (p - 1)
      rw [e3, setTo_len]
      exact ⟨by omega, by omega, invS_new hI hi hp (by omega) (by omega) (fun hh => c2 hh.1), by omega⟩
  · obtain ⟨rfl, e3⟩ := set_eq hb.2.2.1 hy 23
    rw [e3, invS_end hI hi]
theorem spans_pure (l : List Stk) (e : Int) (h : l.length ≤ 1000000000) : Pure Try.prog 19 [.list .tmp STy l, .int .i64 e] (.list .part STy (spansF l e)) :=
  Pure.of_vc (E := env_spans l e) (ts := tsOf Try.f19) (ps := [.list .part STy]) (r := (spansF l e, ())) (fn := Try.f19) (c := codeOf Try.f19) (specs_ok (P := Try.prog) rfl [sp_at_, sp_froms] [] rfl rfl) mixed Try.func19 rfl rfl (by
    have := g_spans_ok l e h
    rw [← g_spans_eq] at this
    exact this)
def q_spans (l : List Stk) (e : Int) : Prop × V := (l.length ≤ 1000000000, (.list .part STy (spansF l e)))
noncomputable def sp_spans : FSpec Try.prog where
  f := 19
  run := fun args => match args with
    | [v0, .int .i64 e] => (match (asL STy v0 : Option (List Stk)) with | some l => some (q_spans l e) | none => none)
    | _ => none
  ok := fun args pre r h hp => by
    try dsimp only at h
    split at h
    · rename_i v0 e
      cases h0 : (asL STy v0 : Option (List Stk)) with
      | none => rw [h0] at h; cases h
      | some l =>
      rw [h0] at h
      try dsimp only at h
      have h := Option.some.inj h
      unfold q_spans at h
      cases h
      exact (spans_pure l e hp).weak (.cons (asL_weak h0) (.cons (Weak.refl _) .nil))
    · cases h

end Go.Proofs.Ytoiofigknkpieaa
