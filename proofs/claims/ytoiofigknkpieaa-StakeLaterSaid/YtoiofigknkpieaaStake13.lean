/-
  StakeLater: the walk and the plain law.
-/
import Derived.Test.YtoiofigknkpieaaStake12
namespace Go.Proofs.Ytoiofigknkpieaa
open Go.Vm

def big : Int := 4611686018427387904
def nextS (sf : Int) (n f : Int) : Int := if sf < f ∧ f < n then f else n
def nextF (l : List Int) (sf : Int) : Int := l.foldl (nextS sf) big
def Inv6 (fs : List Int) (sf : Int) (i n : Int) : Prop := 0 ≤ i ∧ i ≤ fs.length ∧ n = nextF (fs.take i.toNat) sf
noncomputable def env_later (l : List Stk) (a _b _c d _n _x _y : Int) : Env where
  P := Try.prog
  ty := tys
  specs := specsOf [sp_awake, sp_at_, sp_froms, sp_add]
  heads := fun
    | 11 => some { slots := [(15, .int .i64), (13, .int .i64)], boxes := [], keep := [4, 5], inv := fun _ (x : Int × Int × Unit) => Inv6 (fromsF l a) d x.1 x.2.1, measure := fun _ (x : Int × Int × Unit) => ((fromsF l a).length - x.1).toNat }
    | _ => none
noncomputable def g_later (l : List Stk) (a b c d n x y : Int) : Prop := vc (env_later l a b c d n x y) (codeOf Try.f6) (start0 Try.f6 [.list .tmp STy l, .agg [.int .i64 a, .int .i64 b, .int .i64 c, .int .i64 d], .agg [.int .i64 n, .int .i64 x, .int .i64 y]]) (exitK (tsOf Try.f6) [.bool] (true, ()))
def g_later_vc (l : List Stk) (a : Int) (b : Int) (c : Int) (d : Int) (n : Int) (x : Int) (y : Int) : Prop :=
  (decide ((30 : Int) < (↑l.length : Int)) = false →
    (decide ((60 : Int) < n) = true → True ∧ (true, ()) = (true, ())) ∧
      (decide ((60 : Int) < n) = false →
        l.length ≤ (1000000000 : Nat) ∧
          ((!decide ((addF l (a, b, c, d) n).snd = (0 : Int))) = true →
              (decide ((↑(addF l (a, b, c, d) n).fst.length : Int) = (0 : Int)) = true → True ∧ (true, ()) = (true, ())) ∧
                (decide ((↑(addF l (a, b, c, d) n).fst.length : Int) = (0 : Int)) = !true → (false, ()) = (true, ()))) ∧
            ((!decide ((addF l (a, b, c, d) n).snd = (0 : Int))) = false →
              l.length ≤ (1000000000 : Nat) ∧
                (addF l (a, b, c, d) n).fst.length ≤ (1000000000 : Nat) ∧
                  l.length ≤ (1000000000 : Nat) ∧
                    ((some (Obj.box [V.int IntKind.i64 a, V.int IntKind.i64 b, V.int IntKind.i64 c, V.int IntKind.i64 d]) =
                            some (Obj.box [V.int IntKind.i64 a, V.int IntKind.i64 b, V.int IntKind.i64 c, V.int IntKind.i64 d]) ∧
                          some (Obj.box [V.int IntKind.i64 n, V.int IntKind.i64 x, V.int IntKind.i64 y]) = some (Obj.box [V.int IntKind.i64 n, V.int IntKind.i64 x, V.int IntKind.i64 y]) ∧ True) ∧
                        Inv6 (fromsF l a) d (0 : Int) (4611686018427387904 : Int)) ∧
                      ∀ (x_1 : Int × Int × Unit),
                        Inv6 (fromsF l a) d x_1.fst x_1.snd.fst →
                          (decide (x_1.fst < (↑(fromsF l a).length : Int)) = true →
                              ((0 : Int) ≤ x_1.fst ∧ x_1.fst < (↑(fromsF l a).length : Int)) ∧
                                ∀ (x_2 : Int),
                                  (fromsF l a)[x_1.fst.toNat]? = some x_2 →
                                    (decide (d < x_2) = true →
                                        ((0 : Int) ≤ x_1.fst ∧ x_1.fst < (↑(fromsF l a).length : Int)) ∧
                                          ∀ (x_3 : Int),
                                            (fromsF l a)[x_1.fst.toNat]? = some x_3 →
                                              (decide (x_3 < x_1.snd.fst) = true →
                                                  ((0 : Int) ≤ x_1.fst ∧ x_1.fst < (↑(fromsF l a).length : Int)) ∧
                                                    ∀ (x_4 : Int),
                                                      (fromsF l a)[x_1.fst.toNat]? = some x_4 →
                                                        ((-9223372036854775808 : Int) ≤ x_1.fst + (1 : Int) ∧ x_1.fst + (1 : Int) ≤ (9223372036854775807 : Int)) ∧
                                                          (some (Obj.box [V.int IntKind.i64 a, V.int IntKind.i64 b, V.int IntKind.i64 c, V.int IntKind.i64 d]) =
                                                                some (Obj.box [V.int IntKind.i64 a, V.int IntKind.i64 b, V.int IntKind.i64 c, V.int IntKind.i64 d]) ∧
                                                              some (Obj.box [V.int IntKind.i64 n, V.int IntKind.i64 x, V.int IntKind.i64 y]) =
                                                                  some (Obj.box [V.int IntKind.i64 n, V.int IntKind.i64 x, V.int IntKind.i64 y]) ∧
                                                                True) ∧
                                                            Inv6 (fromsF l a) d (x_1.fst + (1 : Int)) x_4 ∧
                                                              ((↑(fromsF l a).length : Int) - (x_1.fst + (1 : Int))).toNat < ((↑(fromsF l a).length : Int) - x_1.fst).toNat) ∧
                                                (decide (x_3 < x_1.snd.fst) = false →
                                                  ((-9223372036854775808 : Int) ≤ x_1.fst + (1 : Int) ∧ x_1.fst + (1 : Int) ≤ (9223372036854775807 : Int)) ∧
                                                    (some (Obj.box [V.int IntKind.i64 a, V.int IntKind.i64 b, V.int IntKind.i64 c, V.int IntKind.i64 d]) =
                                                          some (Obj.box [V.int IntKind.i64 a, V.int IntKind.i64 b, V.int IntKind.i64 c, V.int IntKind.i64 d]) ∧
                                                        some (Obj.box [V.int IntKind.i64 n, V.int IntKind.i64 x, V.int IntKind.i64 y]) =
                                                            some (Obj.box [V.int IntKind.i64 n, V.int IntKind.i64 x, V.int IntKind.i64 y]) ∧
                                                          True) ∧
                                                      Inv6 (fromsF l a) d (x_1.fst + (1 : Int)) x_1.snd.fst ∧
                                                        ((↑(fromsF l a).length : Int) - (x_1.fst + (1 : Int))).toNat < ((↑(fromsF l a).length : Int) - x_1.fst).toNat)) ∧
                                      (decide (d < x_2) = !true →
                                        ((-9223372036854775808 : Int) ≤ x_1.fst + (1 : Int) ∧ x_1.fst + (1 : Int) ≤ (9223372036854775807 : Int)) ∧
                                          (some (Obj.box [V.int IntKind.i64 a, V.int IntKind.i64 b, V.int IntKind.i64 c, V.int IntKind.i64 d]) =
                                                some (Obj.box [V.int IntKind.i64 a, V.int IntKind.i64 b, V.int IntKind.i64 c, V.int IntKind.i64 d]) ∧
                                              some (Obj.box [V.int IntKind.i64 n, V.int IntKind.i64 x, V.int IntKind.i64 y]) =
                                                  some (Obj.box [V.int IntKind.i64 n, V.int IntKind.i64 x, V.int IntKind.i64 y]) ∧
                                                True) ∧
                                            Inv6 (fromsF l a) d (x_1.fst + (1 : Int)) x_1.snd.fst ∧
                                              ((↑(fromsF l a).length : Int) - (x_1.fst + (1 : Int))).toNat < ((↑(fromsF l a).length : Int) - x_1.fst).toNat)) ∧
                            (decide (x_1.fst < (↑(fromsF l a).length : Int)) = false →
                              (decide (x = a) = true →
                                  (decide (d ≤ y) = true →
                                      (decide (y < x_1.snd.fst) = true →
                                          (decide ((atF (addF l (a, b, c, d) n).fst x y).fst = b) = true →
                                              (decide ((atF (addF l (a, b, c, d) n).fst x y).snd = c) = true → True ∧ (true, ()) = (true, ())) ∧
                                                (decide ((atF (addF l (a, b, c, d) n).fst x y).snd = c) = !true → (false, ()) = (true, ()))) ∧
                                            (decide ((atF (addF l (a, b, c, d) n).fst x y).fst = b) = !true → (false, ()) = (true, ()))) ∧
                                        (decide (y < x_1.snd.fst) = false →
                                          (decide ((4611686018427387904 : Int) ≤ y) = false →
                                              (decide ((atF l x y).fst = (atF (addF l (a, b, c, d) n).fst x y).fst) = true →
                                                  (decide ((atF l x y).snd = (atF (addF l (a, b, c, d) n).fst x y).snd) = true → True ∧ (true, ()) = (true, ())) ∧
                                                    (decide ((atF l x y).snd = (atF (addF l (a, b, c, d) n).fst x y).snd) = !true → (false, ()) = (true, ()))) ∧
                                                (decide ((atF l x y).fst = (atF (addF l (a, b, c, d) n).fst x y).fst) = !true → (false, ()) = (true, ()))) ∧
                                            (decide ((4611686018427387904 : Int) ≤ y) = !false → True ∧ (true, ()) = (true, ())))) ∧
                                    (decide (d ≤ y) = !true →
                                      (decide ((4611686018427387904 : Int) ≤ y) = false →
                                          (decide ((atF l x y).fst = (atF (addF l (a, b, c, d) n).fst x y).fst) = true →
                                              (decide ((atF l x y).snd = (atF (addF l (a, b, c, d) n).fst x y).snd) = true → True ∧ (true, ()) = (true, ())) ∧
                                                (decide ((atF l x y).snd = (atF (addF l (a, b, c, d) n).fst x y).snd) = !true → (false, ()) = (true, ()))) ∧
                                            (decide ((atF l x y).fst = (atF (addF l (a, b, c, d) n).fst x y).fst) = !true → (false, ()) = (true, ()))) ∧
                                        (decide ((4611686018427387904 : Int) ≤ y) = !false → True ∧ (true, ()) = (true, ())))) ∧
                                (decide (x = a) = !true →
                                  (decide ((4611686018427387904 : Int) ≤ y) = false →
                                      (decide ((atF l x y).fst = (atF (addF l (a, b, c, d) n).fst x y).fst) = true →
                                          (decide ((atF l x y).snd = (atF (addF l (a, b, c, d) n).fst x y).snd) = true → True ∧ (true, ()) = (true, ())) ∧
                                            (decide ((atF l x y).snd = (atF (addF l (a, b, c, d) n).fst x y).snd) = !true → (false, ()) = (true, ()))) ∧
                                        (decide ((atF l x y).fst = (atF (addF l (a, b, c, d) n).fst x y).fst) = !true → (false, ()) = (true, ()))) ∧
                                    (decide ((4611686018427387904 : Int) ≤ y) = !false → True ∧ (true, ()) = (true, ()))))))) ∧
  (decide ((30 : Int) < (↑l.length : Int)) = !false → True ∧ (true, ()) = (true, ()))

theorem g_later_eq (l : List Stk) (a b c d n x y : Int) : g_later l a b c d n x y = g_later_vc l a b c d n x y := by kernel_rfl
theorem best_prop {e p : Int} : ∀ (l : List Stk) (b : Option Stk) (q : Stk), (∀ s, b = some s → s.1 = e ∧ s.2.2.2 ≤ p) → l.foldl (take e p) b = some q → q.1 = e ∧ q.2.2.2 ≤ p
  | [], b, q, h, hq => h q hq
  | s :: r, b, q, h, hq => by
    refine best_prop r (take e p b s) q (fun t ht => ?_) hq
    unfold take at ht
    split at ht
    · rename_i hc
      split at ht
      · cases ht; exact hc
      · split at ht
        · cases ht; exact hc
        · exact h t ht
    · exact h t ht
theorem next_fold (sf : Int) : ∀ (fs : List Int) (i : Int), fs.foldl (nextS sf) i ≤ i ∧ (fs.foldl (nextS sf) i = i ∨ (fs.foldl (nextS sf) i ∈ fs ∧ sf < fs.foldl (nextS sf) i)) ∧ ∀ f ∈ fs, sf < f → fs.foldl (nextS sf) i ≤ f
  | [], i => ⟨Int.le_refl _, .inl rfl, fun f hf => by simp at hf⟩
  | g :: r, i => by
    obtain ⟨h1, h2, h3⟩ := next_fold sf r (nextS sf i g)
    have hs : nextS sf i g ≤ i ∧ (sf < g → nextS sf i g ≤ g) ∧ (nextS sf i g = i ∨ (nextS sf i g = g ∧ sf < g)) := by
      unfold nextS
      split
      · rename_i h; exact ⟨by omega, fun _ => Int.le_refl _, .inr ⟨rfl, h.1⟩⟩
      · exact ⟨Int.le_refl _, fun _ => by omega, .inl rfl⟩
    rw [List.foldl_cons]
    refine ⟨by omega, ?_, fun f hf hlt => ?_⟩
    · rcases h2 with h2 | ⟨h2, h4⟩
      · rw [h2]
        rcases hs.2.2 with h5 | ⟨h5, h6⟩
        · exact .inl h5
        · rw [h5]; exact .inr ⟨List.mem_cons_self, h6⟩
      · exact .inr ⟨List.mem_cons_of_mem _ h2, h4⟩
    · rcases List.mem_cons.1 hf with rfl | hf
      · have := hs.2.1 hlt; omega
      · exact h3 f hf hlt
theorem best_max {e p : Int} : ∀ (l : List Stk) (b : Option Stk) (q : Stk), l.foldl (take e p) b = some q → (∀ t ∈ l, t.1 = e → t.2.2.2 ≤ p → t.2.2.2 ≤ q.2.2.2) ∧ ∀ s, b = some s → s.2.2.2 ≤ q.2.2.2
  | [], b, q, h => ⟨fun t ht => by simp at ht, fun s hs => by
    rw [List.foldl_nil, hs] at h; cases h; exact Int.le_refl _⟩
  | s :: r, b, q, h => by
    obtain ⟨h1, h2⟩ := best_max r (take e p b s) q h
    constructor
    · intro t ht ht1 ht2
      rcases List.mem_cons.1 ht with rfl | ht
      · cases hb : b with
        | none => exact h2 t (by rw [hb, take, if_pos ⟨ht1, ht2⟩])
        | some q0 =>
          by_cases hq : q0.2.2.2 ≤ t.2.2.2
          · exact h2 t (by rw [hb, take, if_pos ⟨ht1, ht2⟩]; simp [hq])
          · have := h2 q0 (by rw [hb, take, if_pos ⟨ht1, ht2⟩]; simp [hq])
            omega
      · exact h1 t ht ht1 ht2
    · intro q0 hb
      by_cases hc : s.1 = e ∧ s.2.2.2 ≤ p
      · by_cases hq : q0.2.2.2 ≤ s.2.2.2
        · have := h2 s (by rw [hb, take, if_pos hc]; simp [hq])
          omega
        · exact h2 q0 (by rw [hb, take, if_pos hc]; simp [hq])
      · exact h2 q0 (by rw [hb, take, if_neg hc])
theorem best_keep {e p : Int} : ∀ (l : List Stk) (b : Option Stk), b ≠ none → l.foldl (take e p) b ≠ none
  | [], _, h => h
  | s :: r, b, h => best_keep r _ (by
    unfold take
    split
    · split
      · simp
      · split <;> simp
    · exact h)
theorem best_some {e p : Int} : ∀ (l : List Stk) (b : Option Stk) (t : Stk), t ∈ l → t.1 = e → t.2.2.2 ≤ p → l.foldl (take e p) b ≠ none
  | [], _, t, h, _, _ => by simp at h
  | s :: r, b, t, h, h1, h2 => by
    rw [List.foldl_cons]
    rcases List.mem_cons.1 h with rfl | h
    · refine best_keep r _ ?_
      unfold take
      rw [if_pos ⟨h1, h2⟩]
      split
      · simp
      · split <;> simp
    · exact best_some r _ t h h1 h2
theorem best_snoc (l : List Stk) (s : Stk) (e p : Int) : best (l ++ [s]) e p = take e p (best l e p) s := by
  unfold best
  rw [List.foldl_append]
  rfl
theorem mem_fromsF {l : List Stk} {e f : Int} : f ∈ fromsF l e ↔ ∃ t ∈ l, t.1 = e ∧ t.2.2.2 = f := by
  unfold fromsF fromsL
  rw [mem_fold]
  constructor
  · rintro (h | h)
    · simp at h
    · obtain ⟨t, ht, e2⟩ := List.mem_map.1 h
      obtain ⟨h1, h2⟩ := List.mem_filter.1 ht
      exact ⟨t, h1, by simpa using h2, e2⟩
  · rintro ⟨t, h1, h2, h3⟩
    exact .inr (List.mem_map.2 ⟨t, List.mem_filter.2 ⟨h1, by simpa using h2⟩, h3⟩)
theorem addF_ok {l : List Stk} {s : Stk} {n : Int} (h : (addF l s n).2 = 0) : (addF l s n).1 = l ++ [s] := by
  unfold addF at h ⊢
  split
  · rename_i hc; rw [if_pos hc] at h; simp at h
  · rename_i hc
    rw [if_neg hc] at h
    split
    · rfl
    · rename_i hc2; rw [if_neg hc2] at h; exact absurd h hc2
theorem addF_no {l : List Stk} {s : Stk} {n : Int} (h : ¬ (addF l s n).2 = 0) : (addF l s n).1 = [] := by
  unfold addF at h ⊢
  split
  · rfl
  · rename_i hc
    rw [if_neg hc] at h
    split
    · rename_i hc2; rw [if_pos hc2] at h; exact absurd rfl h
    · rfl
theorem later_in {l : List Stk} {s : Stk} {y : Int} (h1 : s.2.2.2 ≤ y) (h2 : y < nextF (fromsF l s.1) s.2.2.2) : atF (l ++ [s]) s.1 y = (s.2.1, s.2.2.1) := by
  have hb : best (l ++ [s]) s.1 y = some s := by
    rw [best_snoc]
    unfold take
    rw [if_pos ⟨rfl, h1⟩]
    cases hq : best l s.1 y with
    | none => rfl
    | some q =>
      have hm := best_mem hq
      have hp : q.1 = s.1 ∧ q.2.2.2 ≤ y := best_prop l none q (fun t ht => by cases ht) hq
      have : q.2.2.2 ≤ s.2.2.2 := by
        apply Classical.byContradiction
        intro hn
        have := (next_fold s.2.2.2 (fromsF l s.1) big).2.2 q.2.2.2 (mem_fromsF.2 ⟨q, hm, hp.1, rfl⟩) (by omega)
        unfold nextF at h2
        omega
      simp [this]
  unfold atF
  rw [hb]
theorem later_out {l : List Stk} {s : Stk} {x y : Int} (h : ¬ (x = s.1 ∧ s.2.2.2 ≤ y ∧ y < nextF (fromsF l s.1) s.2.2.2)) (hy : y < big) : atF (l ++ [s]) x y = atF l x y := by
  have hb : best (l ++ [s]) x y = best l x y := by
    rw [best_snoc]
    unfold take
    split
    · rename_i hc
      obtain ⟨rfl, hc2⟩ := hc
      have hn : nextF (fromsF l s.1) s.2.2.2 ≤ y := by
        apply Classical.byContradiction
        intro hh
        exact h ⟨rfl, hc2, by omega⟩
      obtain ⟨k1, k2, k3⟩ := next_fold s.2.2.2 (fromsF l s.1) big
      unfold nextF at hn
      rcases k2 with k2 | ⟨k2, k4⟩
      · omega
      · obtain ⟨t, t1, t2, t3⟩ := mem_fromsF.1 k2
        cases hq : best l s.1 y with
        | none => exact absurd hq (best_some l none t t1 t2 (by omega))
        | some q =>
          have := (best_max l none q hq).1 t t1 t2 (by omega)
          have : ¬ q.2.2.2 ≤ s.2.2.2 := by omega
          simp [this]
    · rfl
  unfold atF
  rw [hb]
theorem inv6_b {fs : List Int} {sf i n : Int} (h : Inv6 fs sf i n) : 0 ≤ i ∧ i ≤ fs.length := ⟨h.1, h.2.1⟩
theorem inv6_0 (fs : List Int) (sf : Int) : Inv6 fs sf 0 4611686018427387904 := ⟨by omega, by omega, rfl⟩
theorem inv6_s {fs : List Int} {sf i n f : Int} (h : Inv6 fs sf i n) (hi : i < fs.length) (hf : fs[i.toNat]? = some f) : Inv6 fs sf (i + 1) (nextS sf n f) := by
  obtain ⟨h1, h2, h3⟩ := h
  refine ⟨by omega, by omega, ?_⟩
  rw [toNat_next h1, List.take_add_one, hf, nextF, List.foldl_append, h3]
  rfl
theorem inv6_yes {fs : List Int} {sf i n f : Int} (h : Inv6 fs sf i n) (hi : i < fs.length) (hf : fs[i.toNat]? = some f) (h1 : sf < f) (h2 : f < n) : Inv6 fs sf (i + 1) f := by
  have := inv6_s h hi hf
  rwa [nextS, if_pos ⟨h1, h2⟩] at this
theorem inv6_no {fs : List Int} {sf i n f : Int} (h : Inv6 fs sf i n) (hi : i < fs.length) (hf : fs[i.toNat]? = some f) (h1 : ¬ (sf < f ∧ f < n)) : Inv6 fs sf (i + 1) n := by
  have := inv6_s h hi hf
  rwa [nextS, if_neg h1] at this
theorem inv6_end {fs : List Int} {sf i n : Int} (h : Inv6 fs sf i n) (hi : ¬ i < fs.length) : n = nextF fs sf := by
  obtain ⟨h1, h2, h3⟩ := h
  rw [h3, List.take_of_length_le (by omega)]
theorem g_later_ok (l : List Stk) (a b c d n x y : Int) : g_later_vc l a b c d n x y := by
  unfold g_later_vc
  have hFl := fromsF_len l a
  have hal := addF_len l (a, b, c, d) n
  simp only [decide_eq_true_eq, decide_eq_false_iff_not, Bool.not_true, Bool.not_false, Bool.not_eq_true', Bool.not_eq_false', true_and, and_true, and_self, implies_true, forall_const, not_true_eq_false, not_false_eq_true]
  intro h0 h1
  refine ⟨by omega, fun h2 => ?_, fun h2 => ⟨by omega, by omega, by omega, inv6_0 _ _, ?_⟩⟩
  · rw [addF_no h2]; simp
  have hadd := addF_ok h2
  rintro ⟨i, nx, _⟩ hI
  have hb := inv6_b hI
  simp only at hI hb ⊢
  refine ⟨fun hi => ⟨by omega, fun f hf => ⟨fun c1 => ⟨by omega, fun g hg => ⟨fun c2 => ⟨by omega, fun k hk => ⟨by omega, ?_, by omega⟩⟩, fun c2 => ⟨by omega, ?_, by omega⟩⟩⟩, fun c1 => ⟨by omega, inv6_no hI hi hf (fun hh => c1 hh.1), by omega⟩⟩⟩, fun hi => ?_⟩
  · rw [hf] at hg hk
    cases hg; cases hk
    exact inv6_yes hI hi hf c1 c2
  · rw [hf] at hg
    cases hg
    exact inv6_no hI hi hf (fun hh => c2 hh.2)
  have hn := inv6_end hI hi
  rw [hadd]
  have hin : x = a → d ≤ y → y < nx → atF (l ++ [(a, b, c, d)]) x y = (b, c) := by
    intro e1 e2 e3
    rw [e1]
    exact later_in (s := (a, b, c, d)) e2 (by rw [← hn]; exact e3)
  have hout : ¬ (x = a ∧ d ≤ y ∧ y < nx) → ¬ 4611686018427387904 ≤ y → atF (l ++ [(a, b, c, d)]) x y = atF l x y := by
    intro e1 e2
    exact later_out (s := (a, b, c, d)) (by rw [← hn]; exact e1) (by unfold big; omega)
  refine ⟨fun e1 => ⟨fun e2 => ⟨fun e3 => ?_, fun e3 e4 => ?_⟩, fun e2 e4 => ?_⟩, fun e1 e4 => ?_⟩
  · rw [hin e1 e2 e3]; simp
  · rw [hout (fun hh => e3 hh.2.2) e4]; simp
  · rw [hout (fun hh => e2 hh.2.1) e4]; simp
  · rw [hout (fun hh => e1 hh.1) e4]; simp
theorem later_pure (l : List Stk) (a b c d n x y : Int) : Pure Try.prog 6 [.list .tmp STy l, .agg [.int .i64 a, .int .i64 b, .int .i64 c, .int .i64 d], .agg [.int .i64 n, .int .i64 x, .int .i64 y]] (.bool true) :=
  Pure.of_vc (E := env_later l a b c d n x y) (ts := tsOf Try.f6) (ps := [.bool]) (r := (true, ())) (fn := Try.f6) (c := codeOf Try.f6) (specs_ok (P := Try.prog) rfl [sp_awake, sp_at_, sp_froms, sp_add] [] rfl rfl) mixed Try.func6 rfl rfl (by
    have := g_later_ok l a b c d n x y
    rw [← g_later_eq] at this
    exact this)
def q_later (l : List Stk) (a b c d n x y : Int) : Prop × V := (True, (.bool true))
noncomputable def sp_later : FSpec Try.prog where
  f := 6
  run := fun args => match args with
    | [v0, .agg [.int .i64 a, .int .i64 b, .int .i64 c, .int .i64 d], .agg [.int .i64 n, .int .i64 x, .int .i64 y]] => (match (asL STy v0 : Option (List Stk)) with | some l => some (q_later l a b c d n x y) | none => none)
    | _ => none
  ok := fun args pre r h hp => by
    try dsimp only at h
    split at h
    · rename_i v0 a b c d n x y
      cases h0 : (asL STy v0 : Option (List Stk)) with
      | none => rw [h0] at h; cases h
      | some l =>
      rw [h0] at h
      try dsimp only at h
      have h := Option.some.inj h
      unfold q_later at h
      cases h
      exact (later_pure l a b c d n x y).weak (.cons (asL_weak h0) (.cons (Weak.refl _) (.cons (Weak.refl _) .nil)))
    · cases h

end Go.Proofs.Ytoiofigknkpieaa
