/-
  rate: keys, what may be, the last one of a key, what is found.
-/
import Derived.Test.YtccmidojhagppaaDoorRatio3
namespace Go.Proofs.YtccmidojhagppaaDoor
open Go.Vm

theorem weakL_len {cs cs' : List V} (h : WeakL cs cs') : cs.length = cs'.length := by
  induction h with
  | nil => rfl
  | cons _ _ ih => simp [ih]
theorem weakL_at {cs cs' : List V} (h : WeakL cs cs') : ∀ (j : Nat) c', cs'[j]? = some c' → ∃ c, cs[j]? = some c ∧ Weak c c' := by
  induction h with
  | nil => intro j c' h; simp at h
  | cons h1 _ ih =>
    intro j c' h
    cases j with
    | zero =>
      simp only [List.getElem?_cons_zero, Option.some.injEq] at h
      subst h
      exact ⟨_, rfl, h1⟩
    | succ j => exact ih j c' (by simpa using h)
theorem weak_fptr {cs cs' : List V} (h : WeakL cs cs') : Weak (.fptr cs) (.fptr cs') := fun X u hr => by
  obtain ⟨b, o, f, rfl, hT, hc, hrc⟩ := hr.fptr_inv
  refine .fptr f (fun h0 => hT (by rw [weakL_len h]; exact h0)) (fun j c' hj => ?_) (fun j c' hj => ?_)
  · obtain ⟨c, k1, _⟩ := weakL_at h j c' hj
    exact hc j c k1
  · obtain ⟨c, k1, k2⟩ := weakL_at h j c' hj
    exact k2 X _ (hrc j c k1)

abbrev Rt := Int × Int × Int × Int × Int × Int
/-- Have two one key? -/
def sameB (x k : Rt) : Bool := decide (x.1 = k.1 ∧ x.2.1 = k.2.1 ∧ x.2.2.1 = k.2.2.1 ∧ x.2.2.2.1 = k.2.2.2.1)
def lastS (k : Rt) (st : Int × Int) (x : Rt) : Int × Int := (st.1 + 1, if sameB x k then st.1 else st.2)
/-- The number of the last one of a key, or below 0. -/
def lastF (l : List Rt) (k : Rt) : Int := (l.foldl (lastS k) (0, -1)).2
theorem last_fst (l : List Rt) (k : Rt) : (l.foldl (lastS k) (0, -1)).1 = l.length := by
  have h : ∀ (l : List Rt) (st : Int × Int), (l.foldl (lastS k) st).1 = st.1 + l.length := by
    intro l
    induction l with
    | nil => intro st; simp
    | cons x r ih =>
      intro st
      rw [List.foldl_cons, ih, List.length_cons]
      show st.1 + 1 + (r.length : Int) = st.1 + ((r.length + 1 : Nat) : Int)
      omega
  rw [h]
  simp
theorem last_snoc (l : List Rt) (k x : Rt) : lastF (l ++ [x]) k = if sameB x k then (l.length : Int) else lastF l k := by
  unfold lastF
  rw [List.foldl_append]
  show (if sameB x k then (l.foldl (lastS k) (0, -1)).1 else (l.foldl (lastS k) (0, -1)).2) = _
  rw [last_fst]
theorem last_next {l : List Rt} {k x : Rt} {i : Nat} (h : l[i]? = some x) : lastF (l.take (i + 1)) k = if sameB x k then (i : Int) else lastF (l.take i) k := by
  have hl := (List.getElem?_eq_some_iff.1 h).1
  rw [List.take_add_one, h]
  show lastF (l.take i ++ [x]) k = _
  rw [last_snoc, List.length_take, Nat.min_eq_left (by omega)]
theorem last_nil (k : Rt) : lastF [] k = -1 := rfl
/-- What is told: none; or one that is of the key, behind which none is. -/
theorem last_spec (k : Rt) : ∀ l : List Rt, (lastF l k = -1 ∧ ∀ x ∈ l, sameB x k = false) ∨ (0 ≤ lastF l k ∧ lastF l k < l.length ∧ ∃ x, l[(lastF l k).toNat]? = some x ∧ sameB x k = true) := by
  intro l
  have h : ∀ i, i ≤ l.length → (lastF (l.take i) k = -1 ∧ ∀ x ∈ l.take i, sameB x k = false) ∨ (0 ≤ lastF (l.take i) k ∧ lastF (l.take i) k < i ∧ ∃ x, l[(lastF (l.take i) k).toNat]? = some x ∧ sameB x k = true) := by
    intro i
    induction i with
    | zero => intro _; exact .inl ⟨rfl, fun x hx => by simp at hx⟩
    | succ i ih =>
      intro hi
      have hx : l[i]? = some l[i] := List.getElem?_eq_getElem (by omega)
      rw [last_next hx]
      by_cases c : sameB l[i] k = true
      · rw [if_pos c]
        exact .inr ⟨by omega, by omega, l[i], by rw [Int.toNat_natCast]; exact hx, c⟩
      · rw [if_neg c]
        rcases ih (by omega) with ⟨h1, h2⟩ | ⟨h1, h2, h3⟩
        · refine .inl ⟨h1, fun x hm => ?_⟩
          rw [List.take_add_one, hx, List.mem_append] at hm
          rcases hm with hm | hm
          · exact h2 x hm
          · rw [show x = l[i] by simpa using hm]
            simpa using c
        · exact .inr ⟨h1, by omega, h3⟩
  have := h l.length (Nat.le_refl _)
  rw [List.take_length] at this
  exact this
/-- The rate of a key. -/
def findF (l : List Rt) (k : Rt) : (Int × Int) × Bool := if lastF l k < 0 then ((0, 0), false) else match l[(lastF l k).toNat]? with
  | some x => (x.2.2.2.2, true)
  | none => ((0, 0), false)
theorem find_none {l : List Rt} {k : Rt} (h : lastF l k < 0) : findF l k = ((0, 0), false) := by unfold findF; rw [if_pos h]
theorem find_some {l : List Rt} {k x : Rt} (h : ¬ lastF l k < 0) (hx : l[(lastF l k).toNat]? = some x) : findF l k = (x.2.2.2.2, true) := by unfold findF; rw [if_neg h, hx]
theorem same_key {k k' : Rt} (h : k.1 = k'.1 ∧ k.2.1 = k'.2.1 ∧ k.2.2.1 = k'.2.2.1 ∧ k.2.2.2.1 = k'.2.2.2.1) (x : Rt) : sameB x k = sameB x k' := by
  unfold sameB
  obtain ⟨h1, h2, h3, h4⟩ := h
  rw [h1, h2, h3, h4]
theorem last_key {k k' : Rt} (h : k.1 = k'.1 ∧ k.2.1 = k'.2.1 ∧ k.2.2.1 = k'.2.2.1 ∧ k.2.2.2.1 = k'.2.2.2.1) (l : List Rt) : lastF l k = lastF l k' := by
  have : lastS k = lastS k' := by funext st x; unfold lastS; rw [same_key h x]
  unfold lastF
  rw [this]
theorem find_key {k k' : Rt} (h : k.1 = k'.1 ∧ k.2.1 = k'.2.1 ∧ k.2.2.1 = k'.2.2.1 ∧ k.2.2.2.1 = k'.2.2.2.1) (l : List Rt) : findF l k = findF l k' := by
  unfold findF
  rw [last_key h l]
theorem last_set {l : List Rt} {r k : Rt} {i : Nat} {x : Rt} (hx : l[i]? = some x) (hs : sameB x r = true) : lastF (l.set i r) k = lastF l k := by
  have hl := (List.getElem?_eq_some_iff.1 hx).1
  have hk : sameB r k = sameB x k := by
    unfold sameB at hs ⊢
    rw [decide_eq_true_eq] at hs
    obtain ⟨h1, h2, h3, h4⟩ := hs
    rw [h1, h2, h3, h4]
  have h : ∀ n, n ≤ l.length → lastF ((l.set i r).take n) k = lastF (l.take n) k := by
    intro n
    induction n with
    | zero => intro _; rfl
    | succ n ih =>
      intro hn
      have e1 : l[n]? = some l[n] := List.getElem?_eq_getElem (by omega)
      by_cases c : n = i
      · subst c
        have e2 : (l.set n r)[n]? = some r := by rw [List.getElem?_set_self (by omega)]
        rw [last_next e1, last_next e2, ih (by omega), hk]
        rw [e1] at hx
        cases hx
        rfl
      · have e2 : (l.set i r)[n]? = some l[n] := by rw [List.getElem?_set_ne (by omega)]; exact e1
        rw [last_next e1, last_next e2, ih (by omega)]
  have := h l.length (Nat.le_refl _)
  rw [List.take_length, List.take_of_length_le (by rw [List.length_set]; exact Nat.le_refl _)] at this
  exact this
theorem same_self (r : Rt) : sameB r r = true := by simp [sameB]
theorem same_trans {x r k : Rt} (h : sameB x r = true) : sameB x k = sameB r k := by
  unfold sameB at h ⊢
  rw [decide_eq_true_eq] at h
  obtain ⟨h1, h2, h3, h4⟩ := h
  rw [h1, h2, h3, h4]

noncomputable def env_key (a b c p n d : Int) : Env where
  P := Tryd.prog
  ty := tys0
abbrev ann_key : Ann := { slots := numP 0 [.int .i64, .int .i64, .int .i64, .int .i64, .int .i64, .int .i64], boxes := [], inv := fun _ _ => True }
noncomputable def g_key (a b c p n d : Int) : Prop := vc (env_key a b c p n d) (codeOf Tryd.f27) (start0 Tryd.f27 [.agg [.int .i64 a, .int .i64 b, .int .i64 c, .int .i64 p, .int .i64 n, .int .i64 d]]) (exitG (env_key a b c p n d).P Tryd.f27.results.toList [some 6] (env_key a b c p n d).pins ann_key (a, b, c, p, (0 : Int), (0 : Int), ()))
def g_key_vc (a : Int) (b : Int) (c : Int) (p : Int) (n : Int) (d : Int) : Prop :=
  True ∧ (a, b, c, p, (0 : Int), (0 : Int), ()) = (a, b, c, p, (0 : Int), (0 : Int), ())

theorem g_key_eq (a b c p n d : Int) : g_key a b c p n d = g_key_vc a b c p n d := by kernel_rfl
theorem g_key_ok (a b c p n d : Int) : g_key_vc a b c p n d := by
  exact ⟨trivial, rfl⟩
set_option maxRecDepth 20000 in
theorem key_pure (a b c p n d : Int) : Pure Tryd.prog 27 [.agg [.int .i64 a, .int .i64 b, .int .i64 c, .int .i64 p, .int .i64 n, .int .i64 d]] (.agg [.int .i64 a, .int .i64 b, .int .i64 c, .int .i64 p, .int .i64 0, .int .i64 0]) :=
  Pure.of_gG (E := env_key a b c p n d) (sh := [some 6]) (ann := ann_key) (x := (a, b, c, p, (0 : Int), (0 : Int), ())) (fn := Tryd.f27) (c := codeOf Tryd.f27) (specs_ok (P := Tryd.prog) rfl [] [] rfl rfl) mixed Tryd.func27 rfl rfl rfl rfl rfl (g := g_key a b c p n d) (by delta g_key start0; first | with_reducible exact Eq.refl _ | exact Eq.refl _) (by rw [g_key_eq a b c p n d]; exact g_key_ok a b c p n d)
noncomputable def q_key (a b c p n d : Int) : Prop × V := (True, (.agg [.int .i64 a, .int .i64 b, .int .i64 c, .int .i64 p, .int .i64 0, .int .i64 0]))
noncomputable def sp_key : FSpec Tryd.prog where
  f := 27
  run := fun args => match args with
    | [.agg [.int .i64 a, .int .i64 b, .int .i64 c, .int .i64 p, .int .i64 n, .int .i64 d]] => some (q_key a b c p n d)
    | _ => none
  ok := fun args pre r h hp => by
    try dsimp only at h
    split at h
    · rename_i a b c p n d
      have h := Option.some.inj h
      unfold q_key at h
      cases h
      exact (key_pure a b c p n d).weak (.cons (Weak.refl _) .nil)
    · cases h

def moneyB (c : Int) : Bool := decide (1 ≤ c ∧ c ≤ 8)
noncomputable def env_money (c : Int) : Env where
  P := Tryd.prog
  ty := tys0
noncomputable def g_money (c : Int) : Prop := vc (env_money c) (codeOf Tryd.f30) (start0 Tryd.f30 [.int .i64 c]) (exitK (tsOf Tryd.f30) [.bool] (moneyB c, ()))
def g_money_vc (c : Int) : Prop :=
  (decide ((1 : Int) ≤ c) = true → (decide (c ≤ (8 : Int)), ()) = (moneyB c, ())) ∧ (decide ((1 : Int) ≤ c) = !true → (false, ()) = (moneyB c, ()))

theorem g_money_eq (c : Int) : g_money c = g_money_vc c := by kernel_rfl
noncomputable def env_rmoney (c : Int) : Env where
  P := Tryd.prog
  ty := tys0
noncomputable def g_rmoney (c : Int) : Prop := vc (env_rmoney c) (codeOf Tryd.f31) (start0 Tryd.f31 [.int .i64 c]) (exitK (tsOf Tryd.f31) [.bool] (moneyB c, ()))
def g_rmoney_vc (c : Int) : Prop :=
  (decide ((1 : Int) ≤ c) = true → (decide (c ≤ (8 : Int)), ()) = (moneyB c, ())) ∧ (decide ((1 : Int) ≤ c) = !true → (false, ()) = (moneyB c, ()))

theorem g_rmoney_eq (c : Int) : g_rmoney c = g_rmoney_vc c := by kernel_rfl
theorem g_money_ok (c : Int) : g_money_vc c := by
  unfold g_money_vc moneyB
  simp only [decide_eq_true_eq, decide_eq_false_iff_not, Bool.not_true, Prod.mk.injEq, and_true]
  refine ⟨fun h => decide_eq_decide.2 (by omega), fun h => ?_⟩
  rw [decide_eq_false (by omega)]
set_option maxRecDepth 20000 in
theorem money_pure (c : Int) : Pure Tryd.prog 30 [.int .i64 c] (.bool (moneyB c)) :=
  Pure.of_g (E := env_money c) (ts := tsOf Tryd.f30) (ps := [.bool]) (r := (moneyB c, ())) (fn := Tryd.f30) (c := codeOf Tryd.f30) (specs_ok (P := Tryd.prog) rfl [] [] rfl rfl) mixed Tryd.func30 rfl rfl (g := g_money c) (by delta g_money start0; first | with_reducible exact Eq.refl _ | exact Eq.refl _) (by rw [g_money_eq c]; exact g_money_ok c)
noncomputable def q_money (c : Int) : Prop × V := (True, (.bool (moneyB c)))
noncomputable def sp_money : FSpec Tryd.prog where
  f := 30
  run := fun args => match args with
    | [.int .i64 c] => some (q_money c)
    | _ => none
  ok := fun args pre r h hp => by
    try dsimp only at h
    split at h
    · rename_i c
      have h := Option.some.inj h
      unfold q_money at h
      cases h
      exact (money_pure c).weak (.cons (Weak.refl _) .nil)
    · cases h
theorem g_rmoney_ok (c : Int) : g_rmoney_vc c := by
  unfold g_rmoney_vc moneyB
  simp only [decide_eq_true_eq, decide_eq_false_iff_not, Bool.not_true, Prod.mk.injEq, and_true]
  refine ⟨fun h => decide_eq_decide.2 (by omega), fun h => ?_⟩
  rw [decide_eq_false (by omega)]
set_option maxRecDepth 20000 in
theorem rmoney_pure (c : Int) : Pure Tryd.prog 31 [.int .i64 c] (.bool (moneyB c)) :=
  Pure.of_g (E := env_rmoney c) (ts := tsOf Tryd.f31) (ps := [.bool]) (r := (moneyB c, ())) (fn := Tryd.f31) (c := codeOf Tryd.f31) (specs_ok (P := Tryd.prog) rfl [] [] rfl rfl) mixed Tryd.func31 rfl rfl (g := g_rmoney c) (by delta g_rmoney start0; first | with_reducible exact Eq.refl _ | exact Eq.refl _) (by rw [g_rmoney_eq c]; exact g_rmoney_ok c)
noncomputable def q_rmoney (c : Int) : Prop × V := (True, (.bool (moneyB c)))
noncomputable def sp_rmoney : FSpec Tryd.prog where
  f := 31
  run := fun args => match args with
    | [.int .i64 c] => some (q_rmoney c)
    | _ => none
  ok := fun args pre r h hp => by
    try dsimp only at h
    split at h
    · rename_i c
      have h := Option.some.inj h
      unfold q_rmoney at h
      cases h
      exact (rmoney_pure c).weak (.cons (Weak.refl _) .nil)
    · cases h

/-- Why a rate may not be. -/
def mayR (x : Rt) : Int :=
  if ¬ (moneyB x.1 = true ∧ moneyB x.2.1 = true ∧ x.1 ≠ x.2.1) then 23 else if ¬ (1 ≤ x.2.2.1 ∧ x.2.2.1 ≤ 3) then 25 else if ¬ (0 ≤ x.2.2.2.1 ∧ x.2.2.2.1 ≤ 23) then 22 else ratioF x.2.2.2.2.1 x.2.2.2.2.2
noncomputable def env_may (a b c p n d : Int) : Env where
  P := Tryd.prog
  ty := tys0
  specs := specsOf [sp_money, sp_rcheck]
noncomputable def g_may (a b c p n d : Int) : Prop := vc (env_may a b c p n d) (codeOf Tryd.f20) (start0 Tryd.f20 [.agg [.int .i64 a, .int .i64 b, .int .i64 c, .int .i64 p, .int .i64 n, .int .i64 d]]) (exitK (tsOf Tryd.f20) [.int .i64] (mayR (a, b, c, p, n, d), ()))
def g_may_vc (a : Int) (b : Int) (c : Int) (p : Int) (n : Int) (d : Int) : Prop :=
  True ∧
  ((!moneyB a) = false →
      True ∧
        ((!moneyB b) = false →
            (decide (a = b) = true → ((23 : Int), ()) = (mayR (a, b, c, p, n, d), ())) ∧
              (decide (a = b) = false →
                (decide (c < (1 : Int)) = false →
                    (decide ((3 : Int) < c) = true → ((25 : Int), ()) = (mayR (a, b, c, p, n, d), ())) ∧
                      (decide ((3 : Int) < c) = false →
                        (decide (p < (0 : Int)) = false →
                            (decide ((24 : Int) ≤ p) = true → ((22 : Int), ()) = (mayR (a, b, c, p, n, d), ())) ∧
                              (decide ((24 : Int) ≤ p) = false → True ∧ (ratioF n d, ()) = (mayR (a, b, c, p, n, d), ()))) ∧
                          (decide (p < (0 : Int)) = !false → ((22 : Int), ()) = (mayR (a, b, c, p, n, d), ())))) ∧
                  (decide (c < (1 : Int)) = !false → ((25 : Int), ()) = (mayR (a, b, c, p, n, d), ())))) ∧
          ((!moneyB b) = !false → ((23 : Int), ()) = (mayR (a, b, c, p, n, d), ()))) ∧
    ((!moneyB a) = !false → ((23 : Int), ()) = (mayR (a, b, c, p, n, d), ()))

theorem g_may_eq (a b c p n d : Int) : g_may a b c p n d = g_may_vc a b c p n d := by kernel_rfl
theorem may_23 {x : Rt} (h : ¬ (moneyB x.1 = true ∧ moneyB x.2.1 = true ∧ x.1 ≠ x.2.1)) : mayR x = 23 := by unfold mayR; rw [if_pos h]
theorem may_25 {x : Rt} (h : moneyB x.1 = true ∧ moneyB x.2.1 = true ∧ x.1 ≠ x.2.1) (k : ¬ (1 ≤ x.2.2.1 ∧ x.2.2.1 ≤ 3)) : mayR x = 25 := by unfold mayR; rw [if_neg (fun c => c h), if_pos k]
theorem may_22 {x : Rt} (h : moneyB x.1 = true ∧ moneyB x.2.1 = true ∧ x.1 ≠ x.2.1) (k : 1 ≤ x.2.2.1 ∧ x.2.2.1 ≤ 3) (m : ¬ (0 ≤ x.2.2.2.1 ∧ x.2.2.2.1 ≤ 23)) : mayR x = 22 := by
  unfold mayR; rw [if_neg (fun c => c h), if_neg (fun c => c k), if_pos m]
theorem may_ok {x : Rt} (h : moneyB x.1 = true ∧ moneyB x.2.1 = true ∧ x.1 ≠ x.2.1) (k : 1 ≤ x.2.2.1 ∧ x.2.2.1 ≤ 3) (m : 0 ≤ x.2.2.2.1 ∧ x.2.2.2.1 ≤ 23) : mayR x = ratioF x.2.2.2.2.1 x.2.2.2.2.2 := by
  unfold mayR; rw [if_neg (fun c => c h), if_neg (fun c => c k), if_neg (fun c => c m)]
theorem may_ratio {x : Rt} (h : mayR x = 0) : ratioF x.2.2.2.2.1 x.2.2.2.2.2 = 0 := by
  unfold mayR at h
  split at h
  · cases h
  · split at h
    · cases h
    · split at h
      · cases h
      · exact h
theorem g_may_ok (a b c p n d : Int) : g_may_vc a b c p n d := by
  unfold g_may_vc
  simp only [decide_eq_true_eq, decide_eq_false_iff_not, Bool.not_eq_true', Bool.not_eq_false', Bool.not_false]
  refine ⟨trivial, fun h1 => ⟨trivial, fun h2 => ⟨fun h3 => ?_, fun h3 => ⟨fun h4 => ⟨fun h5 => ?_, fun h5 => ⟨fun h6 => ⟨fun h7 => ?_, fun h7 => ⟨trivial, ?_⟩⟩, fun h6 => ?_⟩⟩, fun h4 => ?_⟩⟩, fun h2 => ?_⟩, fun h1 => ?_⟩
  · rw [may_23 (fun k => k.2.2 h3)]
  · rw [may_25 ⟨h1, h2, h3⟩ (fun k => by have := k.2; dsimp only at this; omega)]
  · rw [may_22 ⟨h1, h2, h3⟩ (by dsimp only; omega) (fun k => by have := k.2; dsimp only at this; omega)]
  · rw [may_ok ⟨h1, h2, h3⟩ (by dsimp only; omega) (by dsimp only; omega)]
  · rw [may_22 ⟨h1, h2, h3⟩ (by dsimp only; omega) (fun k => by have := k.1; dsimp only at this; omega)]
  · rw [may_25 ⟨h1, h2, h3⟩ (fun k => by have := k.1; dsimp only at this; omega)]
  · rw [may_23 (fun k => by have := k.2.1; dsimp only at this; rw [h2] at this; cases this)]
  · rw [may_23 (fun k => by have := k.1; dsimp only at this; rw [h1] at this; cases this)]
set_option maxRecDepth 20000 in
theorem may_pure (a b c p n d : Int) : Pure Tryd.prog 20 [.agg [.int .i64 a, .int .i64 b, .int .i64 c, .int .i64 p, .int .i64 n, .int .i64 d]] (.int .i64 (mayR (a, b, c, p, n, d))) :=
  Pure.of_g (E := env_may a b c p n d) (ts := tsOf Tryd.f20) (ps := [.int .i64]) (r := (mayR (a, b, c, p, n, d), ())) (fn := Tryd.f20) (c := codeOf Tryd.f20) (specs_ok (P := Tryd.prog) rfl [sp_money, sp_rcheck] [] rfl rfl) mixed Tryd.func20 rfl rfl (g := g_may a b c p n d) (by delta g_may start0; first | with_reducible exact Eq.refl _ | exact Eq.refl _) (by rw [g_may_eq a b c p n d]; exact g_may_ok a b c p n d)
noncomputable def q_may (a b c p n d : Int) : Prop × V := (True, (.int .i64 (mayR (a, b, c, p, n, d))))
noncomputable def sp_may : FSpec Tryd.prog where
  f := 20
  run := fun args => match args with
    | [.agg [.int .i64 a, .int .i64 b, .int .i64 c, .int .i64 p, .int .i64 n, .int .i64 d]] => some (q_may a b c p n d)
    | _ => none
  ok := fun args pre r h hp => by
    try dsimp only at h
    split at h
    · rename_i a b c p n d
      have h := Option.some.inj h
      unfold q_may at h
      cases h
      exact (may_pure a b c p n d).weak (.cons (Weak.refl _) .nil)
    · cases h

noncomputable def env_rrcheck (a b : Int) : Env where
  P := Tryd.prog
  ty := tys0
noncomputable def g_rrcheck (a b : Int) : Prop := vc (env_rrcheck a b) (codeOf Tryd.f32) (start0 Tryd.f32 [.agg [.int .i64 a, .int .i64 b]]) (exitK (tsOf Tryd.f32) [.int .i64] (ratioF a b, ()))
def g_rrcheck_vc (a : Int) (b : Int) : Prop :=
  (decide (a < (1 : Int)) = false →
    (decide (b < (1 : Int)) = false →
        (decide ((1000000000000 : Int) < a) = false →
            (decide ((1000000000000 : Int) < b) = true → ((11 : Int), ()) = (ratioF a b, ())) ∧ (decide ((1000000000000 : Int) < b) = false → ((0 : Int), ()) = (ratioF a b, ()))) ∧
          (decide ((1000000000000 : Int) < a) = !false → ((11 : Int), ()) = (ratioF a b, ()))) ∧
      (decide (b < (1 : Int)) = !false → ((11 : Int), ()) = (ratioF a b, ()))) ∧
  (decide (a < (1 : Int)) = !false → ((11 : Int), ()) = (ratioF a b, ()))

theorem g_rrcheck_eq (a b : Int) : g_rrcheck a b = g_rrcheck_vc a b := by kernel_rfl
theorem g_rrcheck_ok (a b : Int) : g_rrcheck_vc a b := by
  unfold g_rrcheck_vc ratioF
  simp only [decide_eq_true_eq, decide_eq_false_iff_not, Bool.not_false, Prod.mk.injEq, and_true]
  refine ⟨fun h1 => ⟨fun h2 => ⟨fun h3 => ⟨fun h4 => ?_, fun h4 => ?_⟩, fun h3 => ?_⟩, fun h2 => ?_⟩, fun h1 => ?_⟩ <;> split <;> omega
set_option maxRecDepth 20000 in
theorem rrcheck_pure (a b : Int) : Pure Tryd.prog 32 [.agg [.int .i64 a, .int .i64 b]] (.int .i64 (ratioF a b)) :=
  Pure.of_g (E := env_rrcheck a b) (ts := tsOf Tryd.f32) (ps := [.int .i64]) (r := (ratioF a b, ())) (fn := Tryd.f32) (c := codeOf Tryd.f32) (specs_ok (P := Tryd.prog) rfl [] [] rfl rfl) mixed Tryd.func32 rfl rfl (g := g_rrcheck a b) (by delta g_rrcheck start0; first | with_reducible exact Eq.refl _ | exact Eq.refl _) (by rw [g_rrcheck_eq a b]; exact g_rrcheck_ok a b)
noncomputable def q_rrcheck (a b : Int) : Prop × V := (True, (.int .i64 (ratioF a b)))
noncomputable def sp_rrcheck : FSpec Tryd.prog where
  f := 32
  run := fun args => match args with
    | [.agg [.int .i64 a, .int .i64 b]] => some (q_rrcheck a b)
    | _ => none
  ok := fun args pre r h hp => by
    try dsimp only at h
    split at h
    · rename_i a b
      have h := Option.some.inj h
      unfold q_rrcheck at h
      cases h
      exact (rrcheck_pure a b).weak (.cons (Weak.refl _) .nil)
    · cases h
noncomputable def env_rmay (a b c p n d : Int) : Env where
  P := Tryd.prog
  ty := tys0
  specs := specsOf [sp_rmoney, sp_rrcheck]
noncomputable def g_rmay (a b c p n d : Int) : Prop := vc (env_rmay a b c p n d) (codeOf Tryd.f21) (start0 Tryd.f21 [.agg [.int .i64 a, .int .i64 b, .int .i64 c, .int .i64 p, .int .i64 n, .int .i64 d]]) (exitK (tsOf Tryd.f21) [.int .i64] (mayR (a, b, c, p, n, d), ()))
def g_rmay_vc (a : Int) (b : Int) (c : Int) (p : Int) (n : Int) (d : Int) : Prop :=
  True ∧
  ((!moneyB a) = false →
      True ∧
        ((!moneyB b) = false →
            (decide (a = b) = true → ((23 : Int), ()) = (mayR (a, b, c, p, n, d), ())) ∧
              (decide (a = b) = false →
                (decide (c < (1 : Int)) = false →
                    (decide ((3 : Int) < c) = true → ((25 : Int), ()) = (mayR (a, b, c, p, n, d), ())) ∧
                      (decide ((3 : Int) < c) = false →
                        (decide (p < (0 : Int)) = false →
                            (decide ((23 : Int) < p) = true → ((22 : Int), ()) = (mayR (a, b, c, p, n, d), ())) ∧
                              (decide ((23 : Int) < p) = false → True ∧ (ratioF n d, ()) = (mayR (a, b, c, p, n, d), ()))) ∧
                          (decide (p < (0 : Int)) = !false → ((22 : Int), ()) = (mayR (a, b, c, p, n, d), ())))) ∧
                  (decide (c < (1 : Int)) = !false → ((25 : Int), ()) = (mayR (a, b, c, p, n, d), ())))) ∧
          ((!moneyB b) = !false → ((23 : Int), ()) = (mayR (a, b, c, p, n, d), ()))) ∧
    ((!moneyB a) = !false → ((23 : Int), ()) = (mayR (a, b, c, p, n, d), ()))

theorem g_rmay_eq (a b c p n d : Int) : g_rmay a b c p n d = g_rmay_vc a b c p n d := by kernel_rfl
theorem g_rmay_ok (a b c p n d : Int) : g_rmay_vc a b c p n d := by
  unfold g_rmay_vc
  simp only [decide_eq_true_eq, decide_eq_false_iff_not, Bool.not_eq_true', Bool.not_eq_false', Bool.not_false]
  refine ⟨trivial, fun h1 => ⟨trivial, fun h2 => ⟨fun h3 => ?_, fun h3 => ⟨fun h4 => ⟨fun h5 => ?_, fun h5 => ⟨fun h6 => ⟨fun h7 => ?_, fun h7 => ⟨trivial, ?_⟩⟩, fun h6 => ?_⟩⟩, fun h4 => ?_⟩⟩, fun h2 => ?_⟩, fun h1 => ?_⟩
  · rw [may_23 (fun k => k.2.2 h3)]
  · rw [may_25 ⟨h1, h2, h3⟩ (fun k => by have := k.2; dsimp only at this; omega)]
  · rw [may_22 ⟨h1, h2, h3⟩ (by dsimp only; omega) (fun k => by have := k.2; dsimp only at this; omega)]
  · rw [may_ok ⟨h1, h2, h3⟩ (by dsimp only; omega) (by dsimp only; omega)]
  · rw [may_22 ⟨h1, h2, h3⟩ (by dsimp only; omega) (fun k => by have := k.1; dsimp only at this; omega)]
  · rw [may_25 ⟨h1, h2, h3⟩ (fun k => by have := k.1; dsimp only at this; omega)]
  · rw [may_23 (fun k => by have := k.2.1; dsimp only at this; rw [h2] at this; cases this)]
  · rw [may_23 (fun k => by have := k.1; dsimp only at this; rw [h1] at this; cases this)]
set_option maxRecDepth 20000 in
theorem rmay_pure (a b c p n d : Int) : Pure Tryd.prog 21 [.agg [.int .i64 a, .int .i64 b, .int .i64 c, .int .i64 p, .int .i64 n, .int .i64 d]] (.int .i64 (mayR (a, b, c, p, n, d))) :=
  Pure.of_g (E := env_rmay a b c p n d) (ts := tsOf Tryd.f21) (ps := [.int .i64]) (r := (mayR (a, b, c, p, n, d), ())) (fn := Tryd.f21) (c := codeOf Tryd.f21) (specs_ok (P := Tryd.prog) rfl [sp_rmoney, sp_rrcheck] [] rfl rfl) mixed Tryd.func21 rfl rfl (g := g_rmay a b c p n d) (by delta g_rmay start0; first | with_reducible exact Eq.refl _ | exact Eq.refl _) (by rw [g_rmay_eq a b c p n d]; exact g_rmay_ok a b c p n d)
noncomputable def q_rmay (a b c p n d : Int) : Prop × V := (True, (.int .i64 (mayR (a, b, c, p, n, d))))
noncomputable def sp_rmay : FSpec Tryd.prog where
  f := 21
  run := fun args => match args with
    | [.agg [.int .i64 a, .int .i64 b, .int .i64 c, .int .i64 p, .int .i64 n, .int .i64 d]] => some (q_rmay a b c p n d)
    | _ => none
  ok := fun args pre r h hp => by
    try dsimp only at h
    split at h
    · rename_i a b c p n d
      have h := Option.some.inj h
      unfold q_rmay at h
      cases h
      exact (rmay_pure a b c p n d).weak (.cons (Weak.refl _) .nil)
    · cases h

end Go.Proofs.YtccmidojhagppaaDoor
