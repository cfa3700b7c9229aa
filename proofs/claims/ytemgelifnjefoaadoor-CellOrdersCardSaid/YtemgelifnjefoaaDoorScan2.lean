/-
  Words and lines at places of a text.
-/
import Derived.Test.YtemgelifnjefoaaDoorScan1
namespace Go.Proofs.YtemgelifnjefoaaDoor
open Go.Vm

abbrev By := List UInt8
def fromF (s : By) (a : Int) : By × Bool := if a < 0 ∨ (s.length : Int) < a then ([], false) else (s.drop a.toNat, true)
theorem fromF_bad {s : By} {a : Int} (h : a < 0 ∨ (s.length : Int) < a) : fromF s a = ([], false) := by unfold fromF; rw [if_pos h]
theorem fromF_good {s : By} {a : Int} (h : ¬ (a < 0 ∨ (s.length : Int) < a)) : fromF s a = (s.drop a.toNat, true) := by unfold fromF; rw [if_neg h]
noncomputable def env_from (s : By) (a : Int) : Env where
  P := Tryd.prog
  ty := tys0
noncomputable def g_from (s : By) (a : Int) : Prop := vc (env_from s a) (codeOf Tryd.f54) (start0 Tryd.f54 [.str s, .int .i64 a]) (exitK (tsOf Tryd.f54) [.str, .bool] ((fromF s a).1, (fromF s a).2, ()))
def g_from_vc (s : By) (a : Int) : Prop :=
  (decide (a < (0 : Int)) = false → (decide ((↑(List.length s) : Int) < a) = true → ([], false, ()) = ((fromF s a).fst, (fromF s a).snd, ())) ∧ (decide ((↑(List.length s) : Int) < a) = false → ((0 : Int) ≤ a ∧ a ≤ (↑(List.length s) : Int)) ∧ (List.drop a.toNat s, true, ()) = ((fromF s a).fst, (fromF s a).snd, ()))) ∧ (decide (a < (0 : Int)) = !false → ([], false, ()) = ((fromF s a).fst, (fromF s a).snd, ()))
theorem g_from_eq (s : By) (a : Int) : g_from s a = g_from_vc s a := by kernel_rfl
theorem g_from_ok (s : By) (a : Int) : g_from_vc s a := by
  unfold g_from_vc
  simp only [decide_eq_true_eq, decide_eq_false_iff_not, Bool.not_false]
  refine ⟨fun c => ⟨fun d => ?_, fun d => ⟨by omega, ?_⟩⟩, fun c => ?_⟩
  · rw [fromF_bad (.inr d)]
  · rw [fromF_good (by omega)]
  · rw [fromF_bad (.inl c)]
set_option maxRecDepth 20000 in
theorem from_pure (s : By) (a : Int) : Pure Tryd.prog 54 [.str s, .int .i64 a] (.tuple [.str (fromF s a).1, .bool (fromF s a).2]) :=
  Pure.of_g (E := env_from s a) (ts := tsOf Tryd.f54) (ps := [.str, .bool]) (r := ((fromF s a).1, (fromF s a).2, ())) (fn := Tryd.f54) (c := codeOf Tryd.f54) (specs_ok (P := Tryd.prog) rfl [] [] rfl rfl) mixed Tryd.func54 rfl rfl (g := g_from s a) (by delta g_from start0; first | with_reducible exact Eq.refl _ | exact Eq.refl _) (by rw [g_from_eq s a]; exact g_from_ok s a)
noncomputable def q_from (s : By) (a : Int) : Prop × V := (True, (.tuple [.str (fromF s a).1, .bool (fromF s a).2]))
noncomputable def sp_from : FSpec Tryd.prog where
  f := 54
  run := fun args => match args with
    | [.str s, .int .i64 a] => some (q_from s a)
    | _ => none
  ok := fun args pre r h hp => by
    try dsimp only at h
    split at h
    · rename_i s a
      have h := Option.some.inj h
      unfold q_from at h
      cases h
      exact (from_pure s a).weak (.cons (Weak.refl _) (.cons (Weak.refl _) .nil))
    · cases h

def litF (s : By) (a : Int) (w : By) : Int × Int :=
  if a < 0 ∨ (s.length : Int) < a then (0, 2) else if Lib.hasPrefix (s.drop a.toNat) w then (a + w.length, 0) else if Lib.hasPrefix w (s.drop a.toNat) then (0, 4) else (0, 8)
noncomputable def env_lit (s : By) (a : Int) (w : By) : Env where
  P := Tryd.prog
  ty := tys0
  specs := specsOf [sp_from, sp_hasPrefix]
noncomputable def g_lit (s : By) (a : Int) (w : By) : Prop := vc (env_lit s a w) (codeOf Tryd.f39) (start0 Tryd.f39 [.str s, .int .i64 a, .str w]) (exitK (tsOf Tryd.f39) [.int .i64, .int .i64] ((litF s a w).1, (litF s a w).2, ()))
def g_lit_vc (s : By) (a : Int) (w : By) : Prop :=
  True ∧ ((!(fromF s a).snd) = true → ((0 : Int), (2 : Int), ()) = ((litF s a w).fst, (litF s a w).snd, ())) ∧ ((!(fromF s a).snd) = false → True ∧ (Lib.hasPrefix (fromF s a).fst w = true → ((-9223372036854775808 : Int) ≤ a + (↑(List.length w) : Int) ∧ a + (↑(List.length w) : Int) ≤ (9223372036854775807 : Int)) ∧ (a + (↑(List.length w) : Int), (0 : Int), ()) = ((litF s a w).fst, (litF s a w).snd, ())) ∧ (Lib.hasPrefix (fromF s a).fst w = false → True ∧ (Lib.hasPrefix w (fromF s a).fst = true → ((0 : Int), (4 : Int), ()) = ((litF s a w).fst, (litF s a w).snd, ())) ∧ (Lib.hasPrefix w (fromF s a).fst = false → ((0 : Int), (8 : Int), ()) = ((litF s a w).fst, (litF s a w).snd, ()))))
theorem g_lit_eq (s : By) (a : Int) (w : By) : g_lit s a w = g_lit_vc s a w := by kernel_rfl
theorem g_lit_ok (s : By) (a : Int) (w : By) (h : s.length ≤ 1000000 ∧ w.length ≤ 1000000) : g_lit_vc s a w := by
  obtain ⟨h1, h2⟩ := h
  unfold g_lit_vc
  by_cases c : a < 0 ∨ (s.length : Int) < a
  · rw [fromF_bad c]
    refine ⟨trivial, fun _ => ?_, fun d => (by cases d)⟩
    unfold litF
    rw [if_pos c]
  · rw [fromF_good c]
    unfold litF
    rw [if_neg c]
    refine ⟨trivial, fun d => (by cases d), fun _ => ⟨trivial, fun d => ⟨by omega, ?_⟩, fun d => ⟨trivial, fun e => ?_, fun e => ?_⟩⟩⟩
    · rw [if_pos d]
    · rw [if_neg (by rw [d]; decide), if_pos e]
    · rw [if_neg (by rw [d]; decide), if_neg (by rw [e]; decide)]
set_option maxRecDepth 20000 in
theorem lit_pure (s : By) (a : Int) (w : By) (h : s.length ≤ 1000000 ∧ w.length ≤ 1000000) : Pure Tryd.prog 39 [.str s, .int .i64 a, .str w] (.tuple [.int .i64 (litF s a w).1, .int .i64 (litF s a w).2]) :=
  Pure.of_g (E := env_lit s a w) (ts := tsOf Tryd.f39) (ps := [.int .i64, .int .i64]) (r := ((litF s a w).1, (litF s a w).2, ())) (fn := Tryd.f39) (c := codeOf Tryd.f39) (specs_ok (P := Tryd.prog) rfl [sp_from, sp_hasPrefix] [] rfl rfl) mixed Tryd.func39 rfl rfl (g := g_lit s a w) (by delta g_lit start0; first | with_reducible exact Eq.refl _ | exact Eq.refl _) (by rw [g_lit_eq s a w]; exact g_lit_ok s a w h)
noncomputable def q_lit (s : By) (a : Int) (w : By) : Prop × V := (s.length ≤ 1000000 ∧ w.length ≤ 1000000, (.tuple [.int .i64 (litF s a w).1, .int .i64 (litF s a w).2]))
noncomputable def sp_lit : FSpec Tryd.prog where
  f := 39
  run := fun args => match args with
    | [.str s, .int .i64 a, .str w] => some (q_lit s a w)
    | _ => none
  ok := fun args pre r h hp => by
    try dsimp only at h
    split at h
    · rename_i s a w
      have h := Option.some.inj h
      unfold q_lit at h
      cases h
      exact (lit_pure s a w hp).weak (.cons (Weak.refl _) (.cons (Weak.refl _) (.cons (Weak.refl _) .nil)))
    · cases h

theorem hasPrefix_iff (s p : By) : Lib.hasPrefix s p = true ↔ s.take p.length = p := by
  unfold Lib.hasPrefix
  rw [List.isPrefixOf_iff_prefix, List.prefix_iff_eq_take]
  exact ⟨fun h => h.symm, fun h => h.symm⟩
theorem take_next {s : By} {i : Nat} {c : UInt8} (h : s[i]? = some c) : s.take (i + 1) = s.take i ++ [c] := by
  rw [List.take_add_one, h]
  rfl
theorem toNat_next {i : Int} (h : 0 ≤ i) : (i + 1).toNat = i.toNat + 1 := by omega
theorem u8_ext {a b : UInt8} (h : (a.toNat : Int) = (b.toNat : Int)) : a = b := UInt8.toNat_inj.1 (by omega)
theorem drop_get (s : By) (a i : Nat) : (s.drop a)[i]? = s[a + i]? := List.getElem?_drop
theorem litF_bad {s : By} {a : Int} {w : By} (h : a < 0 ∨ (s.length : Int) < a) : litF s a w = (0, 2) := by unfold litF; rw [if_pos h]
theorem litF_ok {s : By} {a : Int} {w : By} (h : ¬ (a < 0 ∨ (s.length : Int) < a)) (e : (s.drop a.toNat).take w.length = w) : litF s a w = (a + w.length, 0) := by
  unfold litF
  rw [if_neg h, if_pos ((hasPrefix_iff _ _).2 e)]
theorem litF_short {s : By} {a : Int} {w : By} (h : ¬ (a < 0 ∨ (s.length : Int) < a)) (e : w.take (s.drop a.toNat).length = s.drop a.toNat) (l : (s.drop a.toNat).length < w.length) : litF s a w = (0, 4) := by
  unfold litF
  rw [if_neg h, if_neg (fun c => ?_), if_pos ((hasPrefix_iff _ _).2 e)]
  have := congrArg List.length ((hasPrefix_iff _ _).1 c)
  rw [List.length_take] at this
  omega
theorem litF_word {s : By} {a : Int} {w : By} (h : ¬ (a < 0 ∨ (s.length : Int) < a)) {i : Nat} {x y : UInt8} (hx : (s.drop a.toNat)[i]? = some x) (hy : w[i]? = some y) (hxy : x ≠ y) : litF s a w = (0, 8) := by
  have hi := (List.getElem?_eq_some_iff.1 hx).1
  have hj := (List.getElem?_eq_some_iff.1 hy).1
  unfold litF
  rw [if_neg h, if_neg (fun c => ?_), if_neg (fun c => ?_)]
  · have := congrArg (·[i]?) ((hasPrefix_iff _ _).1 c)
    simp only [List.getElem?_take] at this
    rw [if_pos hi, hy, hx] at this
    exact hxy (Option.some.inj this).symm
  · have := congrArg (·[i]?) ((hasPrefix_iff _ _).1 c)
    simp only [List.getElem?_take] at this
    rw [if_pos hj, hy, hx] at this
    exact hxy (Option.some.inj this)
theorem drop_at {s : By} {i : Nat} {c : UInt8} (h : s[i]? = some c) : s.drop i = c :: s.drop (i + 1) := by
  obtain ⟨hi, e⟩ := List.getElem?_eq_some_iff.1 h
  rw [List.drop_eq_getElem_cons hi, e]

/-! Numerals. -/
def isDig (c : UInt8) : Bool := decide (48 ≤ (c.toNat : Int)) && decide ((c.toNat : Int) ≤ 57)
def digAt (s : By) (i : Int) : Bool := ((s[i.toNat]?).map isDig).getD false
noncomputable def env_digit (s : By) (i : Int) : Env where
  P := Tryd.prog
  ty := tys0
noncomputable def g_digit (s : By) (i : Int) : Prop := vc (env_digit s i) (codeOf Tryd.f67) (start0 Tryd.f67 [.int .i64 i, .fptr [.str s]]) (exitK (tsOf Tryd.f67) [.bool] (digAt s i, ()))
def g_digit_vc (s : By) (i : Int) : Prop :=
  ((0 : Int) ≤ i ∧ i < (↑(List.length s) : Int)) ∧ ∀ (c : UInt8), s[i.toNat]? = some c → (decide ((48 : Int) ≤ (↑c.toNat : Int)) = true → ((0 : Int) ≤ i ∧ i < (↑(List.length s) : Int)) ∧ ∀ (c : UInt8), s[i.toNat]? = some c → (decide ((↑c.toNat : Int) ≤ (57 : Int)), ()) = (digAt s i, ())) ∧ (decide ((48 : Int) ≤ (↑c.toNat : Int)) = !true → (false, ()) = (digAt s i, ()))
theorem g_digit_eq (s : By) (i : Int) : g_digit s i = g_digit_vc s i := by kernel_rfl
theorem g_digit_ok (s : By) (i : Int) (h : 0 ≤ i ∧ i < s.length) : g_digit_vc s i := by
  unfold g_digit_vc digAt
  refine ⟨h, fun c hc => ?_⟩
  rw [hc]
  simp only [Option.map_some, Option.getD_some, isDig]
  refine ⟨fun d => ⟨h, fun e he => ?_⟩, fun d => ?_⟩
  · cases he
    rw [d]
    rfl
  · rw [d]
    rfl
set_option maxRecDepth 20000 in
theorem digit_pure (s : By) (i : Int) (h : 0 ≤ i ∧ i < s.length) : Pure Tryd.prog 67 [.int .i64 i, .fptr [.str s]] (.bool (digAt s i)) :=
  Pure.of_g (E := env_digit s i) (ts := tsOf Tryd.f67) (ps := [.bool]) (r := (digAt s i, ())) (fn := Tryd.f67) (c := codeOf Tryd.f67) (specs_ok (P := Tryd.prog) rfl [] [] rfl rfl) mixed Tryd.func67 rfl rfl (g := g_digit s i) (by delta g_digit start0; first | with_reducible exact Eq.refl _ | exact Eq.refl _) (by rw [g_digit_eq s i]; exact g_digit_ok s i h)
noncomputable def q_digit (s : By) (i : Int) : Prop × V := (0 ≤ i ∧ i < s.length, (.bool (digAt s i)))
noncomputable def sp_digit : FSpec Tryd.prog where
  f := 67
  run := fun args => match args with
    | [.int .i64 i, .fptr [.str s]] => some (q_digit s i)
    | _ => none
  ok := fun args pre r h hp => by
    try dsimp only at h
    split at h
    · rename_i i s
      have h := Option.some.inj h
      unfold q_digit at h
      cases h
      exact (digit_pure s i hp).weak (.cons (Weak.refl _) (.cons (Weak.refl _) .nil))
    · cases h

def runF (s : By) : Int := ((s.takeWhile isDig).length : Nat)
noncomputable def env_run (s : By) : Env where
  P := Tryd.prog
  ty := tys0
  specs := specsOf [sp_digit]
  heads := fun
    | 3 => some { slots := [(8, .int .i64), (4, .any)], boxes := [], keep := [1], inv := fun _ (x : Int × Unit × Unit) => 0 ≤ x.1 ∧ x.1 ≤ s.length ∧ runF s = x.1 + runF (s.drop x.1.toNat), measure := fun _ (x : Int × Unit × Unit) => (s.length - x.1).toNat }
    | _ => none
noncomputable def g_run (s : By) : Prop := vc (env_run s) (codeOf Tryd.f57) (start0 Tryd.f57 [.str s]) (exitK (tsOf Tryd.f57) [.int .i64] (runF s, ()))
def g_run_vc (s : By) : Prop :=
  ((some (Obj.box [V.str s]) = some (Obj.box [V.str s]) ∧ True) ∧ (0 : Int) ≤ (0 : Int) ∧ (0 : Int) ≤ (↑(List.length s) : Int) ∧ runF s = (0 : Int) + runF (List.drop (Int.toNat (0 : Int)) s)) ∧ ∀ (x : Int × Unit × Unit), (0 : Int) ≤ x.fst ∧ x.fst ≤ (↑(List.length s) : Int) ∧ runF s = x.fst + runF (List.drop x.fst.toNat s) → (decide (x.fst < (↑(List.length s) : Int)) = true → ((0 : Int) ≤ x.fst ∧ x.fst < (↑(List.length s) : Int)) ∧ ((!digAt s x.fst) = true → (x.fst, ()) = (runF s, ())) ∧ ((!digAt s x.fst) = false → ((-9223372036854775808 : Int) ≤ x.fst + (1 : Int) ∧ x.fst + (1 : Int) ≤ (9223372036854775807 : Int)) ∧ (some (Obj.box [V.str s]) = some (Obj.box [V.str s]) ∧ True) ∧ ((0 : Int) ≤ x.fst + (1 : Int) ∧ x.fst + (1 : Int) ≤ (↑(List.length s) : Int) ∧ runF s = x.fst + (1 : Int) + runF (List.drop (x.fst + (1 : Int)).toNat s)) ∧ ((↑(List.length s) : Int) - (x.fst + (1 : Int))).toNat < ((↑(List.length s) : Int) - x.fst).toNat)) ∧ (decide (x.fst < (↑(List.length s) : Int)) = false → ((↑(List.length s) : Int), ()) = (runF s, ()))
theorem g_run_eq (s : By) : g_run s = g_run_vc s := by kernel_rfl
theorem runF_step {s : By} {i : Int} (h0 : 0 ≤ i) (h : i < s.length) (d : digAt s i = true) : runF (s.drop i.toNat) = 1 + runF (s.drop (i + 1).toNat) := by
  have hc : s[i.toNat]? = some s[i.toNat] := List.getElem?_eq_getElem (by omega)
  unfold digAt at d
  rw [hc] at d
  simp only [Option.map_some, Option.getD_some] at d
  unfold runF
  rw [drop_at hc, toNat_next h0, List.takeWhile_cons, if_pos d, List.length_cons]
  omega
theorem runF_stop {s : By} {i : Int} (h0 : 0 ≤ i) (h : i < s.length) (d : digAt s i = false) : runF (s.drop i.toNat) = 0 := by
  have hc : s[i.toNat]? = some s[i.toNat] := List.getElem?_eq_getElem (by omega)
  unfold digAt at d
  rw [hc] at d
  simp only [Option.map_some, Option.getD_some] at d
  unfold runF
  rw [drop_at hc, List.takeWhile_cons, if_neg (by rw [d]; decide)]
  rfl
theorem g_run_ok (s : By) (h : s.length ≤ 1000000) : g_run_vc s := by
  unfold g_run_vc
  simp only [decide_eq_true_eq, decide_eq_false_iff_not, Bool.not_eq_true', Bool.not_eq_false']
  refine ⟨⟨⟨by trivial, by trivial⟩, by omega, by omega, by simp⟩, fun x hx => ⟨fun c => ⟨by omega, fun d => ?_, fun d => ⟨by omega, ⟨by trivial, by trivial⟩, ⟨by omega, by omega, ?_⟩, by omega⟩⟩, fun c => ?_⟩⟩
  · rw [hx.2.2, runF_stop hx.1 c d, Int.add_zero]
  · rw [hx.2.2, runF_step hx.1 c d]
    omega
  · rw [hx.2.2, List.drop_of_length_le (by omega)]
    have e : x.1 = s.length := by omega
    rw [e]
    simp [runF]
set_option maxRecDepth 20000 in
theorem run_pure (s : By) (h : s.length ≤ 1000000) : Pure Tryd.prog 57 [.str s] (.int .i64 (runF s)) :=
  Pure.of_g (E := env_run s) (ts := tsOf Tryd.f57) (ps := [.int .i64]) (r := (runF s, ())) (fn := Tryd.f57) (c := codeOf Tryd.f57) (specs_ok (P := Tryd.prog) rfl [sp_digit] [] rfl rfl) mixed Tryd.func57 rfl rfl (g := g_run s) (by delta g_run start0; first | with_reducible exact Eq.refl _ | exact Eq.refl _) (by rw [g_run_eq s]; exact g_run_ok s h)
noncomputable def q_run (s : By) : Prop × V := (s.length ≤ 1000000, (.int .i64 (runF s)))
noncomputable def sp_run : FSpec Tryd.prog where
  f := 57
  run := fun args => match args with
    | [.str s] => some (q_run s)
    | _ => none
  ok := fun args pre r h hp => by
    try dsimp only at h
    split at h
    · rename_i s
      have h := Option.some.inj h
      unfold q_run at h
      cases h
      exact (run_pure s hp).weak (.cons (Weak.refl _) .nil)
    · cases h

def toB (d : Int) : UInt8 := UInt8.ofNat (48 + d).toNat
def textL (l : List Int) : By := (l.map toB).reverse
def padL (l : List Int) : List Int := if l = [] then [0] else l
theorem textL_step {l : List Int} {i : Nat} {d : Int} (h : l[i]? = some d) : textL (l.take (i + 1)) = [UInt8.ofNat (48 + d).toNat] ++ textL (l.take i) := by
  unfold textL
  rw [List.take_add_one, h]
  simp [toB]
theorem text_digs (n : Nat) : textL (padL (digs n)) = Lib.decDigits n := by
  induction n using Nat.strongRecOn with
  | _ n ih =>
    by_cases h0 : n = 0
    · subst h0
      rw [digs_zero, Lib.decDigits, dif_pos (by omega)]
      rfl
    · have hne : digs n ≠ [] := fun c => h0 (digs_nil.1 c)
      have hp : padL (digs n) = digs n := by unfold padL; rw [if_neg hne]
      rw [hp, digs_pos h0]
      by_cases h : n < 10
      · have e : n / 10 = 0 := by omega
        rw [Lib.decDigits, dif_pos h, e, digs_zero, Nat.mod_eq_of_lt h]
        simp only [textL, toB, List.map_cons, List.map_nil, List.reverse_cons, List.reverse_nil, List.nil_append]
        congr 2
      · rw [Lib.decDigits, dif_neg h, ← ih (n / 10) (by omega)]
        have hne2 : digs (n / 10) ≠ [] := fun c => by have := digs_nil.1 c; omega
        have hp2 : padL (digs (n / 10)) = digs (n / 10) := by unfold padL; rw [if_neg hne2]
        rw [hp2]
        simp only [textL, toB, List.map_cons, List.reverse_cons]
        congr 2
theorem itoa_text {s : Bool} {l : List Int} (h : Big s l) : Lib.itoa (big s l) = if s then 45 :: textL (padL l) else textL (padL l) := by
  have hl : digs (big s l).natAbs = l := big_abs h
  have hs := big_neg h
  unfold Lib.itoa
  cases s with
  | true =>
    have hneg : big true l < 0 := by simpa using hs
    rw [if_pos hneg, if_pos rfl, ← text_digs, hl]
  | false =>
    have hneg : ¬ big false l < 0 := by simpa using hs
    have e : (big false l).toNat = (big false l).natAbs := by omega
    rw [if_neg hneg, if_neg (by decide), e, ← text_digs, hl]
theorem pad_dig {l : List Int} (h : Dig l) : Dig (padL l) := by
  unfold padL
  split
  · intro d hd
    simp only [List.mem_singleton] at hd
    omega
  · exact h
noncomputable def env_digitsOf (n : Int) : Env where
  P := Tryd.prog
  ty := tys0
  specs := specsOf [sp_itoa]
noncomputable def g_digitsOf (n : Int) : Prop := vc (env_digitsOf n) (codeOf Tryd.f29) (start0 Tryd.f29 [.int .i64 n]) (exitK (tsOf Tryd.f29) [.str] (Lib.itoa n, ()))
def g_digitsOf_vc (n : Int) : Prop :=
  InI n ∧ (Lib.itoa n, ()) = (Lib.itoa n, ())
theorem g_digitsOf_eq (n : Int) : g_digitsOf n = g_digitsOf_vc n := by kernel_rfl
theorem g_digitsOf_ok (n : Int) (h : InI n) : g_digitsOf_vc n := by
  exact ⟨h, rfl⟩
set_option maxRecDepth 20000 in
theorem digitsOf_pure (n : Int) (h : InI n) : Pure Tryd.prog 29 [.int .i64 n] (.str (Lib.itoa n)) :=
  Pure.of_g (E := env_digitsOf n) (ts := tsOf Tryd.f29) (ps := [.str]) (r := (Lib.itoa n, ())) (fn := Tryd.f29) (c := codeOf Tryd.f29) (specs_ok (P := Tryd.prog) rfl [sp_itoa] [] rfl rfl) mixed Tryd.func29 rfl rfl (g := g_digitsOf n) (by delta g_digitsOf start0; first | with_reducible exact Eq.refl _ | exact Eq.refl _) (by rw [g_digitsOf_eq n]; exact g_digitsOf_ok n h)
noncomputable def q_digitsOf (n : Int) : Prop × V := (InI n, (.str (Lib.itoa n)))
noncomputable def sp_digitsOf : FSpec Tryd.prog where
  f := 29
  run := fun args => match args with
    | [.int .i64 n] => some (q_digitsOf n)
    | _ => none
  ok := fun args pre r h hp => by
    try dsimp only at h
    split at h
    · rename_i n
      have h := Option.some.inj h
      unfold q_digitsOf at h
      cases h
      exact (digitsOf_pure n hp).weak (.cons (Weak.refl _) .nil)
    · cases h
theorem digI_len {n : Int} (h : InI n) : (digs n.natAbs).length ≤ 30 := by
  obtain ⟨h1, h2⟩ := h
  exact digs_len (k := 30) (by omega)

end Go.Proofs.YtemgelifnjefoaaDoor
