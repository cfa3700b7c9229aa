/-
  Words and lines at places of a text.
-/
import Derived.Test.YtemgelifnjefoaaGreatDoorScan1
namespace Go.Proofs.YtemgelifnjefoaaGreatDoor
open Go.Vm

abbrev By := List UInt8
def fromF (s : By) (a : Int) : By × Bool := if a < 0 ∨ (s.length : Int) < a then ([], false) else (s.drop a.toNat, true)
theorem fromF_bad {s : By} {a : Int} (h : a < 0 ∨ (s.length : Int) < a) : fromF s a = ([], false) := by unfold fromF; rw [if_pos h]
theorem fromF_good {s : By} {a : Int} (h : ¬ (a < 0 ∨ (s.length : Int) < a)) : fromF s a = (s.drop a.toNat, true) := by unfold fromF; rw [if_neg h]
noncomputable def env_from (s : By) (a : Int) : Env where
  P := Tryz.prog
  ty := tys0
noncomputable def g_from (s : By) (a : Int) : Prop := vc (env_from s a) (codeOf Tryz.f45) (start0 Tryz.f45 [.str s, .int .i64 a]) (exitK (tsOf Tryz.f45) [.str, .bool] ((fromF s a).1, (fromF s a).2, ()))
def g_from_vc (s : By) (a : Int) : Prop :=
  (decide (a < (0 : Int)) = false → (decide ((↑(List.length s) : Int) < a) = true → ([], false, ()) = ((fromF s a).fst, (fromF s a).snd, ())) ∧ (decide ((↑(List.length s) : Int) < a) = false → ((0 : Int) ≤ a ∧ a ≤ (↑(List.length s) : Int)) ∧ (List.drop a.toNat s, true, ()) = ((fromF s a).fst, (fromF s a).snd, ()))) ∧ (decide (a < (0 : Int)) = !false → ([], false, ()) = ((fromF s a).fst, (fromF s a).snd, ()))
theorem g_from_eq (s : By) (a : Int) : g_from s a = g_from_vc s a := by kernel_rfl
theorem g_from_ok (s : By) (a : Int) : g_from_vc s a := by
  unfold g_from_vc
  simp only [decide_eq_true_eq, decide_eq_false_iff_not, Bool.not_false]
  refine ⟨fun c => ⟨fun d => ?_, fun d => ⟨by omega, ?_⟩⟩, fun c => ?_⟩
  · rw [fromF_bad (.inr d)]
  · rw [fromF_good (by omega)]
  · rw [fromF_bad (.inl c)]
set_option maxRecDepth 20000 in
theorem from_pure (s : By) (a : Int) : Pure Tryz.prog 45 [.str s, .int .i64 a] (.tuple [.str (fromF s a).1, .bool (fromF s a).2]) :=
  Pure.of_g (E := env_from s a) (ts := tsOf Tryz.f45) (ps := [.str, .bool]) (r := ((fromF s a).1, (fromF s a).2, ())) (fn := Tryz.f45) (c := codeOf Tryz.f45) (specs_ok (P := Tryz.prog) rfl [] [] rfl rfl) mixed Tryz.func45 rfl rfl (g := g_from s a) (by delta g_from start0; first | with_reducible exact Eq.refl _ | exact Eq.refl _) (by rw [g_from_eq s a]; exact g_from_ok s a)
noncomputable def q_from (s : By) (a : Int) : Prop × V := (True, (.tuple [.str (fromF s a).1, .bool (fromF s a).2]))
noncomputable def sp_from : FSpec Tryz.prog where
  f := 45
  run := fun args => match args with
    | [.str s, .int .i64 a] => some (q_from s a)
    | _ => none
  ok := fun args pre r h hp => by
    try dsimp only at h
    split at h
    · rename_i s a
      have h := Option.some.inj h
      unfold q_from at h
      cases h
      exact (from_pure s a).weak (.cons (Weak.refl _) (.cons (Weak.refl _) .nil))
    · cases h

def litF (s : By) (a : Int) (w : By) : Int × Int :=
  if a < 0 ∨ (s.length : Int) < a then (0, 2) else if Lib.hasPrefix (s.drop a.toNat) w then (a + w.length, 0) else if Lib.hasPrefix w (s.drop a.toNat) then (0, 4) else (0, 8)
noncomputable def env_lit (s : By) (a : Int) (w : By) : Env where
  P := Tryz.prog
  ty := tys0
  specs := specsOf [sp_from, sp_hasPrefix]
noncomputable def g_lit (s : By) (a : Int) (w : By) : Prop := vc (env_lit s a w) (codeOf Tryz.f36) (start0 Tryz.f36 [.str s, .int .i64 a, .str w]) (exitK (tsOf Tryz.f36) [.int .i64, .int .i64] ((litF s a w).1, (litF s a w).2, ()))
def g_lit_vc (s : By) (a : Int) (w : By) : Prop :=
  True ∧ ((!(fromF s a).snd) = true → ((0 : Int), (2 : Int), ()) = ((litF s a w).fst, (litF s a w).snd, ())) ∧ ((!(fromF s a).snd) = false → True ∧ (Lib.hasPrefix (fromF s a).fst w = true → ((-9223372036854775808 : Int) ≤ a + (↑(List.length w) : Int) ∧ a + (↑(List.length w) : Int) ≤ (9223372036854775807 : Int)) ∧ (a + (↑(List.length w) : Int), (0 : Int), ()) = ((litF s a w).fst, (litF s a w).snd, ())) ∧ (Lib.hasPrefix (fromF s a).fst w = false → True ∧ (Lib.hasPrefix w (fromF s a).fst = true → ((0 : Int), (4 : Int), ()) = ((litF s a w).fst, (litF s a w).snd, ())) ∧ (Lib.hasPrefix w (fromF s a).fst = false → ((0 : Int), (8 : Int), ()) = ((litF s a w).fst, (litF s a w).snd, ()))))
theorem g_lit_eq (s : By) (a : Int) (w : By) : g_lit s a w = g_lit_vc s a w := by kernel_rfl
theorem g_lit_ok (s : By) (a : Int) (w : By) (h : s.length ≤ 1000000 ∧ w.length ≤ 1000000) : g_lit_vc s a w := by
  obtain ⟨h1, h2⟩ := h
  unfold g_lit_vc
  by_cases c : a < 0 ∨ (s.length : Int) < a
  · rw [fromF_bad c]
    refine ⟨trivial, fun _ => ?_, fun d => (by cases d)⟩
    unfold litF
    rw [if_pos c]
  · rw [fromF_good c]
    unfold litF
    rw [if_neg c]
    refine ⟨trivial, fun d => (by cases d), fun _ => ⟨trivial, fun d => ⟨by omega, ?_⟩, fun d => ⟨trivial, fun e => ?_, fun e => ?_⟩⟩⟩
    · rw [if_pos d]
    · rw [if_neg (by rw [d]; decide), if_pos e]
    · rw [if_neg (by rw [d]; decide), if_neg (by rw [e]; decide)]
set_option maxRecDepth 20000 in
theorem lit_pure (s : By) (a : Int) (w : By) (h : s.length ≤ 1000000 ∧ w.length ≤ 1000000) : Pure Tryz.prog 36 [.str s, .int .i64 a, .str w] (.tuple [.int .i64 (litF s a w).1, .int .i64 (litF s a w).2]) :=
  Pure.of_g (E := env_lit s a w) (ts := tsOf Tryz.f36) (ps := [.int .i64, .int .i64]) (r := ((litF s a w).1, (litF s a w).2, ())) (fn := Tryz.f36) (c := codeOf Tryz.f36) (specs_ok (P := Tryz.prog) rfl [sp_from, sp_hasPrefix] [] rfl rfl) mixed Tryz.func36 rfl rfl (g := g_lit s a w) (by delta g_lit start0; first | with_reducible exact Eq.refl _ | exact Eq.refl _) (by rw [g_lit_eq s a w]; exact g_lit_ok s a w h)
noncomputable def q_lit (s : By) (a : Int) (w : By) : Prop × V := (s.length ≤ 1000000 ∧ w.length ≤ 1000000, (.tuple [.int .i64 (litF s a w).1, .int .i64 (litF s a w).2]))
noncomputable def sp_lit : FSpec Tryz.prog where
  f := 36
  run := fun args => match args with
    | [.str s, .int .i64 a, .str w] => some (q_lit s a w)
    | _ => none
  ok := fun args pre r h hp => by
    try dsimp only at h
    split at h
    · rename_i s a w
      have h := Option.some.inj h
      unfold q_lit at h
      cases h
      exact (lit_pure s a w hp).weak (.cons (Weak.refl _) (.cons (Weak.refl _) (.cons (Weak.refl _) .nil)))
    · cases h

noncomputable def env_rlit (s : By) (a : Int) (w : By) : Env where
  P := Tryz.prog
  ty := tys0
  heads := fun
    | 4 => some { slots := [(8, .int .i64)], boxes := [], inv := fun _ (x : Int × Unit) => 0 ≤ x.1 ∧ x.1 ≤ w.length ∧ a + x.1 ≤ s.length ∧ w.take x.1.toNat = (s.drop a.toNat).take x.1.toNat, measure := fun _ (x : Int × Unit) => (w.length - x.1).toNat }
    | _ => none
noncomputable def g_rlit (s : By) (a : Int) (w : By) : Prop := vc (env_rlit s a w) (codeOf Tryz.f25) (start0 Tryz.f25 [.str s, .int .i64 a, .str w]) (exitK (tsOf Tryz.f25) [.int .i64, .int .i64] ((litF s a w).1, (litF s a w).2, ()))
def g_rlit_vc (s : By) (a : Int) (w : By) : Prop :=
  (decide (a < (0 : Int)) = false → (decide ((↑(List.length s) : Int) < a) = true → ((0 : Int), (2 : Int), ()) = ((litF s a w).fst, (litF s a w).snd, ())) ∧ (decide ((↑(List.length s) : Int) < a) = false → (True ∧ (0 : Int) ≤ (0 : Int) ∧ (0 : Int) ≤ (↑(List.length w) : Int) ∧ a + (0 : Int) ≤ (↑(List.length s) : Int) ∧ List.take (Int.toNat (0 : Int)) w = List.take (Int.toNat (0 : Int)) (List.drop a.toNat s)) ∧ ∀ (x : Int × Unit), (0 : Int) ≤ x.fst ∧ x.fst ≤ (↑(List.length w) : Int) ∧ a + x.fst ≤ (↑(List.length s) : Int) ∧ List.take x.fst.toNat w = List.take x.fst.toNat (List.drop a.toNat s) → (decide (x.fst < (↑(List.length w) : Int)) = true → ((-9223372036854775808 : Int) ≤ (↑(List.length s) : Int) - a ∧ (↑(List.length s) : Int) - a ≤ (9223372036854775807 : Int)) ∧ (decide (x.fst = (↑(List.length s) : Int) - a) = true → ((0 : Int), (4 : Int), ()) = ((litF s a w).fst, (litF s a w).snd, ())) ∧ (decide (x.fst = (↑(List.length s) : Int) - a) = false → ((-9223372036854775808 : Int) ≤ a + x.fst ∧ a + x.fst ≤ (9223372036854775807 : Int)) ∧ ((0 : Int) ≤ a + x.fst ∧ a + x.fst < (↑(List.length s) : Int)) ∧ ∀ (c : UInt8), s[(a + x.fst).toNat]? = some c → ((0 : Int) ≤ x.fst ∧ x.fst < (↑(List.length w) : Int)) ∧ ∀ (c_1 : UInt8), w[x.fst.toNat]? = some c_1 → ((!decide ((↑c.toNat : Int) = (↑c_1.toNat : Int))) = true → ((0 : Int), (8 : Int), ()) = ((litF s a w).fst, (litF s a w).snd, ())) ∧ ((!decide ((↑c.toNat : Int) = (↑c_1.toNat : Int))) = false → ((-9223372036854775808 : Int) ≤ x.fst + (1 : Int) ∧ x.fst + (1 : Int) ≤ (9223372036854775807 : Int)) ∧ True ∧ ((0 : Int) ≤ x.fst + (1 : Int) ∧ x.fst + (1 : Int) ≤ (↑(List.length w) : Int) ∧ a + (x.fst + (1 : Int)) ≤ (↑(List.length s) : Int) ∧ List.take (x.fst + (1 : Int)).toNat w = List.take (x.fst + (1 : Int)).toNat (List.drop a.toNat s)) ∧ ((↑(List.length w) : Int) - (x.fst + (1 : Int))).toNat < ((↑(List.length w) : Int) - x.fst).toNat))) ∧ (decide (x.fst < (↑(List.length w) : Int)) = false → ((-9223372036854775808 : Int) ≤ a + (↑(List.length w) : Int) ∧ a + (↑(List.length w) : Int) ≤ (9223372036854775807 : Int)) ∧ (a + (↑(List.length w) : Int), (0 : Int), ()) = ((litF s a w).fst, (litF s a w).snd, ())))) ∧ (decide (a < (0 : Int)) = !false → ((0 : Int), (2 : Int), ()) = ((litF s a w).fst, (litF s a w).snd, ()))
theorem g_rlit_eq (s : By) (a : Int) (w : By) : g_rlit s a w = g_rlit_vc s a w := by kernel_rfl
theorem hasPrefix_iff (s p : By) : Lib.hasPrefix s p = true ↔ s.take p.length = p := by
  unfold Lib.hasPrefix
  rw [List.isPrefixOf_iff_prefix, List.prefix_iff_eq_take]
  exact ⟨fun h => h.symm, fun h => h.symm⟩
theorem take_next {s : By} {i : Nat} {c : UInt8} (h : s[i]? = some c) : s.take (i + 1) = s.take i ++ [c] := by
  rw [List.take_add_one, h]
  rfl
theorem toNat_next {i : Int} (h : 0 ≤ i) : (i + 1).toNat = i.toNat + 1 := by omega
theorem u8_ext {a b : UInt8} (h : (a.toNat : Int) = (b.toNat : Int)) : a = b := UInt8.toNat_inj.1 (by omega)
theorem drop_get (s : By) (a i : Nat) : (s.drop a)[i]? = s[a + i]? := List.getElem?_drop
theorem litF_bad {s : By} {a : Int} {w : By} (h : a < 0 ∨ (s.length : Int) < a) : litF s a w = (0, 2) := by unfold litF; rw [if_pos h]
theorem litF_ok {s : By} {a : Int} {w : By} (h : ¬ (a < 0 ∨ (s.length : Int) < a)) (e : (s.drop a.toNat).take w.length = w) : litF s a w = (a + w.length, 0) := by
  unfold litF
  rw [if_neg h, if_pos ((hasPrefix_iff _ _).2 e)]
theorem litF_short {s : By} {a : Int} {w : By} (h : ¬ (a < 0 ∨ (s.length : Int) < a)) (e : w.take (s.drop a.toNat).length = s.drop a.toNat) (l : (s.drop a.toNat).length < w.length) : litF s a w = (0, 4) := by
  unfold litF
  rw [if_neg h, if_neg (fun c => ?_), if_pos ((hasPrefix_iff _ _).2 e)]
  have := congrArg List.length ((hasPrefix_iff _ _).1 c)
  rw [List.length_take] at this
  omega
theorem litF_word {s : By} {a : Int} {w : By} (h : ¬ (a < 0 ∨ (s.length : Int) < a)) {i : Nat} {x y : UInt8} (hx : (s.drop a.toNat)[i]? = some x) (hy : w[i]? = some y) (hxy : x ≠ y) : litF s a w = (0, 8) := by
  have hi := (List.getElem?_eq_some_iff.1 hx).1
  have hj := (List.getElem?_eq_some_iff.1 hy).1
  unfold litF
  rw [if_neg h, if_neg (fun c => ?_), if_neg (fun c => ?_)]
  · have := congrArg (·[i]?) ((hasPrefix_iff _ _).1 c)
    simp only [List.getElem?_take] at this
    rw [if_pos hi, hy, hx] at this
    exact hxy (Option.some.inj this).symm
  · have := congrArg (·[i]?) ((hasPrefix_iff _ _).1 c)
    simp only [List.getElem?_take] at this
    rw [if_pos hj, hy, hx] at this
    exact hxy (Option.some.inj this)
theorem g_rlit_ok (s : By) (a : Int) (w : By) (h : s.length ≤ 1000000 ∧ w.length ≤ 1000000) : g_rlit_vc s a w := by
  obtain ⟨h1, h2⟩ := h
  unfold g_rlit_vc
  simp only [decide_eq_true_eq, decide_eq_false_iff_not, Bool.not_eq_true', Bool.not_eq_false', Bool.not_false]
  refine ⟨fun c => ⟨fun d => ?_, fun d => ⟨⟨trivial, by omega, by omega, by omega, by simp⟩, fun x hx => ?_⟩⟩, fun c => ?_⟩
  · rw [litF_bad (.inr d)]
  · obtain ⟨x1, x2, x3, x4⟩ := hx
    have hn : ¬ (a < 0 ∨ (s.length : Int) < a) := by omega
    have hdl : (s.drop a.toNat).length = s.length - a.toNat := List.length_drop
    refine ⟨fun e => ⟨by omega, fun f => ?_, fun f => ⟨by omega, by omega, fun p hp => ⟨by omega, fun q hq => ⟨fun g => ?_, fun g => ⟨by omega, trivial, ⟨by omega, by omega, by omega, ?_⟩, by omega⟩⟩⟩⟩⟩, fun e => ⟨by omega, ?_⟩⟩
    · have hxl : x.1.toNat = (s.drop a.toNat).length := by omega
      rw [litF_short hn (by rw [← hxl, x4, hxl, List.take_length]) (by omega)]
    · have hp' : (s.drop a.toNat)[x.1.toNat]? = some p := by rw [drop_get, ← hp]; congr 1; omega
      rw [litF_word hn hp' hq (fun k => g (by rw [k]))]
    · have hp' : (s.drop a.toNat)[x.1.toNat]? = some p := by rw [drop_get, ← hp]; congr 1; omega
      rw [toNat_next x1, take_next hq, take_next hp', x4, u8_ext g]
    · have hxl : x.1.toNat = w.length := by omega
      rw [litF_ok hn (by rw [← hxl, ← x4, hxl, List.take_length])]
  · rw [litF_bad (.inl c)]
set_option maxRecDepth 20000 in
theorem rlit_pure (s : By) (a : Int) (w : By) (h : s.length ≤ 1000000 ∧ w.length ≤ 1000000) : Pure Tryz.prog 25 [.str s, .int .i64 a, .str w] (.tuple [.int .i64 (litF s a w).1, .int .i64 (litF s a w).2]) :=
  Pure.of_g (E := env_rlit s a w) (ts := tsOf Tryz.f25) (ps := [.int .i64, .int .i64]) (r := ((litF s a w).1, (litF s a w).2, ())) (fn := Tryz.f25) (c := codeOf Tryz.f25) (specs_ok (P := Tryz.prog) rfl [] [] rfl rfl) mixed Tryz.func25 rfl rfl (g := g_rlit s a w) (by delta g_rlit start0; first | with_reducible exact Eq.refl _ | exact Eq.refl _) (by rw [g_rlit_eq s a w]; exact g_rlit_ok s a w h)
noncomputable def q_rlit (s : By) (a : Int) (w : By) : Prop × V := (s.length ≤ 1000000 ∧ w.length ≤ 1000000, (.tuple [.int .i64 (litF s a w).1, .int .i64 (litF s a w).2]))
noncomputable def sp_rlit : FSpec Tryz.prog where
  f := 25
  run := fun args => match args with
    | [.str s, .int .i64 a, .str w] => some (q_rlit s a w)
    | _ => none
  ok := fun args pre r h hp => by
    try dsimp only at h
    split at h
    · rename_i s a w
      have h := Option.some.inj h
      unfold q_rlit at h
      cases h
      exact (rlit_pure s a w hp).weak (.cons (Weak.refl _) (.cons (Weak.refl _) (.cons (Weak.refl _) .nil)))
    · cases h

theorem drop_at {s : By} {i : Nat} {c : UInt8} (h : s[i]? = some c) : s.drop i = c :: s.drop (i + 1) := by
  obtain ⟨hi, e⟩ := List.getElem?_eq_some_iff.1 h
  rw [List.drop_eq_getElem_cons hi, e]

/-! Numerals. -/
def isDig (c : UInt8) : Bool := decide (48 ≤ (c.toNat : Int)) && decide ((c.toNat : Int) ≤ 57)
def digAt (s : By) (i : Int) : Bool := ((s[i.toNat]?).map isDig).getD false
noncomputable def env_digit (s : By) (i : Int) : Env where
  P := Tryz.prog
  ty := tys0
noncomputable def g_digit (s : By) (i : Int) : Prop := vc (env_digit s i) (codeOf Tryz.f69) (start0 Tryz.f69 [.int .i64 i, .fptr [.str s]]) (exitK (tsOf Tryz.f69) [.bool] (digAt s i, ()))
def g_digit_vc (s : By) (i : Int) : Prop :=
  ((0 : Int) ≤ i ∧ i < (↑(List.length s) : Int)) ∧ ∀ (c : UInt8), s[i.toNat]? = some c → (decide ((48 : Int) ≤ (↑c.toNat : Int)) = true → ((0 : Int) ≤ i ∧ i < (↑(List.length s) : Int)) ∧ ∀ (c : UInt8), s[i.toNat]? = some c → (decide ((↑c.toNat : Int) ≤ (57 : Int)), ()) = (digAt s i, ())) ∧ (decide ((48 : Int) ≤ (↑c.toNat : Int)) = !true → (false, ()) = (digAt s i, ()))
theorem g_digit_eq (s : By) (i : Int) : g_digit s i = g_digit_vc s i := by kernel_rfl
theorem g_digit_ok (s : By) (i : Int) (h : 0 ≤ i ∧ i < s.length) : g_digit_vc s i := by
  unfold g_digit_vc digAt
  refine ⟨h, fun c hc => ?_⟩
  rw [hc]
  simp only [Option.map_some, Option.getD_some, isDig]
  refine ⟨fun d => ⟨h, fun e he => ?_⟩, fun d => ?_⟩
  · cases he
    rw [d]
    rfl
  · rw [d]
    rfl
set_option maxRecDepth 20000 in
theorem digit_pure (s : By) (i : Int) (h : 0 ≤ i ∧ i < s.length) : Pure Tryz.prog 69 [.int .i64 i, .fptr [.str s]] (.bool (digAt s i)) :=
  Pure.of_g (E := env_digit s i) (ts := tsOf Tryz.f69) (ps := [.bool]) (r := (digAt s i, ())) (fn := Tryz.f69) (c := codeOf Tryz.f69) (specs_ok (P := Tryz.prog) rfl [] [] rfl rfl) mixed Tryz.func69 rfl rfl (g := g_digit s i) (by delta g_digit start0; first | with_reducible exact Eq.refl _ | exact Eq.refl _) (by rw [g_digit_eq s i]; exact g_digit_ok s i h)
noncomputable def q_digit (s : By) (i : Int) : Prop × V := (0 ≤ i ∧ i < s.length, (.bool (digAt s i)))
noncomputable def sp_digit : FSpec Tryz.prog where
  f := 69
  run := fun args => match args with
    | [.int .i64 i, .fptr [.str s]] => some (q_digit s i)
    | _ => none
  ok := fun args pre r h hp => by
    try dsimp only at h
    split at h
    · rename_i i s
      have h := Option.some.inj h
      unfold q_digit at h
      cases h
      exact (digit_pure s i hp).weak (.cons (Weak.refl _) (.cons (Weak.refl _) .nil))
    · cases h

def runF (s : By) : Int := ((s.takeWhile isDig).length : Nat)
noncomputable def env_run (s : By) : Env where
  P := Tryz.prog
  ty := tys0
  specs := specsOf [sp_digit]
  heads := fun
    | 3 => some { slots := [(8, .int .i64), (4, .any)], boxes := [], keep := [1], inv := fun _ (x : Int × Unit × Unit) => 0 ≤ x.1 ∧ x.1 ≤ s.length ∧ runF s = x.1 + runF (s.drop x.1.toNat), measure := fun _ (x : Int × Unit × Unit) => (s.length - x.1).toNat }
    | _ => none
noncomputable def g_run (s : By) : Prop := vc (env_run s) (codeOf Tryz.f48) (start0 Tryz.f48 [.str s]) (exitK (tsOf Tryz.f48) [.int .i64] (runF s, ()))
def g_run_vc (s : By) : Prop :=
  ((some (Obj.box [V.str s]) = some (Obj.box [V.str s]) ∧ True) ∧ (0 : Int) ≤ (0 : Int) ∧ (0 : Int) ≤ (↑(List.length s) : Int) ∧ runF s = (0 : Int) + runF (List.drop (Int.toNat (0 : Int)) s)) ∧ ∀ (x : Int × Unit × Unit), (0 : Int) ≤ x.fst ∧ x.fst ≤ (↑(List.length s) : Int) ∧ runF s = x.fst + runF (List.drop x.fst.toNat s) → (decide (x.fst < (↑(List.length s) : Int)) = true → ((0 : Int) ≤ x.fst ∧ x.fst < (↑(List.length s) : Int)) ∧ ((!digAt s x.fst) = true → (x.fst, ()) = (runF s, ())) ∧ ((!digAt s x.fst) = false → ((-9223372036854775808 : Int) ≤ x.fst + (1 : Int) ∧ x.fst + (1 : Int) ≤ (9223372036854775807 : Int)) ∧ (some (Obj.box [V.str s]) = some (Obj.box [V.str s]) ∧ True) ∧ ((0 : Int) ≤ x.fst + (1 : Int) ∧ x.fst + (1 : Int) ≤ (↑(List.length s) : Int) ∧ runF s = x.fst + (1 : Int) + runF (List.drop (x.fst + (1 : Int)).toNat s)) ∧ ((↑(List.length s) : Int) - (x.fst + (1 : Int))).toNat < ((↑(List.length s) : Int) - x.fst).toNat)) ∧ (decide (x.fst < (↑(List.length s) : Int)) = false → ((↑(List.length s) : Int), ()) = (runF s, ()))
theorem g_run_eq (s : By) : g_run s = g_run_vc s := by kernel_rfl
theorem runF_step {s : By} {i : Int} (h0 : 0 ≤ i) (h : i < s.length) (d : digAt s i = true) : runF (s.drop i.toNat) = 1 + runF (s.drop (i + 1).toNat) := by
  have hc : s[i.toNat]? = some s[i.toNat] := List.getElem?_eq_getElem (by omega)
  unfold digAt at d
  rw [hc] at d
  simp only [Option.map_some, Option.getD_some] at d
  unfold runF
  rw [drop_at hc, toNat_next h0, List.takeWhile_cons, if_pos d, List.length_cons]
  omega
theorem runF_stop {s : By} {i : Int} (h0 : 0 ≤ i) (h : i < s.length) (d : digAt s i = false) : runF (s.drop i.toNat) = 0 := by
  have hc : s[i.toNat]? = some s[i.toNat] := List.getElem?_eq_getElem (by omega)
  unfold digAt at d
  rw [hc] at d
  simp only [Option.map_some, Option.getD_some] at d
  unfold runF
  rw [drop_at hc, List.takeWhile_cons, if_neg (by rw [d]; decide)]
  rfl
theorem g_run_ok (s : By) (h : s.length ≤ 1000000) : g_run_vc s := by
  unfold g_run_vc
  simp only [decide_eq_true_eq, decide_eq_false_iff_not, Bool.not_eq_true', Bool.not_eq_false']
  refine ⟨⟨⟨by trivial, by trivial⟩, by omega, by omega, by simp⟩, fun x hx => ⟨fun c => ⟨by omega, fun d => ?_, fun d => ⟨by omega, ⟨by trivial, by trivial⟩, ⟨by omega, by omega, ?_⟩, by omega⟩⟩, fun c => ?_⟩⟩
  · rw [hx.2.2, runF_stop hx.1 c d, Int.add_zero]
  · rw [hx.2.2, runF_step hx.1 c d]
    omega
  · rw [hx.2.2, List.drop_of_length_le (by omega)]
    have e : x.1 = s.length := by omega
    rw [e]
    simp [runF]
set_option maxRecDepth 20000 in
theorem run_pure (s : By) (h : s.length ≤ 1000000) : Pure Tryz.prog 48 [.str s] (.int .i64 (runF s)) :=
  Pure.of_g (E := env_run s) (ts := tsOf Tryz.f48) (ps := [.int .i64]) (r := (runF s, ())) (fn := Tryz.f48) (c := codeOf Tryz.f48) (specs_ok (P := Tryz.prog) rfl [sp_digit] [] rfl rfl) mixed Tryz.func48 rfl rfl (g := g_run s) (by delta g_run start0; first | with_reducible exact Eq.refl _ | exact Eq.refl _) (by rw [g_run_eq s]; exact g_run_ok s h)
noncomputable def q_run (s : By) : Prop × V := (s.length ≤ 1000000, (.int .i64 (runF s)))
noncomputable def sp_run : FSpec Tryz.prog where
  f := 48
  run := fun args => match args with
    | [.str s] => some (q_run s)
    | _ => none
  ok := fun args pre r h hp => by
    try dsimp only at h
    split at h
    · rename_i s
      have h := Option.some.inj h
      unfold q_run at h
      cases h
      exact (run_pure s hp).weak (.cons (Weak.refl _) .nil)
    · cases h

def toB (d : Int) : UInt8 := UInt8.ofNat (48 + d).toNat
def textL (l : List Int) : By := (l.map toB).reverse
def padL (l : List Int) : List Int := if l = [] then [0] else l
noncomputable def env_text (s : Bool) (l : List Int) (d : Int) : Env where
  P := Tryz.prog
  ty := tys0
  heads := fun
    | 2 => some { slots := [(5, .list .part I)], boxes := [], keep := [2], inv := fun _ (x : List Int × Unit) => x.1 = l ∨ (l = [] ∧ x.1 = [0]), measure := fun _ (x : List Int × Unit) => 1 - x.1.length }
    | 6 => some { slots := [(7, .int .i64), (6, .str)], boxes := [], keep := [2], inv := fun _ (x : Int × By × Unit) => 0 ≤ x.1 ∧ x.1 ≤ (padL l).length ∧ x.2.1 = textL ((padL l).take x.1.toNat), measure := fun _ (x : Int × By × Unit) => ((padL l).length - x.1).toNat }
    | _ => none
noncomputable def g_text (s : Bool) (l : List Int) (d : Int) : Prop := vc (env_text s l d) (codeOf Tryz.f34) (start0 Tryz.f34 [.agg [.bool s, .list .part I l], .int .i64 d]) (exitK (tsOf Tryz.f34) [.str] (Lib.itoa (big s l), ()))
def g_text_vc (s : Bool) (l : List Int) (d : Int) : Prop :=
  ((some (Obj.box [V.bool s, V.list LK.part I l]) = some (Obj.box [V.bool s, V.list LK.part I l]) ∧ True) ∧ (l = l ∨ l = [] ∧ l = [(0 : Int)])) ∧ ∀ (x : List Int × Unit), x.fst = l ∨ l = [] ∧ x.fst = [(0 : Int)] → (decide ((↑x.fst.length : Int) ≤ d) = true → (((0 : Nat) + x.fst.length) * (8 : Nat) ≤ (140737488355328 : Nat) ∧ (0 : Nat) + x.fst.length ≤ (4611686018427387904 : Nat) ∧ ((0 : Nat) < x.fst.length ∨ (0 : Nat) = (0 : Nat))) ∧ ((x.fst.length + (1 : Nat)) * (8 : Nat) ≤ (140737488355328 : Nat) ∧ x.fst.length + (1 : Nat) ≤ (4611686018427387904 : Nat)) ∧ (some (Obj.box [V.bool s, V.list LK.part I l]) = some (Obj.box [V.bool s, V.list LK.part I l]) ∧ True) ∧ (x.fst ++ [(0 : Int)] = l ∨ l = [] ∧ x.fst ++ [(0 : Int)] = [(0 : Int)]) ∧ (1 : Nat) - (x.fst ++ [(0 : Int)]).length < (1 : Nat) - x.fst.length) ∧ (decide ((↑x.fst.length : Int) ≤ d) = false → ((some (Obj.box [V.bool s, V.list LK.part I l]) = some (Obj.box [V.bool s, V.list LK.part I l]) ∧ True) ∧ (0 : Int) ≤ (0 : Int) ∧ (0 : Int) ≤ (↑(padL l).length : Int) ∧ [] = textL (List.take (Int.toNat (0 : Int)) (padL l))) ∧ ∀ (x_1 : Int × List UInt8 × Unit), (0 : Int) ≤ x_1.fst ∧ x_1.fst ≤ (↑(padL l).length : Int) ∧ x_1.snd.fst = textL (List.take x_1.fst.toNat (padL l)) → (decide (x_1.fst < (↑x.fst.length : Int)) = true → (decide (x_1.fst = d) = true → (decide ((0 : Int) < d) = true → (1 : Nat) + x_1.snd.fst.length ≤ (9223372036854775807 : Nat) ∧ ((0 : Int) ≤ x_1.fst ∧ x_1.fst < (↑x.fst.length : Int)) ∧ ∀ (x_2 : Int), x.fst[x_1.fst.toNat]? = some x_2 → ((-9223372036854775808 : Int) ≤ (48 : Int) + x_2 ∧ (48 : Int) + x_2 ≤ (9223372036854775807 : Int)) ∧ ((0 : Int) ≤ (48 : Int) + x_2 ∧ (48 : Int) + x_2 ≤ (255 : Int)) ∧ (List.map (fun n => UInt8.ofNat (Int.toNat n)) [(48 : Int) + x_2]).length + ([(46 : UInt8)] ++ x_1.snd.fst).length ≤ (9223372036854775807 : Nat) ∧ ((-9223372036854775808 : Int) ≤ x_1.fst + (1 : Int) ∧ x_1.fst + (1 : Int) ≤ (9223372036854775807 : Int)) ∧ (some (Obj.box [V.bool s, V.list LK.part I l]) = some (Obj.box [V.bool s, V.list LK.part I l]) ∧ True) ∧ ((0 : Int) ≤ x_1.fst + (1 : Int) ∧ x_1.fst + (1 : Int) ≤ (↑(padL l).length : Int) ∧ List.map (fun n => UInt8.ofNat (Int.toNat n)) [(48 : Int) + x_2] ++ ([(46 : UInt8)] ++ x_1.snd.fst) = textL (List.take (x_1.fst + (1 : Int)).toNat (padL l))) ∧ ((↑(padL l).length : Int) - (x_1.fst + (1 : Int))).toNat < ((↑(padL l).length : Int) - x_1.fst).toNat) ∧ (decide ((0 : Int) < d) = false → ((0 : Int) ≤ x_1.fst ∧ x_1.fst < (↑x.fst.length : Int)) ∧ ∀ (x_2 : Int), x.fst[x_1.fst.toNat]? = some x_2 → ((-9223372036854775808 : Int) ≤ (48 : Int) + x_2 ∧ (48 : Int) + x_2 ≤ (9223372036854775807 : Int)) ∧ ((0 : Int) ≤ (48 : Int) + x_2 ∧ (48 : Int) + x_2 ≤ (255 : Int)) ∧ (List.map (fun n => UInt8.ofNat (Int.toNat n)) [(48 : Int) + x_2]).length + x_1.snd.fst.length ≤ (9223372036854775807 : Nat) ∧ ((-9223372036854775808 : Int) ≤ x_1.fst + (1 : Int) ∧ x_1.fst + (1 : Int) ≤ (9223372036854775807 : Int)) ∧ (some (Obj.box [V.bool s, V.list LK.part I l]) = some (Obj.box [V.bool s, V.list LK.part I l]) ∧ True) ∧ ((0 : Int) ≤ x_1.fst + (1 : Int) ∧ x_1.fst + (1 : Int) ≤ (↑(padL l).length : Int) ∧ List.map (fun n => UInt8.ofNat (Int.toNat n)) [(48 : Int) + x_2] ++ x_1.snd.fst = textL (List.take (x_1.fst + (1 : Int)).toNat (padL l))) ∧ ((↑(padL l).length : Int) - (x_1.fst + (1 : Int))).toNat < ((↑(padL l).length : Int) - x_1.fst).toNat)) ∧ (decide (x_1.fst = d) = !true → ((0 : Int) ≤ x_1.fst ∧ x_1.fst < (↑x.fst.length : Int)) ∧ ∀ (x_2 : Int), x.fst[x_1.fst.toNat]? = some x_2 → ((-9223372036854775808 : Int) ≤ (48 : Int) + x_2 ∧ (48 : Int) + x_2 ≤ (9223372036854775807 : Int)) ∧ ((0 : Int) ≤ (48 : Int) + x_2 ∧ (48 : Int) + x_2 ≤ (255 : Int)) ∧ (List.map (fun n => UInt8.ofNat (Int.toNat n)) [(48 : Int) + x_2]).length + x_1.snd.fst.length ≤ (9223372036854775807 : Nat) ∧ ((-9223372036854775808 : Int) ≤ x_1.fst + (1 : Int) ∧ x_1.fst + (1 : Int) ≤ (9223372036854775807 : Int)) ∧ (some (Obj.box [V.bool s, V.list LK.part I l]) = some (Obj.box [V.bool s, V.list LK.part I l]) ∧ True) ∧ ((0 : Int) ≤ x_1.fst + (1 : Int) ∧ x_1.fst + (1 : Int) ≤ (↑(padL l).length : Int) ∧ List.map (fun n => UInt8.ofNat (Int.toNat n)) [(48 : Int) + x_2] ++ x_1.snd.fst = textL (List.take (x_1.fst + (1 : Int)).toNat (padL l))) ∧ ((↑(padL l).length : Int) - (x_1.fst + (1 : Int))).toNat < ((↑(padL l).length : Int) - x_1.fst).toNat)) ∧ (decide (x_1.fst < (↑x.fst.length : Int)) = false → (s = true → (1 : Nat) + x_1.snd.fst.length ≤ (9223372036854775807 : Nat) ∧ ([(45 : UInt8)] ++ x_1.snd.fst, ()) = (Lib.itoa (big s l), ())) ∧ (s = false → (x_1.snd.fst, ()) = (Lib.itoa (big s l), ()))))
theorem g_text_eq (s : Bool) (l : List Int) (d : Int) : g_text s l d = g_text_vc s l d := by kernel_rfl
theorem textL_step {l : List Int} {i : Nat} {d : Int} (h : l[i]? = some d) : textL (l.take (i + 1)) = [UInt8.ofNat (48 + d).toNat] ++ textL (l.take i) := by
  unfold textL
  rw [List.take_add_one, h]
  simp [toB]
theorem text_digs (n : Nat) : textL (padL (digs n)) = Lib.decDigits n := by
  induction n using Nat.strongRecOn with
  | _ n ih =>
    by_cases h0 : n = 0
    · subst h0
      rw [digs_zero, Lib.decDigits, dif_pos (by omega)]
      rfl
    · have hne : digs n ≠ [] := fun c => h0 (digs_nil.1 c)
      have hp : padL (digs n) = digs n := by unfold padL; rw [if_neg hne]
      rw [hp, digs_pos h0]
      by_cases h : n < 10
      · have e : n / 10 = 0 := by omega
        rw [Lib.decDigits, dif_pos h, e, digs_zero, Nat.mod_eq_of_lt h]
        simp only [textL, toB, List.map_cons, List.map_nil, List.reverse_cons, List.reverse_nil, List.nil_append]
        congr 2
      · rw [Lib.decDigits, dif_neg h, ← ih (n / 10) (by omega)]
        have hne2 : digs (n / 10) ≠ [] := fun c => by have := digs_nil.1 c; omega
        have hp2 : padL (digs (n / 10)) = digs (n / 10) := by unfold padL; rw [if_neg hne2]
        rw [hp2]
        simp only [textL, toB, List.map_cons, List.reverse_cons]
        congr 2
theorem itoa_text {s : Bool} {l : List Int} (h : Big s l) : Lib.itoa (big s l) = if s then 45 :: textL (padL l) else textL (padL l) := by
  have hl : digs (big s l).natAbs = l := big_abs h
  have hs := big_neg h
  unfold Lib.itoa
  cases s with
  | true =>
    have hneg : big true l < 0 := by simpa using hs
    rw [if_pos hneg, if_pos rfl, ← text_digs, hl]
  | false =>
    have hneg : ¬ big false l < 0 := by simpa using hs
    have e : (big false l).toNat = (big false l).natAbs := by omega
    rw [if_neg hneg, if_neg (by decide), e, ← text_digs, hl]
theorem pad_dig {l : List Int} (h : Dig l) : Dig (padL l) := by
  unfold padL
  split
  · intro d hd
    simp only [List.mem_singleton] at hd
    omega
  · exact h
theorem g_text_ok (s : Bool) (l : List Int) (d : Int) (h : d = 0 ∧ Big s l ∧ l.length ≤ 1000000) : g_text_vc s l d := by
  obtain ⟨rfl, hb, hl⟩ := h
  have hit := itoa_text hb
  have hpd := pad_dig hb.1.dig
  have hpl : (padL l).length ≤ 1000001 := by
    unfold padL
    split
    · simp
    · omega
  unfold g_text_vc
  refine ⟨⟨⟨by trivial, by trivial⟩, .inl rfl⟩, fun x hx => ?_⟩
  simp only [decide_eq_true_eq, decide_eq_false_iff_not, Bool.not_true]
  have hxl : x.1.length ≤ 1000001 := by
    rcases hx with h | ⟨_, h⟩
    · rw [h]; omega
    · rw [h]; simp
  refine ⟨fun c => ?_, fun c => ?_⟩
  · have hx0 : x.1 = [] := List.eq_nil_of_length_eq_zero (by omega)
    have hl0 : l = [] := by
      rcases hx with h | ⟨h, _⟩
      · rw [← h, hx0]
      · exact h
    rw [hx0]
    refine ⟨⟨by simp, by simp, .inr (by trivial)⟩, ⟨by simp, by simp⟩, ⟨by trivial, by trivial⟩, .inr ⟨hl0, rfl⟩, by simp⟩
  · have hxp : x.1 = padL l := by
      unfold padL
      rcases hx with h | ⟨h1, h2⟩
      · rw [if_neg (fun k => c (by rw [h, k]; exact Int.le_refl _)), h]
      · rw [if_pos h1, h2]
    rw [hxp]
    refine ⟨⟨⟨by trivial, by trivial⟩, by omega, by omega, rfl⟩, fun y hy => ?_⟩
    have hyl : y.2.1.length ≤ 1000001 := by
      rw [hy.2.2]
      unfold textL
      rw [List.length_reverse, List.length_map, List.length_take]
      omega
    refine ⟨fun d => ⟨fun e => ⟨fun f => absurd f (by omega), fun _ => ⟨by omega, fun z hz => ?_⟩⟩, fun e => ⟨by omega, fun z hz => ?_⟩⟩, fun d => ⟨fun e => ⟨by omega, ?_⟩, fun e => ?_⟩⟩
    · have := dig_get hpd hz
      refine ⟨by omega, by omega, by simp; omega, by omega, ⟨by trivial, by trivial⟩, ⟨by omega, by omega, ?_⟩, by omega⟩
      rw [toNat_next hy.1, textL_step hz, hy.2.2]
      rfl
    · have := dig_get hpd hz
      refine ⟨by omega, by omega, by simp; omega, by omega, ⟨by trivial, by trivial⟩, ⟨by omega, by omega, ?_⟩, by omega⟩
      rw [toNat_next hy.1, textL_step hz, hy.2.2]
      rfl
    · subst e
      rw [hit, hy.2.2, List.take_of_length_le (by omega)]
      rfl
    · subst e
      rw [hit, hy.2.2, List.take_of_length_le (by omega)]
      rfl
set_option maxRecDepth 20000 in
theorem text_pure (s : Bool) (l : List Int) (d : Int) (h : d = 0 ∧ Big s l ∧ l.length ≤ 1000000) : Pure Tryz.prog 34 [.agg [.bool s, .list .part I l], .int .i64 d] (.str (Lib.itoa (big s l))) :=
  Pure.of_g (E := env_text s l d) (ts := tsOf Tryz.f34) (ps := [.str]) (r := (Lib.itoa (big s l), ())) (fn := Tryz.f34) (c := codeOf Tryz.f34) (specs_ok (P := Tryz.prog) rfl [] [] rfl rfl) mixed Tryz.func34 rfl rfl (g := g_text s l d) (by delta g_text start0; first | with_reducible exact Eq.refl _ | exact Eq.refl _) (by rw [g_text_eq s l d]; exact g_text_ok s l d h)
noncomputable def q_text (s : Bool) (l : List Int) (d : Int) : Prop × V := (d = 0 ∧ Big s l ∧ l.length ≤ 1000000, (.str (Lib.itoa (big s l))))
noncomputable def sp_text : FSpec Tryz.prog where
  f := 34
  run := fun args => match args with
    | [.agg [v0_0, v0_1], .int .i64 d] => (match boolOf v0_0 with | some s => (match (asP I v0_1 : Option (List Int)) with | some l => some (q_text s l d) | none => none) | none => none)
    | _ => none
  ok := fun args pre r h hp => by
    try dsimp only at h
    split at h
    · rename_i v0_0 v0_1 d
      cases h0_0 : boolOf v0_0 with
      | none => rw [h0_0] at h; cases h
      | some s =>
      rw [h0_0] at h
      try dsimp only at h
      cases h0_1 : (asP I v0_1 : Option (List Int)) with
      | none => rw [h0_1] at h; cases h
      | some l =>
      rw [h0_1] at h
      try dsimp only at h
      have h := Option.some.inj h
      unfold q_text at h
      cases h
      exact (text_pure s l d hp).weak (.cons (Weak.agg (.cons (boolOf_weak h0_0) (.cons (asP_weak h0_1) .nil))) (.cons (Weak.refl _) .nil))
    · cases h

noncomputable def env_digitsOf (n : Int) : Env where
  P := Tryz.prog
  ty := tys0
  specs := specsOf [sp_itoa]
noncomputable def g_digitsOf (n : Int) : Prop := vc (env_digitsOf n) (codeOf Tryz.f17) (start0 Tryz.f17 [.int .i64 n]) (exitK (tsOf Tryz.f17) [.str] (Lib.itoa n, ()))
def g_digitsOf_vc (n : Int) : Prop :=
  InI n ∧ (Lib.itoa n, ()) = (Lib.itoa n, ())
theorem g_digitsOf_eq (n : Int) : g_digitsOf n = g_digitsOf_vc n := by kernel_rfl
theorem g_digitsOf_ok (n : Int) (h : InI n) : g_digitsOf_vc n := by
  exact ⟨h, rfl⟩
set_option maxRecDepth 20000 in
theorem digitsOf_pure (n : Int) (h : InI n) : Pure Tryz.prog 17 [.int .i64 n] (.str (Lib.itoa n)) :=
  Pure.of_g (E := env_digitsOf n) (ts := tsOf Tryz.f17) (ps := [.str]) (r := (Lib.itoa n, ())) (fn := Tryz.f17) (c := codeOf Tryz.f17) (specs_ok (P := Tryz.prog) rfl [sp_itoa] [] rfl rfl) mixed Tryz.func17 rfl rfl (g := g_digitsOf n) (by delta g_digitsOf start0; first | with_reducible exact Eq.refl _ | exact Eq.refl _) (by rw [g_digitsOf_eq n]; exact g_digitsOf_ok n h)
noncomputable def q_digitsOf (n : Int) : Prop × V := (InI n, (.str (Lib.itoa n)))
noncomputable def sp_digitsOf : FSpec Tryz.prog where
  f := 17
  run := fun args => match args with
    | [.int .i64 n] => some (q_digitsOf n)
    | _ => none
  ok := fun args pre r h hp => by
    try dsimp only at h
    split at h
    · rename_i n
      have h := Option.some.inj h
      unfold q_digitsOf at h
      cases h
      exact (digitsOf_pure n hp).weak (.cons (Weak.refl _) .nil)
    · cases h
theorem digI_len {n : Int} (h : InI n) : (digs n.natAbs).length ≤ 30 := by
  obtain ⟨h1, h2⟩ := h
  exact digs_len (k := 30) (by omega)
noncomputable def env_rdigitsOf (n : Int) : Env where
  P := Tryz.prog
  ty := tys0
  specs := specsOf [sp_of, sp_text]
  frz := fun | 4 => true | _ => false
noncomputable def g_rdigitsOf (n : Int) : Prop := vc (env_rdigitsOf n) (codeOf Tryz.f22) (start0 Tryz.f22 [.int .i64 n]) (exitK (tsOf Tryz.f22) [.str] (Lib.itoa n, ()))
def g_rdigitsOf_vc (n : Int) : Prop :=
  InI n ∧ ((0 : Int) = (0 : Int) ∧ Big (decide (n < (0 : Int))) (digs n.natAbs) ∧ (digs n.natAbs).length ≤ (1000000 : Nat)) ∧ (Lib.itoa (big (decide (n < (0 : Int))) (digs n.natAbs)), ()) = (Lib.itoa n, ())
theorem g_rdigitsOf_eq (n : Int) : g_rdigitsOf n = g_rdigitsOf_vc n := by kernel_rfl
theorem g_rdigitsOf_ok (n : Int) (h : InI n) : g_rdigitsOf_vc n := by
  have hl := digI_len h
  refine ⟨h, ⟨by trivial, Big_digs n, by omega⟩, ?_⟩
  rw [big_digs]
set_option maxRecDepth 20000 in
theorem rdigitsOf_pure (n : Int) (h : InI n) : Pure Tryz.prog 22 [.int .i64 n] (.str (Lib.itoa n)) :=
  Pure.of_g (E := env_rdigitsOf n) (ts := tsOf Tryz.f22) (ps := [.str]) (r := (Lib.itoa n, ())) (fn := Tryz.f22) (c := codeOf Tryz.f22) (specs_ok (P := Tryz.prog) rfl [sp_of, sp_text] [] rfl rfl) mixed Tryz.func22 rfl rfl (g := g_rdigitsOf n) (by delta g_rdigitsOf start0; first | with_reducible exact Eq.refl _ | exact Eq.refl _) (by rw [g_rdigitsOf_eq n]; exact g_rdigitsOf_ok n h)
noncomputable def q_rdigitsOf (n : Int) : Prop × V := (InI n, (.str (Lib.itoa n)))
noncomputable def sp_rdigitsOf : FSpec Tryz.prog where
  f := 22
  run := fun args => match args with
    | [.int .i64 n] => some (q_rdigitsOf n)
    | _ => none
  ok := fun args pre r h hp => by
    try dsimp only at h
    split at h
    · rename_i n
      have h := Option.some.inj h
      unfold q_rdigitsOf at h
      cases h
      exact (rdigitsOf_pure n hp).weak (.cons (Weak.refl _) .nil)
    · cases h

end Go.Proofs.YtemgelifnjefoaaGreatDoor
