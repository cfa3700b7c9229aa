/-
  Numerals: the walks.
-/
import Derived.Test.YtemgelifnjefoaaGreatDoorScan4
namespace Go.Proofs.YtemgelifnjefoaaGreatDoor
open Go.Vm

def mayF (d : Int) : Bool := decide (0 ≤ d) && decide (d ≤ 6)
noncomputable def env_may (d : Int) : Env where
  P := Tryz.prog
  ty := tys0
noncomputable def g_may (d : Int) : Prop := vc (env_may d) (codeOf Tryz.f50) (start0 Tryz.f50 [.int .i64 d]) (exitK (tsOf Tryz.f50) [.bool] (mayF d, ()))
def g_may_vc (d : Int) : Prop :=
  (decide ((0 : Int) ≤ d) = true → (decide (d ≤ (6 : Int)), ()) = (mayF d, ())) ∧ (decide ((0 : Int) ≤ d) = !true → (false, ()) = (mayF d, ()))
theorem g_may_eq (d : Int) : g_may d = g_may_vc d := by kernel_rfl
theorem g_may_ok (d : Int) : g_may_vc d := by
  unfold g_may_vc mayF
  refine ⟨fun h => ?_, fun h => ?_⟩
  · rw [h]
    rfl
  · rw [h]
    rfl
set_option maxRecDepth 20000 in
theorem may_pure (d : Int) : Pure Tryz.prog 50 [.int .i64 d] (.bool (mayF d)) :=
  Pure.of_g (E := env_may d) (ts := tsOf Tryz.f50) (ps := [.bool]) (r := (mayF d, ())) (fn := Tryz.f50) (c := codeOf Tryz.f50) (specs_ok (P := Tryz.prog) rfl [] [] rfl rfl) mixed Tryz.func50 rfl rfl (g := g_may d) (by delta g_may start0; first | with_reducible exact Eq.refl _ | exact Eq.refl _) (by rw [g_may_eq d]; exact g_may_ok d)
noncomputable def q_may (d : Int) : Prop × V := (True, (.bool (mayF d)))
noncomputable def sp_may : FSpec Tryz.prog where
  f := 50
  run := fun args => match args with
    | [.int .i64 d] => some (q_may d)
    | _ => none
  ok := fun args pre r h hp => by
    try dsimp only at h
    split at h
    · rename_i d
      have h := Option.some.inj h
      unfold q_may at h
      cases h
      exact (may_pure d).weak (.cons (Weak.refl _) .nil)
    · cases h

def parseF (s : By) : Int × Int := if Lib.itoa (pzs s) = s then (intB (pzs s), faultB (pzs s)) else (0, 5)
noncomputable def env_parse (s : By) (d : Int) : Env where
  P := Tryz.prog
  ty := tys0
  specs := specsOf [sp_may, sp_of, sp_times, sp_bplus, sp_flip, sp_text, sp_told]
  frz := fun | 28 => true | 29 => true | 35 => true | 36 => true | 46 => true | 49 => true | 53 => true | _ => false
  heads := fun
    | 5 => some { slots := [(7, .int .i64)], boxes := [(6, [.bool, .list .part I])], inv := fun _ (x : Int × Bool × List Int × Unit) => 0 ≤ x.1 ∧ x.1 ≤ s.length ∧ x.2.1 = decide (pz (s.take x.1.toNat) < 0) ∧ x.2.2.1 = digs (pz (s.take x.1.toNat)).natAbs, measure := fun _ (x : Int × Bool × List Int × Unit) => (s.length - x.1).toNat }
    | _ => none
noncomputable def g_parse (s : By) (d : Int) : Prop := vc (env_parse s d) (codeOf Tryz.f38) (start0 Tryz.f38 [.str s, .int .i64 d]) (exitK (tsOf Tryz.f38) [.int .i64, .int .i64] ((parseF s).1, (parseF s).2, ()))
def g_parse_vc (s : By) (d : Int) : Prop :=
  True ∧ ((!mayF d) = true → ((0 : Int), (2 : Int), ()) = ((parseF s).fst, (parseF s).snd, ())) ∧ ((!mayF d) = false → (True ∧ (0 : Int) ≤ (0 : Int) ∧ (0 : Int) ≤ (↑(List.length s) : Int) ∧ false = decide (pz (List.take (Int.toNat (0 : Int)) s) < (0 : Int)) ∧ [] = digs (pz (List.take (Int.toNat (0 : Int)) s)).natAbs) ∧ ∀ (x : Int × Bool × List Int × Unit), (0 : Int) ≤ x.fst ∧ x.fst ≤ (↑(List.length s) : Int) ∧ x.snd.fst = decide (pz (List.take x.fst.toNat s) < (0 : Int)) ∧ x.snd.snd.fst = digs (pz (List.take x.fst.toNat s)).natAbs → (decide (x.fst < (↑(List.length s) : Int)) = true → ((0 : Int) ≤ x.fst ∧ x.fst < (↑(List.length s) : Int)) ∧ ∀ (c : UInt8), s[x.fst.toNat]? = some c → (decide ((48 : Int) ≤ (↑c.toNat : Int)) = true → ((0 : Int) ≤ x.fst ∧ x.fst < (↑(List.length s) : Int)) ∧ ∀ (c : UInt8), s[x.fst.toNat]? = some c → (decide ((↑c.toNat : Int) ≤ (57 : Int)) = true → InI (10 : Int) ∧ (Big x.snd.fst x.snd.snd.fst ∧ Big (decide ((10 : Int) < (0 : Int))) (digs (Int.natAbs (10 : Int))) ∧ x.snd.snd.fst.length ≤ (100000 : Nat) ∧ (digs (Int.natAbs (10 : Int))).length ≤ (100000 : Nat)) ∧ ((0 : Int) ≤ x.fst ∧ x.fst < (↑(List.length s) : Int)) ∧ ∀ (c : UInt8), s[x.fst.toNat]? = some c → ((-9223372036854775808 : Int) ≤ (↑c.toNat : Int) ∧ (↑c.toNat : Int) ≤ (9223372036854775807 : Int)) ∧ ((-9223372036854775808 : Int) ≤ (↑c.toNat : Int) - (48 : Int) ∧ (↑c.toNat : Int) - (48 : Int) ≤ (9223372036854775807 : Int)) ∧ InI ((↑c.toNat : Int) - (48 : Int)) ∧ (Big (decide (big x.snd.fst x.snd.snd.fst * big (decide ((10 : Int) < (0 : Int))) (digs (Int.natAbs (10 : Int))) < (0 : Int))) (digs (big x.snd.fst x.snd.snd.fst * big (decide ((10 : Int) < (0 : Int))) (digs (Int.natAbs (10 : Int)))).natAbs) ∧ Big (decide ((↑c.toNat : Int) - (48 : Int) < (0 : Int))) (digs ((↑c.toNat : Int) - (48 : Int)).natAbs) ∧ (digs (big x.snd.fst x.snd.snd.fst * big (decide ((10 : Int) < (0 : Int))) (digs (Int.natAbs (10 : Int)))).natAbs).length ≤ (1000000 : Nat) ∧ (digs ((↑c.toNat : Int) - (48 : Int)).natAbs).length ≤ (1000000 : Nat)) ∧ ((-9223372036854775808 : Int) ≤ x.fst + (1 : Int) ∧ x.fst + (1 : Int) ≤ (9223372036854775807 : Int)) ∧ True ∧ ((0 : Int) ≤ x.fst + (1 : Int) ∧ x.fst + (1 : Int) ≤ (↑(List.length s) : Int) ∧ decide (big (decide (big x.snd.fst x.snd.snd.fst * big (decide ((10 : Int) < (0 : Int))) (digs (Int.natAbs (10 : Int))) < (0 : Int))) (digs (big x.snd.fst x.snd.snd.fst * big (decide ((10 : Int) < (0 : Int))) (digs (Int.natAbs (10 : Int)))).natAbs) + big (decide ((↑c.toNat : Int) - (48 : Int) < (0 : Int))) (digs ((↑c.toNat : Int) - (48 : Int)).natAbs) < (0 : Int)) = decide (pz (List.take (x.fst + (1 : Int)).toNat s) < (0 : Int)) ∧ digs (big (decide (big x.snd.fst x.snd.snd.fst * big (decide ((10 : Int) < (0 : Int))) (digs (Int.natAbs (10 : Int))) < (0 : Int))) (digs (big x.snd.fst x.snd.snd.fst * big (decide ((10 : Int) < (0 : Int))) (digs (Int.natAbs (10 : Int)))).natAbs) + big (decide ((↑c.toNat : Int) - (48 : Int) < (0 : Int))) (digs ((↑c.toNat : Int) - (48 : Int)).natAbs)).natAbs = digs (pz (List.take (x.fst + (1 : Int)).toNat s)).natAbs) ∧ ((↑(List.length s) : Int) - (x.fst + (1 : Int))).toNat < ((↑(List.length s) : Int) - x.fst).toNat) ∧ (decide ((↑c.toNat : Int) ≤ (57 : Int)) = false → ((-9223372036854775808 : Int) ≤ x.fst + (1 : Int) ∧ x.fst + (1 : Int) ≤ (9223372036854775807 : Int)) ∧ True ∧ ((0 : Int) ≤ x.fst + (1 : Int) ∧ x.fst + (1 : Int) ≤ (↑(List.length s) : Int) ∧ x.snd.fst = decide (pz (List.take (x.fst + (1 : Int)).toNat s) < (0 : Int)) ∧ x.snd.snd.fst = digs (pz (List.take (x.fst + (1 : Int)).toNat s)).natAbs) ∧ ((↑(List.length s) : Int) - (x.fst + (1 : Int))).toNat < ((↑(List.length s) : Int) - x.fst).toNat)) ∧ (decide ((48 : Int) ≤ (↑c.toNat : Int)) = !true → ((-9223372036854775808 : Int) ≤ x.fst + (1 : Int) ∧ x.fst + (1 : Int) ≤ (9223372036854775807 : Int)) ∧ True ∧ ((0 : Int) ≤ x.fst + (1 : Int) ∧ x.fst + (1 : Int) ≤ (↑(List.length s) : Int) ∧ x.snd.fst = decide (pz (List.take (x.fst + (1 : Int)).toNat s) < (0 : Int)) ∧ x.snd.snd.fst = digs (pz (List.take (x.fst + (1 : Int)).toNat s)).natAbs) ∧ ((↑(List.length s) : Int) - (x.fst + (1 : Int))).toNat < ((↑(List.length s) : Int) - x.fst).toNat)) ∧ (decide (x.fst < (↑(List.length s) : Int)) = false → (decide ((0 : Int) < (↑(List.length s) : Int)) = true → ((0 : Int) ≤ (0 : Int) ∧ (0 : Int) < (↑(List.length s) : Int)) ∧ ∀ (c : UInt8), s[Int.toNat (0 : Int)]? = some c → (decide ((↑c.toNat : Int) = (45 : Int)) = true → Big x.snd.fst x.snd.snd.fst ∧ (d = (0 : Int) ∧ Big (decide ((0 : Int) - big x.snd.fst x.snd.snd.fst < (0 : Int))) (digs ((0 : Int) - big x.snd.fst x.snd.snd.fst).natAbs) ∧ (digs ((0 : Int) - big x.snd.fst x.snd.snd.fst).natAbs).length ≤ (1000000 : Nat)) ∧ ((!decide (Lib.itoa (big (decide ((0 : Int) - big x.snd.fst x.snd.snd.fst < (0 : Int))) (digs ((0 : Int) - big x.snd.fst x.snd.snd.fst).natAbs)) = s)) = true → ((0 : Int), (5 : Int), ()) = ((parseF s).fst, (parseF s).snd, ())) ∧ ((!decide (Lib.itoa (big (decide ((0 : Int) - big x.snd.fst x.snd.snd.fst < (0 : Int))) (digs ((0 : Int) - big x.snd.fst x.snd.snd.fst).natAbs)) = s)) = false → (Big (decide ((0 : Int) - big x.snd.fst x.snd.snd.fst < (0 : Int))) (digs ((0 : Int) - big x.snd.fst x.snd.snd.fst).natAbs) ∧ (digs ((0 : Int) - big x.snd.fst x.snd.snd.fst).natAbs).length ≤ (1000000 : Nat)) ∧ (intB (big (decide ((0 : Int) - big x.snd.fst x.snd.snd.fst < (0 : Int))) (digs ((0 : Int) - big x.snd.fst x.snd.snd.fst).natAbs)), faultB (big (decide ((0 : Int) - big x.snd.fst x.snd.snd.fst < (0 : Int))) (digs ((0 : Int) - big x.snd.fst x.snd.snd.fst).natAbs)), ()) = ((parseF s).fst, (parseF s).snd, ()))) ∧ (decide ((↑c.toNat : Int) = (45 : Int)) = false → (d = (0 : Int) ∧ Big x.snd.fst x.snd.snd.fst ∧ x.snd.snd.fst.length ≤ (1000000 : Nat)) ∧ ((!decide (Lib.itoa (big x.snd.fst x.snd.snd.fst) = s)) = true → ((0 : Int), (5 : Int), ()) = ((parseF s).fst, (parseF s).snd, ())) ∧ ((!decide (Lib.itoa (big x.snd.fst x.snd.snd.fst) = s)) = false → (Big x.snd.fst x.snd.snd.fst ∧ x.snd.snd.fst.length ≤ (1000000 : Nat)) ∧ (intB (big x.snd.fst x.snd.snd.fst), faultB (big x.snd.fst x.snd.snd.fst), ()) = ((parseF s).fst, (parseF s).snd, ())))) ∧ (decide ((0 : Int) < (↑(List.length s) : Int)) = !true → (d = (0 : Int) ∧ Big x.snd.fst x.snd.snd.fst ∧ x.snd.snd.fst.length ≤ (1000000 : Nat)) ∧ ((!decide (Lib.itoa (big x.snd.fst x.snd.snd.fst) = s)) = true → ((0 : Int), (5 : Int), ()) = ((parseF s).fst, (parseF s).snd, ())) ∧ ((!decide (Lib.itoa (big x.snd.fst x.snd.snd.fst) = s)) = false → (Big x.snd.fst x.snd.snd.fst ∧ x.snd.snd.fst.length ≤ (1000000 : Nat)) ∧ (intB (big x.snd.fst x.snd.snd.fst), faultB (big x.snd.fst x.snd.snd.fst), ()) = ((parseF s).fst, (parseF s).snd, ())))))
theorem g_parse_eq (s : By) (d : Int) : g_parse s d = g_parse_vc s d := by kernel_rfl
theorem parseF_bad {s : By} (h : ¬ Lib.itoa (pzs s) = s) : parseF s = (0, 5) := by unfold parseF; rw [if_neg h]
theorem parseF_ok {s : By} (h : Lib.itoa (pzs s) = s) : parseF s = (intB (pzs s), faultB (pzs s)) := by unfold parseF; rw [if_pos h]
theorem pz10_len (s : By) : (digs (pz s * 10).natAbs).length ≤ s.length + 1 := by
  obtain ⟨h1, h2⟩ := pz_bound s
  refine digs_len ?_
  have h3 : ((10 ^ (s.length + 1) : Nat) : Int) = 10 ^ s.length * 10 := by rw [Int.natCast_pow, Int.pow_succ]; rfl
  omega
theorem g_parse_ok (s : By) (d : Int) (h : d = 0 ∧ s.length ≤ 10000) : g_parse_vc s d := by
  obtain ⟨rfl, hl⟩ := h
  have hm : mayF 0 = true := rfl
  unfold g_parse_vc
  rw [hm]
  refine ⟨trivial, fun c => (by cases c), fun _ => ⟨⟨trivial, by omega, by omega, by simp [pz], by simp [pz, digs_zero]⟩, fun x hx => ?_⟩⟩
  obtain ⟨i, b, D, ⟨⟩⟩ := x
  obtain ⟨x1, x2, x3, x4⟩ := hx
  dsimp only at x1 x2 x3 x4 ⊢
  rw [x3, x4]
  clear x3 x4
  have hz := pz_bound (s.take i.toNat)
  have hzl := pz_len (s.take i.toNat)
  have htl : (s.take i.toNat).length ≤ 10000 := by rw [List.length_take]; omega
  have h10 := pz10_len (s.take i.toNat)
  have hb10 : (digs (Int.natAbs 10)).length ≤ 100000 := Nat.le_trans (digI_len (n := 10) ⟨by decide, by decide⟩) (by omega)
  simp only [decide_eq_true_eq, decide_eq_false_iff_not, Bool.not_eq_true', Bool.not_eq_false', Bool.not_true]
  simp only [big_digs]
  refine ⟨fun c => ⟨⟨x1, c⟩, fun q hq => ⟨fun d => ⟨⟨x1, c⟩, fun q2 hq2 => ⟨fun e => ?_, fun e => ?_⟩⟩, fun d => ?_⟩⟩, fun c => ?_⟩
  · rw [hq] at hq2
    cases hq2
    have hdig : isDig q = true := isDig_iff.2 (by omega)
    have hlt := q.toNat_lt
    have hin : InI ((q.toNat : Int) - 48) := ⟨by omega, by omega⟩
    refine ⟨⟨by decide, by decide⟩, ⟨Big_digs _, Big_digs _, by omega, hb10⟩, ⟨x1, c⟩, fun q3 hq3 => ?_⟩
    rw [hq] at hq3
    cases hq3
    have hp : pz (s.take (i + 1).toNat) = pz (s.take i.toNat) * 10 + ((q.toNat : Int) - 48) := by
      rw [toNat_next x1, pz_take hq]
      unfold pzStep
      rw [if_pos hdig]
    rw [hp]
    exact ⟨by omega, by omega, hin, ⟨Big_digs _, Big_digs _, by omega, Nat.le_trans (digI_len hin) (by omega)⟩, by omega, trivial, ⟨by omega, by omega, rfl, rfl⟩, by omega⟩
  · rw [hq] at hq2
    cases hq2
    have hp : pz (s.take (i + 1).toNat) = pz (s.take i.toNat) := by
      rw [toNat_next x1, pz_take hq]
      unfold pzStep
      rw [if_neg (fun k => by have := isDig_iff.1 k; omega)]
    rw [hp]
    exact ⟨by omega, trivial, ⟨by omega, by omega, rfl, rfl⟩, by omega⟩
  · have hp : pz (s.take (i + 1).toNat) = pz (s.take i.toNat) := by
      rw [toNat_next x1, pz_take hq]
      unfold pzStep
      rw [if_neg (fun k => by have := isDig_iff.1 k; omega)]
    rw [hp]
    exact ⟨by omega, trivial, ⟨by omega, by omega, rfl, rfl⟩, by omega⟩
  · have he : s.take i.toNat = s := List.take_of_length_le (by omega)
    rw [he] at hz hzl ⊢
    have hnl : (digs (0 - pz s).natAbs).length ≤ 1000000 := by
      rw [show (0 - pz s).natAbs = (pz s).natAbs by omega]
      omega
    refine ⟨fun d => ⟨⟨by omega, d⟩, fun q hq => ⟨fun e => ?_, fun e => ?_⟩⟩, fun d => ?_⟩
    · have hh : s.head? = some 45 := by
        rw [List.head?_eq_getElem?]
        rw [show (45 : UInt8) = q from (u8_ext (by rw [e]; rfl)).symm]
        exact hq
      have hp : pzs s = 0 - pz s := by unfold pzs; rw [if_pos hh]
      rw [← hp] at hnl ⊢
      refine ⟨Big_digs _, ⟨by trivial, Big_digs _, hnl⟩, fun k => ?_, fun k => ⟨⟨Big_digs _, hnl⟩, ?_⟩⟩
      · rw [parseF_bad k]
      · rw [parseF_ok k]
    · have hh : ¬ s.head? = some 45 := by
        rw [List.head?_eq_getElem?]
        intro k
        have := hq.symm.trans k
        cases this
        exact e rfl
      have hp : pzs s = pz s := by unfold pzs; rw [if_neg hh]
      have hpl : (digs (pz s).natAbs).length ≤ 1000000 := by omega
      rw [← hp] at hpl ⊢
      refine ⟨⟨by trivial, Big_digs _, hpl⟩, fun k => ?_, fun k => ⟨⟨Big_digs _, hpl⟩, ?_⟩⟩
      · rw [parseF_bad k]
      · rw [parseF_ok k]
    · have hh : ¬ s.head? = some 45 := by
        have : s = [] := List.eq_nil_of_length_eq_zero (by omega)
        rw [this]
        simp
      have hp : pzs s = pz s := by unfold pzs; rw [if_neg hh]
      have hpl : (digs (pz s).natAbs).length ≤ 1000000 := by omega
      rw [← hp] at hpl ⊢
      refine ⟨⟨by trivial, Big_digs _, hpl⟩, fun k => ?_, fun k => ⟨⟨Big_digs _, hpl⟩, ?_⟩⟩
      · rw [parseF_bad k]
      · rw [parseF_ok k]
set_option maxRecDepth 20000 in
theorem parse_pure (s : By) (d : Int) (h : d = 0 ∧ s.length ≤ 10000) : Pure Tryz.prog 38 [.str s, .int .i64 d] (.tuple [.int .i64 (parseF s).1, .int .i64 (parseF s).2]) :=
  Pure.of_g (E := env_parse s d) (ts := tsOf Tryz.f38) (ps := [.int .i64, .int .i64]) (r := ((parseF s).1, (parseF s).2, ())) (fn := Tryz.f38) (c := codeOf Tryz.f38) (specs_ok (P := Tryz.prog) rfl [sp_may, sp_of, sp_times, sp_bplus, sp_flip, sp_text, sp_told] [] rfl rfl) mixed Tryz.func38 rfl rfl (g := g_parse s d) (by delta g_parse start0; first | with_reducible exact Eq.refl _ | exact Eq.refl _) (by rw [g_parse_eq s d]; exact g_parse_ok s d h)
noncomputable def q_parse (s : By) (d : Int) : Prop × V := (d = 0 ∧ s.length ≤ 10000, (.tuple [.int .i64 (parseF s).1, .int .i64 (parseF s).2]))
noncomputable def sp_parse : FSpec Tryz.prog where
  f := 38
  run := fun args => match args with
    | [.str s, .int .i64 d] => some (q_parse s d)
    | _ => none
  ok := fun args pre r h hp => by
    try dsimp only at h
    split at h
    · rename_i s d
      have h := Option.some.inj h
      unfold q_parse at h
      cases h
      exact (parse_pure s d hp).weak (.cons (Weak.refl _) (.cons (Weak.refl _) .nil))
    · cases h

def inR (z lo hi : Int) : Bool := decide (-9223372036854775808 ≤ z ∧ z ≤ 9223372036854775807 ∧ lo ≤ z ∧ z ≤ hi)
def numF (s : By) (a lo hi : Int) : Int × Int × Int :=
  if a < 0 ∨ (s.length : Int) < a then (0, 0, 2) else if Lib.trimPrefix (s.drop a.toNat) [45] = [] then (0, 0, 4) else
    if runF (Lib.trimPrefix (s.drop a.toNat) [45]) = 0 ∨ ((Lib.trimPrefix (s.drop a.toNat) [45]).head? = some 48 ∧ (1 < runF (Lib.trimPrefix (s.drop a.toNat) [45]) ∨ Lib.hasPrefix (s.drop a.toNat) [45] = true)) then (0, 0, 5) else
      if inR (pzs ((s.drop a.toNat).take (wideF (s.drop a.toNat)).toNat)) lo hi then (pzs ((s.drop a.toNat).take (wideF (s.drop a.toNat)).toNat), a + wideF (s.drop a.toNat), 0) else (0, 0, 7)
noncomputable def env_num (s : By) (a lo hi : Int) : Env where
  P := Tryz.prog
  ty := tys0
  specs := specsOf [sp_from, sp_cutPrefix, sp_run, sp_atoi]
noncomputable def g_num (s : By) (a lo hi : Int) : Prop := vc (env_num s a lo hi) (codeOf Tryz.f37) (start0 Tryz.f37 [.str s, .int .i64 a, .int .i64 lo, .int .i64 hi]) (exitK (tsOf Tryz.f37) [.int .i64, .int .i64, .int .i64] ((numF s a lo hi).1, (numF s a lo hi).2.1, (numF s a lo hi).2.2, ()))
def g_num_vc (s : By) (a : Int) (lo : Int) (hi : Int) : Prop :=
  True ∧ ((!(fromF s a).snd) = true → ((0 : Int), (0 : Int), (2 : Int), ()) = ((numF s a lo hi).fst, (numF s a lo hi).snd.fst, (numF s a lo hi).snd.snd, ())) ∧ ((!(fromF s a).snd) = false → True ∧ (Lib.trimPrefix (fromF s a).fst [(45 : UInt8)]).length ≤ (1000000 : Nat) ∧ (decide ((↑(Lib.trimPrefix (fromF s a).fst [(45 : UInt8)]).length : Int) = (0 : Int)) = true → ((0 : Int), (0 : Int), (4 : Int), ()) = ((numF s a lo hi).fst, (numF s a lo hi).snd.fst, (numF s a lo hi).snd.snd, ())) ∧ (decide ((↑(Lib.trimPrefix (fromF s a).fst [(45 : UInt8)]).length : Int) = (0 : Int)) = false → (decide (runF (Lib.trimPrefix (fromF s a).fst [(45 : UInt8)]) = (0 : Int)) = false → ((0 : Int) ≤ (0 : Int) ∧ (0 : Int) < (↑(Lib.trimPrefix (fromF s a).fst [(45 : UInt8)]).length : Int)) ∧ ∀ (c : UInt8), (Lib.trimPrefix (fromF s a).fst [(45 : UInt8)])[Int.toNat (0 : Int)]? = some c → (decide ((↑c.toNat : Int) = (48 : Int)) = true → (decide ((1 : Int) < runF (Lib.trimPrefix (fromF s a).fst [(45 : UInt8)])) = false → (Lib.hasPrefix (fromF s a).fst [(45 : UInt8)] = true → ((0 : Int), (0 : Int), (5 : Int), ()) = ((numF s a lo hi).fst, (numF s a lo hi).snd.fst, (numF s a lo hi).snd.snd, ())) ∧ (Lib.hasPrefix (fromF s a).fst [(45 : UInt8)] = false → ((-9223372036854775808 : Int) ≤ (↑(List.length (fromF s a).fst) : Int) - (↑(Lib.trimPrefix (fromF s a).fst [(45 : UInt8)]).length : Int) ∧ (↑(List.length (fromF s a).fst) : Int) - (↑(Lib.trimPrefix (fromF s a).fst [(45 : UInt8)]).length : Int) ≤ (9223372036854775807 : Int)) ∧ ((-9223372036854775808 : Int) ≤ (↑(List.length (fromF s a).fst) : Int) - (↑(Lib.trimPrefix (fromF s a).fst [(45 : UInt8)]).length : Int) + runF (Lib.trimPrefix (fromF s a).fst [(45 : UInt8)]) ∧ (↑(List.length (fromF s a).fst) : Int) - (↑(Lib.trimPrefix (fromF s a).fst [(45 : UInt8)]).length : Int) + runF (Lib.trimPrefix (fromF s a).fst [(45 : UInt8)]) ≤ (9223372036854775807 : Int)) ∧ ((0 : Int) ≤ (↑(List.length (fromF s a).fst) : Int) - (↑(Lib.trimPrefix (fromF s a).fst [(45 : UInt8)]).length : Int) + runF (Lib.trimPrefix (fromF s a).fst [(45 : UInt8)]) ∧ (↑(List.length (fromF s a).fst) : Int) - (↑(Lib.trimPrefix (fromF s a).fst [(45 : UInt8)]).length : Int) + runF (Lib.trimPrefix (fromF s a).fst [(45 : UInt8)]) ≤ (↑(List.length (fromF s a).fst) : Int)) ∧ (List.take ((↑(List.length (fromF s a).fst) : Int) - (↑(Lib.trimPrefix (fromF s a).fst [(45 : UInt8)]).length : Int) + runF (Lib.trimPrefix (fromF s a).fst [(45 : UInt8)])).toNat (fromF s a).fst).length ≤ (281474976710656 : Nat) ∧ ((!!atoiE (List.take ((↑(List.length (fromF s a).fst) : Int) - (↑(Lib.trimPrefix (fromF s a).fst [(45 : UInt8)]).length : Int) + runF (Lib.trimPrefix (fromF s a).fst [(45 : UInt8)])).toNat (fromF s a).fst)) = false → (decide (atoiV (List.take ((↑(List.length (fromF s a).fst) : Int) - (↑(Lib.trimPrefix (fromF s a).fst [(45 : UInt8)]).length : Int) + runF (Lib.trimPrefix (fromF s a).fst [(45 : UInt8)])).toNat (fromF s a).fst) < lo) = false → (decide (hi < atoiV (List.take ((↑(List.length (fromF s a).fst) : Int) - (↑(Lib.trimPrefix (fromF s a).fst [(45 : UInt8)]).length : Int) + runF (Lib.trimPrefix (fromF s a).fst [(45 : UInt8)])).toNat (fromF s a).fst)) = true → ((0 : Int), (0 : Int), (7 : Int), ()) = ((numF s a lo hi).fst, (numF s a lo hi).snd.fst, (numF s a lo hi).snd.snd, ())) ∧ (decide (hi < atoiV (List.take ((↑(List.length (fromF s a).fst) : Int) - (↑(Lib.trimPrefix (fromF s a).fst [(45 : UInt8)]).length : Int) + runF (Lib.trimPrefix (fromF s a).fst [(45 : UInt8)])).toNat (fromF s a).fst)) = false → ((-9223372036854775808 : Int) ≤ a + ((↑(List.length (fromF s a).fst) : Int) - (↑(Lib.trimPrefix (fromF s a).fst [(45 : UInt8)]).length : Int) + runF (Lib.trimPrefix (fromF s a).fst [(45 : UInt8)])) ∧ a + ((↑(List.length (fromF s a).fst) : Int) - (↑(Lib.trimPrefix (fromF s a).fst [(45 : UInt8)]).length : Int) + runF (Lib.trimPrefix (fromF s a).fst [(45 : UInt8)])) ≤ (9223372036854775807 : Int)) ∧ (atoiV (List.take ((↑(List.length (fromF s a).fst) : Int) - (↑(Lib.trimPrefix (fromF s a).fst [(45 : UInt8)]).length : Int) + runF (Lib.trimPrefix (fromF s a).fst [(45 : UInt8)])).toNat (fromF s a).fst), a + ((↑(List.length (fromF s a).fst) : Int) - (↑(Lib.trimPrefix (fromF s a).fst [(45 : UInt8)]).length : Int) + runF (Lib.trimPrefix (fromF s a).fst [(45 : UInt8)])), (0 : Int), ()) = ((numF s a lo hi).fst, (numF s a lo hi).snd.fst, (numF s a lo hi).snd.snd, ()))) ∧ (decide (atoiV (List.take ((↑(List.length (fromF s a).fst) : Int) - (↑(Lib.trimPrefix (fromF s a).fst [(45 : UInt8)]).length : Int) + runF (Lib.trimPrefix (fromF s a).fst [(45 : UInt8)])).toNat (fromF s a).fst) < lo) = !false → ((0 : Int), (0 : Int), (7 : Int), ()) = ((numF s a lo hi).fst, (numF s a lo hi).snd.fst, (numF s a lo hi).snd.snd, ()))) ∧ ((!!atoiE (List.take ((↑(List.length (fromF s a).fst) : Int) - (↑(Lib.trimPrefix (fromF s a).fst [(45 : UInt8)]).length : Int) + runF (Lib.trimPrefix (fromF s a).fst [(45 : UInt8)])).toNat (fromF s a).fst)) = !false → ((0 : Int), (0 : Int), (7 : Int), ()) = ((numF s a lo hi).fst, (numF s a lo hi).snd.fst, (numF s a lo hi).snd.snd, ())))) ∧ (decide ((1 : Int) < runF (Lib.trimPrefix (fromF s a).fst [(45 : UInt8)])) = !false → ((0 : Int), (0 : Int), (5 : Int), ()) = ((numF s a lo hi).fst, (numF s a lo hi).snd.fst, (numF s a lo hi).snd.snd, ()))) ∧ (decide ((↑c.toNat : Int) = (48 : Int)) = !true → ((-9223372036854775808 : Int) ≤ (↑(List.length (fromF s a).fst) : Int) - (↑(Lib.trimPrefix (fromF s a).fst [(45 : UInt8)]).length : Int) ∧ (↑(List.length (fromF s a).fst) : Int) - (↑(Lib.trimPrefix (fromF s a).fst [(45 : UInt8)]).length : Int) ≤ (9223372036854775807 : Int)) ∧ ((-9223372036854775808 : Int) ≤ (↑(List.length (fromF s a).fst) : Int) - (↑(Lib.trimPrefix (fromF s a).fst [(45 : UInt8)]).length : Int) + runF (Lib.trimPrefix (fromF s a).fst [(45 : UInt8)]) ∧ (↑(List.length (fromF s a).fst) : Int) - (↑(Lib.trimPrefix (fromF s a).fst [(45 : UInt8)]).length : Int) + runF (Lib.trimPrefix (fromF s a).fst [(45 : UInt8)]) ≤ (9223372036854775807 : Int)) ∧ ((0 : Int) ≤ (↑(List.length (fromF s a).fst) : Int) - (↑(Lib.trimPrefix (fromF s a).fst [(45 : UInt8)]).length : Int) + runF (Lib.trimPrefix (fromF s a).fst [(45 : UInt8)]) ∧ (↑(List.length (fromF s a).fst) : Int) - (↑(Lib.trimPrefix (fromF s a).fst [(45 : UInt8)]).length : Int) + runF (Lib.trimPrefix (fromF s a).fst [(45 : UInt8)]) ≤ (↑(List.length (fromF s a).fst) : Int)) ∧ (List.take ((↑(List.length (fromF s a).fst) : Int) - (↑(Lib.trimPrefix (fromF s a).fst [(45 : UInt8)]).length : Int) + runF (Lib.trimPrefix (fromF s a).fst [(45 : UInt8)])).toNat (fromF s a).fst).length ≤ (281474976710656 : Nat) ∧ ((!!atoiE (List.take ((↑(List.length (fromF s a).fst) : Int) - (↑(Lib.trimPrefix (fromF s a).fst [(45 : UInt8)]).length : Int) + runF (Lib.trimPrefix (fromF s a).fst [(45 : UInt8)])).toNat (fromF s a).fst)) = false → (decide (atoiV (List.take ((↑(List.length (fromF s a).fst) : Int) - (↑(Lib.trimPrefix (fromF s a).fst [(45 : UInt8)]).length : Int) + runF (Lib.trimPrefix (fromF s a).fst [(45 : UInt8)])).toNat (fromF s a).fst) < lo) = false → (decide (hi < atoiV (List.take ((↑(List.length (fromF s a).fst) : Int) - (↑(Lib.trimPrefix (fromF s a).fst [(45 : UInt8)]).length : Int) + runF (Lib.trimPrefix (fromF s a).fst [(45 : UInt8)])).toNat (fromF s a).fst)) = true → ((0 : Int), (0 : Int), (7 : Int), ()) = ((numF s a lo hi).fst, (numF s a lo hi).snd.fst, (numF s a lo hi).snd.snd, ())) ∧ (decide (hi < atoiV (List.take ((↑(List.length (fromF s a).fst) : Int) - (↑(Lib.trimPrefix (fromF s a).fst [(45 : UInt8)]).length : Int) + runF (Lib.trimPrefix (fromF s a).fst [(45 : UInt8)])).toNat (fromF s a).fst)) = false → ((-9223372036854775808 : Int) ≤ a + ((↑(List.length (fromF s a).fst) : Int) - (↑(Lib.trimPrefix (fromF s a).fst [(45 : UInt8)]).length : Int) + runF (Lib.trimPrefix (fromF s a).fst [(45 : UInt8)])) ∧ a + ((↑(List.length (fromF s a).fst) : Int) - (↑(Lib.trimPrefix (fromF s a).fst [(45 : UInt8)]).length : Int) + runF (Lib.trimPrefix (fromF s a).fst [(45 : UInt8)])) ≤ (9223372036854775807 : Int)) ∧ (atoiV (List.take ((↑(List.length (fromF s a).fst) : Int) - (↑(Lib.trimPrefix (fromF s a).fst [(45 : UInt8)]).length : Int) + runF (Lib.trimPrefix (fromF s a).fst [(45 : UInt8)])).toNat (fromF s a).fst), a + ((↑(List.length (fromF s a).fst) : Int) - (↑(Lib.trimPrefix (fromF s a).fst [(45 : UInt8)]).length : Int) + runF (Lib.trimPrefix (fromF s a).fst [(45 : UInt8)])), (0 : Int), ()) = ((numF s a lo hi).fst, (numF s a lo hi).snd.fst, (numF s a lo hi).snd.snd, ()))) ∧ (decide (atoiV (List.take ((↑(List.length (fromF s a).fst) : Int) - (↑(Lib.trimPrefix (fromF s a).fst [(45 : UInt8)]).length : Int) + runF (Lib.trimPrefix (fromF s a).fst [(45 : UInt8)])).toNat (fromF s a).fst) < lo) = !false → ((0 : Int), (0 : Int), (7 : Int), ()) = ((numF s a lo hi).fst, (numF s a lo hi).snd.fst, (numF s a lo hi).snd.snd, ()))) ∧ ((!!atoiE (List.take ((↑(List.length (fromF s a).fst) : Int) - (↑(Lib.trimPrefix (fromF s a).fst [(45 : UInt8)]).length : Int) + runF (Lib.trimPrefix (fromF s a).fst [(45 : UInt8)])).toNat (fromF s a).fst)) = !false → ((0 : Int), (0 : Int), (7 : Int), ()) = ((numF s a lo hi).fst, (numF s a lo hi).snd.fst, (numF s a lo hi).snd.snd, ())))) ∧ (decide (runF (Lib.trimPrefix (fromF s a).fst [(45 : UInt8)]) = (0 : Int)) = !false → ((0 : Int), (0 : Int), (5 : Int), ()) = ((numF s a lo hi).fst, (numF s a lo hi).snd.fst, (numF s a lo hi).snd.snd, ()))))
theorem g_num_eq (s : By) (a lo hi : Int) : g_num s a lo hi = g_num_vc s a lo hi := by kernel_rfl
/-- The same, of what stands at the place. -/
def numR (r : By) (a lo hi : Int) : Int × Int × Int :=
  if Lib.trimPrefix r [45] = [] then (0, 0, 4) else
    if runF (Lib.trimPrefix r [45]) = 0 ∨ ((Lib.trimPrefix r [45]).head? = some 48 ∧ (1 < runF (Lib.trimPrefix r [45]) ∨ Lib.hasPrefix r [45] = true)) then (0, 0, 5) else
      if inR (pzs (r.take (wideF r).toNat)) lo hi then (pzs (r.take (wideF r).toNat), a + wideF r, 0) else (0, 0, 7)
theorem numF_bad {s : By} {a lo hi : Int} (h : a < 0 ∨ (s.length : Int) < a) : numF s a lo hi = (0, 0, 2) := by unfold numF; rw [if_pos h]
theorem numF_in {s : By} {a lo hi : Int} (h : ¬ (a < 0 ∨ (s.length : Int) < a)) : numF s a lo hi = numR (s.drop a.toNat) a lo hi := by unfold numF numR; rw [if_neg h]
theorem numR_short {r : By} {a lo hi : Int} (h : Lib.trimPrefix r [45] = []) : numR r a lo hi = (0, 0, 4) := by unfold numR; rw [if_pos h]
theorem numR_form {r : By} {a lo hi : Int} (h : ¬ Lib.trimPrefix r [45] = []) (k : runF (Lib.trimPrefix r [45]) = 0 ∨ ((Lib.trimPrefix r [45]).head? = some 48 ∧ (1 < runF (Lib.trimPrefix r [45]) ∨ Lib.hasPrefix r [45] = true))) : numR r a lo hi = (0, 0, 5) := by
  unfold numR; rw [if_neg h, if_pos k]
theorem numR_ok {r : By} {a lo hi : Int} (h : ¬ Lib.trimPrefix r [45] = []) (k : ¬ (runF (Lib.trimPrefix r [45]) = 0 ∨ ((Lib.trimPrefix r [45]).head? = some 48 ∧ (1 < runF (Lib.trimPrefix r [45]) ∨ Lib.hasPrefix r [45] = true)))) :
    numR r a lo hi = if inR (pzs (r.take (wideF r).toNat)) lo hi then (pzs (r.take (wideF r).toNat), a + wideF r, 0) else (0, 0, 7) := by
  unfold numR; rw [if_neg h, if_neg k]
theorem head_48 {b : By} {c : UInt8} (h : b[Int.toNat 0]? = some c) (e : (c.toNat : Int) = 48) : b.head? = some 48 := by
  rw [List.head?_eq_getElem?]
  rw [show (48 : UInt8) = c from (u8_ext (by rw [e]; rfl)).symm]
  exact h
theorem num_rest {t D : By} {w a lo hi : Int} {n : Int × Int × Int} (ht : Numl t D) (hw : -10000000 ≤ w ∧ w ≤ 10000000) (ha : -10000000 ≤ a ∧ a ≤ 10000000) (hn : n = if inR (pzs t) lo hi then (pzs t, a + w, 0) else (0, 0, 7)) :
    ((!!atoiE t) = false → (¬ atoiV t < lo → (hi < atoiV t → ((0 : Int), (0 : Int), (7 : Int), ()) = (n.1, n.2.1, n.2.2, ())) ∧ (¬ hi < atoiV t → (-9223372036854775808 ≤ a + w ∧ a + w ≤ 9223372036854775807) ∧ (atoiV t, a + w, (0 : Int), ()) = (n.1, n.2.1, n.2.2, ()))) ∧
      (atoiV t < lo → ((0 : Int), (0 : Int), (7 : Int), ()) = (n.1, n.2.1, n.2.2, ()))) ∧ ((!!atoiE t) = true → ((0 : Int), (0 : Int), (7 : Int), ()) = (n.1, n.2.1, n.2.2, ())) := by
  have hl := atoi_law ht
  unfold atoiE atoiV
  by_cases c : -9223372036854775808 ≤ pzs t ∧ pzs t ≤ 9223372036854775807
  · rw [if_pos c] at hl
    rw [hl]
    dsimp only
    refine ⟨fun _ => ⟨fun d => ⟨fun e => ?_, fun e => ⟨by omega, ?_⟩⟩, fun d => ?_⟩, fun d => by cases d⟩
    · rw [hn, if_neg (by unfold inR; rw [decide_eq_true_eq]; omega)]
    · rw [hn, if_pos (by unfold inR; rw [decide_eq_true_eq]; omega)]
    · rw [hn, if_neg (by unfold inR; rw [decide_eq_true_eq]; omega)]
  · rw [if_neg c] at hl
    rw [hl]
    dsimp only
    refine ⟨fun d => (by cases d), fun _ => ?_⟩
    rw [hn, if_neg (by unfold inR; rw [decide_eq_true_eq]; omega)]
theorem g_num_ok (s : By) (a lo hi : Int) (h : s.length ≤ 10000) : g_num_vc s a lo hi := by
  unfold g_num_vc
  by_cases c : a < 0 ∨ (s.length : Int) < a
  · rw [fromF_bad c, numF_bad c]
    exact ⟨trivial, fun _ => rfl, fun d => by cases d⟩
  · rw [fromF_good c]
    dsimp only
    have hrl : (s.drop a.toNat).length ≤ 10000 := by rw [List.length_drop]; omega
    have hnum := numF_in (s := s) (a := a) (lo := lo) (hi := hi) c
    generalize s.drop a.toNat = r at *
    rw [hnum]
    have htl : (Lib.trimPrefix r [45]).length ≤ r.length := by
      rw [trim_minus]
      split
      · rw [List.length_drop]; omega
      · omega
    simp only [decide_eq_true_eq, decide_eq_false_iff_not, Bool.not_false, Bool.not_true]
    refine ⟨trivial, fun d => (by cases d), fun _ => ⟨trivial, by omega, fun d => ?_, fun d => ⟨fun e => ⟨⟨by omega, by omega⟩, fun q hq => ⟨fun f => ⟨fun g => ⟨fun k => ?_, fun k => ?_⟩, fun g => ?_⟩, fun f => ?_⟩⟩, fun e => ?_⟩⟩⟩
    · rw [numR_short (List.eq_nil_of_length_eq_zero (by omega))]
    · rw [numR_form (fun w => d (by rw [w]; rfl)) (.inr ⟨head_48 hq f, .inr k⟩)]
    · have hcan : ¬ ((Lib.trimPrefix r [45]).head? = some 48 ∧ (1 < runF (Lib.trimPrefix r [45]) ∨ Lib.hasPrefix r [45] = true)) := by
        rintro ⟨_, w | w⟩
        · exact g w
        · rw [k] at w
          cases w
      obtain ⟨n1, _, n2, n3⟩ := wide_num e
      unfold wideF at n1 n2 n3
      refine ⟨by omega, by omega, by omega, by rw [List.length_take]; omega, num_rest n1 (by omega) (by omega) (numR_ok (fun w => d (by rw [w]; rfl)) (by rintro (w | w); exact e w; exact hcan w))⟩
    · rw [numR_form (fun w => d (by rw [w]; rfl)) (.inr ⟨head_48 hq f, .inl g⟩)]
    · have hcan : ¬ ((Lib.trimPrefix r [45]).head? = some 48 ∧ (1 < runF (Lib.trimPrefix r [45]) ∨ Lib.hasPrefix r [45] = true)) := by
        rintro ⟨w, _⟩
        rw [List.head?_eq_getElem?] at w
        have := hq.symm.trans w
        cases this
        exact f rfl
      obtain ⟨n1, _, n2, n3⟩ := wide_num e
      unfold wideF at n1 n2 n3
      refine ⟨by omega, by omega, by omega, by rw [List.length_take]; omega, num_rest n1 (by omega) (by omega) (numR_ok (fun w => d (by rw [w]; rfl)) (by rintro (w | w); exact e w; exact hcan w))⟩
    · rw [numR_form (fun w => d (by rw [w]; rfl)) (.inl e)]
set_option maxRecDepth 20000 in
theorem num_pure (s : By) (a lo hi : Int) (h : s.length ≤ 10000) : Pure Tryz.prog 37 [.str s, .int .i64 a, .int .i64 lo, .int .i64 hi] (.tuple [.int .i64 (numF s a lo hi).1, .int .i64 (numF s a lo hi).2.1, .int .i64 (numF s a lo hi).2.2]) :=
  Pure.of_g (E := env_num s a lo hi) (ts := tsOf Tryz.f37) (ps := [.int .i64, .int .i64, .int .i64]) (r := ((numF s a lo hi).1, (numF s a lo hi).2.1, (numF s a lo hi).2.2, ())) (fn := Tryz.f37) (c := codeOf Tryz.f37) (specs_ok (P := Tryz.prog) rfl [sp_from, sp_cutPrefix, sp_run, sp_atoi] [] rfl rfl) mixed Tryz.func37 rfl rfl (g := g_num s a lo hi) (by delta g_num start0; first | with_reducible exact Eq.refl _ | exact Eq.refl _) (by rw [g_num_eq s a lo hi]; exact g_num_ok s a lo hi h)
noncomputable def q_num (s : By) (a lo hi : Int) : Prop × V := (s.length ≤ 10000, (.tuple [.int .i64 (numF s a lo hi).1, .int .i64 (numF s a lo hi).2.1, .int .i64 (numF s a lo hi).2.2]))
noncomputable def sp_num : FSpec Tryz.prog where
  f := 37
  run := fun args => match args with
    | [.str s, .int .i64 a, .int .i64 lo, .int .i64 hi] => some (q_num s a lo hi)
    | _ => none
  ok := fun args pre r h hp => by
    try dsimp only at h
    split at h
    · rename_i s a lo hi
      have h := Option.some.inj h
      unfold q_num at h
      cases h
      exact (num_pure s a lo hi hp).weak (.cons (Weak.refl _) (.cons (Weak.refl _) (.cons (Weak.refl _) (.cons (Weak.refl _) .nil))))
    · cases h

def firstP (s : By) (a : Int) : Int := if s[a.toNat]? = some 45 then a + 1 else a
noncomputable def env_rnum (s : By) (a lo hi : Int) : Env where
  P := Tryz.prog
  ty := tys0
  specs := specsOf [sp_parse]
  heads := fun
    | 7 => some { slots := [(11, .int .i64)], boxes := [], inv := fun st (x : Int × Unit) => st.int 12 ≤ x.1 ∧ x.1 ≤ s.length ∧ runF (s.drop (st.int 12).toNat) = x.1 - st.int 12 + runF (s.drop x.1.toNat), measure := fun _ (x : Int × Unit) => (s.length - x.1).toNat }
    | _ => none
  joins := fun
    | 9 => some { slots := [(11, .int .i64)], boxes := [], inv := fun st (x : Int × Unit) => x.1 = st.int 12 + runF (s.drop (st.int 12).toNat) }
    | 6 => some { slots := [(11, .int .i64)], boxes := [], inv := fun _ (x : Int × Unit) => x.1 = firstP s a }
    | _ => none
noncomputable def g_rnum (s : By) (a lo hi : Int) : Prop := vc (env_rnum s a lo hi) (codeOf Tryz.f26) (start0 Tryz.f26 [.str s, .int .i64 a, .int .i64 lo, .int .i64 hi]) (exitK (tsOf Tryz.f26) [.int .i64, .int .i64, .int .i64] ((numF s a lo hi).1, (numF s a lo hi).2.1, (numF s a lo hi).2.2, ()))
def g_rnum_vc (s : By) (a : Int) (lo : Int) (hi : Int) : Prop :=
  (decide (a < (0 : Int)) = false → (decide ((↑(List.length s) : Int) < a) = true → ((0 : Int), (0 : Int), (2 : Int), ()) = ((numF s a lo hi).fst, (numF s a lo hi).snd.fst, (numF s a lo hi).snd.snd, ())) ∧ (decide ((↑(List.length s) : Int) < a) = false → ((decide (a < (↑(List.length s) : Int)) = true → ((0 : Int) ≤ a ∧ a < (↑(List.length s) : Int)) ∧ ∀ (c : UInt8), s[a.toNat]? = some c → (decide ((↑c.toNat : Int) = (45 : Int)) = true → ((-9223372036854775808 : Int) ≤ a + (1 : Int) ∧ a + (1 : Int) ≤ (9223372036854775807 : Int)) ∧ True ∧ a + (1 : Int) = firstP s a) ∧ (decide ((↑c.toNat : Int) = (45 : Int)) = false → True ∧ a = firstP s a)) ∧ (decide (a < (↑(List.length s) : Int)) = !true → True ∧ a = firstP s a)) ∧ ∀ (x : Int × Unit), x.fst = firstP s a → ((True ∧ x.fst ≤ x.fst ∧ x.fst ≤ (↑(List.length s) : Int) ∧ runF (List.drop x.fst.toNat s) = x.fst - x.fst + runF (List.drop x.fst.toNat s)) ∧ ∀ (x_1 : Int × Unit), x.fst ≤ x_1.fst ∧ x_1.fst ≤ (↑(List.length s) : Int) ∧ runF (List.drop x.fst.toNat s) = x_1.fst - x.fst + runF (List.drop x_1.fst.toNat s) → (decide (x_1.fst < (↑(List.length s) : Int)) = true → ((0 : Int) ≤ x_1.fst ∧ x_1.fst < (↑(List.length s) : Int)) ∧ ∀ (c : UInt8), s[x_1.fst.toNat]? = some c → (decide ((48 : Int) ≤ (↑c.toNat : Int)) = true → ((0 : Int) ≤ x_1.fst ∧ x_1.fst < (↑(List.length s) : Int)) ∧ ∀ (c : UInt8), s[x_1.fst.toNat]? = some c → (decide ((↑c.toNat : Int) ≤ (57 : Int)) = true → ((-9223372036854775808 : Int) ≤ x_1.fst + (1 : Int) ∧ x_1.fst + (1 : Int) ≤ (9223372036854775807 : Int)) ∧ True ∧ (x.fst ≤ x_1.fst + (1 : Int) ∧ x_1.fst + (1 : Int) ≤ (↑(List.length s) : Int) ∧ runF (List.drop x.fst.toNat s) = x_1.fst + (1 : Int) - x.fst + runF (List.drop (x_1.fst + (1 : Int)).toNat s)) ∧ ((↑(List.length s) : Int) - (x_1.fst + (1 : Int))).toNat < ((↑(List.length s) : Int) - x_1.fst).toNat) ∧ (decide ((↑c.toNat : Int) ≤ (57 : Int)) = false → True ∧ x_1.fst = x.fst + runF (List.drop x.fst.toNat s))) ∧ (decide ((48 : Int) ≤ (↑c.toNat : Int)) = !true → True ∧ x_1.fst = x.fst + runF (List.drop x.fst.toNat s))) ∧ (decide (x_1.fst < (↑(List.length s) : Int)) = !true → True ∧ x_1.fst = x.fst + runF (List.drop x.fst.toNat s))) ∧ ∀ (x_1 : Int × Unit), x_1.fst = x.fst + runF (List.drop x.fst.toNat s) → (decide (x_1.fst = x.fst) = true → (decide (x_1.fst = (↑(List.length s) : Int)) = true → ((0 : Int), (0 : Int), (4 : Int), ()) = ((numF s a lo hi).fst, (numF s a lo hi).snd.fst, (numF s a lo hi).snd.snd, ())) ∧ (decide (x_1.fst = (↑(List.length s) : Int)) = false → ((0 : Int), (0 : Int), (5 : Int), ()) = ((numF s a lo hi).fst, (numF s a lo hi).snd.fst, (numF s a lo hi).snd.snd, ()))) ∧ (decide (x_1.fst = x.fst) = false → ((0 : Int) ≤ a ∧ a ≤ x_1.fst ∧ x_1.fst ≤ (↑(List.length s) : Int)) ∧ ((0 : Int) = (0 : Int) ∧ (List.drop a.toNat (List.take x_1.fst.toNat s)).length ≤ (10000 : Nat)) ∧ (decide ((parseF (List.drop a.toNat (List.take x_1.fst.toNat s))).snd = (5 : Int)) = true → ((0 : Int), (0 : Int), (5 : Int), ()) = ((numF s a lo hi).fst, (numF s a lo hi).snd.fst, (numF s a lo hi).snd.snd, ())) ∧ (decide ((parseF (List.drop a.toNat (List.take x_1.fst.toNat s))).snd = (5 : Int)) = false → ((!decide ((parseF (List.drop a.toNat (List.take x_1.fst.toNat s))).snd = (0 : Int))) = false → (decide ((parseF (List.drop a.toNat (List.take x_1.fst.toNat s))).fst < lo) = false → (decide (hi < (parseF (List.drop a.toNat (List.take x_1.fst.toNat s))).fst) = true → ((0 : Int), (0 : Int), (7 : Int), ()) = ((numF s a lo hi).fst, (numF s a lo hi).snd.fst, (numF s a lo hi).snd.snd, ())) ∧ (decide (hi < (parseF (List.drop a.toNat (List.take x_1.fst.toNat s))).fst) = false → ((parseF (List.drop a.toNat (List.take x_1.fst.toNat s))).fst, x_1.fst, (0 : Int), ()) = ((numF s a lo hi).fst, (numF s a lo hi).snd.fst, (numF s a lo hi).snd.snd, ()))) ∧ (decide ((parseF (List.drop a.toNat (List.take x_1.fst.toNat s))).fst < lo) = !false → ((0 : Int), (0 : Int), (7 : Int), ()) = ((numF s a lo hi).fst, (numF s a lo hi).snd.fst, (numF s a lo hi).snd.snd, ()))) ∧ ((!decide ((parseF (List.drop a.toNat (List.take x_1.fst.toNat s))).snd = (0 : Int))) = !false → ((0 : Int), (0 : Int), (7 : Int), ()) = ((numF s a lo hi).fst, (numF s a lo hi).snd.fst, (numF s a lo hi).snd.snd, ())))))) ∧ (decide (a < (0 : Int)) = !false → ((0 : Int), (0 : Int), (2 : Int), ()) = ((numF s a lo hi).fst, (numF s a lo hi).snd.fst, (numF s a lo hi).snd.snd, ()))
theorem g_rnum_eq (s : By) (a lo hi : Int) : g_rnum s a lo hi = g_rnum_vc s a lo hi := by kernel_rfl
theorem rnum_rest {t D : By} {e lo hi : Int} {n : Int × Int × Int} (ht : Numl t D) (hn : n = if Lib.itoa (pzs t) = t then (if inR (pzs t) lo hi then (pzs t, e, 0) else (0, 0, 7)) else (0, 0, 5)) :
    ((parseF t).2 = 5 → ((0 : Int), (0 : Int), (5 : Int), ()) = (n.1, n.2.1, n.2.2, ())) ∧ (¬ (parseF t).2 = 5 → ((parseF t).2 = 0 → (¬ (parseF t).1 < lo → (hi < (parseF t).1 → ((0 : Int), (0 : Int), (7 : Int), ()) = (n.1, n.2.1, n.2.2, ())) ∧ (¬ hi < (parseF t).1 → ((parseF t).1, e, (0 : Int), ()) = (n.1, n.2.1, n.2.2, ()))) ∧
      ((parseF t).1 < lo → ((0 : Int), (0 : Int), (7 : Int), ()) = (n.1, n.2.1, n.2.2, ()))) ∧ (¬ (parseF t).2 = 0 → ((0 : Int), (0 : Int), (7 : Int), ()) = (n.1, n.2.1, n.2.2, ()))) := by
  by_cases k : Lib.itoa (pzs t) = t
  · rw [if_pos k] at hn
    rw [parseF_ok k]
    unfold intB faultB
    by_cases c : -9223372036854775808 ≤ pzs t ∧ pzs t ≤ 9223372036854775807
    · have ho : okB (pzs t) = true := by unfold okB; rw [decide_eq_true c.1, decide_eq_true c.2]; rfl
      rw [if_pos c, if_pos ho]
      refine ⟨fun d => (by cases d), fun _ => ⟨fun _ => ⟨fun d => ⟨fun g => ?_, fun g => ?_⟩, fun d => ?_⟩, fun d => absurd rfl d⟩⟩
      · rw [hn, if_neg (by unfold inR; rw [decide_eq_true_eq]; omega)]
      · rw [hn, if_pos (by unfold inR; rw [decide_eq_true_eq]; omega)]
      · rw [hn, if_neg (by unfold inR; rw [decide_eq_true_eq]; omega)]
    · have ho : okB (pzs t) = false := by
        unfold okB
        rw [Bool.and_eq_false_iff, decide_eq_false_iff_not, decide_eq_false_iff_not]
        omega
      rw [if_neg c, if_neg (by rw [ho]; decide)]
      refine ⟨fun d => (by cases d), fun _ => ⟨fun d => (by cases d), fun _ => ?_⟩⟩
      rw [hn, if_neg (by unfold inR; rw [decide_eq_true_eq]; omega)]
  · rw [if_neg k] at hn
    rw [parseF_bad k, hn]
    exact ⟨fun _ => rfl, fun d => absurd rfl d⟩
theorem first_parts {s : By} {a : Int} (h : ¬ (a < 0 ∨ (s.length : Int) < a)) : s.drop (firstP s a).toNat = Lib.trimPrefix (s.drop a.toNat) [45] ∧ a ≤ firstP s a ∧ firstP s a ≤ s.length ∧ firstP s a + runF (Lib.trimPrefix (s.drop a.toNat) [45]) = a + wideF (s.drop a.toNat) := by
  have hd : (s.drop a.toNat).head? = s[a.toNat]? := by rw [List.head?_eq_getElem?, drop_get]; rfl
  have hdl : (s.drop a.toNat).length = s.length - a.toNat := List.length_drop
  unfold firstP wideF
  rw [trim_minus, hd]
  by_cases c : s[a.toNat]? = some 45
  · have := (List.getElem?_eq_some_iff.1 c).1
    have l2 : (s.drop (a.toNat + 1)).length = s.length - (a.toNat + 1) := List.length_drop
    rw [if_pos c, if_pos c, List.drop_drop]
    refine ⟨by rw [toNat_next (by omega)], by omega, by omega, by omega⟩
  · rw [if_neg c, if_neg c]
    exact ⟨rfl, by omega, by omega, by omega⟩
theorem g_rnum_ok (s : By) (a lo hi : Int) (h : s.length ≤ 10000) : g_rnum_vc s a lo hi := by
  unfold g_rnum_vc
  simp only [decide_eq_true_eq, decide_eq_false_iff_not, Bool.not_eq_true', Bool.not_eq_false', Bool.not_true, Bool.not_false]
  refine ⟨fun c => ⟨fun d => ?_, fun d => ⟨⟨fun e => ⟨⟨by omega, e⟩, fun q hq => ⟨fun f => ⟨by omega, trivial, ?_⟩, fun f => ⟨trivial, ?_⟩⟩⟩, fun e => ⟨trivial, ?_⟩⟩, fun x hx => ?_⟩⟩, fun c => ?_⟩
  · rw [numF_bad (.inr d)]
  · unfold firstP
    rw [if_pos (by rw [hq, u8_ext (a := q) (b := 45) (by rw [f]; rfl)])]
  · unfold firstP
    rw [if_neg (fun k => by rw [hq] at k; cases k; exact f rfl)]
  · unfold firstP
    rw [if_neg (fun k => by have := (List.getElem?_eq_some_iff.1 k).1; omega)]
  · have hn : ¬ (a < 0 ∨ (s.length : Int) < a) := by omega
    obtain ⟨p1, p2, p3, p4⟩ := first_parts hn
    have hrl : (s.drop a.toNat).length = s.length - a.toNat := List.length_drop
    have hnum := numF_in (s := s) (a := a) (lo := lo) (hi := hi) hn
    have hdl : (s.drop (firstP s a).toNat).length = s.length - (firstP s a).toNat := List.length_drop
    rw [hx]
    have stop : ∀ i : Int, firstP s a ≤ i → i < s.length → digAt s i = false → runF (s.drop i.toNat) = 0 := fun i h1 h2 h3 => runF_stop (by omega) h2 h3
    refine ⟨⟨⟨trivial, by omega, by omega, by omega⟩, fun y hy => ?_⟩, fun z hz => ?_⟩
    · obtain ⟨y1, y2, y3⟩ := hy
      refine ⟨fun e => ⟨⟨by omega, e⟩, fun q hq => ⟨fun f => ⟨⟨by omega, e⟩, fun q2 hq2 => ⟨fun g => ?_, fun g => ⟨trivial, ?_⟩⟩⟩, fun f => ⟨trivial, ?_⟩⟩⟩, fun e => ⟨trivial, ?_⟩⟩
      · rw [hq] at hq2
        cases hq2
        have hd : digAt s y.1 = true := by unfold digAt; rw [hq]; exact isDig_iff.2 (by omega)
        have := runF_step (by omega) e hd
        exact ⟨by omega, trivial, ⟨by omega, by omega, by omega⟩, by omega⟩
      · rw [hq] at hq2
        cases hq2
        have hd : digAt s y.1 = false := by
          unfold digAt
          rw [hq]
          exact Bool.eq_false_iff.2 (fun k => by have := isDig_iff.1 k; omega)
        have := stop y.1 y1 e hd
        omega
      · have hd : digAt s y.1 = false := by
          unfold digAt
          rw [hq]
          exact Bool.eq_false_iff.2 (fun k => by have := isDig_iff.1 k; omega)
        have := stop y.1 y1 e hd
        omega
      · have : runF (s.drop y.1.toNat) = 0 := by
          rw [List.drop_of_length_le (by omega)]
          rfl
        omega
    · rw [hnum]
      rw [p1] at hz hdl
      have hr0 : 0 ≤ runF (Lib.trimPrefix (s.drop a.toNat) [45]) := by unfold runF; omega
      refine ⟨fun e => ⟨fun f => ?_, fun f => ?_⟩, fun e => ?_⟩
      · rw [numR_short (List.eq_nil_of_length_eq_zero (by omega))]
      · rw [numR_form (fun w => by rw [w] at hdl; simp at hdl; omega) (.inl (by omega))]
      · have hrn : runF (Lib.trimPrefix (s.drop a.toNat) [45]) ≠ 0 := by omega
        obtain ⟨n1, _, n2, n3⟩ := wide_num hrn
        have ht : (s.take z.1.toNat).drop a.toNat = (s.drop a.toNat).take (wideF (s.drop a.toNat)).toNat := by
          rw [List.take_drop]
          congr 2
          omega
        have hcan := wide_canon hrn
        have hbn : ¬ Lib.trimPrefix (s.drop a.toNat) [45] = [] := fun w => hrn (by rw [w]; rfl)
        rw [ht]
        refine ⟨by omega, ⟨by trivial, by rw [List.length_take]; omega⟩, rnum_rest n1 ?_⟩
        rw [show z.1 = a + wideF (s.drop a.toNat) by omega]
        by_cases k : Lib.itoa (pzs ((s.drop a.toNat).take (wideF (s.drop a.toNat)).toNat)) = (s.drop a.toNat).take (wideF (s.drop a.toNat)).toNat
        · rw [if_pos k, numR_ok hbn (by rintro (w | w); exact hrn w; exact hcan.1 k w)]
        · rw [if_neg k, numR_form hbn (.inr (Classical.byContradiction fun w => k (hcan.2 w)))]
  · rw [numF_bad (.inl c)]
set_option maxRecDepth 20000 in
theorem rnum_pure (s : By) (a lo hi : Int) (h : s.length ≤ 10000) : Pure Tryz.prog 26 [.str s, .int .i64 a, .int .i64 lo, .int .i64 hi] (.tuple [.int .i64 (numF s a lo hi).1, .int .i64 (numF s a lo hi).2.1, .int .i64 (numF s a lo hi).2.2]) :=
  Pure.of_g (E := env_rnum s a lo hi) (ts := tsOf Tryz.f26) (ps := [.int .i64, .int .i64, .int .i64]) (r := ((numF s a lo hi).1, (numF s a lo hi).2.1, (numF s a lo hi).2.2, ())) (fn := Tryz.f26) (c := codeOf Tryz.f26) (specs_ok (P := Tryz.prog) rfl [sp_parse] [] rfl rfl) mixed Tryz.func26 rfl rfl (g := g_rnum s a lo hi) (by delta g_rnum start0; first | with_reducible exact Eq.refl _ | exact Eq.refl _) (by rw [g_rnum_eq s a lo hi]; exact g_rnum_ok s a lo hi h)
noncomputable def q_rnum (s : By) (a lo hi : Int) : Prop × V := (s.length ≤ 10000, (.tuple [.int .i64 (numF s a lo hi).1, .int .i64 (numF s a lo hi).2.1, .int .i64 (numF s a lo hi).2.2]))
noncomputable def sp_rnum : FSpec Tryz.prog where
  f := 26
  run := fun args => match args with
    | [.str s, .int .i64 a, .int .i64 lo, .int .i64 hi] => some (q_rnum s a lo hi)
    | _ => none
  ok := fun args pre r h hp => by
    try dsimp only at h
    split at h
    · rename_i s a lo hi
      have h := Option.some.inj h
      unfold q_rnum at h
      cases h
      exact (rnum_pure s a lo hi hp).weak (.cons (Weak.refl _) (.cons (Weak.refl _) (.cons (Weak.refl _) (.cons (Weak.refl _) .nil))))
    · cases h

end Go.Proofs.YtemgelifnjefoaaGreatDoor
