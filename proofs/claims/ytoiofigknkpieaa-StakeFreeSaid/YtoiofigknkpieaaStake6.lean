/-
  stake.Froms, ref18.Froms.
-/
import Derived.Test.YtoiofigknkpieaaStake5
import Derived.Test.YtoiofigknkpieaaShelf
namespace Go.Proofs.Ytoiofigknkpieaa
open Go.Vm

def sp_sort : UFSpec Try.prog := sortSpec 26 ⟨fun blk off cap zs w h1 h2 h3 => Try.slices_Sort_int blk off cap zs w h1 h2 h3, Try.slices_Sort_int_none⟩
def sp_compact : UFSpec Try.prog := compactSpec 27 ⟨fun blk off cap zs w h1 h2 h3 => Try.slices_Compact_int blk off cap zs w h1 h2 h3, Try.slices_Compact_int_empty⟩

/-- The periods of an entity's stakes. -/
def fromsL (l : List Stk) (e : Int) : List Int := (l.filter fun s => decide (s.1 = e)).map (·.2.2.2)
def fromsF (l : List Stk) (e : Int) : List Int := (fromsL l e).foldl withF []

theorem fromsL_take {l : List Stk} {e : Int} {i : Nat} {x : Stk} (h : l[i]? = some x) : fromsL (l.take (i + 1)) e = fromsL (l.take i) e ++ if x.1 = e then [x.2.2.2] else [] := by
  unfold fromsL
  rw [List.take_add_one, h]
  by_cases hx : x.1 = e <;> simp [hx]
theorem fromsL_len (l : List Stk) (e : Int) : (fromsL l e).length ≤ l.length := by
  unfold fromsL
  rw [List.length_map]
  exact List.length_filter_le _ _

/-! stake.Froms -/
def Inv17 (l : List Stk) (e : Int) (i : Int) (acc : List Int) : Prop := 0 ≤ i ∧ i ≤ l.length ∧ acc = fromsL (l.take i.toNat) e
noncomputable def env_froms (l : List Stk) (e : Int) : Env where
  P := Try.prog
  ty := tys
  upd := updsOf [sp_sort, sp_compact]
  heads := fun
    | 3 => some { slots := [(10, .int .i64), (5, .slc 5000 I)], boxes := [], inv := fun _ (x : Int × List Int × Unit) => Inv17 l e x.1 x.2.1, measure := fun _ (x : Int × List Int × Unit) => (l.length - x.1).toNat }
    | _ => none
noncomputable def g_froms (l : List Stk) (e : Int) : Prop := vc (env_froms l e) (codeOf Try.f17) (start0 Try.f17 [.list .tmp STy l, .int .i64 e]) (exitK (tsOf Try.f17) [.list .part I] (fromsF l e, ()))
def g_froms_vc (l : List Stk) (e : Int) : Prop :=
  (True ∧ Inv17 l e (0 : Int) []) ∧
  ∀ (x : Int × List Int × Unit),
    Inv17 l e x.fst x.snd.fst →
      (decide (x.fst < (↑l.length : Int)) = true →
          ((0 : Int) ≤ x.fst ∧ x.fst < (↑l.length : Int)) ∧
            ∀ (x_1 : Int × Int × Int × Int),
              l[x.fst.toNat]? = some x_1 →
                (decide (x_1.fst = e) = true →
                    ((x.snd.fst.length + (1 : Nat)) * (8 : Nat) ≤ (140737488355328 : Nat) ∧ x.snd.fst.length + (1 : Nat) ≤ (4611686018427387904 : Nat)) ∧
                      ((-9223372036854775808 : Int) ≤ x.fst + (1 : Int) ∧ x.fst + (1 : Int) ≤ (9223372036854775807 : Int)) ∧
                        True ∧ Inv17 l e (x.fst + (1 : Int)) (x.snd.fst ++ [x_1.snd.snd.snd]) ∧ ((↑l.length : Int) - (x.fst + (1 : Int))).toNat < ((↑l.length : Int) - x.fst).toNat) ∧
                  (decide (x_1.fst = e) = false →
                    ((-9223372036854775808 : Int) ≤ x.fst + (1 : Int) ∧ x.fst + (1 : Int) ≤ (9223372036854775807 : Int)) ∧
                      True ∧ Inv17 l e (x.fst + (1 : Int)) x.snd.fst ∧ ((↑l.length : Int) - (x.fst + (1 : Int))).toNat < ((↑l.length : Int) - x.fst).toNat)) ∧
        (decide (x.fst < (↑l.length : Int)) = false →
          x.snd.fst.length ≤ (1000000000 : Nat) ∧
            (x.snd.fst.mergeSort fun x y => decide (x ≤ y)).length ≤ (1000000000 : Nat) ∧
              (List.take (Lib.compact (x.snd.fst.mergeSort fun x y => decide (x ≤ y))).length
                    (List.drop (0 : Nat)
                      (Lib.compact (x.snd.fst.mergeSort fun x y => decide (x ≤ y)) ++
                        List.replicate ((x.snd.fst.mergeSort fun x y => decide (x ≤ y)).length - (Lib.compact (x.snd.fst.mergeSort fun x y => decide (x ≤ y))).length) (0 : Int))),
                  ()) =
                (fromsF l e, ()))

theorem g_froms_eq (l : List Stk) (e : Int) : g_froms l e = g_froms_vc l e := by kernel_rfl

/-! ref18.Froms -/
def Inv18 (l : List Stk) (e : Int) (i : Int) (acc : List Int) : Prop := 0 ≤ i ∧ i ≤ l.length ∧ acc = fromsF (l.take i.toNat) e
noncomputable def env_refFroms (l : List Stk) (e : Int) : Env where
  P := Try.prog
  ty := tys
  specs := specsOf [sp_with]
  heads := fun
    | 3 => some { slots := [(6, .int .i64), (5, .list .part I)], boxes := [], inv := fun _ (x : Int × List Int × Unit) => Inv18 l e x.1 x.2.1, measure := fun _ (x : Int × List Int × Unit) => (l.length - x.1).toNat }
    | _ => none
noncomputable def g_refFroms (l : List Stk) (e : Int) : Prop := vc (env_refFroms l e) (codeOf Try.f18) (start0 Try.f18 [.list .tmp STy l, .int .i64 e]) (exitK (tsOf Try.f18) [.list .part I] (fromsF l e, ()))
def g_refFroms_vc (l : List Stk) (e : Int) : Prop :=
  (True ∧ Inv18 l e (0 : Int) []) ∧
  ∀ (x : Int × List Int × Unit),
    Inv18 l e x.fst x.snd.fst →
      (decide (x.fst < (↑l.length : Int)) = true →
          ((0 : Int) ≤ x.fst ∧ x.fst < (↑l.length : Int)) ∧
            ∀ (x_1 : Int × Int × Int × Int),
              l[x.fst.toNat]? = some x_1 →
                (decide (x_1.fst = e) = true →
                    ((0 : Int) ≤ x.fst ∧ x.fst < (↑l.length : Int)) ∧
                      ∀ (x_2 : Int × Int × Int × Int),
                        l[x.fst.toNat]? = some x_2 →
                          x.snd.fst.length ≤ (1000000000 : Nat) ∧
                            ((-9223372036854775808 : Int) ≤ x.fst + (1 : Int) ∧ x.fst + (1 : Int) ≤ (9223372036854775807 : Int)) ∧
                              True ∧ Inv18 l e (x.fst + (1 : Int)) (withF x.snd.fst x_2.snd.snd.snd) ∧ ((↑l.length : Int) - (x.fst + (1 : Int))).toNat < ((↑l.length : Int) - x.fst).toNat) ∧
                  (decide (x_1.fst = e) = false →
                    ((-9223372036854775808 : Int) ≤ x.fst + (1 : Int) ∧ x.fst + (1 : Int) ≤ (9223372036854775807 : Int)) ∧
                      True ∧ Inv18 l e (x.fst + (1 : Int)) x.snd.fst ∧ ((↑l.length : Int) - (x.fst + (1 : Int))).toNat < ((↑l.length : Int) - x.fst).toNat)) ∧
        (decide (x.fst < (↑l.length : Int)) = false → (x.snd.fst, ()) = (fromsF l e, ()))

theorem g_refFroms_eq (l : List Stk) (e : Int) : g_refFroms l e = g_refFroms_vc l e := by kernel_rfl
theorem fromsF_len (l : List Stk) (e : Int) : (fromsF l e).length ≤ l.length := by
  have h1 := len_fold (m := fromsL l e) (l := [])
  have h2 := fromsL_len l e
  simp only [List.length_nil, Nat.zero_add] at h1
  unfold fromsF
  omega
theorem sortF_eq (l : List Int) : (l.mergeSort fun x y => decide (x ≤ y)) = sortF l := rfl
theorem g_froms_ok (l : List Stk) (e : Int) (h : l.length ≤ 1000000000) : g_froms_vc l e := by
  unfold g_froms_vc
  refine ⟨⟨trivial, by omega, by omega, rfl⟩, ?_⟩
  rintro ⟨i, acc, _⟩ ⟨h1, h2, h3⟩
  simp only at h1 h2 h3
  have hlen : acc.length ≤ l.length := by
    rw [h3]
    have := fromsL_len (l.take i.toNat) e
    simp only [List.length_take] at this
    omega
  have step : ∀ x, l[i.toNat]? = some x → fromsL (l.take (i + 1).toNat) e = acc ++ if x.1 = e then [x.2.2.2] else [] := by
    intro x hx
    rw [toNat_next h1, fromsL_take hx, h3]
  simp only [decide_eq_true_eq, decide_eq_false_iff_not, true_and]
  refine ⟨fun hi => ⟨⟨h1, hi⟩, fun x hx => ⟨fun c => ⟨⟨by omega, by omega⟩, by omega, ⟨by omega, by omega, ?_⟩, by omega⟩, fun c => ⟨by omega, ⟨by omega, by omega, ?_⟩, by omega⟩⟩⟩, fun hi => ⟨by omega, ?_, ?_⟩⟩
  · rw [step x hx, if_pos c]
  · rw [step x hx, if_neg c, List.append_nil]
  · rw [List.length_mergeSort]; omega
  · rw [sortF_eq, compact_sort, List.drop_zero, List.take_left' rfl, h3, List.take_of_length_le (by omega)]
    rfl
theorem froms_pure (l : List Stk) (e : Int) (h : l.length ≤ 1000000000) : Pure Try.prog 17 [.list .tmp STy l, .int .i64 e] (.list .part I (fromsF l e)) :=
  Pure.of_vc (E := env_froms l e) (ts := tsOf Try.f17) (ps := [.list .part I]) (r := (fromsF l e, ())) (fn := Try.f17) (c := codeOf Try.f17) (specs_ok (P := Try.prog) rfl [] [sp_sort, sp_compact] rfl rfl) mixed Try.func17 rfl rfl (by
    have := g_froms_ok l e h
    rw [← g_froms_eq] at this
    exact this)
def q_froms (l : List Stk) (e : Int) : Prop × V := (l.length ≤ 1000000000, (.list .part I (fromsF l e)))
noncomputable def sp_froms : FSpec Try.prog where
  f := 17
  run := fun args => match args with
    | [v0, .int .i64 e] => (match (asL STy v0 : Option (List Stk)) with | some l => some (q_froms l e) | none => none)
    | _ => none
  ok := fun args pre r h hp => by
    try dsimp only at h
    split at h
    · rename_i v0 e
      cases h0 : (asL STy v0 : Option (List Stk)) with
      | none => rw [h0] at h; cases h
      | some l =>
      rw [h0] at h
      try dsimp only at h
      have h := Option.some.inj h
      unfold q_froms at h
      cases h
      exact (froms_pure l e hp).weak (.cons (asL_weak h0) (.cons (Weak.refl _) .nil))
    · cases h
theorem g_refFroms_ok (l : List Stk) (e : Int) (h : l.length ≤ 1000000000) : g_refFroms_vc l e := by
  unfold g_refFroms_vc
  refine ⟨⟨trivial, by omega, by omega, rfl⟩, ?_⟩
  rintro ⟨i, acc, _⟩ ⟨h1, h2, h3⟩
  simp only at h1 h2 h3
  have hlen : acc.length ≤ l.length := by
    rw [h3]
    have := fromsF_len (l.take i.toNat) e
    simp only [List.length_take] at this
    omega
  have step : ∀ x, l[i.toNat]? = some x → fromsF (l.take (i + 1).toNat) e = if x.1 = e then withF acc x.2.2.2 else acc := by
    intro x hx
    rw [toNat_next h1, fromsF, fromsL_take hx, List.foldl_append, h3]
    split <;> simp [fromsF]
  simp only [decide_eq_true_eq, decide_eq_false_iff_not, true_and]
  refine ⟨fun hi => ⟨⟨h1, hi⟩, fun x hx => ⟨fun c => ⟨⟨h1, hi⟩, fun y hy => ⟨by omega, by omega, ⟨by omega, by omega, ?_⟩, by omega⟩⟩, fun c => ⟨by omega, ⟨by omega, by omega, ?_⟩, by omega⟩⟩⟩, fun hi => ?_⟩
  · rw [step x hx, if_pos c]
    rw [hx] at hy; cases hy; rfl
  · rw [step x hx, if_neg c]
  · rw [h3, List.take_of_length_le (by omega)]
theorem refFroms_pure (l : List Stk) (e : Int) (h : l.length ≤ 1000000000) : Pure Try.prog 18 [.list .tmp STy l, .int .i64 e] (.list .part I (fromsF l e)) :=
  Pure.of_vc (E := env_refFroms l e) (ts := tsOf Try.f18) (ps := [.list .part I]) (r := (fromsF l e, ())) (fn := Try.f18) (c := codeOf Try.f18) (specs_ok (P := Try.prog) rfl [sp_with] [] rfl rfl) mixed Try.func18 rfl rfl (by
    have := g_refFroms_ok l e h
    rw [← g_refFroms_eq] at this
    exact this)
def q_refFroms (l : List Stk) (e : Int) : Prop × V := (l.length ≤ 1000000000, (.list .part I (fromsF l e)))
noncomputable def sp_refFroms : FSpec Try.prog where
  f := 18
  run := fun args => match args with
    | [v0, .int .i64 e] => (match (asL STy v0 : Option (List Stk)) with | some l => some (q_refFroms l e) | none => none)
    | _ => none
  ok := fun args pre r h hp => by
    try dsimp only at h
    split at h
    · rename_i v0 e
      cases h0 : (asL STy v0 : Option (List Stk)) with
      | none => rw [h0] at h; cases h
      | some l =>
      rw [h0] at h
      try dsimp only at h
      have h := Option.some.inj h
      unfold q_refFroms at h
      cases h
      exact (refFroms_pure l e hp).weak (.cons (asL_weak h0) (.cons (Weak.refl _) .nil))
    · cases h

end Go.Proofs.Ytoiofigknkpieaa
