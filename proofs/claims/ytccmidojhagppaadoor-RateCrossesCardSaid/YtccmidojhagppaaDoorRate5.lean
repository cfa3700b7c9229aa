/-
  rate: crosses, known periods.
-/
import Derived.Test.YtccmidojhagppaaDoorRate4
import Derived.Test.YtccmidojhagppaaDoorShelf
namespace Go.Proofs.YtccmidojhagppaaDoor
open Go.Vm

abbrev ann_cross : Ann := { slots := numP 0 [.int .i64, .int .i64, .bool], boxes := [], inv := fun _ _ => True }
noncomputable def g_cross (l : List Rt) (a b c p n d : Int) : Prop := vc (env_cross l a b c p n d) (codeOf Tryd.f14) (start0 Tryd.f14 [.list .tmp RTy l, .agg [.int .i64 a, .int .i64 b, .int .i64 c, .int .i64 p, .int .i64 n, .int .i64 d]]) (exitG (env_cross l a b c p n d).P Tryd.f14.results.toList [some 2, none] (env_cross l a b c p n d).pins ann_cross ((crossF l (a, b, c, p, n, d)).1.1, (crossF l (a, b, c, p, n, d)).1.2, (crossF l (a, b, c, p, n, d)).2, ()))
def g_cross_vc (l : List Rt) (a : Int) (b : Int) (c : Int) (p : Int) (n : Int) (d : Int) : Prop :=
  l.length ≤ (1000000 : Nat) ∧
  ((legF l (a, b, c, p, n, d) a b).snd = true →
      True ∧
        ((legF l (a, b, c, p, n, d) a b).fst.fst, (legF l (a, b, c, p, n, d) a b).fst.snd, true, ()) =
          ((crossF l (a, b, c, p, n, d)).fst.fst, (crossF l (a, b, c, p, n, d)).fst.snd, (crossF l (a, b, c, p, n, d)).snd, ())) ∧
    ((legF l (a, b, c, p, n, d) a b).snd = false →
      ((some (Obj.box [V.list LK.tmp RTy l]) = some (Obj.box [V.list LK.tmp RTy l]) ∧
            some (Obj.box [V.int IntKind.i64 a, V.int IntKind.i64 b, V.int IntKind.i64 c, V.int IntKind.i64 p, V.int IntKind.i64 n, V.int IntKind.i64 d]) =
                some (Obj.box [V.int IntKind.i64 a, V.int IntKind.i64 b, V.int IntKind.i64 c, V.int IntKind.i64 p, V.int IntKind.i64 n, V.int IntKind.i64 d]) ∧
              some (Obj.box [V.int IntKind.i64 (0 : Int), V.int IntKind.i64 (0 : Int)]) = some (Obj.box [V.int IntKind.i64 (0 : Int), V.int IntKind.i64 (0 : Int)]) ∧
                some (Obj.box [V.int IntKind.i64 (legF l (a, b, c, p, n, d) a b).fst.fst, V.int IntKind.i64 (legF l (a, b, c, p, n, d) a b).fst.snd]) =
                    some (Obj.box [V.int IntKind.i64 (legF l (a, b, c, p, n, d) a b).fst.fst, V.int IntKind.i64 (legF l (a, b, c, p, n, d) a b).fst.snd]) ∧
                  True) ∧
          (1 : Int) ≤ (1 : Int) ∧ (1 : Int) ≤ (9 : Int) ∧ firstC l (a, b, c, p, n, d) ((1 : Int) - (1 : Int)).toNat = none) ∧
        ∀ (x : Int × Unit),
          (1 : Int) ≤ x.fst ∧ x.fst ≤ (9 : Int) ∧ firstC l (a, b, c, p, n, d) (x.fst - (1 : Int)).toNat = none →
            (decide (x.fst ≤ (8 : Int)) = true →
                (decide (x.fst = a) = false →
                    (decide (x.fst = b) = true →
                        ((-9223372036854775808 : Int) ≤ x.fst + (1 : Int) ∧ x.fst + (1 : Int) ≤ (9223372036854775807 : Int)) ∧
                          (some (Obj.box [V.list LK.tmp RTy l]) = some (Obj.box [V.list LK.tmp RTy l]) ∧
                              some (Obj.box [V.int IntKind.i64 a, V.int IntKind.i64 b, V.int IntKind.i64 c, V.int IntKind.i64 p, V.int IntKind.i64 n, V.int IntKind.i64 d]) =
                                  some (Obj.box [V.int IntKind.i64 a, V.int IntKind.i64 b, V.int IntKind.i64 c, V.int IntKind.i64 p, V.int IntKind.i64 n, V.int IntKind.i64 d]) ∧
                                some (Obj.box [V.int IntKind.i64 (0 : Int), V.int IntKind.i64 (0 : Int)]) = some (Obj.box [V.int IntKind.i64 (0 : Int), V.int IntKind.i64 (0 : Int)]) ∧
                                  some (Obj.box [V.int IntKind.i64 (legF l (a, b, c, p, n, d) a b).fst.fst, V.int IntKind.i64 (legF l (a, b, c, p, n, d) a b).fst.snd]) =
                                      some (Obj.box [V.int IntKind.i64 (legF l (a, b, c, p, n, d) a b).fst.fst, V.int IntKind.i64 (legF l (a, b, c, p, n, d) a b).fst.snd]) ∧
                                    True) ∧
                            ((1 : Int) ≤ x.fst + (1 : Int) ∧ x.fst + (1 : Int) ≤ (9 : Int) ∧ firstC l (a, b, c, p, n, d) (x.fst + (1 : Int) - (1 : Int)).toNat = none) ∧
                              ((9 : Int) - (x.fst + (1 : Int))).toNat < ((9 : Int) - x.fst).toNat) ∧
                      (decide (x.fst = b) = false →
                        l.length ≤ (1000000 : Nat) ∧
                          l.length ≤ (1000000 : Nat) ∧
                            ((!(legF l (a, b, c, p, n, d) a x.fst).snd) = false →
                                ((!(legF l (a, b, c, p, n, d) x.fst b).snd) = true →
                                    ((-9223372036854775808 : Int) ≤ x.fst + (1 : Int) ∧ x.fst + (1 : Int) ≤ (9223372036854775807 : Int)) ∧
                                      (some (Obj.box [V.list LK.tmp RTy l]) = some (Obj.box [V.list LK.tmp RTy l]) ∧
                                          some (Obj.box [V.int IntKind.i64 a, V.int IntKind.i64 b, V.int IntKind.i64 c, V.int IntKind.i64 p, V.int IntKind.i64 n, V.int IntKind.i64 d]) =
                                              some (Obj.box [V.int IntKind.i64 a, V.int IntKind.i64 b, V.int IntKind.i64 c, V.int IntKind.i64 p, V.int IntKind.i64 n, V.int IntKind.i64 d]) ∧
                                            some (Obj.box [V.int IntKind.i64 (0 : Int), V.int IntKind.i64 (0 : Int)]) = some (Obj.box [V.int IntKind.i64 (0 : Int), V.int IntKind.i64 (0 : Int)]) ∧
                                              some (Obj.box [V.int IntKind.i64 (legF l (a, b, c, p, n, d) a b).fst.fst, V.int IntKind.i64 (legF l (a, b, c, p, n, d) a b).fst.snd]) =
                                                  some (Obj.box [V.int IntKind.i64 (legF l (a, b, c, p, n, d) a b).fst.fst, V.int IntKind.i64 (legF l (a, b, c, p, n, d) a b).fst.snd]) ∧
                                                True) ∧
                                        ((1 : Int) ≤ x.fst + (1 : Int) ∧ x.fst + (1 : Int) ≤ (9 : Int) ∧ firstC l (a, b, c, p, n, d) (x.fst + (1 : Int) - (1 : Int)).toNat = none) ∧
                                          ((9 : Int) - (x.fst + (1 : Int))).toNat < ((9 : Int) - x.fst).toNat) ∧
                                  ((!(legF l (a, b, c, p, n, d) x.fst b).snd) = false →
                                    True ∧
                                      (decide
                                              ((timesF (legF l (a, b, c, p, n, d) a x.fst).fst.fst (legF l (a, b, c, p, n, d) a x.fst).fst.snd (legF l (a, b, c, p, n, d) x.fst b).fst.fst
                                                    (legF l (a, b, c, p, n, d) x.fst b).fst.snd).snd =
                                                (0 : Int)) =
                                            true →
                                          True ∧
                                            ((timesF (legF l (a, b, c, p, n, d) a x.fst).fst.fst (legF l (a, b, c, p, n, d) a x.fst).fst.snd (legF l (a, b, c, p, n, d) x.fst b).fst.fst
                                                      (legF l (a, b, c, p, n, d) x.fst b).fst.snd).fst.fst,
                                                (timesF (legF l (a, b, c, p, n, d) a x.fst).fst.fst (legF l (a, b, c, p, n, d) a x.fst).fst.snd (legF l (a, b, c, p, n, d) x.fst b).fst.fst
                                                      (legF l (a, b, c, p, n, d) x.fst b).fst.snd).fst.snd,
                                                true, ()) =
                                              ((crossF l (a, b, c, p, n, d)).fst.fst, (crossF l (a, b, c, p, n, d)).fst.snd, (crossF l (a, b, c, p, n, d)).snd, ())) ∧
                                        (decide
                                              ((timesF (legF l (a, b, c, p, n, d) a x.fst).fst.fst (legF l (a, b, c, p, n, d) a x.fst).fst.snd (legF l (a, b, c, p, n, d) x.fst b).fst.fst
                                                    (legF l (a, b, c, p, n, d) x.fst b).fst.snd).snd =
                                                (0 : Int)) =
                                            false →
                                          ((-9223372036854775808 : Int) ≤ x.fst + (1 : Int) ∧ x.fst + (1 : Int) ≤ (9223372036854775807 : Int)) ∧
                                            (some (Obj.box [V.list LK.tmp RTy l]) = some (Obj.box [V.list LK.tmp RTy l]) ∧
                                                some (Obj.box [V.int IntKind.i64 a, V.int IntKind.i64 b, V.int IntKind.i64 c, V.int IntKind.i64 p, V.int IntKind.i64 n, V.int IntKind.i64 d]) =
                                                    some (Obj.box [V.int IntKind.i64 a, V.int IntKind.i64 b, V.int IntKind.i64 c, V.int IntKind.i64 p, V.int IntKind.i64 n, V.int IntKind.i64 d]) ∧
                                                  some (Obj.box [V.int IntKind.i64 (0 : Int), V.int IntKind.i64 (0 : Int)]) =
                                                      some (Obj.box [V.int IntKind.i64 (0 : Int), V.int IntKind.i64 (0 : Int)]) ∧
                                                    some (Obj.box [V.int IntKind.i64 (legF l (a, b, c, p, n, d) a b).fst.fst, V.int IntKind.i64 (legF l (a, b, c, p, n, d) a b).fst.snd]) =
                                                        some (Obj.box [V.int IntKind.i64 (legF l (a, b, c, p, n, d) a b).fst.fst, V.int IntKind.i64 (legF l (a, b, c, p, n, d) a b).fst.snd]) ∧
                                                      True) ∧
                                              ((1 : Int) ≤ x.fst + (1 : Int) ∧ x.fst + (1 : Int) ≤ (9 : Int) ∧ firstC l (a, b, c, p, n, d) (x.fst + (1 : Int) - (1 : Int)).toNat = none) ∧
                                                ((9 : Int) - (x.fst + (1 : Int))).toNat < ((9 : Int) - x.fst).toNat))) ∧
                              ((!(legF l (a, b, c, p, n, d) a x.fst).snd) = !false →
                                ((-9223372036854775808 : Int) ≤ x.fst + (1 : Int) ∧ x.fst + (1 : Int) ≤ (9223372036854775807 : Int)) ∧
                                  (some (Obj.box [V.list LK.tmp RTy l]) = some (Obj.box [V.list LK.tmp RTy l]) ∧
                                      some (Obj.box [V.int IntKind.i64 a, V.int IntKind.i64 b, V.int IntKind.i64 c, V.int IntKind.i64 p, V.int IntKind.i64 n, V.int IntKind.i64 d]) =
                                          some (Obj.box [V.int IntKind.i64 a, V.int IntKind.i64 b, V.int IntKind.i64 c, V.int IntKind.i64 p, V.int IntKind.i64 n, V.int IntKind.i64 d]) ∧
                                        some (Obj.box [V.int IntKind.i64 (0 : Int), V.int IntKind.i64 (0 : Int)]) = some (Obj.box [V.int IntKind.i64 (0 : Int), V.int IntKind.i64 (0 : Int)]) ∧
                                          some (Obj.box [V.int IntKind.i64 (legF l (a, b, c, p, n, d) a b).fst.fst, V.int IntKind.i64 (legF l (a, b, c, p, n, d) a b).fst.snd]) =
                                              some (Obj.box [V.int IntKind.i64 (legF l (a, b, c, p, n, d) a b).fst.fst, V.int IntKind.i64 (legF l (a, b, c, p, n, d) a b).fst.snd]) ∧
                                            True) ∧
                                    ((1 : Int) ≤ x.fst + (1 : Int) ∧ x.fst + (1 : Int) ≤ (9 : Int) ∧ firstC l (a, b, c, p, n, d) (x.fst + (1 : Int) - (1 : Int)).toNat = none) ∧
                                      ((9 : Int) - (x.fst + (1 : Int))).toNat < ((9 : Int) - x.fst).toNat))) ∧
                  (decide (x.fst = a) = !false →
                    ((-9223372036854775808 : Int) ≤ x.fst + (1 : Int) ∧ x.fst + (1 : Int) ≤ (9223372036854775807 : Int)) ∧
                      (some (Obj.box [V.list LK.tmp RTy l]) = some (Obj.box [V.list LK.tmp RTy l]) ∧
                          some (Obj.box [V.int IntKind.i64 a, V.int IntKind.i64 b, V.int IntKind.i64 c, V.int IntKind.i64 p, V.int IntKind.i64 n, V.int IntKind.i64 d]) =
                              some (Obj.box [V.int IntKind.i64 a, V.int IntKind.i64 b, V.int IntKind.i64 c, V.int IntKind.i64 p, V.int IntKind.i64 n, V.int IntKind.i64 d]) ∧
                            some (Obj.box [V.int IntKind.i64 (0 : Int), V.int IntKind.i64 (0 : Int)]) = some (Obj.box [V.int IntKind.i64 (0 : Int), V.int IntKind.i64 (0 : Int)]) ∧
                              some (Obj.box [V.int IntKind.i64 (legF l (a, b, c, p, n, d) a b).fst.fst, V.int IntKind.i64 (legF l (a, b, c, p, n, d) a b).fst.snd]) =
                                  some (Obj.box [V.int IntKind.i64 (legF l (a, b, c, p, n, d) a b).fst.fst, V.int IntKind.i64 (legF l (a, b, c, p, n, d) a b).fst.snd]) ∧
                                True) ∧
                        ((1 : Int) ≤ x.fst + (1 : Int) ∧ x.fst + (1 : Int) ≤ (9 : Int) ∧ firstC l (a, b, c, p, n, d) (x.fst + (1 : Int) - (1 : Int)).toNat = none) ∧
                          ((9 : Int) - (x.fst + (1 : Int))).toNat < ((9 : Int) - x.fst).toNat)) ∧
              (decide (x.fst ≤ (8 : Int)) = false →
                True ∧ ((0 : Int), (0 : Int), false, ()) = ((crossF l (a, b, c, p, n, d)).fst.fst, (crossF l (a, b, c, p, n, d)).fst.snd, (crossF l (a, b, c, p, n, d)).snd, ())))

theorem g_cross_eq (l : List Rt) (a b c p n d : Int) : g_cross l a b c p n d = g_cross_vc l a b c p n d := by kernel_rfl
theorem g_cross_ok (l : List Rt) (a b c p n d : Int) (h : l.length ≤ 1000000) : g_cross_vc l a b c p n d := by
  unfold g_cross_vc
  simp only [decide_eq_true_eq, decide_eq_false_iff_not, Bool.not_eq_true', Bool.not_eq_false', Bool.not_false, Bool.not_true]
  refine ⟨h, fun k => ⟨trivial, by rw [cross_direct (k := (a, b, c, p, n, d)) k]⟩, fun k => ⟨⟨⟨trivial, trivial, trivial, trivial, trivial⟩, by omega, by omega, rfl⟩, ?_⟩⟩
  rintro ⟨i, ⟨⟩⟩ ⟨h0, h1, hf⟩
  dsimp only at h0 h1 hf ⊢
  have nx : crossAt l (a, b, c, p, n, d) i = none → firstC l (a, b, c, p, n, d) (i + 1 - 1).toNat = none := fun e => by rw [firstC_next h0 hf, e]
  have T : ∀ {P : Prop}, P → (True ∧ True ∧ True ∧ True ∧ True) ∧ P := fun hp => ⟨⟨trivial, trivial, trivial, trivial, trivial⟩, hp⟩
  refine ⟨fun e => ⟨fun f => ⟨fun g => ⟨by omega, T ⟨⟨by omega, by omega, nx (at_none (.inr (.inl g)))⟩, by omega⟩⟩, fun g => ⟨h, h, fun m1 => ⟨fun m2 => ⟨by omega, T ⟨⟨by omega, by omega, nx (at_none (.inr (.inr (.inr (.inl m2)))))⟩, by omega⟩⟩,
    fun m2 => ⟨trivial, fun t => ⟨trivial, ?_⟩, fun t => ⟨by omega, T ⟨⟨by omega, by omega, nx (at_none (.inr (.inr (.inr (.inr t)))))⟩, by omega⟩⟩⟩⟩, fun m1 => ⟨by omega, T ⟨⟨by omega, by omega, nx (at_none (.inr (.inr (.inl m1))))⟩, by omega⟩⟩⟩⟩, fun f => ⟨by omega, T ⟨⟨by omega, by omega, nx (at_none (.inl f))⟩, by omega⟩⟩⟩, fun e => ?_⟩
  · have hs := at_some (l := l) (k := (a, b, c, p, n, d)) (i := i) f g m1 m2 t
    rw [cross_some (k := (a, b, c, p, n, d)) k h0 e hf hs]
  · refine ⟨trivial, ?_⟩
    have : (i - 1).toNat = 8 := by omega
    rw [this] at hf
    rw [cross_none (k := (a, b, c, p, n, d)) k hf]
set_option maxRecDepth 20000 in
theorem cross_pure (l : List Rt) (a b c p n d : Int) (h : l.length ≤ 1000000) : Pure Tryd.prog 14 [.list .tmp RTy l, .agg [.int .i64 a, .int .i64 b, .int .i64 c, .int .i64 p, .int .i64 n, .int .i64 d]] (.tuple [.agg [.int .i64 (crossF l (a, b, c, p, n, d)).1.1, .int .i64 (crossF l (a, b, c, p, n, d)).1.2], .bool (crossF l (a, b, c, p, n, d)).2]) :=
  Pure.of_gG (E := env_cross l a b c p n d) (sh := [some 2, none]) (ann := ann_cross) (x := ((crossF l (a, b, c, p, n, d)).1.1, (crossF l (a, b, c, p, n, d)).1.2, (crossF l (a, b, c, p, n, d)).2, ())) (fn := Tryd.f14) (c := codeOf Tryd.f14) (specs_ok (P := Tryd.prog) rfl [sp_leg, sp_rtimes] [] rfl rfl) mixed Tryd.func14 rfl rfl rfl rfl rfl (g := g_cross l a b c p n d) (by delta g_cross start0; first | with_reducible exact Eq.refl _ | exact Eq.refl _) (by rw [g_cross_eq l a b c p n d]; exact g_cross_ok l a b c p n d h)
noncomputable def q_cross (l : List Rt) (a b c p n d : Int) : Prop × V := (l.length ≤ 1000000, (.tuple [.agg [.int .i64 (crossF l (a, b, c, p, n, d)).1.1, .int .i64 (crossF l (a, b, c, p, n, d)).1.2], .bool (crossF l (a, b, c, p, n, d)).2]))
noncomputable def sp_cross : FSpec Tryd.prog where
  f := 14
  run := fun args => match args with
    | [v0, .agg [.int .i64 a, .int .i64 b, .int .i64 c, .int .i64 p, .int .i64 n, .int .i64 d]] => (match (asL RTy v0 : Option (List Rt)) with | some l => some (q_cross l a b c p n d) | none => none)
    | _ => none
  ok := fun args pre r h hp => by
    try dsimp only at h
    split at h
    · rename_i v0 a b c p n d
      cases h0 : (asL RTy v0 : Option (List Rt)) with
      | none => rw [h0] at h; cases h
      | some l =>
      rw [h0] at h
      try dsimp only at h
      have h := Option.some.inj h
      unfold q_cross at h
      cases h
      exact (cross_pure l a b c p n d hp).weak (.cons (asL_weak h0) (.cons (Weak.refl _) .nil))
    · cases h

/-- The periods of rates of a kind between two currencies. -/
def persL (l : List Rt) (k : Rt) : List Int := (l.filter fun x => decide (x.1 = k.1 ∧ x.2.1 = k.2.1 ∧ x.2.2.1 = k.2.2.1)).map (·.2.2.2.1)
def knownF (l : List Rt) (k : Rt) : List Int := (persL l k).foldl withF []
def sp_sort : UFSpec Tryd.prog := sortSpec 28 ⟨fun blk off cap zs w h1 h2 h3 => Tryd.slices_Sort_int blk off cap zs w h1 h2 h3, Tryd.slices_Sort_int_none⟩
def sp_compact : UFSpec Tryd.prog := compactSpec 29 ⟨fun blk off cap zs w h1 h2 h3 => Tryd.slices_Compact_int blk off cap zs w h1 h2 h3, Tryd.slices_Compact_int_empty⟩
noncomputable def env_known (l : List Rt) (a b c p n d : Int) : Env where
  P := Tryd.prog
  ty := tys0
  specs := specsOf [sp_key]
  upd := updsOf [sp_sort, sp_compact]
  frz := fun | 18 => true | 20 => true | _ => false
  heads := fun
    | 3 => some { slots := [(10, .int .i64), (5, .slc 5000 I)], boxes := [(3, [.int .i64, .int .i64, .int .i64, .int .i64, .int .i64, .int .i64])], inv := fun _ (x : Int × List Int × Int × Int × Int × Int × Int × Int × Unit) => 0 ≤ x.1 ∧ x.1 ≤ l.length ∧ x.2.1 = persL (l.take x.1.toNat) (a, b, c, p, n, d) ∧ x.2.2.1 = a ∧ x.2.2.2.1 = b ∧ x.2.2.2.2.1 = c, measure := fun _ (x : Int × List Int × Int × Int × Int × Int × Int × Int × Unit) => (l.length - x.1).toNat }
    | _ => none
noncomputable def g_known (l : List Rt) (a b c p n d : Int) : Prop := vc (env_known l a b c p n d) (codeOf Tryd.f19) (start0 Tryd.f19 [.list .tmp RTy l, .agg [.int .i64 a, .int .i64 b, .int .i64 c, .int .i64 p, .int .i64 n, .int .i64 d]]) (exitK (tsOf Tryd.f19) [.list .part I] (knownF l (a, b, c, p, n, d), ()))
def g_known_vc (l : List Rt) (a : Int) (b : Int) (c : Int) (p : Int) (n : Int) (d : Int) : Prop :=
  (True ∧ (0 : Int) ≤ (0 : Int) ∧ (0 : Int) ≤ (↑l.length : Int) ∧ [] = persL (List.take (Int.toNat (0 : Int)) l) (a, b, c, p, n, d) ∧ a = a ∧ b = b ∧ c = c) ∧
  ∀ (x : Int × List Int × Int × Int × Int × Int × Int × Int × Unit),
    (0 : Int) ≤ x.fst ∧ x.fst ≤ (↑l.length : Int) ∧ x.snd.fst = persL (List.take x.fst.toNat l) (a, b, c, p, n, d) ∧ x.snd.snd.fst = a ∧ x.snd.snd.snd.fst = b ∧ x.snd.snd.snd.snd.fst = c →
      (decide (x.fst < (↑l.length : Int)) = true →
          ((0 : Int) ≤ x.fst ∧ x.fst < (↑l.length : Int)) ∧
            ∀ (x_1 : Int × Int × Int × Int × Int × Int),
              l[x.fst.toNat]? = some x_1 →
                True ∧
                  True ∧
                    ((decide (x_1.fst = x.snd.snd.fst) &&
                            (decide (x_1.snd.fst = x.snd.snd.snd.fst) &&
                              (decide (x_1.snd.snd.fst = x.snd.snd.snd.snd.fst) &&
                                (decide (x_1.snd.snd.snd.fst = x_1.snd.snd.snd.fst) && (decide ((0 : Int) = (0 : Int)) && (decide ((0 : Int) = (0 : Int)) && true) && true))))) =
                          true →
                        ((x.snd.fst.length + (1 : Nat)) * (8 : Nat) ≤ (140737488355328 : Nat) ∧ x.snd.fst.length + (1 : Nat) ≤ (4611686018427387904 : Nat)) ∧
                          ((-9223372036854775808 : Int) ≤ x.fst + (1 : Int) ∧ x.fst + (1 : Int) ≤ (9223372036854775807 : Int)) ∧
                            True ∧
                              ((0 : Int) ≤ x.fst + (1 : Int) ∧
                                  x.fst + (1 : Int) ≤ (↑l.length : Int) ∧
                                    x.snd.fst ++ [x_1.snd.snd.snd.fst] = persL (List.take (x.fst + (1 : Int)).toNat l) (a, b, c, p, n, d) ∧
                                      x.snd.snd.fst = a ∧ x.snd.snd.snd.fst = b ∧ x.snd.snd.snd.snd.fst = c) ∧
                                ((↑l.length : Int) - (x.fst + (1 : Int))).toNat < ((↑l.length : Int) - x.fst).toNat) ∧
                      ((decide (x_1.fst = x.snd.snd.fst) &&
                            (decide (x_1.snd.fst = x.snd.snd.snd.fst) &&
                              (decide (x_1.snd.snd.fst = x.snd.snd.snd.snd.fst) &&
                                (decide (x_1.snd.snd.snd.fst = x_1.snd.snd.snd.fst) && (decide ((0 : Int) = (0 : Int)) && (decide ((0 : Int) = (0 : Int)) && true) && true))))) =
                          false →
                        ((-9223372036854775808 : Int) ≤ x.fst + (1 : Int) ∧ x.fst + (1 : Int) ≤ (9223372036854775807 : Int)) ∧
                          True ∧
                            ((0 : Int) ≤ x.fst + (1 : Int) ∧
                                x.fst + (1 : Int) ≤ (↑l.length : Int) ∧
                                  x.snd.fst = persL (List.take (x.fst + (1 : Int)).toNat l) (a, b, c, p, n, d) ∧ x.snd.snd.fst = a ∧ x.snd.snd.snd.fst = b ∧ x.snd.snd.snd.snd.fst = c) ∧
                              ((↑l.length : Int) - (x.fst + (1 : Int))).toNat < ((↑l.length : Int) - x.fst).toNat)) ∧
        (decide (x.fst < (↑l.length : Int)) = false →
          x.snd.fst.length ≤ (1000000000 : Nat) ∧
            (x.snd.fst.mergeSort fun x y => decide (x ≤ y)).length ≤ (1000000000 : Nat) ∧
              (List.take (Lib.compact (x.snd.fst.mergeSort fun x y => decide (x ≤ y))).length
                    (List.drop (0 : Nat)
                      (Lib.compact (x.snd.fst.mergeSort fun x y => decide (x ≤ y)) ++
                        List.replicate ((x.snd.fst.mergeSort fun x y => decide (x ≤ y)).length - (Lib.compact (x.snd.fst.mergeSort fun x y => decide (x ≤ y))).length) (0 : Int))),
                  ()) =
                (knownF l (a, b, c, p, n, d), ()))

theorem g_known_eq (l : List Rt) (a b c p n d : Int) : g_known l a b c p n d = g_known_vc l a b c p n d := by kernel_rfl
theorem pers_next {l : List Rt} {k x : Rt} {i : Nat} (h : l[i]? = some x) : persL (l.take (i + 1)) k = persL (l.take i) k ++ if x.1 = k.1 ∧ x.2.1 = k.2.1 ∧ x.2.2.1 = k.2.2.1 then [x.2.2.2.1] else [] := by
  unfold persL
  rw [List.take_add_one, h]
  by_cases hx : x.1 = k.1 ∧ x.2.1 = k.2.1 ∧ x.2.2.1 = k.2.2.1 <;> simp [hx]
theorem pers_len (l : List Rt) (k : Rt) : (persL l k).length ≤ l.length := by
  unfold persL
  rw [List.length_map]
  exact List.length_filter_le _ _
theorem sortF_eq (l : List Int) : (l.mergeSort fun x y => decide (x ≤ y)) = sortF l := rfl
theorem g_known_ok (l : List Rt) (a b c p n d : Int) (h : l.length ≤ 1000000) : g_known_vc l a b c p n d := by
  unfold g_known_vc
  simp only [decide_eq_true_eq, decide_eq_false_iff_not, decide_true, Bool.and_true]
  refine ⟨⟨trivial, by omega, by omega, rfl, trivial, trivial, trivial⟩, ?_⟩
  rintro ⟨i, o, u, v, w, q, r, s, ⟨⟩⟩ ⟨h0, h1, ho, hu, hv, hw⟩
  dsimp only at h0 h1 ho hu hv hw ⊢
  subst hu hv hw
  have ol : o.length ≤ 1000000 := by
    rw [ho]
    have := pers_len (l.take i.toNat) (u, v, w, p, n, d)
    rw [List.length_take] at this
    omega
  simp only [Bool.and_eq_true, Bool.and_eq_false_iff, decide_eq_true_eq, decide_eq_false_iff_not]
  refine ⟨fun e => ⟨⟨h0, e⟩, fun x hx => ⟨trivial, trivial, fun k => ⟨by omega, by omega, trivial, ⟨by omega, by omega, ?_, trivial, trivial, trivial⟩, by omega⟩, fun k => ⟨by omega, trivial, ⟨by omega, by omega, ?_, trivial, trivial, trivial⟩, by omega⟩⟩⟩, fun e => ⟨by omega, ?_, ?_⟩⟩
  · rw [show (i + 1).toNat = i.toNat + 1 by omega, pers_next hx, if_pos k, ho]
  · rw [show (i + 1).toNat = i.toNat + 1 by omega, pers_next hx, if_neg (fun e => by rcases k with k | k | k <;> first | exact k e.1 | exact k e.2.1 | exact k e.2.2), List.append_nil, ho]
  · rw [List.length_mergeSort]
    omega
  · rw [sortF_eq, compact_sort, List.drop_zero, List.take_left' rfl, ho, List.take_of_length_le (by omega)]
    rfl
set_option maxRecDepth 20000 in
theorem known_pure (l : List Rt) (a b c p n d : Int) (h : l.length ≤ 1000000) : Pure Tryd.prog 19 [.list .tmp RTy l, .agg [.int .i64 a, .int .i64 b, .int .i64 c, .int .i64 p, .int .i64 n, .int .i64 d]] (.list .part I (knownF l (a, b, c, p, n, d))) :=
  Pure.of_g (E := env_known l a b c p n d) (ts := tsOf Tryd.f19) (ps := [.list .part I]) (r := (knownF l (a, b, c, p, n, d), ())) (fn := Tryd.f19) (c := codeOf Tryd.f19) (specs_ok (P := Tryd.prog) rfl [sp_key] [sp_sort, sp_compact] rfl rfl) mixed Tryd.func19 rfl rfl (g := g_known l a b c p n d) (by delta g_known start0; first | with_reducible exact Eq.refl _ | exact Eq.refl _) (by rw [g_known_eq l a b c p n d]; exact g_known_ok l a b c p n d h)
noncomputable def q_known (l : List Rt) (a b c p n d : Int) : Prop × V := (l.length ≤ 1000000, (.list .part I (knownF l (a, b, c, p, n, d))))
noncomputable def sp_known : FSpec Tryd.prog where
  f := 19
  run := fun args => match args with
    | [v0, .agg [.int .i64 a, .int .i64 b, .int .i64 c, .int .i64 p, .int .i64 n, .int .i64 d]] => (match (asL RTy v0 : Option (List Rt)) with | some l => some (q_known l a b c p n d) | none => none)
    | _ => none
  ok := fun args pre r h hp => by
    try dsimp only at h
    split at h
    · rename_i v0 a b c p n d
      cases h0 : (asL RTy v0 : Option (List Rt)) with
      | none => rw [h0] at h; cases h
      | some l =>
      rw [h0] at h
      try dsimp only at h
      have h := Option.some.inj h
      unfold q_known at h
      cases h
      exact (known_pure l a b c p n d hp).weak (.cons (asL_weak h0) (.cons (Weak.refl _) .nil))
    · cases h

end Go.Proofs.YtccmidojhagppaaDoor
