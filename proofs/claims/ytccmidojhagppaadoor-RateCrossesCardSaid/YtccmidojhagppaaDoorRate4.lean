/-
  rate: what is told by a third currency.
-/
import Derived.Test.YtccmidojhagppaaDoorRate3
namespace Go.Proofs.YtccmidojhagppaaDoor
open Go.Vm

/-- A rate from a currency to another one, straight or turned round. -/
noncomputable def legF (l : List Rt) (k : Rt) (f t : Int) : (Int × Int) × Bool :=
  if (findF l (f, t, k.2.2)).2 = true then ((findF l (f, t, k.2.2)).1, true) else
    ((invF (findF l (t, f, k.2.2)).1.1 (findF l (t, f, k.2.2)).1.2).1, (findF l (t, f, k.2.2)).2 && decide ((invF (findF l (t, f, k.2.2)).1.1 (findF l (t, f, k.2.2)).1.2).2 = 0))
noncomputable def env_leg (f t : Int) (a b c p n d : Int) (l : List Rt) : Env where
  P := Tryd.prog
  ty := tys0
  specs := specsOf [sp_find, sp_inv]
abbrev ann_leg : Ann := { slots := numP 0 [.int .i64, .int .i64, .bool], boxes := [], inv := fun _ _ => True }
noncomputable def g_leg (f t : Int) (a b c p n d : Int) (l : List Rt) : Prop := vc (env_leg f t a b c p n d l) (codeOf Tryd.f24) (start0 Tryd.f24 [.int .i64 f, .int .i64 t, .fptr [.int .i64 a, .int .i64 b, .int .i64 c, .int .i64 p, .int .i64 n, .int .i64 d], .fptr [.list .tmp RTy l]]) (exitG (env_leg f t a b c p n d l).P Tryd.f24.results.toList [some 2, none] (env_leg f t a b c p n d l).pins ann_leg ((legF l (a, b, c, p, n, d) f t).1.1, (legF l (a, b, c, p, n, d) f t).1.2, (legF l (a, b, c, p, n, d) f t).2, ()))
def g_leg_vc (f : Int) (t : Int) (a : Int) (b : Int) (c : Int) (p : Int) (n : Int) (d : Int) (l : List Rt) : Prop :=
  l.length ≤ (1000000 : Nat) ∧
  ((findF l (f, t, c, p, n, d)).snd = true →
      True ∧
        ((findF l (f, t, c, p, n, d)).fst.fst, (findF l (f, t, c, p, n, d)).fst.snd, true, ()) =
          ((legF l (a, b, c, p, n, d) f t).fst.fst, (legF l (a, b, c, p, n, d) f t).fst.snd, (legF l (a, b, c, p, n, d) f t).snd, ())) ∧
    ((findF l (f, t, c, p, n, d)).snd = false →
      l.length ≤ (1000000 : Nat) ∧
        True ∧
          ((findF l (t, f, c, p, n, d)).snd = true →
              True ∧
                ((invF (findF l (t, f, c, p, n, d)).fst.fst (findF l (t, f, c, p, n, d)).fst.snd).fst.fst, (invF (findF l (t, f, c, p, n, d)).fst.fst (findF l (t, f, c, p, n, d)).fst.snd).fst.snd,
                    decide ((invF (findF l (t, f, c, p, n, d)).fst.fst (findF l (t, f, c, p, n, d)).fst.snd).snd = (0 : Int)), ()) =
                  ((legF l (a, b, c, p, n, d) f t).fst.fst, (legF l (a, b, c, p, n, d) f t).fst.snd, (legF l (a, b, c, p, n, d) f t).snd, ())) ∧
            ((findF l (t, f, c, p, n, d)).snd = !true →
              True ∧
                ((invF (findF l (t, f, c, p, n, d)).fst.fst (findF l (t, f, c, p, n, d)).fst.snd).fst.fst, (invF (findF l (t, f, c, p, n, d)).fst.fst (findF l (t, f, c, p, n, d)).fst.snd).fst.snd,
                    false, ()) =
                  ((legF l (a, b, c, p, n, d) f t).fst.fst, (legF l (a, b, c, p, n, d) f t).fst.snd, (legF l (a, b, c, p, n, d) f t).snd, ())))

theorem g_leg_eq (f t : Int) (a b c p n d : Int) (l : List Rt) : g_leg f t a b c p n d l = g_leg_vc f t a b c p n d l := by kernel_rfl
theorem g_leg_ok (f t : Int) (a b c p n d : Int) (l : List Rt) (h : l.length ≤ 1000000) : g_leg_vc f t a b c p n d l := by
  unfold g_leg_vc legF
  dsimp only
  refine ⟨h, fun k => ⟨trivial, by rw [if_pos k]⟩, fun k => ⟨h, trivial, fun m => ⟨trivial, ?_⟩, fun m => ⟨trivial, ?_⟩⟩⟩
  · rw [if_neg (by rw [k]; decide), m, Bool.true_and]
  · rw [if_neg (by rw [k]; decide), m]
    rfl
set_option maxRecDepth 20000 in
theorem leg_pure (f t : Int) (a b c p n d : Int) (l : List Rt) (h : l.length ≤ 1000000) : Pure Tryd.prog 24 [.int .i64 f, .int .i64 t, .fptr [.int .i64 a, .int .i64 b, .int .i64 c, .int .i64 p, .int .i64 n, .int .i64 d], .fptr [.list .tmp RTy l]] (.tuple [.agg [.int .i64 (legF l (a, b, c, p, n, d) f t).1.1, .int .i64 (legF l (a, b, c, p, n, d) f t).1.2], .bool (legF l (a, b, c, p, n, d) f t).2]) :=
  Pure.of_gG (E := env_leg f t a b c p n d l) (sh := [some 2, none]) (ann := ann_leg) (x := ((legF l (a, b, c, p, n, d) f t).1.1, (legF l (a, b, c, p, n, d) f t).1.2, (legF l (a, b, c, p, n, d) f t).2, ())) (fn := Tryd.f24) (c := codeOf Tryd.f24) (specs_ok (P := Tryd.prog) rfl [sp_find, sp_inv] [] rfl rfl) mixed Tryd.func24 rfl rfl rfl rfl rfl (g := g_leg f t a b c p n d l) (by delta g_leg start0; first | with_reducible exact Eq.refl _ | exact Eq.refl _) (by rw [g_leg_eq f t a b c p n d l]; exact g_leg_ok f t a b c p n d l h)
noncomputable def q_leg (f t : Int) (a b c p n d : Int) (l : List Rt) : Prop × V := (l.length ≤ 1000000, (.tuple [.agg [.int .i64 (legF l (a, b, c, p, n, d) f t).1.1, .int .i64 (legF l (a, b, c, p, n, d) f t).1.2], .bool (legF l (a, b, c, p, n, d) f t).2]))
noncomputable def sp_leg : FSpec Tryd.prog where
  f := 24
  run := fun args => match args with
    | [.int .i64 f, .int .i64 t, .fptr [.int .i64 a, .int .i64 b, .int .i64 c, .int .i64 p, .int .i64 n, .int .i64 d], .fptr [v3_0]] => (match (asL RTy v3_0 : Option (List Rt)) with | some l => some (q_leg f t a b c p n d l) | none => none)
    | _ => none
  ok := fun args pre r h hp => by
    try dsimp only at h
    split at h
    · rename_i f t a b c p n d v3_0
      cases h3_0 : (asL RTy v3_0 : Option (List Rt)) with
      | none => rw [h3_0] at h; cases h
      | some l =>
      rw [h3_0] at h
      try dsimp only at h
      have h := Option.some.inj h
      unfold q_leg at h
      cases h
      exact (leg_pure f t a b c p n d l hp).weak (.cons (Weak.refl _) (.cons (Weak.refl _) (.cons (Weak.refl _) (.cons (weak_fptr (.cons (asL_weak h3_0) .nil)) .nil))))
    · cases h

/-- By a third currency. -/
noncomputable def crossAt (l : List Rt) (k : Rt) (i : Int) : Option (Int × Int) :=
  if i = k.1 ∨ i = k.2.1 ∨ (legF l k k.1 i).2 = false ∨ (legF l k i k.2.1).2 = false ∨ ¬ (timesF (legF l k k.1 i).1.1 (legF l k k.1 i).1.2 (legF l k i k.2.1).1.1 (legF l k i k.2.1).1.2).2 = 0 then none
    else some (timesF (legF l k k.1 i).1.1 (legF l k k.1 i).1.2 (legF l k i k.2.1).1.1 (legF l k i k.2.1).1.2).1
noncomputable def firstC (l : List Rt) (k : Rt) : Nat → Option (Int × Int)
  | 0 => none
  | n + 1 => match firstC l k n with
    | some r => some r
    | none => crossAt l k ((n : Int) + 1)
noncomputable def crossF (l : List Rt) (k : Rt) : (Int × Int) × Bool :=
  if (legF l k k.1 k.2.1).2 = true then ((legF l k k.1 k.2.1).1, true) else match firstC l k 8 with
    | some r => (r, true)
    | none => ((0, 0), false)
noncomputable def env_cross (l : List Rt) (a b c p n d : Int) : Env where
  P := Tryd.prog
  ty := tys0
  specs := specsOf [sp_leg, sp_rtimes]
  heads := fun
    | 6 => some { slots := [(9, .int .i64)], boxes := [], keep := [2, 3, 4, 7], inv := fun _ (x : Int × Unit) => 1 ≤ x.1 ∧ x.1 ≤ 9 ∧ firstC l (a, b, c, p, n, d) (x.1 - 1).toNat = none, measure := fun _ (x : Int × Unit) => (9 - x.1).toNat }
    | _ => none
theorem firstC_next {l : List Rt} {k : Rt} {i : Int} (h0 : 1 ≤ i) (h : firstC l k (i - 1).toNat = none) : firstC l k (i + 1 - 1).toNat = crossAt l k i := by
  rw [show (i + 1 - 1).toNat = (i - 1).toNat + 1 by omega]
  show (match firstC l k (i - 1).toNat with | some r => some r | none => crossAt l k (((i - 1).toNat : Int) + 1)) = _
  rw [h, show (((i - 1).toNat : Int) + 1) = i by omega]
theorem firstC_keep {l : List Rt} {k : Rt} {n : Nat} {r : Int × Int} (h : firstC l k n = some r) : ∀ j, firstC l k (n + j) = some r
  | 0 => h
  | j + 1 => by
    show (match firstC l k (n + j) with | some r => some r | none => crossAt l k (((n + j : Nat) : Int) + 1)) = _
    rw [firstC_keep h j]
theorem cross_direct {l : List Rt} {k : Rt} (h : (legF l k k.1 k.2.1).2 = true) : crossF l k = ((legF l k k.1 k.2.1).1, true) := by unfold crossF; rw [if_pos h]
theorem cross_some {l : List Rt} {k : Rt} {i : Int} {r : Int × Int} (h : (legF l k k.1 k.2.1).2 = false) (h0 : 1 ≤ i) (h8 : i ≤ 8) (hf : firstC l k (i - 1).toNat = none) (hc : crossAt l k i = some r) : crossF l k = (r, true) := by
  have h1 := firstC_next h0 hf
  rw [hc] at h1
  have h2 := firstC_keep h1 (8 - i).toNat
  rw [show (i + 1 - 1).toNat + (8 - i).toNat = 8 by omega] at h2
  unfold crossF
  rw [if_neg (by rw [h]; decide), h2]
theorem cross_none {l : List Rt} {k : Rt} (h : (legF l k k.1 k.2.1).2 = false) (hf : firstC l k 8 = none) : crossF l k = ((0, 0), false) := by
  unfold crossF
  rw [if_neg (by rw [h]; decide), hf]
theorem at_none {l : List Rt} {k : Rt} {i : Int} (h : i = k.1 ∨ i = k.2.1 ∨ (legF l k k.1 i).2 = false ∨ (legF l k i k.2.1).2 = false ∨ ¬ (timesF (legF l k k.1 i).1.1 (legF l k k.1 i).1.2 (legF l k i k.2.1).1.1 (legF l k i k.2.1).1.2).2 = 0) : crossAt l k i = none := by
  unfold crossAt; rw [if_pos h]
theorem at_some {l : List Rt} {k : Rt} {i : Int} (h1 : ¬ i = k.1) (h2 : ¬ i = k.2.1) (h3 : (legF l k k.1 i).2 = true) (h4 : (legF l k i k.2.1).2 = true) (h5 : (timesF (legF l k k.1 i).1.1 (legF l k k.1 i).1.2 (legF l k i k.2.1).1.1 (legF l k i k.2.1).1.2).2 = 0) :
    crossAt l k i = some (timesF (legF l k k.1 i).1.1 (legF l k k.1 i).1.2 (legF l k i k.2.1).1.1 (legF l k i k.2.1).1.2).1 := by
  unfold crossAt
  rw [if_neg]
  rintro (c | c | c | c | c)
  · exact h1 c
  · exact h2 c
  · rw [h3] at c; cases c
  · rw [h4] at c; cases c
  · exact c h5

end Go.Proofs.YtccmidojhagppaaDoor
