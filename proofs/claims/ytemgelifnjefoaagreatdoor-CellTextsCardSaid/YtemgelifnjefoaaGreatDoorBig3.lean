/-
  The document's whole numbers: sums, differences, what is in range.
-/
import Derived.Test.YtemgelifnjefoaaGreatDoorBig2
namespace Go.Proofs.YtemgelifnjefoaaGreatDoor
open Go.Vm

def TrimInv (l : List Int) (n : Int) : Prop := 0 ≤ n ∧ n ≤ l.length ∧ ∀ (i : Nat) d, n ≤ i → l[i]? = some d → d = 0
noncomputable def env_trim (l : List Int) : Env where
  P := Tryz.prog
  ty := tys0
  heads := fun
    | 2 => some { slots := [(3, .int .i64)], boxes := [], inv := fun _ (x : Int × Unit) => TrimInv l x.1, measure := fun _ (x : Int × Unit) => x.1.toNat }
    | _ => none
noncomputable def g_trim (l : List Int) : Prop := vc (env_trim l) (codeOf Tryz.f75) (start0 Tryz.f75 [.list .part I l]) (exitK (tsOf Tryz.f75) [.list .part I] (digs (val l).toNat, ()))
def g_trim_vc (l : List Int) : Prop :=
  (True ∧ TrimInv l (↑l.length : Int)) ∧ ∀ (x : Int × Unit), TrimInv l x.fst → (decide ((0 : Int) < x.fst) = true → ((-9223372036854775808 : Int) ≤ x.fst - (1 : Int) ∧ x.fst - (1 : Int) ≤ (9223372036854775807 : Int)) ∧ ((0 : Int) ≤ x.fst - (1 : Int) ∧ x.fst - (1 : Int) < (↑l.length : Int)) ∧ ∀ (x_1 : Int), l[(x.fst - (1 : Int)).toNat]? = some x_1 → (decide (x_1 = (0 : Int)) = true → ((-9223372036854775808 : Int) ≤ x.fst - (1 : Int) ∧ x.fst - (1 : Int) ≤ (9223372036854775807 : Int)) ∧ True ∧ TrimInv l (x.fst - (1 : Int)) ∧ (x.fst - (1 : Int)).toNat < x.fst.toNat) ∧ (decide (x_1 = (0 : Int)) = false → ((0 : Int) ≤ x.fst ∧ x.fst ≤ (↑l.length : Int)) ∧ (List.take x.fst.toNat l, ()) = (digs (val l).toNat, ()))) ∧ (decide ((0 : Int) < x.fst) = !true → ((0 : Int) ≤ x.fst ∧ x.fst ≤ (↑l.length : Int)) ∧ (List.take x.fst.toNat l, ()) = (digs (val l).toNat, ()))
theorem g_trim_eq (l : List Int) : g_trim l = g_trim_vc l := by kernel_rfl
theorem g_trim_ok (l : List Int) (h : Dig l ∧ l.length ≤ 1000000000) : g_trim_vc l := by
  obtain ⟨hd, hl⟩ := h
  refine ⟨⟨trivial, by omega, by omega, fun i d hi hx => ?_⟩, ?_⟩
  · have := (List.getElem?_eq_some_iff.1 hx).1
    omega
  · rintro ⟨n, ⟨⟩⟩ ⟨h1, h2, h3⟩
    simp only [decide_eq_true_eq, decide_eq_false_iff_not, Bool.not_true] at *
    have e : ∀ (hn : 0 < n.toNat → ∀ d, l[n.toNat - 1]? = some d → d ≠ 0), List.take n.toNat l = digs (val l).toNat := fun hn =>
      trim_law hd (by omega) (fun i d hi hx => h3 i d (by omega) hx) hn
    refine ⟨fun hn => ⟨⟨by omega, by omega⟩, ⟨by omega, by omega⟩, fun x hx => ⟨fun h0 => ⟨⟨by omega, by omega⟩, trivial, ⟨by omega, by omega, fun i d hi hd => ?_⟩, by omega⟩, fun h0 => ⟨⟨by omega, by omega⟩, ?_⟩⟩⟩, fun hn => ⟨⟨by omega, by omega⟩, ?_⟩⟩
    · by_cases hin : n ≤ i
      · exact h3 i d hin hd
      · have : (n - 1).toNat = i := by omega
        rw [this, hd] at hx
        cases hx
        exact h0
    · rw [e fun _ d hd => ?_]
      have : n.toNat - 1 = (n - 1).toNat := by omega
      rw [this, hx] at hd
      cases hd
      exact h0
    · rw [e fun h0 => by omega]
set_option maxRecDepth 20000 in
theorem trim_pure (l : List Int) (h : Dig l ∧ l.length ≤ 1000000000) : Pure Tryz.prog 75 [.list .part I l] (.list .part I (digs (val l).toNat)) :=
  Pure.of_g (E := env_trim l) (ts := tsOf Tryz.f75) (ps := [.list .part I]) (r := (digs (val l).toNat, ())) (fn := Tryz.f75) (c := codeOf Tryz.f75) (specs_ok (P := Tryz.prog) rfl [] [] rfl rfl) mixed Tryz.func75 rfl rfl (g := g_trim l) (by delta g_trim start0; first | with_reducible exact Eq.refl _ | exact Eq.refl _) (by rw [g_trim_eq l]; exact g_trim_ok l h)
noncomputable def q_trim (l : List Int) : Prop × V := (Dig l ∧ l.length ≤ 1000000000, (.list .part I (digs (val l).toNat)))
noncomputable def sp_trim : FSpec Tryz.prog where
  f := 75
  run := fun args => match args with
    | [v0] => (match (asP I v0 : Option (List Int)) with | some l => some (q_trim l) | none => none)
    | _ => none
  ok := fun args pre r h hp => by
    try dsimp only at h
    split at h
    · rename_i v0
      cases h0 : (asP I v0 : Option (List Int)) with
      | none => rw [h0] at h; cases h
      | some l =>
      rw [h0] at h
      try dsimp only at h
      have h := Option.some.inj h
      unfold q_trim at h
      cases h
      exact (trim_pure l hp).weak (.cons (asP_weak h0) .nil)
    · cases h

noncomputable def env_more (l m : List Int) : Env where
  P := Tryz.prog
  ty := tys0
  specs := specsOf [sp_trim]
  heads := fun
    | 4 => some { slots := [(7, .int .i64), (6, .int .i64), (5, .slc 5000 I)], boxes := [], inv := fun _ (x : Int × Int × List Int × Unit) => MoreInv l m x.1 x.2.1 x.2.2.1, measure := fun _ (x : Int × Int × List Int × Unit) => (l.length + m.length + 2 - x.1).toNat }
    | _ => none
  joins := fun
    | 6 => some { slots := [], boxes := [], keep := [5000], inv := fun st _ => st.int 7 < l.length ∨ st.int 7 < m.length ∨ 0 < st.int 6 }
    | 9 => some { slots := [(8, .int .i64)], boxes := [], keep := [5000], inv := fun st (x : Int × Unit) => x.1 = st.int 6 + at0 l (st.int 7).toNat }
    | 11 => some { slots := [(8, .int .i64)], boxes := [], keep := [5000], inv := fun st (x : Int × Unit) => x.1 = st.int 6 + at0 l (st.int 7).toNat + at0 m (st.int 7).toNat }
    | 13 => some { slots := [(5, .list .part I)], boxes := [], inv := fun _ (x : List Int × Unit) => Dig x.1 ∧ x.1.length ≤ 1000000000 ∧ val x.1 = val l + val m }
    | _ => none
noncomputable def g_more (l m : List Int) : Prop := vc (env_more l m) (codeOf Tryz.f72) (start0 Tryz.f72 [.list .tmp I l, .list .tmp I m]) (exitK (tsOf Tryz.f72) [.list .part I] (digs (val l + val m).toNat, ()))
def g_more_vc (l : List Int) (m : List Int) : Prop :=
  ((True ∧ MoreInv l m (0 : Int) (0 : Int) []) ∧ ∀ (x : Int × Int × List Int × Unit), MoreInv l m x.fst x.snd.fst x.snd.snd.fst → ((decide (x.fst < (↑l.length : Int)) = false → (decide (x.fst < (↑m.length : Int)) = false → (decide ((0 : Int) < x.snd.fst) = true → (some (Obj.arr (0 : Nat) I x.snd.snd.fst) = some (Obj.arr (0 : Nat) I x.snd.snd.fst) ∧ True) ∧ (x.fst < (↑l.length : Int) ∨ x.fst < (↑m.length : Int) ∨ (0 : Int) < x.snd.fst)) ∧ (decide ((0 : Int) < x.snd.fst) = false → True ∧ Dig x.snd.snd.fst ∧ x.snd.snd.fst.length ≤ (1000000000 : Nat) ∧ val x.snd.snd.fst = val l + val m)) ∧ (decide (x.fst < (↑m.length : Int)) = !false → (some (Obj.arr (0 : Nat) I x.snd.snd.fst) = some (Obj.arr (0 : Nat) I x.snd.snd.fst) ∧ True) ∧ (x.fst < (↑l.length : Int) ∨ x.fst < (↑m.length : Int) ∨ (0 : Int) < x.snd.fst))) ∧ (decide (x.fst < (↑l.length : Int)) = !false → (some (Obj.arr (0 : Nat) I x.snd.snd.fst) = some (Obj.arr (0 : Nat) I x.snd.snd.fst) ∧ True) ∧ (x.fst < (↑l.length : Int) ∨ x.fst < (↑m.length : Int) ∨ (0 : Int) < x.snd.fst))) ∧ ∀ (x_1 : Unit), x.fst < (↑l.length : Int) ∨ x.fst < (↑m.length : Int) ∨ (0 : Int) < x.snd.fst → ((decide (x.fst < (↑l.length : Int)) = true → ((0 : Int) ≤ x.fst ∧ x.fst < (↑l.length : Int)) ∧ ∀ (x_2 : Int), l[x.fst.toNat]? = some x_2 → ((-9223372036854775808 : Int) ≤ x.snd.fst + x_2 ∧ x.snd.fst + x_2 ≤ (9223372036854775807 : Int)) ∧ (some (Obj.arr (0 : Nat) I x.snd.snd.fst) = some (Obj.arr (0 : Nat) I x.snd.snd.fst) ∧ True) ∧ x.snd.fst + x_2 = x.snd.fst + at0 l x.fst.toNat) ∧ (decide (x.fst < (↑l.length : Int)) = false → (some (Obj.arr (0 : Nat) I x.snd.snd.fst) = some (Obj.arr (0 : Nat) I x.snd.snd.fst) ∧ True) ∧ x.snd.fst = x.snd.fst + at0 l x.fst.toNat)) ∧ ∀ (x_2 : Int × Unit), x_2.fst = x.snd.fst + at0 l x.fst.toNat → ((decide (x.fst < (↑m.length : Int)) = true → ((0 : Int) ≤ x.fst ∧ x.fst < (↑m.length : Int)) ∧ ∀ (x_3 : Int), m[x.fst.toNat]? = some x_3 → ((-9223372036854775808 : Int) ≤ x_2.fst + x_3 ∧ x_2.fst + x_3 ≤ (9223372036854775807 : Int)) ∧ (some (Obj.arr (0 : Nat) I x.snd.snd.fst) = some (Obj.arr (0 : Nat) I x.snd.snd.fst) ∧ True) ∧ x_2.fst + x_3 = x.snd.fst + at0 l x.fst.toNat + at0 m x.fst.toNat) ∧ (decide (x.fst < (↑m.length : Int)) = false → (some (Obj.arr (0 : Nat) I x.snd.snd.fst) = some (Obj.arr (0 : Nat) I x.snd.snd.fst) ∧ True) ∧ x_2.fst = x.snd.fst + at0 l x.fst.toNat + at0 m x.fst.toNat)) ∧ ∀ (x_3 : Int × Unit), x_3.fst = x.snd.fst + at0 l x.fst.toNat + at0 m x.fst.toNat → (10 : Int) ≠ (0 : Int) ∧ ((x.snd.snd.fst.length + (1 : Nat)) * (8 : Nat) ≤ (140737488355328 : Nat) ∧ x.snd.snd.fst.length + (1 : Nat) ≤ (4611686018427387904 : Nat)) ∧ (10 : Int) ≠ (0 : Int) ∧ ((-9223372036854775808 : Int) ≤ x_3.fst.tdiv (10 : Int) ∧ x_3.fst.tdiv (10 : Int) ≤ (9223372036854775807 : Int)) ∧ ((-9223372036854775808 : Int) ≤ x.fst + (1 : Int) ∧ x.fst + (1 : Int) ≤ (9223372036854775807 : Int)) ∧ True ∧ MoreInv l m (x.fst + (1 : Int)) (x_3.fst.tdiv (10 : Int)) (x.snd.snd.fst ++ [x_3.fst.tmod (10 : Int)]) ∧ ((↑l.length : Int) + (↑m.length : Int) + (2 : Int) - (x.fst + (1 : Int))).toNat < ((↑l.length : Int) + (↑m.length : Int) + (2 : Int) - x.fst).toNat) ∧ ∀ (x : List Int × Unit), Dig x.fst ∧ x.fst.length ≤ (1000000000 : Nat) ∧ val x.fst = val l + val m → (Dig x.fst ∧ x.fst.length ≤ (1000000000 : Nat)) ∧ (digs (val x.fst).toNat, ()) = (digs (val l + val m).toNat, ())
theorem g_more_eq (l m : List Int) : g_more l m = g_more_vc l m := by kernel_rfl
theorem g_more_ok (l m : List Int) (h : Dig l ∧ Dig m ∧ l.length ≤ 100000000 ∧ m.length ≤ 100000000) : g_more_vc l m := by
  obtain ⟨hl, hm, l1, l2⟩ := h
  refine ⟨⟨⟨trivial, more_0 l m⟩, ?_⟩, ?_⟩
  · rintro ⟨i, c, o, ⟨⟩⟩ hI
    have hI0 := hI
    obtain ⟨h1, h2, h3, h4, h5, h6, h7, h8⟩ := hI0
    simp only [decide_eq_true_eq, decide_eq_false_iff_not, Bool.not_false] at *
    refine ⟨⟨fun c1 => ⟨fun c2 => ⟨fun c3 => ⟨⟨trivial, trivial⟩, .inr (.inr c3)⟩, fun c3 => ?_⟩, fun c2 => ⟨⟨trivial, trivial⟩, .inr (.inl c2)⟩⟩, fun c1 => ⟨⟨trivial, trivial⟩, .inl c1⟩⟩, fun _ hc => ⟨⟨fun c1 => ⟨⟨h1, c1⟩, fun x hx => ?_⟩, fun c1 => ⟨⟨trivial, trivial⟩, ?_⟩⟩, ?_⟩⟩
    · obtain ⟨e1, e2⟩ := more_end hI c1 c2 c3
      exact ⟨trivial, e1, by omega, e2⟩
    · have := dig_get hl hx
      exact ⟨⟨by omega, by omega⟩, ⟨trivial, trivial⟩, by rw [at0_some hx]⟩
    · rw [at0_none (l := l) (by omega), Int.add_zero]
    · rintro ⟨d, ⟨⟩⟩ hd
      have a1 := at0_dig hl i.toNat
      have a2 := at0_dig hm i.toNat
      dsimp only at hd ⊢
      refine ⟨⟨fun c1 => ⟨⟨h1, c1⟩, fun x hx => ?_⟩, fun c1 => ⟨⟨trivial, trivial⟩, ?_⟩⟩, ?_⟩
      · have := dig_get hm hx
        exact ⟨⟨by omega, by omega⟩, ⟨trivial, trivial⟩, by rw [at0_some hx]; omega⟩
      · rw [at0_none (l := m) (by omega), Int.add_zero]
        exact hd
      · rintro ⟨e, ⟨⟩⟩ he
        dsimp only at he ⊢
        have ed : e.tdiv 10 = e / 10 := Int.tdiv_eq_ediv_of_nonneg (by omega)
        have hi : i ≤ l.length + m.length := by
          rcases hc with hc | hc | hc
          · omega
          · omega
          · by_cases hh : (l.length : Int) + m.length < i
            · have := h8 hh; omega
            · omega
        refine ⟨by omega, ⟨by omega, by omega⟩, by omega, ⟨by omega, by omega⟩, ⟨by omega, by omega⟩, trivial, more_step hl hm hI hc (by omega), by omega⟩
  · rintro ⟨o, ⟨⟩⟩ ⟨h1, h2, h3⟩
    refine ⟨⟨h1, h2⟩, ?_⟩
    rw [h3]
set_option maxRecDepth 20000 in
theorem more_pure (l m : List Int) (h : Dig l ∧ Dig m ∧ l.length ≤ 100000000 ∧ m.length ≤ 100000000) : Pure Tryz.prog 72 [.list .tmp I l, .list .tmp I m] (.list .part I (digs (val l + val m).toNat)) :=
  Pure.of_g (E := env_more l m) (ts := tsOf Tryz.f72) (ps := [.list .part I]) (r := (digs (val l + val m).toNat, ())) (fn := Tryz.f72) (c := codeOf Tryz.f72) (specs_ok (P := Tryz.prog) rfl [sp_trim] [] rfl rfl) mixed Tryz.func72 rfl rfl (g := g_more l m) (by delta g_more start0; first | with_reducible exact Eq.refl _ | exact Eq.refl _) (by rw [g_more_eq l m]; exact g_more_ok l m h)
noncomputable def q_more (l m : List Int) : Prop × V := (Dig l ∧ Dig m ∧ l.length ≤ 100000000 ∧ m.length ≤ 100000000, (.list .part I (digs (val l + val m).toNat)))
noncomputable def sp_more : FSpec Tryz.prog where
  f := 72
  run := fun args => match args with
    | [v0, v1] => (match (asL I v0 : Option (List Int)) with | some l => (match (asL I v1 : Option (List Int)) with | some m => some (q_more l m) | none => none) | none => none)
    | _ => none
  ok := fun args pre r h hp => by
    try dsimp only at h
    split at h
    · rename_i v0 v1
      cases h0 : (asL I v0 : Option (List Int)) with
      | none => rw [h0] at h; cases h
      | some l =>
      rw [h0] at h
      try dsimp only at h
      cases h1 : (asL I v1 : Option (List Int)) with
      | none => rw [h1] at h; cases h
      | some m =>
      rw [h1] at h
      try dsimp only at h
      have h := Option.some.inj h
      unfold q_more at h
      cases h
      exact (more_pure l m hp).weak (.cons (asL_weak h0) (.cons (asL_weak h1) .nil))
    · cases h

noncomputable def env_fewer (l m : List Int) : Env where
  P := Tryz.prog
  ty := tys0
  specs := specsOf [sp_trim]
  heads := fun
    | 4 => some { slots := [(7, .int .i64), (6, .int .i64), (5, .slc 5000 I), (8, .any)], boxes := [], inv := fun _ (x : Int × Int × List Int × Unit × Unit) => FewInv l m x.1 x.2.1 x.2.2.1, measure := fun _ (x : Int × Int × List Int × Unit × Unit) => (l.length + 2 - x.1).toNat }
    | _ => none
  joins := fun
    | 9 => some { slots := [(8, .int .i64)], boxes := [], keep := [5000], inv := fun st (x : Int × Unit) => x.1 = at0 l (st.int 7).toNat - st.int 6 - at0 m (st.int 7).toNat }
    | 14 => some { slots := [(5, .list .part I)], boxes := [], inv := fun _ (x : List Int × Unit) => Dig x.1 ∧ x.1.length ≤ 1000000000 ∧ val x.1 = val l - val m }
    | _ => none
noncomputable def g_fewer (l m : List Int) : Prop := vc (env_fewer l m) (codeOf Tryz.f74) (start0 Tryz.f74 [.list .tmp I l, .list .tmp I m]) (exitK (tsOf Tryz.f74) [.list .part I] (digs (val l - val m).toNat, ()))
def g_fewer_vc (l : List Int) (m : List Int) : Prop :=
  ((True ∧ FewInv l m (0 : Int) (0 : Int) []) ∧ ∀ (x : Int × Int × List Int × Unit × Unit), FewInv l m x.fst x.snd.fst x.snd.snd.fst → (decide (x.fst < (↑l.length : Int)) = true → ((0 : Int) ≤ x.fst ∧ x.fst < (↑l.length : Int)) ∧ ∀ (x_1 : Int), l[x.fst.toNat]? = some x_1 → ((-9223372036854775808 : Int) ≤ x_1 - x.snd.fst ∧ x_1 - x.snd.fst ≤ (9223372036854775807 : Int)) ∧ ((decide (x.fst < (↑m.length : Int)) = true → ((0 : Int) ≤ x.fst ∧ x.fst < (↑m.length : Int)) ∧ ∀ (x_2 : Int), m[x.fst.toNat]? = some x_2 → ((-9223372036854775808 : Int) ≤ x_1 - x.snd.fst - x_2 ∧ x_1 - x.snd.fst - x_2 ≤ (9223372036854775807 : Int)) ∧ (some (Obj.arr (0 : Nat) I x.snd.snd.fst) = some (Obj.arr (0 : Nat) I x.snd.snd.fst) ∧ True) ∧ x_1 - x.snd.fst - x_2 = at0 l x.fst.toNat - x.snd.fst - at0 m x.fst.toNat) ∧ (decide (x.fst < (↑m.length : Int)) = false → (some (Obj.arr (0 : Nat) I x.snd.snd.fst) = some (Obj.arr (0 : Nat) I x.snd.snd.fst) ∧ True) ∧ x_1 - x.snd.fst = at0 l x.fst.toNat - x.snd.fst - at0 m x.fst.toNat)) ∧ ∀ (x_2 : Int × Unit), x_2.fst = at0 l x.fst.toNat - x.snd.fst - at0 m x.fst.toNat → (decide (x_2.fst < (0 : Int)) = true → ((-9223372036854775808 : Int) ≤ x_2.fst + (10 : Int) ∧ x_2.fst + (10 : Int) ≤ (9223372036854775807 : Int)) ∧ ((x.snd.snd.fst.length + (1 : Nat)) * (8 : Nat) ≤ (140737488355328 : Nat) ∧ x.snd.snd.fst.length + (1 : Nat) ≤ (4611686018427387904 : Nat)) ∧ ((-9223372036854775808 : Int) ≤ x.fst + (1 : Int) ∧ x.fst + (1 : Int) ≤ (9223372036854775807 : Int)) ∧ True ∧ FewInv l m (x.fst + (1 : Int)) (1 : Int) (x.snd.snd.fst ++ [x_2.fst + (10 : Int)]) ∧ ((↑l.length : Int) + (2 : Int) - (x.fst + (1 : Int))).toNat < ((↑l.length : Int) + (2 : Int) - x.fst).toNat) ∧ (decide (x_2.fst < (0 : Int)) = false → ((x.snd.snd.fst.length + (1 : Nat)) * (8 : Nat) ≤ (140737488355328 : Nat) ∧ x.snd.snd.fst.length + (1 : Nat) ≤ (4611686018427387904 : Nat)) ∧ ((-9223372036854775808 : Int) ≤ x.fst + (1 : Int) ∧ x.fst + (1 : Int) ≤ (9223372036854775807 : Int)) ∧ True ∧ FewInv l m (x.fst + (1 : Int)) (0 : Int) (x.snd.snd.fst ++ [x_2.fst]) ∧ ((↑l.length : Int) + (2 : Int) - (x.fst + (1 : Int))).toNat < ((↑l.length : Int) + (2 : Int) - x.fst).toNat)) ∧ (decide (x.fst < (↑l.length : Int)) = false → True ∧ Dig x.snd.snd.fst ∧ x.snd.snd.fst.length ≤ (1000000000 : Nat) ∧ val x.snd.snd.fst = val l - val m)) ∧ ∀ (x : List Int × Unit), Dig x.fst ∧ x.fst.length ≤ (1000000000 : Nat) ∧ val x.fst = val l - val m → (Dig x.fst ∧ x.fst.length ≤ (1000000000 : Nat)) ∧ (digs (val x.fst).toNat, ()) = (digs (val l - val m).toNat, ())
theorem g_fewer_eq (l m : List Int) : g_fewer l m = g_fewer_vc l m := by kernel_rfl
theorem g_fewer_ok (l m : List Int) (h : Can l ∧ Can m ∧ val m ≤ val l ∧ l.length ≤ 100000000) : g_fewer_vc l m := by
  obtain ⟨hl, hm, hv, l1⟩ := h
  have dl := hl.dig
  have dm := hm.dig
  refine ⟨⟨⟨trivial, few_0 l m⟩, ?_⟩, ?_⟩
  · rintro ⟨i, c, o, ⟨⟩, ⟨⟩⟩ hI
    have hI0 := hI
    obtain ⟨h1, h2, h3, h4, h5, h6, h7⟩ := hI0
    simp only [decide_eq_true_eq, decide_eq_false_iff_not] at *
    have a1 := at0_dig dl i.toNat
    have a2 := at0_dig dm i.toNat
    refine ⟨fun c1 => ⟨⟨h1, c1⟩, fun x hx => ?_⟩, fun c1 => ?_⟩
    · have ax := at0_some hx
      refine ⟨⟨by omega, by omega⟩, ⟨fun c2 => ⟨⟨h1, c2⟩, fun y hy => ?_⟩, fun c2 => ⟨⟨trivial, trivial⟩, ?_⟩⟩, ?_⟩
      · have ay := at0_some hy
        exact ⟨⟨by omega, by omega⟩, ⟨trivial, trivial⟩, by omega⟩
      · have ay := at0_none (l := m) (i := i.toNat) (by omega)
        omega
      · rintro ⟨d, ⟨⟩⟩ hd
        dsimp only at hd ⊢
        refine ⟨fun c3 => ⟨⟨by omega, by omega⟩, ⟨by omega, by omega⟩, ⟨by omega, by omega⟩, trivial, few_step dl dm hI c1 hd (.inl ⟨c3, rfl, rfl⟩), by omega⟩,
          fun c3 => ⟨⟨by omega, by omega⟩, ⟨by omega, by omega⟩, trivial, few_step dl dm hI c1 hd (.inr ⟨c3, rfl, rfl⟩), by omega⟩⟩
    · obtain ⟨e1, e2⟩ := few_end hl hm hv hI c1
      exact ⟨trivial, e1, by omega, e2⟩
  · rintro ⟨o, ⟨⟩⟩ ⟨h1, h2, h3⟩
    refine ⟨⟨h1, h2⟩, ?_⟩
    rw [h3]
set_option maxRecDepth 20000 in
theorem fewer_pure (l m : List Int) (h : Can l ∧ Can m ∧ val m ≤ val l ∧ l.length ≤ 100000000) : Pure Tryz.prog 74 [.list .tmp I l, .list .tmp I m] (.list .part I (digs (val l - val m).toNat)) :=
  Pure.of_g (E := env_fewer l m) (ts := tsOf Tryz.f74) (ps := [.list .part I]) (r := (digs (val l - val m).toNat, ())) (fn := Tryz.f74) (c := codeOf Tryz.f74) (specs_ok (P := Tryz.prog) rfl [sp_trim] [] rfl rfl) mixed Tryz.func74 rfl rfl (g := g_fewer l m) (by delta g_fewer start0; first | with_reducible exact Eq.refl _ | exact Eq.refl _) (by rw [g_fewer_eq l m]; exact g_fewer_ok l m h)
noncomputable def q_fewer (l m : List Int) : Prop × V := (Can l ∧ Can m ∧ val m ≤ val l ∧ l.length ≤ 100000000, (.list .part I (digs (val l - val m).toNat)))
noncomputable def sp_fewer : FSpec Tryz.prog where
  f := 74
  run := fun args => match args with
    | [v0, v1] => (match (asL I v0 : Option (List Int)) with | some l => (match (asL I v1 : Option (List Int)) with | some m => some (q_fewer l m) | none => none) | none => none)
    | _ => none
  ok := fun args pre r h hp => by
    try dsimp only at h
    split at h
    · rename_i v0 v1
      cases h0 : (asL I v0 : Option (List Int)) with
      | none => rw [h0] at h; cases h
      | some l =>
      rw [h0] at h
      try dsimp only at h
      cases h1 : (asL I v1 : Option (List Int)) with
      | none => rw [h1] at h; cases h
      | some m =>
      rw [h1] at h
      try dsimp only at h
      have h := Option.some.inj h
      unfold q_fewer at h
      cases h
      exact (fewer_pure l m hp).weak (.cons (asL_weak h0) (.cons (asL_weak h1) .nil))
    · cases h

def cmpV (a b : Int) : Int := if a < b then -1 else if b < a then 1 else 0
noncomputable def env_digits (l m : List Int) : Env where
  P := Tryz.prog
  ty := tys0
  heads := fun
    | 6 => some { slots := [(5, .int .i64)], boxes := [], inv := fun _ (x : Int × Unit) => -1 ≤ x.1 ∧ x.1 < l.length ∧ l.length = m.length ∧ l.drop (x.1 + 1).toNat = m.drop (x.1 + 1).toNat, measure := fun _ (x : Int × Unit) => (x.1 + 1).toNat }
    | _ => none
noncomputable def g_digits (l m : List Int) : Prop := vc (env_digits l m) (codeOf Tryz.f73) (start0 Tryz.f73 [.list .tmp I l, .list .tmp I m]) (exitK (tsOf Tryz.f73) [.int .i64] (cmpV (val l) (val m), ()))
def g_digits_vc (l : List Int) (m : List Int) : Prop :=
  ((!decide ((↑l.length : Int) = (↑m.length : Int))) = true → (decide ((↑l.length : Int) < (↑m.length : Int)) = true → ((-1 : Int), ()) = (cmpV (val l) (val m), ())) ∧ (decide ((↑l.length : Int) < (↑m.length : Int)) = false → ((1 : Int), ()) = (cmpV (val l) (val m), ()))) ∧ ((!decide ((↑l.length : Int) = (↑m.length : Int))) = false → ((-9223372036854775808 : Int) ≤ (↑l.length : Int) - (1 : Int) ∧ (↑l.length : Int) - (1 : Int) ≤ (9223372036854775807 : Int)) ∧ (True ∧ (-1 : Int) ≤ (↑l.length : Int) - (1 : Int) ∧ (↑l.length : Int) - (1 : Int) < (↑l.length : Int) ∧ l.length = m.length ∧ List.drop ((↑l.length : Int) - (1 : Int) + (1 : Int)).toNat l = List.drop ((↑l.length : Int) - (1 : Int) + (1 : Int)).toNat m) ∧ ∀ (x : Int × Unit), (-1 : Int) ≤ x.fst ∧ x.fst < (↑l.length : Int) ∧ l.length = m.length ∧ List.drop (x.fst + (1 : Int)).toNat l = List.drop (x.fst + (1 : Int)).toNat m → (decide ((0 : Int) ≤ x.fst) = true → ((0 : Int) ≤ x.fst ∧ x.fst < (↑l.length : Int)) ∧ ∀ (x_1 : Int), l[x.fst.toNat]? = some x_1 → ((0 : Int) ≤ x.fst ∧ x.fst < (↑m.length : Int)) ∧ ∀ (x_2 : Int), m[x.fst.toNat]? = some x_2 → (decide (x_1 < x_2) = true → ((-1 : Int), ()) = (cmpV (val l) (val m), ())) ∧ (decide (x_1 < x_2) = false → ((0 : Int) ≤ x.fst ∧ x.fst < (↑l.length : Int)) ∧ ∀ (x_3 : Int), l[x.fst.toNat]? = some x_3 → ((0 : Int) ≤ x.fst ∧ x.fst < (↑m.length : Int)) ∧ ∀ (x_4 : Int), m[x.fst.toNat]? = some x_4 → (decide (x_4 < x_3) = true → ((1 : Int), ()) = (cmpV (val l) (val m), ())) ∧ (decide (x_4 < x_3) = false → ((-9223372036854775808 : Int) ≤ x.fst - (1 : Int) ∧ x.fst - (1 : Int) ≤ (9223372036854775807 : Int)) ∧ True ∧ ((-1 : Int) ≤ x.fst - (1 : Int) ∧ x.fst - (1 : Int) < (↑l.length : Int) ∧ l.length = m.length ∧ List.drop (x.fst - (1 : Int) + (1 : Int)).toNat l = List.drop (x.fst - (1 : Int) + (1 : Int)).toNat m) ∧ (x.fst - (1 : Int) + (1 : Int)).toNat < (x.fst + (1 : Int)).toNat))) ∧ (decide ((0 : Int) ≤ x.fst) = false → ((0 : Int), ()) = (cmpV (val l) (val m), ())))
theorem g_digits_eq (l m : List Int) : g_digits l m = g_digits_vc l m := by kernel_rfl
theorem g_digits_ok (l m : List Int) (h : Can l ∧ Can m ∧ l.length ≤ 1000000000) : g_digits_vc l m := by
  obtain ⟨hl, hm, l1⟩ := h
  unfold g_digits_vc cmpV
  simp only [decide_eq_true_eq, decide_eq_false_iff_not, Bool.not_eq_true', Bool.not_eq_false']
  refine ⟨fun c1 => ⟨fun c2 => ?_, fun c2 => ?_⟩, fun c1 => ⟨⟨by omega, by omega⟩, ⟨trivial, by omega, by omega, by omega, ?_⟩, ?_⟩⟩
  · rw [if_pos (can_len_lt hl hm (by omega))]
  · have := can_len_lt hm hl (by omega)
    rw [if_neg (by omega), if_pos this]
  · rw [List.drop_of_length_le (by omega), List.drop_of_length_le (by omega)]
  · rintro ⟨i, ⟨⟩⟩ ⟨h1, h2, h3, h4⟩
    simp only at *
    have e1 : (i + 1).toNat = i.toNat + 1 ∨ i = -1 := by omega
    refine ⟨fun c2 => ⟨⟨c2, h2⟩, fun x hx => ⟨⟨c2, by omega⟩, fun y hy => ⟨fun c3 => ?_, fun c3 => ⟨⟨c2, h2⟩, fun x' hx' => ⟨⟨c2, by omega⟩, fun y' hy' => ?_⟩⟩⟩⟩⟩, fun c2 => ?_⟩
    · have e2 : (i + 1).toNat = i.toNat + 1 := by omega
      rw [e2] at h4
      rw [if_pos (cmp_law hl.dig hm.dig h3 hx hy h4 c3)]
    · rw [hx] at hx'
      cases hx'
      rw [hy] at hy'
      cases hy'
      have e2 : (i + 1).toNat = i.toNat + 1 := by omega
      rw [e2] at h4
      refine ⟨fun c4 => ?_, fun c4 => ⟨⟨by omega, by omega⟩, trivial, ⟨by omega, by omega, h3, ?_⟩, by omega⟩⟩
      · have := cmp_law hm.dig hl.dig h3.symm hy hx h4.symm c4
        rw [if_neg (by omega), if_pos this]
      · have e3 : (i - 1 + 1).toNat = i.toNat := by omega
        have exy : x = y := by omega
        subst exy
        rw [e3]
        obtain ⟨q1, q2⟩ := List.getElem?_eq_some_iff.1 hx
        obtain ⟨q3, q4⟩ := List.getElem?_eq_some_iff.1 hy
        rw [List.drop_eq_getElem_cons q1, List.drop_eq_getElem_cons q3, h4, q2, q4]
    · have : i = -1 := by omega
      subst this
      have : l = m := by simpa using h4
      subst this
      rw [if_neg (by omega), if_neg (by omega)]
set_option maxRecDepth 20000 in
theorem digits_pure (l m : List Int) (h : Can l ∧ Can m ∧ l.length ≤ 1000000000) : Pure Tryz.prog 73 [.list .tmp I l, .list .tmp I m] (.int .i64 (cmpV (val l) (val m))) :=
  Pure.of_g (E := env_digits l m) (ts := tsOf Tryz.f73) (ps := [.int .i64]) (r := (cmpV (val l) (val m), ())) (fn := Tryz.f73) (c := codeOf Tryz.f73) (specs_ok (P := Tryz.prog) rfl [] [] rfl rfl) mixed Tryz.func73 rfl rfl (g := g_digits l m) (by delta g_digits start0; first | with_reducible exact Eq.refl _ | exact Eq.refl _) (by rw [g_digits_eq l m]; exact g_digits_ok l m h)
noncomputable def q_digits (l m : List Int) : Prop × V := (Can l ∧ Can m ∧ l.length ≤ 1000000000, (.int .i64 (cmpV (val l) (val m))))
noncomputable def sp_digits : FSpec Tryz.prog where
  f := 73
  run := fun args => match args with
    | [v0, v1] => (match (asL I v0 : Option (List Int)) with | some l => (match (asL I v1 : Option (List Int)) with | some m => some (q_digits l m) | none => none) | none => none)
    | _ => none
  ok := fun args pre r h hp => by
    try dsimp only at h
    split at h
    · rename_i v0 v1
      cases h0 : (asL I v0 : Option (List Int)) with
      | none => rw [h0] at h; cases h
      | some l =>
      rw [h0] at h
      try dsimp only at h
      cases h1 : (asL I v1 : Option (List Int)) with
      | none => rw [h1] at h; cases h
      | some m =>
      rw [h1] at h
      try dsimp only at h
      have h := Option.some.inj h
      unfold q_digits at h
      cases h
      exact (digits_pure l m hp).weak (.cons (asL_weak h0) (.cons (asL_weak h1) .nil))
    · cases h

noncomputable def env_bplus (s t : Bool) (l m : List Int) : Env where
  P := Tryz.prog
  ty := tys0
  specs := specsOf [sp_more, sp_digits, sp_fewer]
  frz := fun | 17 => true | 29 => true | 45 => true | _ => false
abbrev ann_bplus : Ann := { slots := numP 0 [.bool, .list .part I], boxes := [], inv := fun _ _ => True }
noncomputable def g_bplus (s t : Bool) (l m : List Int) : Prop := vc (env_bplus s t l m) (codeOf Tryz.f51) (start0 Tryz.f51 [.agg [.bool s, .list .part I l], .agg [.bool t, .list .part I m]]) (exitG (env_bplus s t l m).P Tryz.f51.results.toList [some 2] (env_bplus s t l m).pins ann_bplus (decide (big s l + big t m < 0), digs (big s l + big t m).natAbs, ()))
def g_bplus_vc (s : Bool) (t : Bool) (l : List Int) (m : List Int) : Prop :=
  ((s == t) = true → (Dig l ∧ Dig m ∧ l.length ≤ (100000000 : Nat) ∧ m.length ≤ (100000000 : Nat)) ∧ True ∧ (s, digs (val l + val m).toNat, ()) = (decide (big s l + big t m < (0 : Int)), digs (big s l + big t m).natAbs, ())) ∧ ((s == t) = false → (Can l ∧ Can m ∧ l.length ≤ (1000000000 : Nat)) ∧ (decide ((0 : Int) ≤ cmpV (val l) (val m)) = true → (Can l ∧ Can m ∧ val m ≤ val l ∧ l.length ≤ (100000000 : Nat)) ∧ (s = true → True ∧ (decide ((0 : Int) < (↑(digs (val l - val m).toNat).length : Int)), digs (val l - val m).toNat, ()) = (decide (big s l + big t m < (0 : Int)), digs (big s l + big t m).natAbs, ())) ∧ (s = !true → True ∧ (false, digs (val l - val m).toNat, ()) = (decide (big s l + big t m < (0 : Int)), digs (big s l + big t m).natAbs, ()))) ∧ (decide ((0 : Int) ≤ cmpV (val l) (val m)) = false → (Can m ∧ Can l ∧ val l ≤ val m ∧ m.length ≤ (100000000 : Nat)) ∧ True ∧ (t, digs (val m - val l).toNat, ()) = (decide (big s l + big t m < (0 : Int)), digs (big s l + big t m).natAbs, ())))
theorem g_bplus_eq (s t : Bool) (l m : List Int) : g_bplus s t l m = g_bplus_vc s t l m := by kernel_rfl
theorem g_bplus_ok (s t : Bool) (l m : List Int) (h : Big s l ∧ Big t m ∧ l.length ≤ 1000000 ∧ m.length ≤ 1000000) : g_bplus_vc s t l m := by
  obtain ⟨⟨hl, hs⟩, ⟨hm, ht⟩, l1, l2⟩ := h
  have vl := hl.nonneg
  have vm := hm.nonneg
  have ps : s = true → 0 < val l := fun e => by
    have : val l ≠ 0 := fun e0 => hs e (hl.nil_iff.2 e0)
    omega
  have pt : t = true → 0 < val m := fun e => by
    have : val m ≠ 0 := fun e0 => ht e (hm.nil_iff.2 e0)
    omega
  have key : ∀ {b : Bool} {n : Nat} {z : Int}, (b = true ↔ z < 0) → n = z.natAbs → (b, digs n, ()) = (decide (z < 0), digs z.natAbs, ()) := by
    rintro b n z hb rfl
    cases b with
    | true => rw [decide_eq_true (hb.1 rfl)]
    | false => rw [decide_eq_false (fun h => by have := hb.2 h; cases this)]
  have len0 : ∀ n : Nat, ((0 : Int) < ((digs n).length : Int)) ↔ 0 < n := fun n => by
    by_cases h0 : n = 0
    · subst h0; simp [digs_zero]
    · rw [digs_pos h0]; simp; omega
  unfold g_bplus_vc cmpV
  refine ⟨fun c1 => ⟨⟨hl.dig, hm.dig, by omega, by omega⟩, trivial, ?_⟩, fun c1 => ⟨⟨hl, hm, by omega⟩, fun c2 => ⟨⟨hl, hm, ?_, by omega⟩, fun c3 => ⟨trivial, ?_⟩, fun c3 => ⟨trivial, ?_⟩⟩, fun c2 => ⟨⟨hm, hl, ?_, by omega⟩, trivial, ?_⟩⟩⟩
  · have e : s = t := by simpa using c1
    subst e
    refine key ?_ ?_ <;> cases s
    · simp only [big, if_false, Bool.false_eq_true, false_iff]; omega
    · have := ps rfl; simp only [big, if_true, true_iff]; omega
    · simp only [big, if_false, Bool.false_eq_true]; omega
    · simp only [big, if_true]; omega
  · rw [decide_eq_true_eq] at c2
    by_cases h1 : val l < val m
    · rw [if_pos h1] at c2; omega
    · omega
  · subst c3
    have e : t = false := by
      cases t with
      | false => rfl
      | true => exact absurd c1 (by decide)
    subst e
    have := ps rfl
    have hge : val m ≤ val l := by
      rw [decide_eq_true_eq] at c2
      by_cases h1 : val l < val m
      · rw [if_pos h1] at c2; omega
      · omega
    refine key ?_ ?_
    · rw [decide_eq_true_eq, len0]; simp only [big, if_true, if_false, Bool.false_eq_true]; omega
    · simp only [big, if_true, if_false, Bool.false_eq_true]; omega
  · have e1 : s = false := by simpa using c3
    subst e1
    have e : t = true := by
      cases t with
      | true => rfl
      | false => exact absurd c1 (by decide)
    subst e
    have hge : val m ≤ val l := by
      rw [decide_eq_true_eq] at c2
      by_cases h1 : val l < val m
      · rw [if_pos h1] at c2; omega
      · omega
    refine key ?_ ?_
    · simp only [big, if_true, if_false, Bool.false_eq_true, false_iff]; omega
    · simp only [big, if_true, if_false, Bool.false_eq_true]; omega
  · rw [decide_eq_false_iff_not] at c2
    by_cases h1 : val l < val m
    · omega
    · rw [if_neg h1] at c2
      split at c2 <;> omega
  · have hlt : val l < val m := by
      rw [decide_eq_false_iff_not] at c2
      by_cases h1 : val l < val m
      · exact h1
      · rw [if_neg h1] at c2
        split at c2 <;> omega
    cases s <;> cases t
    · simp at c1
    · refine key ?_ ?_
      · simp only [big, if_true, if_false, Bool.false_eq_true, true_iff]; omega
      · simp only [big, if_true, if_false, Bool.false_eq_true]; omega
    · refine key ?_ ?_
      · simp only [big, if_true, if_false, Bool.false_eq_true, false_iff]; omega
      · simp only [big, if_true, if_false, Bool.false_eq_true]; omega
    · simp at c1
set_option maxRecDepth 20000 in
theorem bplus_pure (s t : Bool) (l m : List Int) (h : Big s l ∧ Big t m ∧ l.length ≤ 1000000 ∧ m.length ≤ 1000000) : Pure Tryz.prog 51 [.agg [.bool s, .list .part I l], .agg [.bool t, .list .part I m]] (.agg [.bool (decide (big s l + big t m < 0)), .list .part I (digs (big s l + big t m).natAbs)]) :=
  Pure.of_gG (E := env_bplus s t l m) (sh := [some 2]) (ann := ann_bplus) (x := (decide (big s l + big t m < 0), digs (big s l + big t m).natAbs, ())) (fn := Tryz.f51) (c := codeOf Tryz.f51) (specs_ok (P := Tryz.prog) rfl [sp_more, sp_digits, sp_fewer] [] rfl rfl) mixed Tryz.func51 rfl rfl rfl rfl rfl (g := g_bplus s t l m) (by delta g_bplus start0; first | with_reducible exact Eq.refl _ | exact Eq.refl _) (by rw [g_bplus_eq s t l m]; exact g_bplus_ok s t l m h)
noncomputable def q_bplus (s t : Bool) (l m : List Int) : Prop × V := (Big s l ∧ Big t m ∧ l.length ≤ 1000000 ∧ m.length ≤ 1000000, (.agg [.bool (decide (big s l + big t m < 0)), .list .part I (digs (big s l + big t m).natAbs)]))
noncomputable def sp_bplus : FSpec Tryz.prog where
  f := 51
  run := fun args => match args with
    | [.agg [v0_0, v0_1], .agg [v1_0, v1_1]] => (match boolOf v0_0 with | some s => (match (asP I v0_1 : Option (List Int)) with | some l => (match boolOf v1_0 with | some t => (match (asP I v1_1 : Option (List Int)) with | some m => some (q_bplus s t l m) | none => none) | none => none) | none => none) | none => none)
    | _ => none
  ok := fun args pre r h hp => by
    try dsimp only at h
    split at h
    · rename_i v0_0 v0_1 v1_0 v1_1
      cases h0_0 : boolOf v0_0 with
      | none => rw [h0_0] at h; cases h
      | some s =>
      rw [h0_0] at h
      try dsimp only at h
      cases h0_1 : (asP I v0_1 : Option (List Int)) with
      | none => rw [h0_1] at h; cases h
      | some l =>
      rw [h0_1] at h
      try dsimp only at h
      cases h1_0 : boolOf v1_0 with
      | none => rw [h1_0] at h; cases h
      | some t =>
      rw [h1_0] at h
      try dsimp only at h
      cases h1_1 : (asP I v1_1 : Option (List Int)) with
      | none => rw [h1_1] at h; cases h
      | some m =>
      rw [h1_1] at h
      try dsimp only at h
      have h := Option.some.inj h
      unfold q_bplus at h
      cases h
      exact (bplus_pure s t l m hp).weak (.cons (Weak.agg (.cons (boolOf_weak h0_0) (.cons (asP_weak h0_1) .nil))) (.cons (Weak.agg (.cons (boolOf_weak h1_0) (.cons (asP_weak h1_1) .nil))) .nil))
    · cases h

noncomputable def env_flip (s : Bool) (l : List Int) : Env where
  P := Tryz.prog
  ty := tys0
abbrev ann_flip : Ann := { slots := numP 0 [.bool, .list .part I], boxes := [], inv := fun _ _ => True }
noncomputable def g_flip (s : Bool) (l : List Int) : Prop := vc (env_flip s l) (codeOf Tryz.f53) (start0 Tryz.f53 [.agg [.bool s, .list .part I l]]) (exitG (env_flip s l).P Tryz.f53.results.toList [some 2] (env_flip s l).pins ann_flip (decide (0 - big s l < 0), digs (0 - big s l).natAbs, ()))
def g_flip_vc (s : Bool) (l : List Int) : Prop :=
  ((!s) = true → True ∧ (decide ((0 : Int) < (↑l.length : Int)), l, ()) = (decide ((0 : Int) - big s l < (0 : Int)), digs ((0 : Int) - big s l).natAbs, ())) ∧ ((!s) = !true → True ∧ (false, l, ()) = (decide ((0 : Int) - big s l < (0 : Int)), digs ((0 : Int) - big s l).natAbs, ()))
theorem g_flip_eq (s : Bool) (l : List Int) : g_flip s l = g_flip_vc s l := by kernel_rfl
theorem g_flip_ok (s : Bool) (l : List Int) (h : Big s l) : g_flip_vc s l := by
  have hb := h
  obtain ⟨hl, hs⟩ := h
  have vl := hl.nonneg
  have hn := hl.nil_iff
  have e : (0 - big s l).natAbs = (big s l).natAbs := by omega
  unfold g_flip_vc
  rw [e, big_abs hb]
  refine ⟨fun c => ⟨trivial, ?_⟩, fun c => ⟨trivial, ?_⟩⟩
  · have : s = false := by simpa using c
    subst this
    have : ((0 : Int) < l.length) ↔ (0 - val l < 0) := by
      have h1 : ((0 : Int) < l.length) ↔ ¬ l = [] := by rw [← List.length_eq_zero_iff]; omega
      rw [h1, hn]; omega
    simp only [big, if_false, Bool.false_eq_true, this]
  · have : s = true := by simpa using c
    subst this
    have : ¬ (0 - big true l < 0) := by simp only [big, if_true]; omega
    rw [decide_eq_false this]
set_option maxRecDepth 20000 in
theorem flip_pure (s : Bool) (l : List Int) (h : Big s l) : Pure Tryz.prog 53 [.agg [.bool s, .list .part I l]] (.agg [.bool (decide (0 - big s l < 0)), .list .part I (digs (0 - big s l).natAbs)]) :=
  Pure.of_gG (E := env_flip s l) (sh := [some 2]) (ann := ann_flip) (x := (decide (0 - big s l < 0), digs (0 - big s l).natAbs, ())) (fn := Tryz.f53) (c := codeOf Tryz.f53) (specs_ok (P := Tryz.prog) rfl [] [] rfl rfl) mixed Tryz.func53 rfl rfl rfl rfl rfl (g := g_flip s l) (by delta g_flip start0; first | with_reducible exact Eq.refl _ | exact Eq.refl _) (by rw [g_flip_eq s l]; exact g_flip_ok s l h)
noncomputable def q_flip (s : Bool) (l : List Int) : Prop × V := (Big s l, (.agg [.bool (decide (0 - big s l < 0)), .list .part I (digs (0 - big s l).natAbs)]))
noncomputable def sp_flip : FSpec Tryz.prog where
  f := 53
  run := fun args => match args with
    | [.agg [v0_0, v0_1]] => (match boolOf v0_0 with | some s => (match (asP I v0_1 : Option (List Int)) with | some l => some (q_flip s l) | none => none) | none => none)
    | _ => none
  ok := fun args pre r h hp => by
    try dsimp only at h
    split at h
    · rename_i v0_0 v0_1
      cases h0_0 : boolOf v0_0 with
      | none => rw [h0_0] at h; cases h
      | some s =>
      rw [h0_0] at h
      try dsimp only at h
      cases h0_1 : (asP I v0_1 : Option (List Int)) with
      | none => rw [h0_1] at h; cases h
      | some l =>
      rw [h0_1] at h
      try dsimp only at h
      have h := Option.some.inj h
      unfold q_flip at h
      cases h
      exact (flip_pure s l hp).weak (.cons (Weak.agg (.cons (boolOf_weak h0_0) (.cons (asP_weak h0_1) .nil))) .nil)
    · cases h

noncomputable def env_bminus (s t : Bool) (l m : List Int) : Env where
  P := Tryz.prog
  ty := tys0
  specs := specsOf [sp_flip, sp_bplus]
  frz := fun | 7 => true | 8 => true | _ => false
abbrev ann_bminus : Ann := { slots := numP 0 [.bool, .list .part I], boxes := [], inv := fun _ _ => True }
noncomputable def g_bminus (s t : Bool) (l m : List Int) : Prop := vc (env_bminus s t l m) (codeOf Tryz.f100) (start0 Tryz.f100 [.agg [.bool s, .list .part I l], .agg [.bool t, .list .part I m]]) (exitG (env_bminus s t l m).P Tryz.f100.results.toList [some 2] (env_bminus s t l m).pins ann_bminus (decide (big s l - big t m < 0), digs (big s l - big t m).natAbs, ()))
def g_bminus_vc (s : Bool) (t : Bool) (l : List Int) (m : List Int) : Prop :=
  Big t m ∧ (Big s l ∧ Big (decide ((0 : Int) - big t m < (0 : Int))) (digs ((0 : Int) - big t m).natAbs) ∧ l.length ≤ (1000000 : Nat) ∧ (digs ((0 : Int) - big t m).natAbs).length ≤ (1000000 : Nat)) ∧ True ∧ (decide (big s l + big (decide ((0 : Int) - big t m < (0 : Int))) (digs ((0 : Int) - big t m).natAbs) < (0 : Int)), digs (big s l + big (decide ((0 : Int) - big t m < (0 : Int))) (digs ((0 : Int) - big t m).natAbs)).natAbs, ()) = (decide (big s l - big t m < (0 : Int)), digs (big s l - big t m).natAbs, ())
theorem g_bminus_eq (s t : Bool) (l m : List Int) : g_bminus s t l m = g_bminus_vc s t l m := by kernel_rfl
theorem g_bminus_ok (s t : Bool) (l m : List Int) (h : Big s l ∧ Big t m ∧ l.length ≤ 1000000 ∧ m.length ≤ 1000000) : g_bminus_vc s t l m := by
  obtain ⟨h1, h2, l1, l2⟩ := h
  have e : (0 - big t m).natAbs = (big t m).natAbs := by omega
  refine ⟨h2, ⟨h1, Big_digs _, l1, by rw [e, big_abs h2]; exact l2⟩, trivial, ?_⟩
  rw [big_digs, show big s l + (0 - big t m) = big s l - big t m by omega]
set_option maxRecDepth 20000 in
theorem bminus_pure (s t : Bool) (l m : List Int) (h : Big s l ∧ Big t m ∧ l.length ≤ 1000000 ∧ m.length ≤ 1000000) : Pure Tryz.prog 100 [.agg [.bool s, .list .part I l], .agg [.bool t, .list .part I m]] (.agg [.bool (decide (big s l - big t m < 0)), .list .part I (digs (big s l - big t m).natAbs)]) :=
  Pure.of_gG (E := env_bminus s t l m) (sh := [some 2]) (ann := ann_bminus) (x := (decide (big s l - big t m < 0), digs (big s l - big t m).natAbs, ())) (fn := Tryz.f100) (c := codeOf Tryz.f100) (specs_ok (P := Tryz.prog) rfl [sp_flip, sp_bplus] [] rfl rfl) mixed Tryz.func100 rfl rfl rfl rfl rfl (g := g_bminus s t l m) (by delta g_bminus start0; first | with_reducible exact Eq.refl _ | exact Eq.refl _) (by rw [g_bminus_eq s t l m]; exact g_bminus_ok s t l m h)
noncomputable def q_bminus (s t : Bool) (l m : List Int) : Prop × V := (Big s l ∧ Big t m ∧ l.length ≤ 1000000 ∧ m.length ≤ 1000000, (.agg [.bool (decide (big s l - big t m < 0)), .list .part I (digs (big s l - big t m).natAbs)]))
noncomputable def sp_bminus : FSpec Tryz.prog where
  f := 100
  run := fun args => match args with
    | [.agg [v0_0, v0_1], .agg [v1_0, v1_1]] => (match boolOf v0_0 with | some s => (match (asP I v0_1 : Option (List Int)) with | some l => (match boolOf v1_0 with | some t => (match (asP I v1_1 : Option (List Int)) with | some m => some (q_bminus s t l m) | none => none) | none => none) | none => none) | none => none)
    | _ => none
  ok := fun args pre r h hp => by
    try dsimp only at h
    split at h
    · rename_i v0_0 v0_1 v1_0 v1_1
      cases h0_0 : boolOf v0_0 with
      | none => rw [h0_0] at h; cases h
      | some s =>
      rw [h0_0] at h
      try dsimp only at h
      cases h0_1 : (asP I v0_1 : Option (List Int)) with
      | none => rw [h0_1] at h; cases h
      | some l =>
      rw [h0_1] at h
      try dsimp only at h
      cases h1_0 : boolOf v1_0 with
      | none => rw [h1_0] at h; cases h
      | some t =>
      rw [h1_0] at h
      try dsimp only at h
      cases h1_1 : (asP I v1_1 : Option (List Int)) with
      | none => rw [h1_1] at h; cases h
      | some m =>
      rw [h1_1] at h
      try dsimp only at h
      have h := Option.some.inj h
      unfold q_bminus at h
      cases h
      exact (bminus_pure s t l m hp).weak (.cons (Weak.agg (.cons (boolOf_weak h0_0) (.cons (asP_weak h0_1) .nil))) (.cons (Weak.agg (.cons (boolOf_weak h1_0) (.cons (asP_weak h1_1) .nil))) .nil))
    · cases h

noncomputable def env_bcmp (s t : Bool) (l m : List Int) : Env where
  P := Tryz.prog
  ty := tys0
  specs := specsOf [sp_bminus]
noncomputable def g_bcmp (s t : Bool) (l m : List Int) : Prop := vc (env_bcmp s t l m) (codeOf Tryz.f91) (start0 Tryz.f91 [.agg [.bool s, .list .part I l], .agg [.bool t, .list .part I m]]) (exitK (tsOf Tryz.f91) [.int .i64] (cmpV (big s l) (big t m), ()))
def g_bcmp_vc (s : Bool) (t : Bool) (l : List Int) (m : List Int) : Prop :=
  (Big s l ∧ Big t m ∧ l.length ≤ (1000000 : Nat) ∧ m.length ≤ (1000000 : Nat)) ∧ (decide (big s l - big t m < (0 : Int)) = true → ((-1 : Int), ()) = (cmpV (big s l) (big t m), ())) ∧ (decide (big s l - big t m < (0 : Int)) = false → (decide ((0 : Int) < (↑(digs (big s l - big t m).natAbs).length : Int)) = true → ((1 : Int), ()) = (cmpV (big s l) (big t m), ())) ∧ (decide ((0 : Int) < (↑(digs (big s l - big t m).natAbs).length : Int)) = false → ((0 : Int), ()) = (cmpV (big s l) (big t m), ())))
theorem g_bcmp_eq (s t : Bool) (l m : List Int) : g_bcmp s t l m = g_bcmp_vc s t l m := by kernel_rfl
theorem g_bcmp_ok (s t : Bool) (l m : List Int) (h : Big s l ∧ Big t m ∧ l.length ≤ 1000000 ∧ m.length ≤ 1000000) : g_bcmp_vc s t l m := by
  have len0 : ∀ n : Nat, ((0 : Int) < ((digs n).length : Int)) ↔ 0 < n := fun n => by
    by_cases h0 : n = 0
    · subst h0; simp [digs_zero]
    · rw [digs_pos h0]; simp; omega
  unfold g_bcmp_vc cmpV
  simp only [decide_eq_true_eq, decide_eq_false_iff_not, len0]
  refine ⟨h, fun c => ?_, fun c => ⟨fun c2 => ?_, fun c2 => ?_⟩⟩
  · rw [if_pos (by omega)]
  · rw [if_neg (by omega), if_pos (by omega)]
  · rw [if_neg (by omega), if_neg (by omega)]
set_option maxRecDepth 20000 in
theorem bcmp_pure (s t : Bool) (l m : List Int) (h : Big s l ∧ Big t m ∧ l.length ≤ 1000000 ∧ m.length ≤ 1000000) : Pure Tryz.prog 91 [.agg [.bool s, .list .part I l], .agg [.bool t, .list .part I m]] (.int .i64 (cmpV (big s l) (big t m))) :=
  Pure.of_g (E := env_bcmp s t l m) (ts := tsOf Tryz.f91) (ps := [.int .i64]) (r := (cmpV (big s l) (big t m), ())) (fn := Tryz.f91) (c := codeOf Tryz.f91) (specs_ok (P := Tryz.prog) rfl [sp_bminus] [] rfl rfl) mixed Tryz.func91 rfl rfl (g := g_bcmp s t l m) (by delta g_bcmp start0; first | with_reducible exact Eq.refl _ | exact Eq.refl _) (by rw [g_bcmp_eq s t l m]; exact g_bcmp_ok s t l m h)
noncomputable def q_bcmp (s t : Bool) (l m : List Int) : Prop × V := (Big s l ∧ Big t m ∧ l.length ≤ 1000000 ∧ m.length ≤ 1000000, (.int .i64 (cmpV (big s l) (big t m))))
noncomputable def sp_bcmp : FSpec Tryz.prog where
  f := 91
  run := fun args => match args with
    | [.agg [v0_0, v0_1], .agg [v1_0, v1_1]] => (match boolOf v0_0 with | some s => (match (asP I v0_1 : Option (List Int)) with | some l => (match boolOf v1_0 with | some t => (match (asP I v1_1 : Option (List Int)) with | some m => some (q_bcmp s t l m) | none => none) | none => none) | none => none) | none => none)
    | _ => none
  ok := fun args pre r h hp => by
    try dsimp only at h
    split at h
    · rename_i v0_0 v0_1 v1_0 v1_1
      cases h0_0 : boolOf v0_0 with
      | none => rw [h0_0] at h; cases h
      | some s =>
      rw [h0_0] at h
      try dsimp only at h
      cases h0_1 : (asP I v0_1 : Option (List Int)) with
      | none => rw [h0_1] at h; cases h
      | some l =>
      rw [h0_1] at h
      try dsimp only at h
      cases h1_0 : boolOf v1_0 with
      | none => rw [h1_0] at h; cases h
      | some t =>
      rw [h1_0] at h
      try dsimp only at h
      cases h1_1 : (asP I v1_1 : Option (List Int)) with
      | none => rw [h1_1] at h; cases h
      | some m =>
      rw [h1_1] at h
      try dsimp only at h
      have h := Option.some.inj h
      unfold q_bcmp at h
      cases h
      exact (bcmp_pure s t l m hp).weak (.cons (Weak.agg (.cons (boolOf_weak h0_0) (.cons (asP_weak h0_1) .nil))) (.cons (Weak.agg (.cons (boolOf_weak h1_0) (.cons (asP_weak h1_1) .nil))) .nil))
    · cases h

/-- The number, if it is in range. -/
def intB (z : Int) : Int := if -9223372036854775808 ≤ z ∧ z ≤ 9223372036854775807 then z else 0
def okB (z : Int) : Bool := decide (-9223372036854775808 ≤ z) && decide (z ≤ 9223372036854775807)
def IntInv (s : Bool) (l : List Int) (i n : Int) : Prop := -1 ≤ i ∧ i < l.length ∧ n = big s (l.drop (i + 1).toNat)
noncomputable def env_bint (s : Bool) (l : List Int) : Env where
  P := Tryz.prog
  ty := tys0
  specs := specsOf [sp_of, sp_bcmp]
  frz := fun | 7 => true | 8 => true | 12 => true | 13 => true | _ => false
  heads := fun
    | 5 => some { slots := [(5, .int .i64), (4, .int .i64)], boxes := [], keep := [1], inv := fun _ (x : Int × Int × Unit) => IntInv s l x.1 x.2.1, measure := fun _ (x : Int × Int × Unit) => (x.1 + 1).toNat }
    | _ => none
noncomputable def g_bint (s : Bool) (l : List Int) : Prop := vc (env_bint s l) (codeOf Tryz.f76) (start0 Tryz.f76 [.agg [.bool s, .list .part I l]]) (exitK (tsOf Tryz.f76) [.int .i64, .bool] (intB (big s l), okB (big s l), ()))
def g_bint_vc (s : Bool) (l : List Int) : Prop :=
  InI (-9223372036854775808 : Int) ∧ (Big s l ∧ Big (decide ((-9223372036854775808 : Int) < (0 : Int))) (digs (-9223372036854775808 : Int).natAbs) ∧ l.length ≤ (1000000 : Nat) ∧ (digs (-9223372036854775808 : Int).natAbs).length ≤ (1000000 : Nat)) ∧ (decide (cmpV (big s l) (big (decide ((-9223372036854775808 : Int) < (0 : Int))) (digs (-9223372036854775808 : Int).natAbs)) < (0 : Int)) = false → InI (9223372036854775807 : Int) ∧ (Big s l ∧ Big (decide ((9223372036854775807 : Int) < (0 : Int))) (digs (Int.natAbs (9223372036854775807 : Int))) ∧ l.length ≤ (1000000 : Nat) ∧ (digs (Int.natAbs (9223372036854775807 : Int))).length ≤ (1000000 : Nat)) ∧ (decide ((0 : Int) < cmpV (big s l) (big (decide ((9223372036854775807 : Int) < (0 : Int))) (digs (Int.natAbs (9223372036854775807 : Int))))) = true → ((0 : Int), false, ()) = (intB (big s l), okB (big s l), ())) ∧ (decide ((0 : Int) < cmpV (big s l) (big (decide ((9223372036854775807 : Int) < (0 : Int))) (digs (Int.natAbs (9223372036854775807 : Int))))) = false → ((-9223372036854775808 : Int) ≤ (↑l.length : Int) - (1 : Int) ∧ (↑l.length : Int) - (1 : Int) ≤ (9223372036854775807 : Int)) ∧ ((some (Obj.box [V.bool s, V.list LK.part I l]) = some (Obj.box [V.bool s, V.list LK.part I l]) ∧ True) ∧ IntInv s l ((↑l.length : Int) - (1 : Int)) (0 : Int)) ∧ ∀ (x : Int × Int × Unit), IntInv s l x.fst x.snd.fst → (decide ((0 : Int) ≤ x.fst) = true → (s = true → ((-9223372036854775808 : Int) ≤ x.snd.fst * (10 : Int) ∧ x.snd.fst * (10 : Int) ≤ (9223372036854775807 : Int)) ∧ ((0 : Int) ≤ x.fst ∧ x.fst < (↑l.length : Int)) ∧ ∀ (x_1 : Int), l[x.fst.toNat]? = some x_1 → ((-9223372036854775808 : Int) ≤ x.snd.fst * (10 : Int) - x_1 ∧ x.snd.fst * (10 : Int) - x_1 ≤ (9223372036854775807 : Int)) ∧ ((-9223372036854775808 : Int) ≤ x.fst - (1 : Int) ∧ x.fst - (1 : Int) ≤ (9223372036854775807 : Int)) ∧ (some (Obj.box [V.bool s, V.list LK.part I l]) = some (Obj.box [V.bool s, V.list LK.part I l]) ∧ True) ∧ IntInv s l (x.fst - (1 : Int)) (x.snd.fst * (10 : Int) - x_1) ∧ (x.fst - (1 : Int) + (1 : Int)).toNat < (x.fst + (1 : Int)).toNat) ∧ (s = false → ((-9223372036854775808 : Int) ≤ x.snd.fst * (10 : Int) ∧ x.snd.fst * (10 : Int) ≤ (9223372036854775807 : Int)) ∧ ((0 : Int) ≤ x.fst ∧ x.fst < (↑l.length : Int)) ∧ ∀ (x_1 : Int), l[x.fst.toNat]? = some x_1 → ((-9223372036854775808 : Int) ≤ x.snd.fst * (10 : Int) + x_1 ∧ x.snd.fst * (10 : Int) + x_1 ≤ (9223372036854775807 : Int)) ∧ ((-9223372036854775808 : Int) ≤ x.fst - (1 : Int) ∧ x.fst - (1 : Int) ≤ (9223372036854775807 : Int)) ∧ (some (Obj.box [V.bool s, V.list LK.part I l]) = some (Obj.box [V.bool s, V.list LK.part I l]) ∧ True) ∧ IntInv s l (x.fst - (1 : Int)) (x.snd.fst * (10 : Int) + x_1) ∧ (x.fst - (1 : Int) + (1 : Int)).toNat < (x.fst + (1 : Int)).toNat)) ∧ (decide ((0 : Int) ≤ x.fst) = false → (x.snd.fst, true, ()) = (intB (big s l), okB (big s l), ())))) ∧ (decide (cmpV (big s l) (big (decide ((-9223372036854775808 : Int) < (0 : Int))) (digs (-9223372036854775808 : Int).natAbs)) < (0 : Int)) = !false → ((0 : Int), false, ()) = (intB (big s l), okB (big s l), ()))
theorem g_bint_eq (s : Bool) (l : List Int) : g_bint s l = g_bint_vc s l := by kernel_rfl
theorem g_bint_ok (s : Bool) (l : List Int) (h : Big s l ∧ l.length ≤ 1000000) : g_bint_vc s l := by
  obtain ⟨hb, hl⟩ := h
  have hd := hb.1.dig
  have vl := hb.1.nonneg
  have cl : ∀ z : Int, -9223372036854775808 ≤ z → z ≤ 9223372036854775807 → (digs z.natAbs).length ≤ 1000000 := fun z h1 h2 => Nat.le_trans (digs_len (k := 19) (by omega)) (by omega)
  have bv : ∀ (i : Nat), val (l.drop i) ≤ val l ∧ 0 ≤ val (l.drop i) := fun i => by
    have h1 := val_split l i
    have h2 := val_nonneg (dig_take hd i)
    have h3 : 0 ≤ val (l.drop i) := val_nonneg fun d hd' => hd d (List.mem_of_mem_drop hd')
    have h4 : (1 : Int) ≤ 10 ^ (l.take i).length := by
      have : (0 : Int) < 10 ^ (l.take i).length := Int.pow_pos (by omega)
      omega
    have h5 : 1 * val (l.drop i) ≤ 10 ^ (l.take i).length * val (l.drop i) := Int.mul_le_mul_of_nonneg_right h4 h3
    omega
  unfold g_bint_vc
  simp only [decide_eq_true_eq, decide_eq_false_iff_not, Bool.not_false]
  rw [big_digs, big_digs]
  refine ⟨by constructor <;> decide, ⟨hb, Big_digs _, by omega, cl _ (by omega) (by omega)⟩, fun c1 => ⟨by constructor <;> decide, ⟨hb, Big_digs _, by omega, cl _ (by omega) (by omega)⟩, fun c2 => ?_, fun c2 => ?_⟩, fun c1 => ?_⟩
  · have : ¬ (big s l ≤ 9223372036854775807) := by
      unfold cmpV at c2
      split at c2
      · omega
      · split at c2 <;> omega
    simp only [intB, okB]
    rw [if_neg (by omega), decide_eq_false this, Bool.and_false]
  · have r1 : -9223372036854775808 ≤ big s l := by
      unfold cmpV at c1
      split at c1
      · omega
      · omega
    have r2 : big s l ≤ 9223372036854775807 := by
      unfold cmpV at c2
      split at c2
      · omega
      · split at c2 <;> omega
    refine ⟨⟨by omega, by omega⟩, ⟨⟨trivial, trivial⟩, by omega, by omega, ?_⟩, ?_⟩
    · rw [List.drop_of_length_le (by omega)]
      simp [big, val]
    · rintro ⟨i, n, ⟨⟩⟩ ⟨h1, h2, h3⟩
      dsimp only at h1 h2 h3 ⊢
      have step : ∀ d, l[i.toNat]? = some d → 0 ≤ i → val (l.drop i.toNat) = d + 10 * val (l.drop (i + 1).toNat) ∧ 0 ≤ d := fun d hx h0 => by
        obtain ⟨q1, q2⟩ := List.getElem?_eq_some_iff.1 hx
        rw [List.drop_eq_getElem_cons q1, q2, show (i + 1).toNat = i.toNat + 1 by omega]
        exact ⟨rfl, (dig_get hd hx).1⟩
      have b0 := bv i.toNat
      have b1 := bv (i + 1).toNat
      refine ⟨fun c3 => ⟨fun c4 => ?_, fun c4 => ?_⟩, fun c3 => ?_⟩
      · subst c4
        simp only [big, if_true] at *
        obtain ⟨d, hd0⟩ : ∃ d, l[i.toNat]? = some d := ⟨_, List.getElem?_eq_getElem (by omega)⟩
        obtain ⟨s1, s2⟩ := step d hd0 c3
        refine ⟨⟨by omega, by omega⟩, ⟨c3, h2⟩, fun x hx => ?_⟩
        rw [hd0] at hx
        cases hx
        refine ⟨⟨by omega, by omega⟩, ⟨by omega, by omega⟩, ⟨trivial, trivial⟩, ⟨by omega, by omega, ?_⟩, by omega⟩
        simp only [big, if_true]
        rw [show i - 1 + 1 = i by omega]
        omega
      · subst c4
        simp only [big, if_false, Bool.false_eq_true] at *
        obtain ⟨d, hd0⟩ : ∃ d, l[i.toNat]? = some d := ⟨_, List.getElem?_eq_getElem (by omega)⟩
        obtain ⟨s1, s2⟩ := step d hd0 c3
        refine ⟨⟨by omega, by omega⟩, ⟨c3, h2⟩, fun x hx => ?_⟩
        rw [hd0] at hx
        cases hx
        refine ⟨⟨by omega, by omega⟩, ⟨by omega, by omega⟩, ⟨trivial, trivial⟩, ⟨by omega, by omega, ?_⟩, by omega⟩
        simp only [big, if_false, Bool.false_eq_true]
        rw [show i - 1 + 1 = i by omega]
        omega
      · have : i = -1 := by omega
        subst this
        have e : n = big s l := by simpa using h3
        simp only [intB, okB]
        rw [if_pos ⟨r1, r2⟩, decide_eq_true r1, decide_eq_true r2, e]
        rfl
  · have : ¬ (-9223372036854775808 ≤ big s l) := by
      unfold cmpV at c1
      split at c1
      · omega
      · split at c1 <;> omega
    simp only [intB, okB]
    rw [if_neg (by omega), decide_eq_false this, Bool.false_and]
set_option maxRecDepth 20000 in
theorem bint_pure (s : Bool) (l : List Int) (h : Big s l ∧ l.length ≤ 1000000) : Pure Tryz.prog 76 [.agg [.bool s, .list .part I l]] (.tuple [.int .i64 (intB (big s l)), .bool (okB (big s l))]) :=
  Pure.of_g (E := env_bint s l) (ts := tsOf Tryz.f76) (ps := [.int .i64, .bool]) (r := (intB (big s l), okB (big s l), ())) (fn := Tryz.f76) (c := codeOf Tryz.f76) (specs_ok (P := Tryz.prog) rfl [sp_of, sp_bcmp] [] rfl rfl) mixed Tryz.func76 rfl rfl (g := g_bint s l) (by delta g_bint start0; first | with_reducible exact Eq.refl _ | exact Eq.refl _) (by rw [g_bint_eq s l]; exact g_bint_ok s l h)
noncomputable def q_bint (s : Bool) (l : List Int) : Prop × V := (Big s l ∧ l.length ≤ 1000000, (.tuple [.int .i64 (intB (big s l)), .bool (okB (big s l))]))
noncomputable def sp_bint : FSpec Tryz.prog where
  f := 76
  run := fun args => match args with
    | [.agg [v0_0, v0_1]] => (match boolOf v0_0 with | some s => (match (asP I v0_1 : Option (List Int)) with | some l => some (q_bint s l) | none => none) | none => none)
    | _ => none
  ok := fun args pre r h hp => by
    try dsimp only at h
    split at h
    · rename_i v0_0 v0_1
      cases h0_0 : boolOf v0_0 with
      | none => rw [h0_0] at h; cases h
      | some s =>
      rw [h0_0] at h
      try dsimp only at h
      cases h0_1 : (asP I v0_1 : Option (List Int)) with
      | none => rw [h0_1] at h; cases h
      | some l =>
      rw [h0_1] at h
      try dsimp only at h
      have h := Option.some.inj h
      unfold q_bint at h
      cases h
      exact (bint_pure s l hp).weak (.cons (Weak.agg (.cons (boolOf_weak h0_0) (.cons (asP_weak h0_1) .nil))) .nil)
    · cases h

/-- The fault of a number beyond the range. -/
def faultB (z : Int) : Int := if okB z then 0 else 10
noncomputable def env_told (s : Bool) (l : List Int) : Env where
  P := Tryz.prog
  ty := tys0
  specs := specsOf [sp_bint]
noncomputable def g_told (s : Bool) (l : List Int) : Prop := vc (env_told s l) (codeOf Tryz.f54) (start0 Tryz.f54 [.agg [.bool s, .list .part I l]]) (exitK (tsOf Tryz.f54) [.int .i64, .int .i64] (intB (big s l), faultB (big s l), ()))
def g_told_vc (s : Bool) (l : List Int) : Prop :=
  (Big s l ∧ l.length ≤ (1000000 : Nat)) ∧ ((!okB (big s l)) = true → ((0 : Int), (10 : Int), ()) = (intB (big s l), faultB (big s l), ())) ∧ ((!okB (big s l)) = false → (intB (big s l), (0 : Int), ()) = (intB (big s l), faultB (big s l), ()))
theorem g_told_eq (s : Bool) (l : List Int) : g_told s l = g_told_vc s l := by kernel_rfl
theorem g_told_ok (s : Bool) (l : List Int) (h : Big s l ∧ l.length ≤ 1000000) : g_told_vc s l := by
  unfold g_told_vc faultB
  refine ⟨h, fun c => ?_, fun c => ?_⟩
  · have c : okB (big s l) = false := by simpa using c
    have : intB (big s l) = 0 := by
      unfold okB at c
      unfold intB
      rw [Bool.and_eq_false_iff, decide_eq_false_iff_not, decide_eq_false_iff_not] at c
      rw [if_neg (by omega)]
    rw [c, this]
    rfl
  · have c : okB (big s l) = true := by simpa using c
    rw [c]
    rfl
set_option maxRecDepth 20000 in
theorem told_pure (s : Bool) (l : List Int) (h : Big s l ∧ l.length ≤ 1000000) : Pure Tryz.prog 54 [.agg [.bool s, .list .part I l]] (.tuple [.int .i64 (intB (big s l)), .int .i64 (faultB (big s l))]) :=
  Pure.of_g (E := env_told s l) (ts := tsOf Tryz.f54) (ps := [.int .i64, .int .i64]) (r := (intB (big s l), faultB (big s l), ())) (fn := Tryz.f54) (c := codeOf Tryz.f54) (specs_ok (P := Tryz.prog) rfl [sp_bint] [] rfl rfl) mixed Tryz.func54 rfl rfl (g := g_told s l) (by delta g_told start0; first | with_reducible exact Eq.refl _ | exact Eq.refl _) (by rw [g_told_eq s l]; exact g_told_ok s l h)
noncomputable def q_told (s : Bool) (l : List Int) : Prop × V := (Big s l ∧ l.length ≤ 1000000, (.tuple [.int .i64 (intB (big s l)), .int .i64 (faultB (big s l))]))
noncomputable def sp_told : FSpec Tryz.prog where
  f := 54
  run := fun args => match args with
    | [.agg [v0_0, v0_1]] => (match boolOf v0_0 with | some s => (match (asP I v0_1 : Option (List Int)) with | some l => some (q_told s l) | none => none) | none => none)
    | _ => none
  ok := fun args pre r h hp => by
    try dsimp only at h
    split at h
    · rename_i v0_0 v0_1
      cases h0_0 : boolOf v0_0 with
      | none => rw [h0_0] at h; cases h
      | some s =>
      rw [h0_0] at h
      try dsimp only at h
      cases h0_1 : (asP I v0_1 : Option (List Int)) with
      | none => rw [h0_1] at h; cases h
      | some l =>
      rw [h0_1] at h
      try dsimp only at h
      have h := Option.some.inj h
      unfold q_told at h
      cases h
      exact (told_pure s l hp).weak (.cons (Weak.agg (.cons (boolOf_weak h0_0) (.cons (asP_weak h0_1) .nil))) .nil)
    · cases h

end Go.Proofs.YtemgelifnjefoaaGreatDoor
