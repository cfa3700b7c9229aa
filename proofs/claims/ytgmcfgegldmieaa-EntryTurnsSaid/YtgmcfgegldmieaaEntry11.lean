/-
  An entry's parts.
-/
import Derived.Test.YtgmcfgegldmieaaEntry10
namespace Go.Proofs.Ytgmcfgegldmieaa
open Go.Vm

abbrev En := Int × Int × List Ln
def ofE (L : List Ln) (e : Int) : List Ln := L.filter fun x => decide (x.1 = e)
def partE (p r : Int) (L : List Ln) (e : Int) : En := (p, r, ofE L e)
def partsF (p r : Int) (L : List Ln) : List En := (entsF L).map (partE p r L)
noncomputable def env_refParts (p r : Int) (L : List Ln) : Env where
  P := Try.prog
  ty := tys
  specs := specsOf [sp_refEnts]
  frz := fun | 9 => true | _ => false
  heads := fun
    | 4 => some { slots := [(5, .int .i64), (4, .slc 5000 ETy), (6, .any), (7, .any)], boxes := [], keep := [1], inv := fun _ (x : Int × List En × Unit × Unit × Unit) => 0 ≤ x.1 ∧ x.1 ≤ (entsF L).length ∧ x.2.1 = ((entsF L).take x.1.toNat).map (partE p r L), measure := fun _ (x : Int × List En × Unit × Unit × Unit) => ((entsF L).length - x.1).toNat }
    | 8 => some { slots := [(7, .int .i64)], boxes := [(6, [.int .i64, .int .i64, .slc 5001 LTy])], keep := [1, 5000], inv := fun st (x : Int × Int × Int × List Ln × Unit) => 0 ≤ x.1 ∧ x.1 ≤ L.length ∧ x.2.1 = p ∧ x.2.2.1 = r ∧ ∀ e, (entsF L)[(st.int 5).toNat]? = some e → x.2.2.2.1 = ofE (L.take x.1.toNat) e, measure := fun _ (x : Int × Int × Int × List Ln × Unit) => (L.length - x.1).toNat }
    | _ => none
  joins := fun
    | 12 => some { slots := [], boxes := [(6, [.int .i64, .int .i64, .list .part LTy])], keep := [1, 5000], inv := fun st (x : Int × Int × List Ln × Unit) => x.1 = p ∧ x.2.1 = r ∧ ∀ e, (entsF L)[(st.int 5).toNat]? = some e → x.2.2.1 = ofE L e }
    | _ => none
noncomputable def g_refParts (p r : Int) (L : List Ln) : Prop := vc (env_refParts p r L) (codeOf Try.f21) (start0 Try.f21 [.agg [.int .i64 p, .int .i64 r, .list .tmp LTy L]]) (exitK (tsOf Try.f21) [.list .part ETy] (partsF p r L, ()))
def g_refParts_vc (p : Int) (r : Int) (L : List Ln) : Prop :=
  L.length ≤ (1000000000 : Nat) ∧
  ((some (Obj.box [V.int IntKind.i64 p, V.int IntKind.i64 r, V.list LK.tmp LTy L]) = some (Obj.box [V.int IntKind.i64 p, V.int IntKind.i64 r, V.list LK.tmp LTy L]) ∧ True) ∧
      (0 : Int) ≤ (0 : Int) ∧ (0 : Int) ≤ (↑(entsF L).length : Int) ∧ [] = List.map (partE p r L) (List.take (Int.toNat (0 : Int)) (entsF L))) ∧
    ∀ (x : Int × List (Int × Int × List (Int × Int × Int × Int)) × Unit × Unit × Unit),
      (0 : Int) ≤ x.fst ∧ x.fst ≤ (↑(entsF L).length : Int) ∧ x.snd.fst = List.map (partE p r L) (List.take x.fst.toNat (entsF L)) →
        (decide (x.fst < (↑(entsF L).length : Int)) = true →
            (((some (Obj.box [V.int IntKind.i64 p, V.int IntKind.i64 r, V.list LK.tmp LTy L]) = some (Obj.box [V.int IntKind.i64 p, V.int IntKind.i64 r, V.list LK.tmp LTy L]) ∧
                    some (Obj.arr (0 : Nat) ETy x.snd.fst) = some (Obj.arr (0 : Nat) ETy x.snd.fst) ∧ True) ∧
                  (0 : Int) ≤ (0 : Int) ∧ (0 : Int) ≤ (↑L.length : Int) ∧ p = p ∧ r = r ∧ ∀ (e : Int), (entsF L)[x.fst.toNat]? = some e → [] = ofE (List.take (Int.toNat (0 : Int)) L) e) ∧
                ∀ (x_1 : Int × Int × Int × List (Int × Int × Int × Int) × Unit),
                  ((0 : Int) ≤ x_1.fst ∧
                      x_1.fst ≤ (↑L.length : Int) ∧ x_1.snd.fst = p ∧ x_1.snd.snd.fst = r ∧ ∀ (e : Int), (entsF L)[x.fst.toNat]? = some e → x_1.snd.snd.snd.fst = ofE (List.take x_1.fst.toNat L) e) →
                    (decide (x_1.fst < (↑L.length : Int)) = true →
                        ((0 : Int) ≤ x_1.fst ∧ x_1.fst < (↑L.length : Int)) ∧
                          ∀ (x_2 : Int × Int × Int × Int),
                            L[x_1.fst.toNat]? = some x_2 →
                              ((0 : Int) ≤ x.fst ∧ x.fst < (↑(entsF L).length : Int)) ∧
                                ∀ (x_3 : Int),
                                  (entsF L)[x.fst.toNat]? = some x_3 →
                                    (decide (x_2.fst = x_3) = true →
                                        ((0 : Int) ≤ x_1.fst ∧ x_1.fst < (↑L.length : Int)) ∧
                                          ∀ (x_4 : Int × Int × Int × Int),
                                            L[x_1.fst.toNat]? = some x_4 →
                                              ((x_1.snd.snd.snd.fst.length + (1 : Nat)) * (32 : Nat) ≤ (140737488355328 : Nat) ∧ x_1.snd.snd.snd.fst.length + (1 : Nat) ≤ (4611686018427387904 : Nat)) ∧
                                                ((-9223372036854775808 : Int) ≤ x_1.fst + (1 : Int) ∧ x_1.fst + (1 : Int) ≤ (9223372036854775807 : Int)) ∧
                                                  (some (Obj.box [V.int IntKind.i64 p, V.int IntKind.i64 r, V.list LK.tmp LTy L]) =
                                                        some (Obj.box [V.int IntKind.i64 p, V.int IntKind.i64 r, V.list LK.tmp LTy L]) ∧
                                                      some (Obj.arr (0 : Nat) ETy x.snd.fst) = some (Obj.arr (0 : Nat) ETy x.snd.fst) ∧ True) ∧
                                                    ((0 : Int) ≤ x_1.fst + (1 : Int) ∧
                                                        x_1.fst + (1 : Int) ≤ (↑L.length : Int) ∧
                                                          x_1.snd.fst = p ∧
                                                            x_1.snd.snd.fst = r ∧
                                                              ∀ (e : Int),
                                                                (entsF L)[x.fst.toNat]? = some e →
                                                                  x_1.snd.snd.snd.fst ++ [(x_4.fst, x_4.snd.fst, x_4.snd.snd.fst, x_4.snd.snd.snd)] = ofE (List.take (x_1.fst + (1 : Int)).toNat L) e) ∧
                                                      ((↑L.length : Int) - (x_1.fst + (1 : Int))).toNat < ((↑L.length : Int) - x_1.fst).toNat) ∧
                                      (decide (x_2.fst = x_3) = false →
                                        ((-9223372036854775808 : Int) ≤ x_1.fst + (1 : Int) ∧ x_1.fst + (1 : Int) ≤ (9223372036854775807 : Int)) ∧
                                          (some (Obj.box [V.int IntKind.i64 p, V.int IntKind.i64 r, V.list LK.tmp LTy L]) =
                                                some (Obj.box [V.int IntKind.i64 p, V.int IntKind.i64 r, V.list LK.tmp LTy L]) ∧
                                              some (Obj.arr (0 : Nat) ETy x.snd.fst) = some (Obj.arr (0 : Nat) ETy x.snd.fst) ∧ True) ∧
                                            ((0 : Int) ≤ x_1.fst + (1 : Int) ∧
                                                x_1.fst + (1 : Int) ≤ (↑L.length : Int) ∧
                                                  x_1.snd.fst = p ∧
                                                    x_1.snd.snd.fst = r ∧ ∀ (e : Int), (entsF L)[x.fst.toNat]? = some e → x_1.snd.snd.snd.fst = ofE (List.take (x_1.fst + (1 : Int)).toNat L) e) ∧
                                              ((↑L.length : Int) - (x_1.fst + (1 : Int))).toNat < ((↑L.length : Int) - x_1.fst).toNat)) ∧
                      (decide (x_1.fst < (↑L.length : Int)) = false →
                        (some (Obj.box [V.int IntKind.i64 p, V.int IntKind.i64 r, V.list LK.tmp LTy L]) = some (Obj.box [V.int IntKind.i64 p, V.int IntKind.i64 r, V.list LK.tmp LTy L]) ∧
                            some (Obj.arr (0 : Nat) ETy x.snd.fst) = some (Obj.arr (0 : Nat) ETy x.snd.fst) ∧ True) ∧
                          x_1.snd.fst = p ∧ x_1.snd.snd.fst = r ∧ ∀ (e : Int), (entsF L)[x.fst.toNat]? = some e → x_1.snd.snd.snd.fst = ofE L e)) ∧
              ∀ (x_1 : Int × Int × List (Int × Int × Int × Int) × Unit),
                (x_1.fst = p ∧ x_1.snd.fst = r ∧ ∀ (e : Int), (entsF L)[x.fst.toNat]? = some e → x_1.snd.snd.fst = ofE L e) →
                  ((x.snd.fst.length + (1 : Nat)) * (40 : Nat) ≤ (140737488355328 : Nat) ∧ x.snd.fst.length + (1 : Nat) ≤ (4611686018427387904 : Nat)) ∧
                    ((-9223372036854775808 : Int) ≤ x.fst + (1 : Int) ∧ x.fst + (1 : Int) ≤ (9223372036854775807 : Int)) ∧
                      (some (Obj.box [V.int IntKind.i64 p, V.int IntKind.i64 r, V.list LK.tmp LTy L]) = some (Obj.box [V.int IntKind.i64 p, V.int IntKind.i64 r, V.list LK.tmp LTy L]) ∧ True) ∧
                        ((0 : Int) ≤ x.fst + (1 : Int) ∧
                            x.fst + (1 : Int) ≤ (↑(entsF L).length : Int) ∧
                              x.snd.fst ++ [(x_1.fst, x_1.snd.fst, x_1.snd.snd.fst)] = List.map (partE p r L) (List.take (x.fst + (1 : Int)).toNat (entsF L))) ∧
                          ((↑(entsF L).length : Int) - (x.fst + (1 : Int))).toNat < ((↑(entsF L).length : Int) - x.fst).toNat) ∧
          (decide (x.fst < (↑(entsF L).length : Int)) = false → (x.snd.fst, ()) = (partsF p r L, ()))

theorem g_refParts_eq (p r : Int) (L : List Ln) : g_refParts p r L = g_refParts_vc p r L := by kernel_rfl
theorem ofE_take {L : List Ln} {i : Nat} {x : Ln} {e : Int} (h : L[i]? = some x) : ofE (L.take (i + 1)) e = ofE (L.take i) e ++ if x.1 = e then [x] else [] := by
  unfold ofE
  rw [take_snoc' h, List.filter_append]
  congr 1
  by_cases c : x.1 = e
  · simp [c]
  · simp [c]
theorem ofE_len (L : List Ln) (i : Nat) (e : Int) : (ofE (L.take i) e).length ≤ L.length := by
  unfold ofE
  exact Nat.le_trans (List.length_filter_le _ _) (by simp; omega)
theorem parts_take {p r : Int} {L : List Ln} {i : Nat} {e : Int} (h : (entsF L)[i]? = some e) : ((entsF L).take (i + 1)).map (partE p r L) = ((entsF L).take i).map (partE p r L) ++ [(p, r, ofE L e)] := by
  rw [take_snoc' h, List.map_append]
  rfl
theorem g_refParts_ok (p r : Int) (L : List Ln) (h : L.length ≤ 1000) : g_refParts_vc p r L := by
  have hel := entsF_len L
  unfold g_refParts_vc
  refine ⟨by omega, ⟨⟨by trivial, by trivial⟩, by omega, by omega, by simp⟩, ?_⟩
  rintro ⟨i, M, _, _, ⟨⟩⟩ ⟨h1, h2, h3⟩
  dsimp only at h1 h2 h3 ⊢
  subst h3
  have hm : (((entsF L).take i.toNat).map (partE p r L)).length ≤ 1000 := by simp; omega
  simp only [decide_eq_true_eq, decide_eq_false_iff_not]
  refine ⟨fun hi => ?_, fun hi => ?_⟩
  · obtain ⟨e, he⟩ : ∃ e, (entsF L)[i.toNat]? = some e := ⟨_, List.getElem?_eq_getElem (by omega)⟩
    refine ⟨⟨⟨⟨by trivial, by trivial, by trivial⟩, by omega, by omega, by trivial, by trivial, fun e _ => rfl⟩, ?_⟩, ?_⟩
    · rintro ⟨k, q, s, N, ⟨⟩⟩ ⟨k1, k2, k3, k4, k5⟩
      dsimp only at k1 k2 k3 k4 k5 ⊢
      have k5 := k5 e he
      subst k3 k4 k5
      have hle := ofE_len L k.toNat e
      refine ⟨fun hk => ⟨⟨k1, hk⟩, fun x hx => ⟨⟨h1, hi⟩, fun e' he' => ⟨fun c => ⟨⟨k1, hk⟩, fun y hy => ⟨⟨by omega, by omega⟩, by omega, ⟨by trivial, by trivial, by trivial⟩, ⟨by omega, by omega, by trivial, by trivial, fun e2 he2 => ?_⟩, by omega⟩⟩, fun c => ⟨by omega, ⟨by trivial, by trivial, by trivial⟩, ⟨by omega, by omega, by trivial, by trivial, fun e2 he2 => ?_⟩, by omega⟩⟩⟩⟩, fun hk => ⟨⟨by trivial, by trivial, by trivial⟩, by trivial, by trivial, fun e2 he2 => ?_⟩⟩
      · rw [he] at he' he2
        cases he'
        cases he2
        rw [hx] at hy
        cases hy
        rw [toNat_next k1, ofE_take hx, if_pos c]
      · rw [he] at he' he2
        cases he'
        cases he2
        rw [toNat_next k1, ofE_take hx, if_neg c, List.append_nil]
      · rw [he] at he2
        cases he2
        rw [List.take_of_length_le (by omega)]
    · rintro ⟨q, s, N, ⟨⟩⟩ ⟨k1, k2, k3⟩
      dsimp only at k1 k2 k3 ⊢
      have k3 := k3 e he
      subst k1 k2 k3
      refine ⟨⟨by omega, by omega⟩, by omega, ⟨by trivial, by trivial⟩, ⟨by omega, by omega, ?_⟩, by omega⟩
      rw [toNat_next h1, parts_take he]
  · rw [List.take_of_length_le (by omega)]
    rfl
set_option maxRecDepth 20000 in
theorem refParts_pure (p r : Int) (L : List Ln) (h : L.length ≤ 1000) : Pure Try.prog 21 [.agg [.int .i64 p, .int .i64 r, .list .tmp LTy L]] (.list .part ETy (partsF p r L)) :=
  Pure.of_g (E := env_refParts p r L) (ts := tsOf Try.f21) (ps := [.list .part ETy]) (r := (partsF p r L, ())) (fn := Try.f21) (c := codeOf Try.f21) (specs_ok (P := Try.prog) rfl [sp_refEnts] [] rfl rfl) mixed Try.func21 rfl rfl (g := g_refParts p r L) (by delta g_refParts start0; first | with_reducible exact Eq.refl _ | exact Eq.refl _) (by rw [g_refParts_eq p r L]; exact g_refParts_ok p r L h)
def q_refParts (p r : Int) (L : List Ln) : Prop × V := (L.length ≤ 1000, (.list .part ETy (partsF p r L)))
noncomputable def sp_refParts : FSpec Try.prog where
  f := 21
  run := fun args => match args with
    | [.agg [.int .i64 p, .int .i64 r, v0_2]] => (match (asL LTy v0_2 : Option (List Ln)) with | some L => some (q_refParts p r L) | none => none)
    | _ => none
  ok := fun args pre r h hp => by
    try dsimp only at h
    split at h
    · rename_i p r v0_2
      cases h0_2 : (asL LTy v0_2 : Option (List Ln)) with
      | none => rw [h0_2] at h; cases h
      | some L =>
      rw [h0_2] at h
      try dsimp only at h
      have h := Option.some.inj h
      unfold q_refParts at h
      cases h
      exact (refParts_pure p r L hp).weak (.cons (Weak.agg (.cons (Weak.refl _) (.cons (Weak.refl _) (.cons (asL_weak h0_2) .nil)))) .nil)
    · cases h


end Go.Proofs.Ytgmcfgegldmieaa
