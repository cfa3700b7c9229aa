/-
  An entry's parts, as the program has them.
-/
import Derived.Test.YtgmcfgegldmieaaEntry11
namespace Go.Proofs.Ytgmcfgegldmieaa
open Go.Vm

noncomputable def env_parts (p r : Int) (L : List Ln) : Env where
  P := Try.prog
  ty := tys
  specs := specsOf [sp_ents, sp_search]
  frz := fun | 11 => true | _ => false
  asNest := fun | 14 => some 2 | _ => none
  heads := fun
    | 4 => some { slots := [(17, .int .i64), (4, .nst 5000 ETy 2), (5, .any), (14, .any), (15, .any)], boxes := [], keep := [1], inv := fun _ (x : Int × List En × Unit × Unit × Unit × Unit) => 0 ≤ x.1 ∧ x.1 ≤ (entsF L).length ∧ x.2.1.length = (entsF L).length ∧ ∀ j : Nat, j < x.1.toNat → x.2.1[j]? = some (p, r, []), measure := fun _ (x : Int × List En × Unit × Unit × Unit × Unit) => ((entsF L).length - x.1).toNat }
    | 9 => some { slots := [(32, .int .i64), (4, .nst 5000 ETy 2), (7, .any), (8, .any), (9, .any)], boxes := [], keep := [1], inv := fun _ (x : Int × List En × Unit × Unit × Unit × Unit) => 0 ≤ x.1 ∧ x.1 ≤ L.length ∧ x.2.1 = (entsF L).map (partE p r (L.take x.1.toNat)), measure := fun _ (x : Int × List En × Unit × Unit × Unit × Unit) => (L.length - x.1).toNat }
    | _ => none
noncomputable def g_parts (p r : Int) (L : List Ln) : Prop := vc (env_parts p r L) (codeOf Try.f20) (start0 Try.f20 [.agg [.int .i64 p, .int .i64 r, .list .tmp LTy L]]) (exitK (tsOf Try.f20) [.list .part ETy] (partsF p r L, ()))
def g_parts_vc (p : Int) (r : Int) (L : List Ln) : Prop :=
  L.length ≤ (1000000000 : Nat) ∧
  ((0 : Int) ≤ (↑(entsF L).length : Int) ∧
      (↑(entsF L).length : Int) ≤ (↑(entsF L).length : Int) ∧ (↑(entsF L).length : Int) * (↑(40 : Nat) : Int) ≤ (140737488355328 : Int) ∧ (↑(entsF L).length : Int) ≤ (4611686018427387904 : Int)) ∧
    ((some (Obj.box [V.int IntKind.i64 p, V.int IntKind.i64 r, V.list LK.tmp LTy L]) = some (Obj.box [V.int IntKind.i64 p, V.int IntKind.i64 r, V.list LK.tmp LTy L]) ∧ True) ∧
        (0 : Int) ≤ (0 : Int) ∧
          (0 : Int) ≤ (↑(entsF L).length : Int) ∧
            (List.replicate (↑(entsF L).length : Int).toNat ((0 : Int), (0 : Int), ([] : List Ln))).length = (entsF L).length ∧
              ∀ (j : Nat), j < Int.toNat (0 : Int) → (List.replicate (↑(entsF L).length : Int).toNat ((0 : Int), (0 : Int), ([] : List Ln)))[j]? = some (p, r, ([] : List Ln))) ∧
      ∀ (x : Int × List (Int × Int × List (Int × Int × Int × Int)) × Unit × Unit × Unit × Unit),
        ((0 : Int) ≤ x.fst ∧ x.fst ≤ (↑(entsF L).length : Int) ∧ x.snd.fst.length = (entsF L).length ∧ ∀ (j : Nat), j < x.fst.toNat → x.snd.fst[j]? = some (p, r, ([] : List Ln))) →
          (decide (x.fst < (↑(List.replicate (↑(entsF L).length : Int).toNat ((0 : Int), (0 : Int), ([] : List Ln))).length : Int)) = true →
              ((0 : Int) ≤ x.fst ∧ x.fst < (↑x.snd.fst.length : Int)) ∧
                (x.fst.toNat < x.snd.fst.length ∧ True) ∧
                  ∀ (y : Int × Int × List (Int × Int × Int × Int)),
                    x.snd.fst[x.fst.toNat]? = some y →
                      ((-9223372036854775808 : Int) ≤ x.fst + (1 : Int) ∧ x.fst + (1 : Int) ≤ (9223372036854775807 : Int)) ∧
                        (some (Obj.box [V.int IntKind.i64 p, V.int IntKind.i64 r, V.list LK.tmp LTy L]) = some (Obj.box [V.int IntKind.i64 p, V.int IntKind.i64 r, V.list LK.tmp LTy L]) ∧ True) ∧
                          ((0 : Int) ≤ x.fst + (1 : Int) ∧
                              x.fst + (1 : Int) ≤ (↑(entsF L).length : Int) ∧
                                (x.snd.fst.set x.fst.toNat (p, r, ([] : List Ln))).length = (entsF L).length ∧
                                  ∀ (j : Nat), j < (x.fst + (1 : Int)).toNat → (x.snd.fst.set x.fst.toNat (p, r, ([] : List Ln)))[j]? = some (p, r, ([] : List Ln))) ∧
                            ((↑(entsF L).length : Int) - (x.fst + (1 : Int))).toNat < ((↑(entsF L).length : Int) - x.fst).toNat) ∧
            (decide (x.fst < (↑(List.replicate (↑(entsF L).length : Int).toNat ((0 : Int), (0 : Int), ([] : List Ln))).length : Int)) = false →
              ((some (Obj.box [V.int IntKind.i64 p, V.int IntKind.i64 r, V.list LK.tmp LTy L]) = some (Obj.box [V.int IntKind.i64 p, V.int IntKind.i64 r, V.list LK.tmp LTy L]) ∧ True) ∧
                  (0 : Int) ≤ (0 : Int) ∧ (0 : Int) ≤ (↑L.length : Int) ∧ x.snd.fst = List.map (partE p r (List.take (Int.toNat (0 : Int)) L)) (entsF L)) ∧
                ∀ (x : Int × List (Int × Int × List (Int × Int × Int × Int)) × Unit × Unit × Unit × Unit),
                  (0 : Int) ≤ x.fst ∧ x.fst ≤ (↑L.length : Int) ∧ x.snd.fst = List.map (partE p r (List.take x.fst.toNat L)) (entsF L) →
                    (decide (x.fst < (↑L.length : Int)) = true →
                        ((0 : Int) ≤ x.fst ∧ x.fst < (↑L.length : Int)) ∧
                          ∀ (x_1 : Int × Int × Int × Int),
                            L[x.fst.toNat]? = some x_1 →
                              (Sorted (entsF L) ∧ (entsF L).length ≤ (1000000000 : Nat)) ∧
                                ((0 : Int) ≤ cntLt (entsF L) x_1.fst ∧ cntLt (entsF L) x_1.fst < (↑x.snd.fst.length : Int)) ∧
                                  (cntLt (entsF L) x_1.fst).toNat < x.snd.fst.length ∧
                                    ∀ (x_2 : Int × Int × List (Int × Int × Int × Int)),
                                      x.snd.fst[(cntLt (entsF L) x_1.fst).toNat]? = some x_2 →
                                        (cntLt (entsF L) x_1.fst).toNat < x.snd.fst.length ∧
                                          ∀ (y : Int × Int × List (Int × Int × Int × Int)),
                                            x.snd.fst[(cntLt (entsF L) x_1.fst).toNat]? = some y →
                                              ((y.snd.snd.length + (1 : Nat)) * (32 : Nat) ≤ (140737488355328 : Nat) ∧ y.snd.snd.length + (1 : Nat) ≤ (4611686018427387904 : Nat)) ∧
                                                ((0 : Int) ≤ cntLt (entsF L) x_1.fst ∧ cntLt (entsF L) x_1.fst < (↑x.snd.fst.length : Int)) ∧
                                                  ((cntLt (entsF L) x_1.fst).toNat < x.snd.fst.length ∧ (cntLt (entsF L) x_1.fst).toNat = (cntLt (entsF L) x_1.fst).toNat) ∧
                                                    ∀ (y_1 : Int × Int × List (Int × Int × Int × Int)),
                                                      x.snd.fst[(cntLt (entsF L) x_1.fst).toNat]? = some y_1 →
                                                        ((-9223372036854775808 : Int) ≤ x.fst + (1 : Int) ∧ x.fst + (1 : Int) ≤ (9223372036854775807 : Int)) ∧
                                                          (some (Obj.box [V.int IntKind.i64 p, V.int IntKind.i64 r, V.list LK.tmp LTy L]) =
                                                                some (Obj.box [V.int IntKind.i64 p, V.int IntKind.i64 r, V.list LK.tmp LTy L]) ∧
                                                              True) ∧
                                                            ((0 : Int) ≤ x.fst + (1 : Int) ∧
                                                                x.fst + (1 : Int) ≤ (↑L.length : Int) ∧
                                                                  x.snd.fst.set (cntLt (entsF L) x_1.fst).toNat
                                                                      (y_1.fst, y_1.snd.fst, y.snd.snd ++ [(x_1.fst, x_1.snd.fst, x_1.snd.snd.fst, x_1.snd.snd.snd)]) =
                                                                    List.map (partE p r (List.take (x.fst + (1 : Int)).toNat L)) (entsF L)) ∧
                                                              ((↑L.length : Int) - (x.fst + (1 : Int))).toNat < ((↑L.length : Int) - x.fst).toNat) ∧
                      (decide (x.fst < (↑L.length : Int)) = false → (x.snd.fst, ()) = (partsF p r L, ())))

theorem g_parts_eq (p r : Int) (L : List Ln) : g_parts p r L = g_parts_vc p r L := by kernel_rfl
theorem rises_sorted {l : List Int} (h : Rises l) : Sorted l := h.imp fun h => Int.le_of_lt h
theorem cnt_rises : ∀ {l : List Int} {x : Int}, Rises l → x ∈ l → l[(cntLt l x).toNat]? = some x ∧ (cntLt l x).toNat < l.length := by
  intro l x h hx
  induction l with
  | nil => simp at hx
  | cons y r ih =>
    obtain ⟨h1, h2⟩ := List.pairwise_cons.1 h
    have hc : (cntLt (y :: r) x).toNat = (cntLt r x).toNat + if y < x then 1 else 0 := by
      unfold cntLt
      rw [List.countP_cons]
      by_cases c : y < x
      · simp [c]
      · simp [c]
    rcases List.mem_cons.1 hx with e | e
    · subst e
      have h0 : cntLt r x = 0 := by
        unfold cntLt
        have : r.countP (fun y => decide (y < x)) = 0 := by
          rw [List.countP_eq_zero]
          intro z hz
          have := h1 z hz
          simp only [decide_eq_true_eq]
          omega
        rw [this]
        rfl
      rw [hc, h0, if_neg (by omega)]
      simp
    · have hy := h1 x e
      obtain ⟨i1, i2⟩ := ih h2 e
      rw [hc, if_pos hy]
      exact ⟨by rw [List.getElem?_cons_succ]; exact i1, by rw [List.length_cons]; omega⟩
theorem parts_step {p r : Int} {L : List Ln} {i : Nat} {x : Ln} (h : L[i]? = some x) {k : Nat} {ys : List Ln} (hk : (entsF L)[k]? = some x.1) (hy : ys = ofE (L.take i) x.1) :
    ((entsF L).map (partE p r (L.take i))).set k (p, r, ys ++ [x]) = (entsF L).map (partE p r (L.take (i + 1))) := by
  apply List.ext_getElem?
  intro j
  rw [List.getElem?_set]
  have hkl := (List.getElem?_eq_some_iff.1 hk).1
  by_cases e : k = j
  · subst e
    rw [if_pos rfl, if_pos (by simpa using hkl), List.getElem?_map, hk]
    simp only [Option.map_some, partE]
    rw [ofE_take h, if_pos rfl, hy]
  · rw [if_neg e, List.getElem?_map, List.getElem?_map]
    cases hj : (entsF L)[j]? with
    | none => rfl
    | some z =>
      have hz : x.1 ≠ z := by
        intro c
        subst c
        have hn : (entsF L).Pairwise (· ≠ ·) := (entsF_rises L).imp fun h => Int.ne_of_lt h
        obtain ⟨hjl, ej⟩ := List.getElem?_eq_some_iff.1 hj
        obtain ⟨_, ek⟩ := List.getElem?_eq_some_iff.1 hk
        rcases Nat.lt_or_gt_of_ne e with g | g
        · exact List.pairwise_iff_getElem.1 hn k j hkl hjl g (ek.trans ej.symm)
        · exact List.pairwise_iff_getElem.1 hn j k hjl hkl g (ej.trans ek.symm)
      simp only [Option.map_some, partE]
      rw [ofE_take h, if_neg hz, List.append_nil]
theorem parts_get {p r : Int} {L M : List Ln} {k : Nat} {e : Int} (h : (entsF L)[k]? = some e) : ((entsF L).map (partE p r M))[k]? = some (p, r, ofE M e) := by
  rw [List.getElem?_map, h]
  rfl
theorem g_parts_ok (p r : Int) (L : List Ln) (h : L.length ≤ 1000) : g_parts_vc p r L := by
  have hel := entsF_len L
  unfold g_parts_vc
  refine ⟨by omega, by omega, ⟨⟨by trivial, by trivial⟩, by omega, by omega, by simp, fun j hj => by simp at hj⟩, ?_⟩
  rintro ⟨i, M, _, _, _, ⟨⟩⟩ ⟨h1, h2, h3, h4⟩
  dsimp only at h1 h2 h3 h4 ⊢
  simp only [decide_eq_true_eq, decide_eq_false_iff_not, List.length_replicate, Int.toNat_natCast]
  refine ⟨fun hi => ⟨by omega, ⟨by omega, by trivial⟩, fun y _ => ⟨by omega, ⟨by trivial, by trivial⟩, ⟨by omega, by omega, by rw [List.length_set]; exact h3, fun j hj => ?_⟩, by omega⟩⟩, fun hi => ⟨⟨⟨by trivial, by trivial⟩, by omega, by omega, ?_⟩, ?_⟩⟩
  · rw [List.getElem?_set]
    by_cases e : i.toNat = j
    · rw [if_pos e, if_pos (by omega)]
    · rw [if_neg e]
      exact h4 j (by omega)
  · apply List.ext_getElem?
    intro j
    by_cases hj : j < (entsF L).length
    · rw [h4 j (by omega), parts_get (List.getElem?_eq_getElem hj)]
      rfl
    · rw [List.getElem?_eq_none (by omega), List.getElem?_eq_none (by simp; omega)]
  · rintro ⟨k, N, _, _, _, ⟨⟩⟩ ⟨k1, k2, k3⟩
    dsimp only at k1 k2 k3 ⊢
    subst k3
    refine ⟨fun hk => ⟨⟨k1, hk⟩, fun x hx => ?_⟩, fun hk => ?_⟩
    · obtain ⟨c1, c2⟩ := cnt_rises (entsF_rises L) (mem_entsF.2 ⟨x, List.mem_of_getElem? hx, rfl⟩)
      have c0 : 0 ≤ cntLt (entsF L) x.1 := by unfold cntLt; omega
      simp only [List.length_map]
      have hg := parts_get (p := p) (r := r) (M := L.take k.toNat) c1
      have hle := ofE_len L k.toNat x.1
      refine ⟨⟨rises_sorted (entsF_rises L), by omega⟩, by omega, c2, fun x2 _ => ⟨c2, fun y hy => ?_⟩⟩
      rw [hg] at hy
      cases hy
      dsimp only
      refine ⟨⟨by omega, by omega⟩, by omega, ⟨c2, by trivial⟩, fun y1 hy1 => ?_⟩
      rw [hg] at hy1
      cases hy1
      refine ⟨by omega, ⟨by trivial, by trivial⟩, ⟨by omega, by omega, ?_⟩, by omega⟩
      rw [toNat_next k1]
      exact parts_step hx c1 rfl
    · rw [List.take_of_length_le (by omega)]
      rfl
set_option maxRecDepth 20000 in
theorem parts_pure (p r : Int) (L : List Ln) (h : L.length ≤ 1000) : Pure Try.prog 20 [.agg [.int .i64 p, .int .i64 r, .list .tmp LTy L]] (.list .part ETy (partsF p r L)) :=
  Pure.of_g (E := env_parts p r L) (ts := tsOf Try.f20) (ps := [.list .part ETy]) (r := (partsF p r L, ())) (fn := Try.f20) (c := codeOf Try.f20) (specs_ok (P := Try.prog) rfl [sp_ents, sp_search] [] rfl rfl) mixed Try.func20 rfl rfl (g := g_parts p r L) (by delta g_parts start0; first | with_reducible exact Eq.refl _ | exact Eq.refl _) (by rw [g_parts_eq p r L]; exact g_parts_ok p r L h)
def q_parts (p r : Int) (L : List Ln) : Prop × V := (L.length ≤ 1000, (.list .part ETy (partsF p r L)))
noncomputable def sp_parts : FSpec Try.prog where
  f := 20
  run := fun args => match args with
    | [.agg [.int .i64 p, .int .i64 r, v0_2]] => (match (asL LTy v0_2 : Option (List Ln)) with | some L => some (q_parts p r L) | none => none)
    | _ => none
  ok := fun args pre r h hp => by
    try dsimp only at h
    split at h
    · rename_i p r v0_2
      cases h0_2 : (asL LTy v0_2 : Option (List Ln)) with
      | none => rw [h0_2] at h; cases h
      | some L =>
      rw [h0_2] at h
      try dsimp only at h
      have h := Option.some.inj h
      unfold q_parts at h
      cases h
      exact (parts_pure p r L hp).weak (.cons (Weak.agg (.cons (Weak.refl _) (.cons (Weak.refl _) (.cons (asL_weak h0_2) .nil)))) .nil)
    · cases h

end Go.Proofs.Ytgmcfgegldmieaa
