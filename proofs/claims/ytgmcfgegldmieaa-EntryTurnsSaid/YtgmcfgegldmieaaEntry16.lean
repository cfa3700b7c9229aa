/-
  EntryParts: the walk and the plain law.
-/
import Derived.Test.YtgmcfgegldmieaaEntry15
namespace Go.Proofs.Ytgmcfgegldmieaa
open Go.Vm

def lenS (l : List En) : Int := (l.map fun x => (x.2.2.length : Int)).sum
theorem lenS_snoc (l : List En) (x : En) : lenS (l ++ [x]) = lenS l + x.2.2.length := by
  simp [lenS]
theorem lenS_bound : ∀ {l : List En}, (∀ x ∈ l, x.2.2.length ≤ 1000) → 0 ≤ lenS l ∧ lenS l ≤ 1000 * l.length
  | [], _ => by simp [lenS]
  | x :: r, h => by
    obtain ⟨h1, h2⟩ := lenS_bound (l := r) (fun y hy => h y (List.mem_cons_of_mem _ hy))
    have h3 := h x List.mem_cons_self
    have e : lenS (x :: r) = x.2.2.length + lenS r := by simp [lenS]
    rw [e, List.length_cons]
    omega
theorem sum_ind : ∀ {es : List Int} {a : Int}, es.Pairwise (· ≠ ·) → a ∈ es → (es.map fun e => if a = e then (1 : Int) else 0).sum = 1 := by
  intro es a hn hm
  have off : ∀ {r : List Int}, a ∉ r → (r.map fun e => if a = e then (1 : Int) else 0).sum = 0 := by
    intro r
    induction r with
    | nil => intro _; rfl
    | cons y r ih =>
      intro h
      have h1 : a ≠ y := fun c => h (by rw [c]; exact List.mem_cons_self)
      have h2 : a ∉ r := fun c => h (List.mem_cons_of_mem _ c)
      rw [List.map_cons, List.sum_cons, if_neg h1, ih h2]
      rfl
  induction es with
  | nil => simp at hm
  | cons y r ih =>
    obtain ⟨h1, h2⟩ := List.pairwise_cons.1 hn
    rw [List.map_cons, List.sum_cons]
    by_cases c : a = y
    · subst c
      rw [if_pos rfl, off (fun c => h1 a c rfl)]
      rfl
    · rw [if_neg c, ih h2 ((List.mem_cons.1 hm).resolve_left c)]
      rfl
theorem sum_add (f g : Int → Int) : ∀ (es : List Int), (es.map fun e => f e + g e).sum = (es.map f).sum + (es.map g).sum
  | [] => rfl
  | e :: r => by
    simp only [List.map_cons, List.sum_cons, sum_add f g r]
    omega
theorem sum_all {es : List Int} (hn : es.Pairwise (· ≠ ·)) : ∀ {L : List Ln}, (∀ x ∈ L, x.1 ∈ es) → (es.map fun e => ((ofE L e).length : Int)).sum = L.length
  | [], _ => by
    have : (fun e => ((ofE [] e).length : Int)) = fun _ => 0 := by funext e; rfl
    rw [this]
    clear this hn
    induction es with
    | nil => rfl
    | cons y r ih => rw [List.map_cons, List.sum_cons, ih (fun x hx => by simp at hx)]; rfl
  | x :: r, h => by
    have e : (fun e => ((ofE (x :: r) e).length : Int)) = fun e => (if x.1 = e then (1 : Int) else 0) + ((ofE r e).length : Int) := by
      funext e
      unfold ofE
      rw [List.filter_cons]
      by_cases c : x.1 = e
      · simp [c]
        omega
      · simp [c]
    rw [e, sum_add, sum_ind hn (h x List.mem_cons_self), sum_all hn (fun y hy => h y (List.mem_cons_of_mem _ hy)), List.length_cons]
    omega
theorem parts_sum (p r : Int) (L : List Ln) : lenS (partsF p r L) = L.length := by
  unfold lenS partsF
  rw [List.map_map]
  exact sum_all ((entsF_rises L).imp fun h => Int.ne_of_lt h) (fun x hx => mem_entsF.2 ⟨x, hx, rfl⟩)
theorem ofE_mem {L : List Ln} {e : Int} {x : Ln} : x ∈ ofE L e ↔ x ∈ L ∧ x.1 = e := by
  simp [ofE]
theorem amts_ofE (L : List Ln) (e : Int) : amtsL L e = (ofE L e).map (·.2.2.2) := rfl
theorem ofE_ofE (L : List Ln) (e : Int) : ofE (ofE L e) e = ofE L e := by
  unfold ofE
  rw [List.filter_filter]
  simp
theorem good_part {p : Int} {L : List Ln} {n k e : Int} (h : GoodE p L n k) (he : e ∈ entsF L) : GoodE p (ofE L e) n k := by
  obtain ⟨h1, h2, h3, h4⟩ := h
  have hle : (ofE L e).length ≤ L.length := List.length_filter_le _ _
  have hw : wholeF (ofE L e) e = wholeF L e := by
    unfold wholeF
    rw [amts_ofE, amts_ofE, ofE_ofE]
  refine ⟨h1, ⟨?_, by omega⟩, fun x hx => h3 x (ofE_mem.1 hx).1, fun e' he' => ?_⟩
  · obtain ⟨x, hx, rfl⟩ := mem_entsF.1 he
    have hm : x ∈ ofE L x.1 := ofE_mem.2 ⟨hx, rfl⟩
    have h0 := h4 _ he
    unfold wholeF at h0
    rw [amts_ofE] at h0
    cases ho : ofE L x.1 with
    | nil => rw [ho] at hm; simp at hm
    | cons y r =>
      cases r with
      | nil =>
        rw [ho] at h0 hm
        have hxy : x = y := by simpa using hm
        subst hxy
        have := (lineF_zero (h3 x hx)).2.2.2.2
        simp at h0
        exact absurd h0 this
      | cons z r => simp
  · obtain ⟨x, hx, rfl⟩ := mem_entsF.1 he'
    have := (ofE_mem.1 hx).2
    rw [this, hw]
    exact h4 e he
noncomputable def env_lparts (p r : Int) (L : List Ln) (n k : Int) : Env where
  P := Try.prog
  ty := tys
  specs := specsOf [sp_awake, sp_check, sp_parts, sp_refParts, sp_same]
  frz := fun | 21 => true | 23 => true | 60 => true | _ => false
  heads := fun
    | 9 => some { slots := [(12, .int .i64), (11, .int .i64), (13, .any), (14, .any)], boxes := [], keep := [3], inv := fun _ (x : Int × Int × Unit × Unit × Unit) => 0 ≤ x.1 ∧ x.1 ≤ (partsF p r L).length ∧ x.2.1 = lenS ((partsF p r L).take x.1.toNat), measure := fun _ (x : Int × Int × Unit × Unit × Unit) => ((partsF p r L).length - x.1).toNat }
    | _ => none
noncomputable def g_lparts (p r : Int) (L : List Ln) (n k : Int) : Prop := vc (env_lparts p r L n k) (codeOf Try.f7) (start0 Try.f7 [.agg [.int .i64 p, .int .i64 r, .list .tmp LTy L], .int .i64 n, .int .i64 k]) (exitK (tsOf Try.f7) [.bool] (true, ()))
def g_lparts_vc (p : Int) (r : Int) (L : List Ln) (n : Int) (k : Int) : Prop :=
  (decide ((60 : Int) < (↑L.length : Int)) = true → True ∧ (true, ()) = (true, ())) ∧
  (decide ((60 : Int) < (↑L.length : Int)) = false →
    L.length ≤ (1000 : Nat) ∧
      L.length ≤ (1000 : Nat) ∧
        ((!decide ((↑(partsF p r L).length : Int) = (↑(partsF p r L).length : Int))) = true → (false, ()) = (true, ())) ∧
          ((!decide ((↑(partsF p r L).length : Int) = (↑(partsF p r L).length : Int))) = false →
            (InL L ∧ L.length ≤ (1000 : Nat)) ∧
              ((some (Obj.box [V.int IntKind.i64 p, V.int IntKind.i64 r, V.list LK.tmp LTy L]) = some (Obj.box [V.int IntKind.i64 p, V.int IntKind.i64 r, V.list LK.tmp LTy L]) ∧ True) ∧
                  (0 : Int) ≤ (0 : Int) ∧ (0 : Int) ≤ (↑(partsF p r L).length : Int) ∧ (0 : Int) = lenS (List.take (Int.toNat (0 : Int)) (partsF p r L))) ∧
                ∀ (x : Int × Int × Unit × Unit × Unit),
                  (0 : Int) ≤ x.fst ∧ x.fst ≤ (↑(partsF p r L).length : Int) ∧ x.snd.fst = lenS (List.take x.fst.toNat (partsF p r L)) →
                    (decide (x.fst < (↑(partsF p r L).length : Int)) = true →
                        ((0 : Int) ≤ x.fst ∧ x.fst < (↑(partsF p r L).length : Int)) ∧
                          ∀ (x_1 : Int × Int × List (Int × Int × Int × Int)),
                            (partsF p r L)[x.fst.toNat]? = some x_1 →
                              (InL x_1.snd.snd ∧ x_1.snd.snd.length ≤ (1000 : Nat)) ∧
                                ((0 : Int) ≤ x.fst ∧ x.fst < (↑(partsF p r L).length : Int)) ∧
                                  ∀ (x_2 : Int × Int × List (Int × Int × Int × Int)),
                                    (partsF p r L)[x.fst.toNat]? = some x_2 →
                                      ((0 : Int) ≤ x.fst ∧ x.fst < (↑(partsF p r L).length : Int)) ∧
                                        ∀ (x_3 : Int × Int × List (Int × Int × Int × Int)),
                                          (partsF p r L)[x.fst.toNat]? = some x_3 →
                                            x_2.snd.snd.length ≤ (1000000000 : Nat) ∧
                                              ((!sameE x_2.fst x_2.snd.fst x_2.snd.snd x_3.fst x_3.snd.fst x_3.snd.snd) = false →
                                                  (decide ((checkF p L n k).snd = (0 : Int)) = true →
                                                      ((!decide ((checkF x_1.fst x_1.snd.snd n k).snd = (0 : Int))) = true → (false, ()) = (true, ())) ∧
                                                        ((!decide ((checkF x_1.fst x_1.snd.snd n k).snd = (0 : Int))) = false →
                                                          ((0 : Int) ≤ x.fst ∧ x.fst < (↑(partsF p r L).length : Int)) ∧
                                                            ∀ (x_4 : Int × Int × List (Int × Int × Int × Int)),
                                                              (partsF p r L)[x.fst.toNat]? = some x_4 →
                                                                ((-9223372036854775808 : Int) ≤ x.snd.fst + (↑x_4.snd.snd.length : Int) ∧
                                                                    x.snd.fst + (↑x_4.snd.snd.length : Int) ≤ (9223372036854775807 : Int)) ∧
                                                                  ((-9223372036854775808 : Int) ≤ x.fst + (1 : Int) ∧ x.fst + (1 : Int) ≤ (9223372036854775807 : Int)) ∧
                                                                    (some (Obj.box [V.int IntKind.i64 p, V.int IntKind.i64 r, V.list LK.tmp LTy L]) =
                                                                          some (Obj.box [V.int IntKind.i64 p, V.int IntKind.i64 r, V.list LK.tmp LTy L]) ∧
                                                                        True) ∧
                                                                      ((0 : Int) ≤ x.fst + (1 : Int) ∧
                                                                          x.fst + (1 : Int) ≤ (↑(partsF p r L).length : Int) ∧
                                                                            x.snd.fst + (↑x_4.snd.snd.length : Int) = lenS (List.take (x.fst + (1 : Int)).toNat (partsF p r L))) ∧
                                                                        ((↑(partsF p r L).length : Int) - (x.fst + (1 : Int))).toNat < ((↑(partsF p r L).length : Int) - x.fst).toNat)) ∧
                                                    (decide ((checkF p L n k).snd = (0 : Int)) = !true →
                                                      ((0 : Int) ≤ x.fst ∧ x.fst < (↑(partsF p r L).length : Int)) ∧
                                                        ∀ (x_4 : Int × Int × List (Int × Int × Int × Int)),
                                                          (partsF p r L)[x.fst.toNat]? = some x_4 →
                                                            ((-9223372036854775808 : Int) ≤ x.snd.fst + (↑x_4.snd.snd.length : Int) ∧
                                                                x.snd.fst + (↑x_4.snd.snd.length : Int) ≤ (9223372036854775807 : Int)) ∧
                                                              ((-9223372036854775808 : Int) ≤ x.fst + (1 : Int) ∧ x.fst + (1 : Int) ≤ (9223372036854775807 : Int)) ∧
                                                                (some (Obj.box [V.int IntKind.i64 p, V.int IntKind.i64 r, V.list LK.tmp LTy L]) =
                                                                      some (Obj.box [V.int IntKind.i64 p, V.int IntKind.i64 r, V.list LK.tmp LTy L]) ∧
                                                                    True) ∧
                                                                  ((0 : Int) ≤ x.fst + (1 : Int) ∧
                                                                      x.fst + (1 : Int) ≤ (↑(partsF p r L).length : Int) ∧
                                                                        x.snd.fst + (↑x_4.snd.snd.length : Int) = lenS (List.take (x.fst + (1 : Int)).toNat (partsF p r L))) ∧
                                                                    ((↑(partsF p r L).length : Int) - (x.fst + (1 : Int))).toNat < ((↑(partsF p r L).length : Int) - x.fst).toNat)) ∧
                                                ((!sameE x_2.fst x_2.snd.fst x_2.snd.snd x_3.fst x_3.snd.fst x_3.snd.snd) = !false → (false, ()) = (true, ()))) ∧
                      (decide (x.fst < (↑(partsF p r L).length : Int)) = false →
                        (decide (x.snd.fst = (↑L.length : Int)) = true → True ∧ (true, ()) = (true, ())) ∧ (decide (x.snd.fst = (↑L.length : Int)) = !true → (false, ()) = (true, ())))))

theorem g_lparts_eq (p r : Int) (L : List Ln) (n k : Int) : g_lparts p r L n k = g_lparts_vc p r L n k := by kernel_rfl
theorem g_lparts_ok (p r : Int) (L : List Ln) (n k : Int) (h : InL L) : g_lparts_vc p r L n k := by
  unfold g_lparts_vc
  have hel := entsF_len L
  have hpl : (partsF p r L).length = (entsF L).length := List.length_map ..
  have hget : ∀ {i : Nat} {x : En}, (partsF p r L)[i]? = some x → ∃ e ∈ entsF L, x = (p, r, ofE L e) := by
    intro i x hx
    obtain ⟨e, he, rfl⟩ := List.mem_map.1 (List.mem_of_getElem? hx)
    exact ⟨e, he, rfl⟩
  have hof : ∀ e, (ofE L e).length ≤ L.length := fun e => List.length_filter_le _ _
  simp only [decide_eq_true_eq, decide_eq_false_iff_not, Bool.not_eq_true', Bool.not_eq_false', Bool.not_true, Bool.not_false]
  refine ⟨fun _ => ⟨by trivial, by trivial⟩, fun c0 => ⟨by omega, by omega, fun c => absurd (by trivial) c, fun _ => ⟨⟨h, by omega⟩, ⟨⟨by trivial, by trivial⟩, by omega, by omega, by simp [lenS]⟩, fun x hx => ⟨fun c1 => ⟨⟨hx.1, c1⟩, fun y hy => ?_⟩, fun c1 => ⟨fun _ => ⟨by trivial, by trivial⟩, fun c => ?_⟩⟩⟩⟩⟩
  · have hb : ∀ z ∈ (partsF p r L).take (x.1 + 1).toNat, z.2.2.length ≤ 1000 := by
      intro z hz
      obtain ⟨e, he, rfl⟩ := List.mem_map.1 (List.mem_of_mem_take hz)
      have := hof e
      show (ofE L e).length ≤ 1000
      omega
    have hstep : x.2.1 + (y.2.2.length : Int) = lenS ((partsF p r L).take (x.1 + 1).toNat) := by
      rw [hx.2.2, toNat_next hx.1, take_snoc' hy, lenS_snoc]
    obtain ⟨b1, b2⟩ := lenS_bound hb
    have hlen : ((partsF p r L).take (x.1 + 1).toNat).length ≤ 1000 := by simp; omega
    obtain ⟨e, he, rfl⟩ := hget hy
    have hin : InL (ofE L e) := fun z hz => h z (ofE_mem.1 hz).1
    have ho := hof e
    refine ⟨⟨hin, by show (ofE L e).length ≤ 1000; omega⟩, ⟨hx.1, c1⟩, fun y2 hy2 => ⟨⟨hx.1, c1⟩, fun y3 hy3 => ?_⟩⟩
    rw [hy] at hy2 hy3
    cases hy2
    cases hy3
    dsimp only at hstep ⊢
    refine ⟨by omega, fun _ => ⟨fun d => ⟨fun d2 => absurd (check_zero.2 (good_part (check_zero.1 d) he)) d2, fun _ => ⟨⟨hx.1, c1⟩, fun y4 hy4 => ?_⟩⟩, fun d => ⟨⟨hx.1, c1⟩, fun y4 hy4 => ?_⟩⟩, fun d => ?_⟩
    · rw [hy] at hy4
      cases hy4
      dsimp only
      exact ⟨by omega, by omega, ⟨by trivial, by trivial⟩, ⟨by omega, by omega, hstep⟩, by omega⟩
    · rw [hy] at hy4
      cases hy4
      dsimp only
      exact ⟨by omega, by omega, ⟨by trivial, by trivial⟩, ⟨by omega, by omega, hstep⟩, by omega⟩
    · rw [aw10] at d
      cases d
  · rw [hx.2.2, List.take_of_length_le (by omega), parts_sum] at c
    exact absurd rfl c
set_option maxRecDepth 20000 in
theorem lparts_pure (p r : Int) (L : List Ln) (n k : Int) (h : InL L) : Pure Try.prog 7 [.agg [.int .i64 p, .int .i64 r, .list .tmp LTy L], .int .i64 n, .int .i64 k] (.bool true) :=
  Pure.of_g (E := env_lparts p r L n k) (ts := tsOf Try.f7) (ps := [.bool]) (r := (true, ())) (fn := Try.f7) (c := codeOf Try.f7) (specs_ok (P := Try.prog) rfl [sp_awake, sp_check, sp_parts, sp_refParts, sp_same] [] rfl rfl) mixed Try.func7 rfl rfl (g := g_lparts p r L n k) (by delta g_lparts start0; first | with_reducible exact Eq.refl _ | exact Eq.refl _) (by rw [g_lparts_eq p r L n k]; exact g_lparts_ok p r L n k h)
def q_lparts (p r : Int) (L : List Ln) (n k : Int) : Prop × V := (InL L, (.bool true))
noncomputable def sp_lparts : FSpec Try.prog where
  f := 7
  run := fun args => match args with
    | [.agg [.int .i64 p, .int .i64 r, v0_2], .int .i64 n, .int .i64 k] => (match (asL LTy v0_2 : Option (List Ln)) with | some L => some (q_lparts p r L n k) | none => none)
    | _ => none
  ok := fun args pre r h hp => by
    try dsimp only at h
    split at h
    · rename_i p r v0_2 n k
      cases h0_2 : (asL LTy v0_2 : Option (List Ln)) with
      | none => rw [h0_2] at h; cases h
      | some L =>
      rw [h0_2] at h
      try dsimp only at h
      have h := Option.some.inj h
      unfold q_lparts at h
      cases h
      exact (lparts_pure p r L n k hp).weak (.cons (Weak.agg (.cons (Weak.refl _) (.cons (Weak.refl _) (.cons (asL_weak h0_2) .nil)))) (.cons (Weak.refl _) (.cons (Weak.refl _) .nil)))
    · cases h

end Go.Proofs.Ytgmcfgegldmieaa
