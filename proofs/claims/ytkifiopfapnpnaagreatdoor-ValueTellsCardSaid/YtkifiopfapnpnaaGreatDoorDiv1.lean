/-
  Div: the quotient, what is left.
-/
import Derived.Test.YtkifiopfapnpnaaGreatDoorScan3
namespace Go.Proofs.YtkifiopfapnpnaaGreatDoor
open Go.Vm

/-! trim, of an array that is given away. -/
noncomputable def env_trimO (l : List Int) : Env where
  P := Tryz.prog
  ty := tys0
  heads := fun
    | 2 => some { slots := [(3, .int .i64), (0, .list .part I), (4, .any)], boxes := [], inv := fun _ (x : Int × List Int × Unit × Unit) => TrimInv l x.1 ∧ x.2.1 = l, measure := fun _ (x : Int × List Int × Unit × Unit) => x.1.toNat }
    | _ => none
abbrev ann_trimO : Ann := { slots := numP 0 [.list .part I], boxes := [], inv := fun _ _ => True }
noncomputable def g_trimO (l : List Int) : Prop := vc (env_trimO l) (codeOf Tryz.f73) ⟨(start0 Tryz.f73 [.slc 9000 0 none]).s, [(9000, .arr 0 (.int .i64) l)]⟩ (exitG (env_trimO l).P Tryz.f73.results.toList [none] (env_trimO l).pins ann_trimO (digs (val l).toNat, ()))
def g_trimO_vc (l : List Int) : Prop :=
  (True ∧ TrimInv l (↑l.length : Int) ∧ l = l) ∧
  ∀ (x : Int × List Int × Unit × Unit),
    TrimInv l x.fst ∧ x.snd.fst = l →
      (decide ((0 : Int) < x.fst) = true →
          ((-9223372036854775808 : Int) ≤ x.fst - (1 : Int) ∧ x.fst - (1 : Int) ≤ (9223372036854775807 : Int)) ∧
            ((0 : Int) ≤ x.fst - (1 : Int) ∧ x.fst - (1 : Int) < (↑x.snd.fst.length : Int)) ∧
              ∀ (x_1 : Int),
                x.snd.fst[(x.fst - (1 : Int)).toNat]? = some x_1 →
                  (decide (x_1 = (0 : Int)) = true →
                      ((-9223372036854775808 : Int) ≤ x.fst - (1 : Int) ∧ x.fst - (1 : Int) ≤ (9223372036854775807 : Int)) ∧
                        True ∧ (TrimInv l (x.fst - (1 : Int)) ∧ x.snd.fst = l) ∧ (x.fst - (1 : Int)).toNat < x.fst.toNat) ∧
                    (decide (x_1 = (0 : Int)) = false → ((0 : Int) ≤ x.fst ∧ x.fst ≤ (↑x.snd.fst.length : Int)) ∧ True ∧ (List.take x.fst.toNat x.snd.fst, ()) = (digs (val l).toNat, ()))) ∧
        (decide ((0 : Int) < x.fst) = !true → ((0 : Int) ≤ x.fst ∧ x.fst ≤ (↑x.snd.fst.length : Int)) ∧ True ∧ (List.take x.fst.toNat x.snd.fst, ()) = (digs (val l).toNat, ()))

theorem g_trimO_eq (l : List Int) : g_trimO l = g_trimO_vc l := by kernel_rfl
theorem g_trimO_ok (l : List Int) (h : Dig l ∧ l.length ≤ 1000000000) : g_trimO_vc l := by
  obtain ⟨hd, hl⟩ := h
  refine ⟨⟨trivial, ⟨by omega, by omega, fun i d hi hx => ?_⟩, rfl⟩, ?_⟩
  · have := (List.getElem?_eq_some_iff.1 hx).1
    omega
  · rintro ⟨n, l', ⟨⟩, ⟨⟩⟩ ⟨⟨h1, h2, h3⟩, rfl⟩
    simp only [decide_eq_true_eq, decide_eq_false_iff_not, Bool.not_true] at *
    have e : ∀ (hn : 0 < n.toNat → ∀ d, l'[n.toNat - 1]? = some d → d ≠ 0), List.take n.toNat l' = digs (val l').toNat := fun hn =>
      trim_law hd (by omega) (fun i d hi hx => h3 i d (by omega) hx) hn
    refine ⟨fun hn => ⟨⟨by omega, by omega⟩, ⟨by omega, by omega⟩, fun x hx => ⟨fun h0 => ⟨⟨by omega, by omega⟩, trivial, ⟨⟨by omega, by omega, fun i d hi hd => ?_⟩, trivial⟩, by omega⟩, fun h0 => ⟨⟨by omega, by omega⟩, trivial, ?_⟩⟩⟩, fun hn => ⟨⟨by omega, by omega⟩, trivial, ?_⟩⟩
    · by_cases hin : n ≤ i
      · exact h3 i d hin hd
      · have : (n - 1).toNat = i := by omega
        rw [this, hd] at hx
        cases hx
        exact h0
    · rw [e fun _ d hd => ?_]
      have : n.toNat - 1 = (n - 1).toNat := by omega
      rw [this, hx] at hd
      cases hd
      exact h0
    · rw [e fun h0 => by omega]
set_option maxRecDepth 20000 in
theorem trimO_upd (l : List Int) (h : Dig l ∧ l.length ≤ 1000000000) : UpdC Tryz.prog 73 [.slc 9000 0 none] [(9000, .arr 0 (.int .i64) l)] (.list .part I (digs (val l).toNat)) [] :=
  UpdC.of_vcG (E := env_trimO l) (sh := [none]) (ann := ann_trimO) (x := (digs (val l).toNat, ())) (fn := Tryz.f73) (c := codeOf Tryz.f73) (specs_ok (P := Tryz.prog) rfl [] [] rfl rfl) mixed Tryz.func73 rfl rfl rfl rfl (by
    have := g_trimO_ok l h
    rw [← g_trimO_eq] at this
    exact this)
def q_trimO (l : List Int) : Prop × V × Store := (Dig l ∧ l.length ≤ 1000000000, .list .part I (digs (val l).toNat), [])
noncomputable def so_trimO : OSpec Tryz.prog where
  f := 73
  run := fun args σ => match args, σ with
    | [.slc 9000 0 none], [(9000, .arr 0 (.int .i64) l)] => some (q_trimO l)
    | _, _ => none
  ok := fun args σ pre r σ' h hp => by
    try dsimp only at h
    split at h
    · rename_i l
      have h := Option.some.inj h
      unfold q_trimO at h
      cases h
      exact (trimO_upd l hp).weak (.cons (Weak.refl _) .nil)
    · cases h

/-- What stands at the first places down to one. -/
def topV (l : List Int) (i : Int) : Int := val (l.drop (i + 1).toNat)
noncomputable def env_div (s t : Bool) (l m : List Int) : Env where
  P := Tryz.prog
  ty := tys0
  specs := specsOf [sp_trim, sp_more, sp_fewer, sp_digits, sp_flip]
  upd := updsOf [so_trimO.upd]
  asArr := fun | 23 => true | 39 => true | _ => false
  frz := fun | 35 => true | 43 => true | 56 => true | 60 => true | 62 => true | 66 => true | _ => false
  heads := fun
    | 4 => some { slots := [(8, .int .i64), (6, .list .part I), (7, .list .part I), (9, .any)], boxes := [], keep := [2, 3, 4, 5], inv := fun _ (x : Int × List Int × List Int × Unit × Unit) => -1 ≤ x.1 ∧ x.1 < l.length ∧ Dig x.2.1 ∧ (x.2.1.length : Int) = l.length - 1 - x.1 ∧ val x.2.1 = topV l x.1 / val m ∧ x.2.2.1 = digs (topV l x.1 % val m).toNat, measure := fun _ (x : Int × List Int × List Int × Unit × Unit) => (x.1 + 1).toNat }
    | 8 => some { slots := [(9, .int .i64), (7, .list .part I), (23, .any), (25, .any)], boxes := [], keep := [2, 3, 4, 5], inv := fun st (x : Int × List Int × Unit × Unit × Unit) => 0 ≤ x.1 ∧ Can x.2.1 ∧ x.2.1.length ≤ 1000000 ∧ x.1 * val m + val x.2.1 = 10 * (topV l (st.int 8) % val m) + at0 l (st.int 8).toNat, measure := fun _ (x : Int × List Int × Unit × Unit × Unit) => (val x.2.1).toNat }
    | _ => none
abbrev ann_div : Ann := { slots := numP 0 [.bool, .list .part I, .bool, .list .part I], boxes := [], inv := fun _ _ => True }
noncomputable def g_div (s t : Bool) (l m : List Int) : Prop := vc (env_div s t l m) (codeOf Tryz.f83) (start0 Tryz.f83 [.agg [.bool s, .list .part I l], .agg [.bool t, .list .part I m]]) (exitG (env_div s t l m).P Tryz.f83.results.toList [some 2, some 2] (env_div s t l m).pins ann_div (decide (big s l / val m < 0), digs (big s l / val m).natAbs, false, digs (big s l % val m).natAbs, ()))
def g_div_vc (s : Bool) (t : Bool) (l : List Int) (m : List Int) : Prop :=
  ((-9223372036854775808 : Int) ≤ (↑l.length : Int) - (1 : Int) ∧ (↑l.length : Int) - (1 : Int) ≤ (9223372036854775807 : Int)) ∧
  ((some (Obj.box [V.bool s, V.list LK.part I l]) = some (Obj.box [V.bool s, V.list LK.part I l]) ∧
        some (Obj.box [V.bool t, V.list LK.part I m]) = some (Obj.box [V.bool t, V.list LK.part I m]) ∧
          some (Obj.box [V.kb false, V.nils]) = some (Obj.box [V.kb false, V.nils]) ∧ some (Obj.box [V.kb false, V.nils]) = some (Obj.box [V.kb false, V.nils]) ∧ True) ∧
      (-1 : Int) ≤ (↑l.length : Int) - (1 : Int) ∧
        (↑l.length : Int) - (1 : Int) < (↑l.length : Int) ∧
          Dig [] ∧
            (↑(0 : Nat) : Int) = (↑l.length : Int) - (1 : Int) - ((↑l.length : Int) - (1 : Int)) ∧
              val [] = topV l ((↑l.length : Int) - (1 : Int)) / val m ∧ [] = digs (topV l ((↑l.length : Int) - (1 : Int)) % val m).toNat) ∧
    ∀ (x : Int × List Int × List Int × Unit × Unit),
      (-1 : Int) ≤ x.fst ∧
          x.fst < (↑l.length : Int) ∧
            Dig x.snd.fst ∧ (↑x.snd.fst.length : Int) = (↑l.length : Int) - (1 : Int) - x.fst ∧ val x.snd.fst = topV l x.fst / val m ∧ x.snd.snd.fst = digs (topV l x.fst % val m).toNat →
        (decide ((0 : Int) ≤ x.fst) = true →
            ((0 : Int) ≤ x.fst ∧ x.fst < (↑l.length : Int)) ∧
              ∀ (x_1 : Int),
                l[x.fst.toNat]? = some x_1 →
                  (((1 : Nat) + x.snd.snd.fst.length) * (8 : Nat) ≤ (140737488355328 : Nat) ∧ (1 : Nat) + x.snd.snd.fst.length ≤ (4611686018427387904 : Nat)) ∧
                    (Dig ([x_1] ++ x.snd.snd.fst) ∧ ([x_1] ++ x.snd.snd.fst).length ≤ (1000000000 : Nat)) ∧
                      ((some (Obj.box [V.bool s, V.list LK.part I l]) = some (Obj.box [V.bool s, V.list LK.part I l]) ∧
                            some (Obj.box [V.bool t, V.list LK.part I m]) = some (Obj.box [V.bool t, V.list LK.part I m]) ∧
                              some (Obj.box [V.kb false, V.nils]) = some (Obj.box [V.kb false, V.nils]) ∧ some (Obj.box [V.kb false, V.nils]) = some (Obj.box [V.kb false, V.nils]) ∧ True) ∧
                          (0 : Int) ≤ (0 : Int) ∧
                            Can (digs (val ([x_1] ++ x.snd.snd.fst)).toNat) ∧
                              (digs (val ([x_1] ++ x.snd.snd.fst)).toNat).length ≤ (1000000 : Nat) ∧
                                (0 : Int) * val m + val (digs (val ([x_1] ++ x.snd.snd.fst)).toNat) = (10 : Int) * (topV l x.fst % val m) + at0 l x.fst.toNat) ∧
                        ∀ (x_2 : Int × List Int × Unit × Unit × Unit),
                          (0 : Int) ≤ x_2.fst ∧ Can x_2.snd.fst ∧ x_2.snd.fst.length ≤ (1000000 : Nat) ∧ x_2.fst * val m + val x_2.snd.fst = (10 : Int) * (topV l x.fst % val m) + at0 l x.fst.toNat →
                            (Can x_2.snd.fst ∧ Can m ∧ x_2.snd.fst.length ≤ (1000000000 : Nat)) ∧
                              (decide ((0 : Int) ≤ cmpV (val x_2.snd.fst) (val m)) = true →
                                  (Can x_2.snd.fst ∧ Can m ∧ val m ≤ val x_2.snd.fst ∧ x_2.snd.fst.length ≤ (100000000 : Nat)) ∧
                                    ((-9223372036854775808 : Int) ≤ x_2.fst + (1 : Int) ∧ x_2.fst + (1 : Int) ≤ (9223372036854775807 : Int)) ∧
                                      (some (Obj.box [V.bool s, V.list LK.part I l]) = some (Obj.box [V.bool s, V.list LK.part I l]) ∧
                                          some (Obj.box [V.bool t, V.list LK.part I m]) = some (Obj.box [V.bool t, V.list LK.part I m]) ∧
                                            some (Obj.box [V.kb false, V.nils]) = some (Obj.box [V.kb false, V.nils]) ∧
                                              some (Obj.box [V.kb false, V.nils]) = some (Obj.box [V.kb false, V.nils]) ∧ True) ∧
                                        ((0 : Int) ≤ x_2.fst + (1 : Int) ∧
                                            Can (digs (val x_2.snd.fst - val m).toNat) ∧
                                              (digs (val x_2.snd.fst - val m).toNat).length ≤ (1000000 : Nat) ∧
                                                (x_2.fst + (1 : Int)) * val m + val (digs (val x_2.snd.fst - val m).toNat) = (10 : Int) * (topV l x.fst % val m) + at0 l x.fst.toNat) ∧
                                          (val (digs (val x_2.snd.fst - val m).toNat)).toNat < (val x_2.snd.fst).toNat) ∧
                                (decide ((0 : Int) ≤ cmpV (val x_2.snd.fst) (val m)) = false →
                                  (((1 : Nat) + x.snd.fst.length) * (8 : Nat) ≤ (140737488355328 : Nat) ∧ (1 : Nat) + x.snd.fst.length ≤ (4611686018427387904 : Nat)) ∧
                                    ((-9223372036854775808 : Int) ≤ x.fst - (1 : Int) ∧ x.fst - (1 : Int) ≤ (9223372036854775807 : Int)) ∧
                                      (some (Obj.box [V.bool s, V.list LK.part I l]) = some (Obj.box [V.bool s, V.list LK.part I l]) ∧
                                          some (Obj.box [V.bool t, V.list LK.part I m]) = some (Obj.box [V.bool t, V.list LK.part I m]) ∧
                                            some (Obj.box [V.kb false, V.nils]) = some (Obj.box [V.kb false, V.nils]) ∧
                                              some (Obj.box [V.kb false, V.nils]) = some (Obj.box [V.kb false, V.nils]) ∧ True) ∧
                                        ((-1 : Int) ≤ x.fst - (1 : Int) ∧
                                            x.fst - (1 : Int) < (↑l.length : Int) ∧
                                              Dig ([x_2.fst] ++ x.snd.fst) ∧
                                                (↑([x_2.fst] ++ x.snd.fst).length : Int) = (↑l.length : Int) - (1 : Int) - (x.fst - (1 : Int)) ∧
                                                  val ([x_2.fst] ++ x.snd.fst) = topV l (x.fst - (1 : Int)) / val m ∧ x_2.snd.fst = digs (topV l (x.fst - (1 : Int)) % val m).toNat) ∧
                                          (x.fst - (1 : Int) + (1 : Int)).toNat < (x.fst + (1 : Int)).toNat)) ∧
          (decide ((0 : Int) ≤ x.fst) = false →
            (Dig x.snd.fst ∧ x.snd.fst.length ≤ (1000000000 : Nat)) ∧
              ((!s) = true →
                  True ∧
                    (false, digs (val x.snd.fst).toNat, false, x.snd.snd.fst, ()) = (decide (big s l / val m < (0 : Int)), digs (big s l / val m).natAbs, false, digs (big s l % val m).natAbs, ())) ∧
                ((!s) = false →
                  (decide ((↑x.snd.snd.fst.length : Int) = (0 : Int)) = true →
                      Big false (digs (val x.snd.fst).toNat) ∧
                        True ∧
                          (decide ((0 : Int) - big false (digs (val x.snd.fst).toNat) < (0 : Int)), digs ((0 : Int) - big false (digs (val x.snd.fst).toNat)).natAbs, false, [], ()) =
                            (decide (big s l / val m < (0 : Int)), digs (big s l / val m).natAbs, false, digs (big s l % val m).natAbs, ())) ∧
                    (decide ((↑x.snd.snd.fst.length : Int) = (0 : Int)) = false →
                      (Dig (digs (val x.snd.fst).toNat) ∧ Dig [(1 : Int)] ∧ (digs (val x.snd.fst).toNat).length ≤ (100000000 : Nat) ∧ (1 : Nat) ≤ (100000000 : Nat)) ∧
                        Big false (digs (val (digs (val x.snd.fst).toNat) + val [(1 : Int)]).toNat) ∧
                          (Can m ∧ Can x.snd.snd.fst ∧ val x.snd.snd.fst ≤ val m ∧ m.length ≤ (100000000 : Nat)) ∧
                            True ∧
                              (decide ((0 : Int) - big false (digs (val (digs (val x.snd.fst).toNat) + val [(1 : Int)]).toNat) < (0 : Int)),
                                  digs ((0 : Int) - big false (digs (val (digs (val x.snd.fst).toNat) + val [(1 : Int)]).toNat)).natAbs, false, digs (val m - val x.snd.snd.fst).toNat, ()) =
                                (decide (big s l / val m < (0 : Int)), digs (big s l / val m).natAbs, false, digs (big s l % val m).natAbs, ()))))

theorem g_div_eq (s t : Bool) (l m : List Int) : g_div s t l m = g_div_vc s t l m := by kernel_rfl
theorem quo_below {n D R a rv : Int} (hn : 0 ≤ n) (h0 : 0 ≤ rv) (hD : 0 < D) (hR : R < D) (ha : a ≤ 9) (e : n * D + rv = 10 * R + a) : n ≤ 9 ∧ rv < 10 * D := by
  have h1 := Int.mul_nonneg hn (show 0 ≤ D by omega)
  refine ⟨?_, by omega⟩
  by_cases c : n ≤ 9
  · exact c
  · exfalso
    have : 10 * D ≤ n * D := Int.mul_le_mul_of_nonneg_right (by omega) (by omega)
    omega
theorem quo_up {n D V a rv : Int} (hD : 0 < D) (h0 : 0 ≤ rv) (h1 : rv < D) (e : n * D + rv = 10 * (V % D) + a) : (a + 10 * V) / D = n + 10 * (V / D) ∧ (a + 10 * V) % D = rv := by
  have ev : D * (V / D) + V % D = V := Int.mul_ediv_add_emod V D
  refine (Int.ediv_emod_unique hD).2 ⟨?_, h0, h1⟩
  have : D * (n + 10 * (V / D)) = n * D + 10 * (D * (V / D)) := by
    rw [Int.mul_add, Int.mul_comm D n, ← Int.mul_assoc, Int.mul_comm D 10, Int.mul_assoc]
  rw [this]
  omega
theorem neg_quo {v D : Int} (hv : 0 ≤ v) (hD : 0 < D) : (v % D = 0 → (-v) / D = 0 - v / D ∧ (-v) % D = 0) ∧ (¬ v % D = 0 → (-v) / D = 0 - (v / D + 1) ∧ (-v) % D = D - v % D) := by
  have ev : D * (v / D) + v % D = v := Int.mul_ediv_add_emod v D
  have r0 : 0 ≤ v % D := Int.emod_nonneg _ (by omega)
  have r1 : v % D < D := Int.emod_lt_of_pos _ hD
  refine ⟨fun c => (Int.ediv_emod_unique hD).2 ⟨?_, by omega, hD⟩, fun c => (Int.ediv_emod_unique hD).2 ⟨?_, by omega, by omega⟩⟩
  · rw [Int.mul_sub]
    omega
  · rw [Int.mul_sub, Int.mul_add]
    omega
theorem top_step {l : List Int} {i : Int} {a : Int} (h0 : 0 ≤ i) (ha : l[i.toNat]? = some a) : topV l (i - 1) = a + 10 * topV l i := by
  unfold topV
  rw [show (i - 1 + 1).toNat = i.toNat by omega, show (i + 1).toNat = i.toNat + 1 by omega]
  obtain ⟨h1, h2⟩ := List.getElem?_eq_some_iff.1 ha
  rw [List.drop_eq_getElem_cons h1, h2]
  rfl
theorem digs_short {m : List Int} (hm : Dig m) {v : Int} (h0 : 0 ≤ v) (h1 : v < 10 * val m) : (digs v.toNat).length ≤ m.length + 1 := by
  refine digs_len ?_
  have := val_lt hm
  rw [Int.toNat_lt h0, Int.natCast_pow, Int.pow_succ]
  show v < 10 ^ m.length * 10
  omega
theorem cmp_ge {a b : Int} : 0 ≤ cmpV a b ↔ b ≤ a := by
  unfold cmpV
  split
  · omega
  · split <;> omega
theorem g_div_ok (s t : Bool) (l m : List Int) (h : t = false ∧ Big s l ∧ Can m ∧ 0 < val m ∧ l.length ≤ 100000 ∧ m.length ≤ 100000) : g_div_vc s t l m := by
  obtain ⟨rfl, hl, hm, hD, ll, lm⟩ := h
  have dl := hl.1.dig
  have dm := hm.dig
  unfold g_div_vc
  simp only [decide_eq_true_eq, decide_eq_false_iff_not, Bool.not_eq_true', Bool.not_eq_false', cmp_ge]
  refine ⟨by omega, ⟨⟨trivial, trivial, trivial, trivial, trivial⟩, by omega, by omega, dig_nil, by simp, ?_, ?_⟩, ?_⟩
  · unfold topV
    rw [List.drop_of_length_le (by omega)]
    simp [val]
  · unfold topV
    rw [List.drop_of_length_le (by omega)]
    simp [val, digs_zero]
  rintro ⟨i, q, r, ⟨⟩, ⟨⟩⟩ ⟨h1, h2, h3, h4, h5, h6⟩
  dsimp only at h1 h2 h3 h4 h5 h6 ⊢
  have r0 : 0 ≤ topV l i % val m := Int.emod_nonneg _ (by omega)
  have r1 : topV l i % val m < val m := Int.emod_lt_of_pos _ hD
  have rl : r.length ≤ m.length + 1 := by rw [h6]; exact digs_short dm r0 (by omega)
  have rc : Can r := by rw [h6]; exact can_digs _
  have rv : val r = topV l i % val m := by rw [h6, val_digs]; omega
  refine ⟨fun c => ⟨⟨c, h2⟩, fun a ha => ⟨⟨by omega, by omega⟩, ⟨?_, by simp; omega⟩, ?_, ?_⟩⟩, fun c => ?_⟩
  · rw [List.singleton_append, dig_cons]
    exact ⟨dig_get dl ha, rc.dig⟩
  · have ad := dig_get dl ha
    have ev : val ([a] ++ r) = a + 10 * (topV l i % val m) := by
      rw [← rv]
      rfl
    refine ⟨⟨trivial, trivial, trivial, trivial, trivial⟩, by omega, can_digs _, ?_, ?_⟩
    · rw [ev]
      exact Nat.le_trans (digs_short dm (by omega) (by omega)) (by omega)
    · rw [val_digs, ev, at0_some ha]
      omega
  · have ad := dig_get dl ha
    rw [at0_some ha]
    rintro ⟨n, y, ⟨⟩, ⟨⟩, ⟨⟩⟩ ⟨n0, yc, yl, e⟩
    dsimp only at n0 yc yl e ⊢
    have y0 := yc.nonneg
    obtain ⟨n9, y10⟩ := quo_below n0 y0 hD r1 ad.2 e
    refine ⟨⟨yc, hm, by omega⟩, fun g => ⟨⟨yc, hm, g, by omega⟩, by omega, ⟨trivial, trivial, trivial, trivial, trivial⟩, ⟨by omega, can_digs _, ?_, ?_⟩, ?_⟩, fun g => ⟨⟨by omega, by omega⟩, by omega, ⟨trivial, trivial, trivial, trivial, trivial⟩, ⟨by omega, by omega, ?_, ?_, ?_, ?_⟩, by omega⟩⟩
    · exact Nat.le_trans (digs_short dm (by omega) (by omega)) (by omega)
    · rw [val_digs, Int.add_mul, Int.one_mul]
      omega
    · rw [val_digs]
      omega
    · rw [List.singleton_append, dig_cons]
      exact ⟨by omega, h3⟩
    · rw [List.singleton_append, List.length_cons]
      omega
    · rw [top_step c ha, (quo_up hD y0 (by omega) e).1, ← h5]
      rfl
    · rw [top_step c ha, (quo_up hD y0 (by omega) e).2]
      exact yc
  · have ei : i = -1 := by omega
    subst ei
    have et : topV l (-1) = val l := rfl
    rw [et] at h5 h6 r0 r1 rv
    have v0 := val_nonneg dl
    have q0 : 0 ≤ val l / val m := Int.ediv_nonneg v0 (by omega)
    have rn : (r.length : Int) = 0 ↔ val l % val m = 0 := by
      have := rc.nil_iff
      rw [rv] at this
      rw [← this, ← List.length_eq_zero_iff]
      omega
    have bq : big false (digs (val l / val m).toNat) = val l / val m := by
      show val (digs (val l / val m).toNat) = _
      rw [val_digs]
      omega
    obtain ⟨k1, k2⟩ := neg_quo v0 hD
    rw [h5, bq]
    refine ⟨⟨h3, by omega⟩, fun hs => ⟨trivial, ?_⟩, fun hs => ⟨fun g => ⟨⟨can_digs _, fun k => by cases k⟩, trivial, ?_⟩, fun g => ⟨⟨digs_dig _, fun d hd => by rw [List.mem_singleton.1 hd]; omega, ?_, by decide⟩, ⟨can_digs _, fun k => by cases k⟩, ⟨hm, rc, by omega, by omega⟩, trivial, ?_⟩⟩⟩
    · subst hs
      have eb : big false l = val l := rfl
      rw [eb, h6, decide_eq_false (show ¬ val l / val m < 0 by omega), show (val l / val m).toNat = (val l / val m).natAbs by omega, show (val l % val m).toNat = (val l % val m).natAbs by omega]
    · subst hs
      have eb : big true l = -(val l) := rfl
      obtain ⟨j1, j2⟩ := k1 (rn.1 g)
      rw [eb, j1, j2]
      simp [digs_zero]
    · refine Nat.le_trans (digs_len (k := l.length) ?_) (by omega)
      have := val_lt dl
      have h7 : val l / val m ≤ val l := Int.ediv_le_self _ v0
      rw [Int.toNat_lt q0, Int.natCast_pow]
      show val l / val m < 10 ^ l.length
      omega
    · subst hs
      have eb : big true l = -(val l) := rfl
      obtain ⟨j1, j2⟩ := k2 (fun k => g (rn.2 k))
      have b2 : big false (digs (val (digs (val l / val m).toNat) + val [1]).toNat) = val l / val m + 1 := by
        show val (digs (val (digs (val l / val m).toNat) + val [1]).toNat) = _
        rw [val_digs, val_digs]
        have : val [1] = 1 := rfl
        omega
      rw [b2, eb, j1, j2, rv, show (val m - val l % val m).toNat = (val m - val l % val m).natAbs by omega]
set_option maxRecDepth 20000 in
theorem div_pure (s t : Bool) (l m : List Int) (h : t = false ∧ Big s l ∧ Can m ∧ 0 < val m ∧ l.length ≤ 100000 ∧ m.length ≤ 100000) : Pure Tryz.prog 83 [.agg [.bool s, .list .part I l], .agg [.bool t, .list .part I m]] (.tuple [.agg [.bool (decide (big s l / val m < 0)), .list .part I (digs (big s l / val m).natAbs)], .agg [.bool false, .list .part I (digs (big s l % val m).natAbs)]]) :=
  Pure.of_gG (E := env_div s t l m) (sh := [some 2, some 2]) (ann := ann_div) (x := (decide (big s l / val m < 0), digs (big s l / val m).natAbs, false, digs (big s l % val m).natAbs, ())) (fn := Tryz.f83) (c := codeOf Tryz.f83) (specs_ok (P := Tryz.prog) rfl [sp_trim, sp_more, sp_fewer, sp_digits, sp_flip] [so_trimO.upd] rfl rfl) mixed Tryz.func83 rfl rfl rfl rfl rfl (g := g_div s t l m) (by delta g_div start0; first | with_reducible exact Eq.refl _ | exact Eq.refl _) (by rw [g_div_eq s t l m]; exact g_div_ok s t l m h)
def q_div (s t : Bool) (l m : List Int) : Prop × V := (t = false ∧ Big s l ∧ Can m ∧ 0 < val m ∧ l.length ≤ 100000 ∧ m.length ≤ 100000, (.tuple [.agg [.bool (decide (big s l / val m < 0)), .list .part I (digs (big s l / val m).natAbs)], .agg [.bool false, .list .part I (digs (big s l % val m).natAbs)]]))
noncomputable def sp_div : FSpec Tryz.prog where
  f := 83
  run := fun args => match args with
    | [.agg [v0_0, v0_1], .agg [v1_0, v1_1]] => (match boolOf v0_0 with | some s => (match (asP I v0_1 : Option (List Int)) with | some l => (match boolOf v1_0 with | some t => (match (asP I v1_1 : Option (List Int)) with | some m => some (q_div s t l m) | none => none) | none => none) | none => none) | none => none)
    | _ => none
  ok := fun args pre r h hp => by
    try dsimp only at h
    split at h
    · rename_i v0_0 v0_1 v1_0 v1_1
      cases h0_0 : boolOf v0_0 with
      | none => rw [h0_0] at h; cases h
      | some s =>
      rw [h0_0] at h
      try dsimp only at h
      cases h0_1 : (asP I v0_1 : Option (List Int)) with
      | none => rw [h0_1] at h; cases h
      | some l =>
      rw [h0_1] at h
      try dsimp only at h
      cases h1_0 : boolOf v1_0 with
      | none => rw [h1_0] at h; cases h
      | some t =>
      rw [h1_0] at h
      try dsimp only at h
      cases h1_1 : (asP I v1_1 : Option (List Int)) with
      | none => rw [h1_1] at h; cases h
      | some m =>
      rw [h1_1] at h
      try dsimp only at h
      have h := Option.some.inj h
      unfold q_div at h
      cases h
      exact (div_pure s t l m hp).weak (.cons (Weak.agg (.cons (boolOf_weak h0_0) (.cons (asP_weak h0_1) .nil))) (.cons (Weak.agg (.cons (boolOf_weak h1_0) (.cons (asP_weak h1_1) .nil))) .nil))
    · cases h

end Go.Proofs.YtkifiopfapnpnaaGreatDoor
