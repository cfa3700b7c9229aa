/-
  The document's values: by rates, net sums.
-/
import Derived.Test.YtkifiopfapnpnaaGreatDoorDiv1
import Derived.Test.YtkifiopfapnpnaaGreatDoorVal4
namespace Go.Proofs.YtkifiopfapnpnaaGreatDoor
open Go.Vm

noncomputable def env_near (s : Bool) (l : List Int) (d : Int) : Env where
  P := Tryz.prog
  ty := tys0
  specs := specsOf [sp_of, sp_div, sp_bplus, sp_bcmp]
  frz := fun | 13 => true | 14 => true | 18 => true | 19 => true | 22 => true | 24 => true | _ => false
abbrev ann_near : Ann := { slots := numP 0 [.bool, .list .part I], boxes := [], inv := fun _ _ => True }
noncomputable def g_near (s : Bool) (l : List Int) (d : Int) : Prop := vc (env_near s l d) (codeOf Tryz.f72) (start0 Tryz.f72 [.agg [.bool s, .list .part I l], .int .i64 d]) (exitG (env_near s l d).P Tryz.f72.results.toList [some 2] (env_near s l d).pins ann_near (decide (nearZ (big s l) d < 0), digs (nearZ (big s l) d).natAbs, ()))
def g_near_vc (s : Bool) (l : List Int) (d : Int) : Prop :=
  InI d ∧
  (decide (d < (0 : Int)) = false ∧ Big s l ∧ Can (digs d.natAbs) ∧ (0 : Int) < val (digs d.natAbs) ∧ l.length ≤ (100000 : Nat) ∧ (digs d.natAbs).length ≤ (100000 : Nat)) ∧
    InI (1 : Int) ∧
      (Big (decide (big s l / val (digs d.natAbs) < (0 : Int))) (digs (big s l / val (digs d.natAbs)).natAbs) ∧
          Big (decide ((1 : Int) < (0 : Int))) (digs (Int.natAbs (1 : Int))) ∧
            (digs (big s l / val (digs d.natAbs)).natAbs).length ≤ (1000000 : Nat) ∧ (digs (Int.natAbs (1 : Int))).length ≤ (1000000 : Nat)) ∧
        (Big false (digs (big s l % val (digs d.natAbs)).natAbs) ∧
            Big false (digs (big s l % val (digs d.natAbs)).natAbs) ∧
              (digs (big s l % val (digs d.natAbs)).natAbs).length ≤ (1000000 : Nat) ∧ (digs (big s l % val (digs d.natAbs)).natAbs).length ≤ (1000000 : Nat)) ∧
          InI d ∧
            (Big (decide (big false (digs (big s l % val (digs d.natAbs)).natAbs) + big false (digs (big s l % val (digs d.natAbs)).natAbs) < (0 : Int)))
                  (digs (big false (digs (big s l % val (digs d.natAbs)).natAbs) + big false (digs (big s l % val (digs d.natAbs)).natAbs)).natAbs) ∧
                Big (decide (d < (0 : Int))) (digs d.natAbs) ∧
                  (digs (big false (digs (big s l % val (digs d.natAbs)).natAbs) + big false (digs (big s l % val (digs d.natAbs)).natAbs)).natAbs).length ≤ (1000000 : Nat) ∧
                    (digs d.natAbs).length ≤ (1000000 : Nat)) ∧
              (decide ((0 : Int) < (↑(digs (big s l / val (digs d.natAbs)).natAbs).length : Int)) = true →
                  ((0 : Int) ≤ (0 : Int) ∧ (0 : Int) < (↑(digs (big s l / val (digs d.natAbs)).natAbs).length : Int)) ∧
                    ∀ (x : Int),
                      (digs (big s l / val (digs d.natAbs)).natAbs)[Int.toNat (0 : Int)]? = some x →
                        (2 : Int) ≠ (0 : Int) ∧
                          (decide
                                  ((0 : Int) <
                                    cmpV
                                      (big (decide (big false (digs (big s l % val (digs d.natAbs)).natAbs) + big false (digs (big s l % val (digs d.natAbs)).natAbs) < (0 : Int)))
                                        (digs (big false (digs (big s l % val (digs d.natAbs)).natAbs) + big false (digs (big s l % val (digs d.natAbs)).natAbs)).natAbs))
                                      (big (decide (d < (0 : Int))) (digs d.natAbs))) =
                                false →
                              (decide
                                      (cmpV
                                          (big (decide (big false (digs (big s l % val (digs d.natAbs)).natAbs) + big false (digs (big s l % val (digs d.natAbs)).natAbs) < (0 : Int)))
                                            (digs (big false (digs (big s l % val (digs d.natAbs)).natAbs) + big false (digs (big s l % val (digs d.natAbs)).natAbs)).natAbs))
                                          (big (decide (d < (0 : Int))) (digs d.natAbs)) =
                                        (0 : Int)) =
                                    true →
                                  (decide (x.tmod (2 : Int) = (1 : Int)) = true →
                                      True ∧
                                        (decide
                                              (big (decide (big s l / val (digs d.natAbs) < (0 : Int))) (digs (big s l / val (digs d.natAbs)).natAbs) +
                                                  big (decide ((1 : Int) < (0 : Int))) (digs (Int.natAbs (1 : Int))) <
                                                (0 : Int)),
                                            digs
                                              (big (decide (big s l / val (digs d.natAbs) < (0 : Int))) (digs (big s l / val (digs d.natAbs)).natAbs) +
                                                  big (decide ((1 : Int) < (0 : Int))) (digs (Int.natAbs (1 : Int)))).natAbs,
                                            ()) =
                                          (decide (nearZ (big s l) d < (0 : Int)), digs (nearZ (big s l) d).natAbs, ())) ∧
                                    (decide (x.tmod (2 : Int) = (1 : Int)) = false →
                                      True ∧
                                        (decide (big s l / val (digs d.natAbs) < (0 : Int)), digs (big s l / val (digs d.natAbs)).natAbs, ()) =
                                          (decide (nearZ (big s l) d < (0 : Int)), digs (nearZ (big s l) d).natAbs, ()))) ∧
                                (decide
                                      (cmpV
                                          (big (decide (big false (digs (big s l % val (digs d.natAbs)).natAbs) + big false (digs (big s l % val (digs d.natAbs)).natAbs) < (0 : Int)))
                                            (digs (big false (digs (big s l % val (digs d.natAbs)).natAbs) + big false (digs (big s l % val (digs d.natAbs)).natAbs)).natAbs))
                                          (big (decide (d < (0 : Int))) (digs d.natAbs)) =
                                        (0 : Int)) =
                                    !true →
                                  True ∧
                                    (decide (big s l / val (digs d.natAbs) < (0 : Int)), digs (big s l / val (digs d.natAbs)).natAbs, ()) =
                                      (decide (nearZ (big s l) d < (0 : Int)), digs (nearZ (big s l) d).natAbs, ()))) ∧
                            (decide
                                  ((0 : Int) <
                                    cmpV
                                      (big (decide (big false (digs (big s l % val (digs d.natAbs)).natAbs) + big false (digs (big s l % val (digs d.natAbs)).natAbs) < (0 : Int)))
                                        (digs (big false (digs (big s l % val (digs d.natAbs)).natAbs) + big false (digs (big s l % val (digs d.natAbs)).natAbs)).natAbs))
                                      (big (decide (d < (0 : Int))) (digs d.natAbs))) =
                                !false →
                              True ∧
                                (decide
                                      (big (decide (big s l / val (digs d.natAbs) < (0 : Int))) (digs (big s l / val (digs d.natAbs)).natAbs) +
                                          big (decide ((1 : Int) < (0 : Int))) (digs (Int.natAbs (1 : Int))) <
                                        (0 : Int)),
                                    digs
                                      (big (decide (big s l / val (digs d.natAbs) < (0 : Int))) (digs (big s l / val (digs d.natAbs)).natAbs) +
                                          big (decide ((1 : Int) < (0 : Int))) (digs (Int.natAbs (1 : Int)))).natAbs,
                                    ()) =
                                  (decide (nearZ (big s l) d < (0 : Int)), digs (nearZ (big s l) d).natAbs, ()))) ∧
                (decide ((0 : Int) < (↑(digs (big s l / val (digs d.natAbs)).natAbs).length : Int)) = !true →
                  (decide
                          ((0 : Int) <
                            cmpV
                              (big (decide (big false (digs (big s l % val (digs d.natAbs)).natAbs) + big false (digs (big s l % val (digs d.natAbs)).natAbs) < (0 : Int)))
                                (digs (big false (digs (big s l % val (digs d.natAbs)).natAbs) + big false (digs (big s l % val (digs d.natAbs)).natAbs)).natAbs))
                              (big (decide (d < (0 : Int))) (digs d.natAbs))) =
                        false →
                      (decide
                              (cmpV
                                  (big (decide (big false (digs (big s l % val (digs d.natAbs)).natAbs) + big false (digs (big s l % val (digs d.natAbs)).natAbs) < (0 : Int)))
                                    (digs (big false (digs (big s l % val (digs d.natAbs)).natAbs) + big false (digs (big s l % val (digs d.natAbs)).natAbs)).natAbs))
                                  (big (decide (d < (0 : Int))) (digs d.natAbs)) =
                                (0 : Int)) =
                            true →
                          True ∧
                            (decide (big s l / val (digs d.natAbs) < (0 : Int)), digs (big s l / val (digs d.natAbs)).natAbs, ()) =
                              (decide (nearZ (big s l) d < (0 : Int)), digs (nearZ (big s l) d).natAbs, ())) ∧
                        (decide
                              (cmpV
                                  (big (decide (big false (digs (big s l % val (digs d.natAbs)).natAbs) + big false (digs (big s l % val (digs d.natAbs)).natAbs) < (0 : Int)))
                                    (digs (big false (digs (big s l % val (digs d.natAbs)).natAbs) + big false (digs (big s l % val (digs d.natAbs)).natAbs)).natAbs))
                                  (big (decide (d < (0 : Int))) (digs d.natAbs)) =
                                (0 : Int)) =
                            !true →
                          True ∧
                            (decide (big s l / val (digs d.natAbs) < (0 : Int)), digs (big s l / val (digs d.natAbs)).natAbs, ()) =
                              (decide (nearZ (big s l) d < (0 : Int)), digs (nearZ (big s l) d).natAbs, ()))) ∧
                    (decide
                          ((0 : Int) <
                            cmpV
                              (big (decide (big false (digs (big s l % val (digs d.natAbs)).natAbs) + big false (digs (big s l % val (digs d.natAbs)).natAbs) < (0 : Int)))
                                (digs (big false (digs (big s l % val (digs d.natAbs)).natAbs) + big false (digs (big s l % val (digs d.natAbs)).natAbs)).natAbs))
                              (big (decide (d < (0 : Int))) (digs d.natAbs))) =
                        !false →
                      True ∧
                        (decide
                              (big (decide (big s l / val (digs d.natAbs) < (0 : Int))) (digs (big s l / val (digs d.natAbs)).natAbs) +
                                  big (decide ((1 : Int) < (0 : Int))) (digs (Int.natAbs (1 : Int))) <
                                (0 : Int)),
                            digs
                              (big (decide (big s l / val (digs d.natAbs) < (0 : Int))) (digs (big s l / val (digs d.natAbs)).natAbs) +
                                  big (decide ((1 : Int) < (0 : Int))) (digs (Int.natAbs (1 : Int)))).natAbs,
                            ()) =
                          (decide (nearZ (big s l) d < (0 : Int)), digs (nearZ (big s l) d).natAbs, ())))

theorem g_near_eq (s : Bool) (l : List Int) (d : Int) : g_near s l d = g_near_vc s l d := by kernel_rfl
theorem cmp_gt {a b : Int} : 0 < cmpV a b ↔ b < a := by
  unfold cmpV
  split
  · omega
  · split <;> omega
theorem cmp_eq {a b : Int} : cmpV a b = 0 ↔ a = b := by
  unfold cmpV
  split
  · omega
  · split <;> omega
theorem big_plus {v : Int} (h : 0 ≤ v) : big false (digs v.natAbs) = v := by
  show val (digs v.natAbs) = v
  rw [val_digs]
  omega
theorem digs_le {a b : Int} {k : Nat} (h : a.natAbs ≤ b.natAbs) (hb : (digs b.natAbs).length ≤ k) : (digs a.natAbs).length ≤ k := by
  refine Nat.le_trans (digs_len ?_) hb
  have := val_lt (digs_dig b.natAbs)
  rw [val_digs] at this
  have e : ((b.natAbs : Int) : Int) < ((10 ^ (digs b.natAbs).length : Nat) : Int) := by rw [Int.natCast_pow]; exact this
  omega
theorem odd_digs {q x : Int} (hx : (digs q.natAbs)[Int.toNat 0]? = some x) : x.tmod 2 = 1 ↔ q % 2 = 1 := by
  by_cases c : q.natAbs = 0
  · rw [c, digs_zero] at hx
    cases hx
  · rw [digs_pos c] at hx
    have : x = ((q.natAbs % 10 : Nat) : Int) := (Option.some.inj hx).symm
    rw [this, Int.tmod_eq_emod_of_nonneg (by omega)]
    omega
theorem quo_abs {z d : Int} (hd : 0 < d) : (z / d).natAbs ≤ z.natAbs ∧ 0 ≤ z % d ∧ z % d < d := by
  have e : d * (z / d) + z % d = z := Int.mul_ediv_add_emod z d
  have r0 : 0 ≤ z % d := Int.emod_nonneg _ (by omega)
  have r1 : z % d < d := Int.emod_lt_of_pos _ hd
  refine ⟨?_, r0, r1⟩
  by_cases c : 0 ≤ z / d
  · have : 1 * (z / d) ≤ d * (z / d) := Int.mul_le_mul_of_nonneg_right (by omega) c
    omega
  · have h1 : d * (z / d + 1) ≤ 1 * (z / d + 1) := by
      have := Int.mul_le_mul_of_nonpos_right (show 1 ≤ d by omega) (show z / d + 1 ≤ 0 by omega)
      exact this
    rw [Int.mul_add] at h1
    omega
theorem g_near_ok (s : Bool) (l : List Int) (d : Int) (h : Big s l ∧ l.length ≤ 90000 ∧ 0 < d ∧ InI d) : g_near_vc s l d := by
  obtain ⟨hB, hl, hd, hi⟩ := h
  have i1 : InI (1 : Int) := ⟨by decide, by decide⟩
  have d0 : ¬ d < 0 := by omega
  have vd : val (digs d.natAbs) = d := big_plus (v := d) (by omega)
  obtain ⟨qa, r0, r1⟩ := quo_abs (z := big s l) hd
  have dl := digI_len hi
  have zl : (digs (big s l).natAbs).length ≤ 90000 := by rw [big_abs hB]; exact hl
  have ql := digs_le qa zl
  have rl := digs_le (a := big s l % d) (b := d) (by omega) dl
  have rr : (digs (big s l % d + big s l % d).natAbs).length ≤ 31 := by
    refine digs_len ?_
    have := val_lt (digs_dig d.natAbs)
    rw [vd] at this
    have h2 : (10 : Int) ^ (digs d.natAbs).length ≤ 10 ^ 30 := pow_le dl
    have h3 : ((10 ^ 31 : Nat) : Int) = 10 ^ 30 * 10 := by decide
    omega
  have hone : (digs (Int.natAbs 1)).length ≤ 1000000 := Nat.le_trans (digI_len i1) (by decide)
  unfold g_near_vc
  simp only [vd, big_digs, big_plus r0, cmp_gt, cmp_eq, decide_eq_true_eq, decide_eq_false_iff_not, Bool.not_true, Bool.not_false]
  have eU : (d < 2 * (big s l % d) ∨ (2 * (big s l % d) = d ∧ big s l / d % 2 = 1)) → nearZ (big s l) d = big s l / d + 1 := fun k => by unfold nearZ; rw [if_pos k]
  have eD : ¬ (d < 2 * (big s l % d) ∨ (2 * (big s l % d) = d ∧ big s l / d % 2 = 1)) → nearZ (big s l) d = big s l / d := fun k => by unfold nearZ; rw [if_neg k]
  generalize big s l % d = r at *
  generalize big s l / d = q at *
  refine ⟨hi, ⟨d0, hB, can_digs _, hd, by omega, by omega⟩, i1, ⟨Big_digs _, Big_digs 1, by omega, hone⟩, ⟨⟨can_digs _, fun k => by cases k⟩, ⟨can_digs _, fun k => by cases k⟩, by omega, by omega⟩, hi, ⟨Big_digs _, Big_digs d, by omega, by omega⟩,
    fun c => ⟨⟨by omega, c⟩, fun x hx => ⟨by decide, fun g => ⟨fun e => ⟨fun o => ⟨trivial, ?_⟩, fun o => ⟨trivial, ?_⟩⟩, fun e => ⟨trivial, ?_⟩⟩, fun g => ⟨trivial, ?_⟩⟩⟩, fun c => ⟨fun g => ⟨fun e => ⟨trivial, ?_⟩, fun e => ⟨trivial, ?_⟩⟩, fun g => ⟨trivial, ?_⟩⟩⟩
  · rw [eU (.inr ⟨by omega, (odd_digs hx).1 o⟩)]
  · rw [eD (fun k => by rcases k with k | ⟨_, k⟩ <;> first | omega | exact o ((odd_digs hx).2 k))]
  · rw [eD (by omega)]
  · rw [eU (by omega)]
  · have hq : q = 0 := by
      have : digs q.natAbs = [] := List.length_eq_zero_iff.1 (by omega)
      have := digs_nil.1 this
      omega
    rw [eD (by omega)]
  · rw [eD (by omega)]
  · rw [eU (by omega)]
set_option maxRecDepth 20000 in
theorem near_pure (s : Bool) (l : List Int) (d : Int) (h : Big s l ∧ l.length ≤ 90000 ∧ 0 < d ∧ InI d) : Pure Tryz.prog 72 [.agg [.bool s, .list .part I l], .int .i64 d] (.agg [.bool (decide (nearZ (big s l) d < 0)), .list .part I (digs (nearZ (big s l) d).natAbs)]) :=
  Pure.of_gG (E := env_near s l d) (sh := [some 2]) (ann := ann_near) (x := (decide (nearZ (big s l) d < 0), digs (nearZ (big s l) d).natAbs, ())) (fn := Tryz.f72) (c := codeOf Tryz.f72) (specs_ok (P := Tryz.prog) rfl [sp_of, sp_div, sp_bplus, sp_bcmp] [] rfl rfl) mixed Tryz.func72 rfl rfl rfl rfl rfl (g := g_near s l d) (by delta g_near start0; first | with_reducible exact Eq.refl _ | exact Eq.refl _) (by rw [g_near_eq s l d]; exact g_near_ok s l d h)
def q_near (s : Bool) (l : List Int) (d : Int) : Prop × V := (Big s l ∧ l.length ≤ 90000 ∧ 0 < d ∧ InI d, (.agg [.bool (decide (nearZ (big s l) d < 0)), .list .part I (digs (nearZ (big s l) d).natAbs)]))
noncomputable def sp_near : FSpec Tryz.prog where
  f := 72
  run := fun args => match args with
    | [.agg [v0_0, v0_1], .int .i64 d] => (match boolOf v0_0 with | some s => (match (asP I v0_1 : Option (List Int)) with | some l => some (q_near s l d) | none => none) | none => none)
    | _ => none
  ok := fun args pre r h hp => by
    try dsimp only at h
    split at h
    · rename_i v0_0 v0_1 d
      cases h0_0 : boolOf v0_0 with
      | none => rw [h0_0] at h; cases h
      | some s =>
      rw [h0_0] at h
      try dsimp only at h
      cases h0_1 : (asP I v0_1 : Option (List Int)) with
      | none => rw [h0_1] at h; cases h
      | some l =>
      rw [h0_1] at h
      try dsimp only at h
      have h := Option.some.inj h
      unfold q_near at h
      cases h
      exact (near_pure s l d hp).weak (.cons (Weak.agg (.cons (boolOf_weak h0_0) (.cons (asP_weak h0_1) .nil))) (.cons (Weak.refl _) .nil))
    · cases h

noncomputable def env_reven (s : Bool) (l : List Int) (d : Int) : Env where
  P := Tryz.prog
  ty := tys0
  specs := specsOf [sp_near, sp_told]
  frz := fun | 10 => true | 11 => true | _ => false
noncomputable def g_reven (s : Bool) (l : List Int) (d : Int) : Prop := vc (env_reven s l d) (codeOf Tryz.f52) (start0 Tryz.f52 [.agg [.bool s, .list .part I l], .int .i64 d]) (exitK (tsOf Tryz.f52) [.int .i64, .int .i64] ((evenF (big s l) d).1, (evenF (big s l) d).2, ()))
def g_reven_vc (s : Bool) (l : List Int) (d : Int) : Prop :=
  (decide (d < (1 : Int)) = true → ((0 : Int), (2 : Int), ()) = ((evenF (big s l) d).fst, (evenF (big s l) d).snd, ())) ∧
  (decide (d < (1 : Int)) = false →
    (Big s l ∧ l.length ≤ (90000 : Nat) ∧ (0 : Int) < d ∧ InI d) ∧
      (Big (decide (nearZ (big s l) d < (0 : Int))) (digs (nearZ (big s l) d).natAbs) ∧ (digs (nearZ (big s l) d).natAbs).length ≤ (1000000 : Nat)) ∧
        (intB (big (decide (nearZ (big s l) d < (0 : Int))) (digs (nearZ (big s l) d).natAbs)), faultB (big (decide (nearZ (big s l) d < (0 : Int))) (digs (nearZ (big s l) d).natAbs)), ()) =
          ((evenF (big s l) d).fst, (evenF (big s l) d).snd, ()))

theorem g_reven_eq (s : Bool) (l : List Int) (d : Int) : g_reven s l d = g_reven_vc s l d := by kernel_rfl
theorem near_abs {z d : Int} (hd : 0 < d) : (nearZ z d).natAbs ≤ z.natAbs + 1 := by
  have := (quo_abs (z := z) hd).1
  unfold nearZ
  split <;> omega
theorem digs_succ {a b : Int} {k : Nat} (h : a.natAbs ≤ b.natAbs + 1) (hb : (digs b.natAbs).length ≤ k) : (digs a.natAbs).length ≤ k + 1 := by
  refine digs_len ?_
  have := val_lt (digs_dig b.natAbs)
  rw [val_digs] at this
  have h2 : (10 : Int) ^ (digs b.natAbs).length ≤ 10 ^ k := pow_le hb
  have h3 : ((10 ^ (k + 1) : Nat) : Int) = 10 ^ k * 10 := by rw [Int.natCast_pow, Int.pow_succ]; rfl
  have h4 : (1 : Int) ≤ 10 ^ k := Int.pow_pos (by decide)
  omega
theorem g_reven_ok (s : Bool) (l : List Int) (d : Int) (h : Big s l ∧ l.length ≤ 90000 ∧ InI d) : g_reven_vc s l d := by
  obtain ⟨hB, hl, hi⟩ := h
  unfold g_reven_vc evenF
  simp only [decide_eq_true_eq, decide_eq_false_iff_not, big_digs]
  refine ⟨fun c => ?_, fun c => ⟨⟨hB, hl, by omega, hi⟩, ⟨Big_digs _, ?_⟩, ?_⟩⟩
  · rw [if_pos c]
  · have zl : (digs (big s l).natAbs).length ≤ 90000 := by rw [big_abs hB]; exact hl
    exact Nat.le_trans (digs_succ (near_abs (by omega)) zl) (by decide)
  · rw [if_neg c]
set_option maxRecDepth 20000 in
theorem reven_pure (s : Bool) (l : List Int) (d : Int) (h : Big s l ∧ l.length ≤ 90000 ∧ InI d) : Pure Tryz.prog 52 [.agg [.bool s, .list .part I l], .int .i64 d] (.tuple [.int .i64 (evenF (big s l) d).1, .int .i64 (evenF (big s l) d).2]) :=
  Pure.of_g (E := env_reven s l d) (ts := tsOf Tryz.f52) (ps := [.int .i64, .int .i64]) (r := ((evenF (big s l) d).1, (evenF (big s l) d).2, ())) (fn := Tryz.f52) (c := codeOf Tryz.f52) (specs_ok (P := Tryz.prog) rfl [sp_near, sp_told] [] rfl rfl) mixed Tryz.func52 rfl rfl (g := g_reven s l d) (by delta g_reven start0; first | with_reducible exact Eq.refl _ | exact Eq.refl _) (by rw [g_reven_eq s l d]; exact g_reven_ok s l d h)
def q_reven (s : Bool) (l : List Int) (d : Int) : Prop × V := (Big s l ∧ l.length ≤ 90000 ∧ InI d, (.tuple [.int .i64 (evenF (big s l) d).1, .int .i64 (evenF (big s l) d).2]))
noncomputable def sp_reven : FSpec Tryz.prog where
  f := 52
  run := fun args => match args with
    | [.agg [v0_0, v0_1], .int .i64 d] => (match boolOf v0_0 with | some s => (match (asP I v0_1 : Option (List Int)) with | some l => some (q_reven s l d) | none => none) | none => none)
    | _ => none
  ok := fun args pre r h hp => by
    try dsimp only at h
    split at h
    · rename_i v0_0 v0_1 d
      cases h0_0 : boolOf v0_0 with
      | none => rw [h0_0] at h; cases h
      | some s =>
      rw [h0_0] at h
      try dsimp only at h
      cases h0_1 : (asP I v0_1 : Option (List Int)) with
      | none => rw [h0_1] at h; cases h
      | some l =>
      rw [h0_1] at h
      try dsimp only at h
      have h := Option.some.inj h
      unfold q_reven at h
      cases h
      exact (reven_pure s l d hp).weak (.cons (Weak.agg (.cons (boolOf_weak h0_0) (.cons (asP_weak h0_1) .nil))) (.cons (Weak.refl _) .nil))
    · cases h

noncomputable def env_rscale (x n d : Int) : Env where
  P := Tryz.prog
  ty := tys0
  specs := specsOf [sp_of, sp_times, sp_reven]
  frz := fun | 9 => true | 11 => true | 12 => true | _ => false
noncomputable def g_rscale (x n d : Int) : Prop := vc (env_rscale x n d) (codeOf Tryz.f37) (start0 Tryz.f37 [.int .i64 x, .int .i64 n, .int .i64 d]) (exitK (tsOf Tryz.f37) [.int .i64, .int .i64] ((evenF (x * n) d).1, (evenF (x * n) d).2, ()))
def g_rscale_vc (x : Int) (n : Int) (d : Int) : Prop :=
  InI x ∧
  InI n ∧
    (Big (decide (x < (0 : Int))) (digs x.natAbs) ∧ Big (decide (n < (0 : Int))) (digs n.natAbs) ∧ (digs x.natAbs).length ≤ (100000 : Nat) ∧ (digs n.natAbs).length ≤ (100000 : Nat)) ∧
      (Big (decide (big (decide (x < (0 : Int))) (digs x.natAbs) * big (decide (n < (0 : Int))) (digs n.natAbs) < (0 : Int)))
            (digs (big (decide (x < (0 : Int))) (digs x.natAbs) * big (decide (n < (0 : Int))) (digs n.natAbs)).natAbs) ∧
          (digs (big (decide (x < (0 : Int))) (digs x.natAbs) * big (decide (n < (0 : Int))) (digs n.natAbs)).natAbs).length ≤ (90000 : Nat) ∧ InI d) ∧
        ((evenF
                (big (decide (big (decide (x < (0 : Int))) (digs x.natAbs) * big (decide (n < (0 : Int))) (digs n.natAbs) < (0 : Int)))
                  (digs (big (decide (x < (0 : Int))) (digs x.natAbs) * big (decide (n < (0 : Int))) (digs n.natAbs)).natAbs))
                d).fst,
            (evenF
                (big (decide (big (decide (x < (0 : Int))) (digs x.natAbs) * big (decide (n < (0 : Int))) (digs n.natAbs) < (0 : Int)))
                  (digs (big (decide (x < (0 : Int))) (digs x.natAbs) * big (decide (n < (0 : Int))) (digs n.natAbs)).natAbs))
                d).snd,
            ()) =
          ((evenF (x * n) d).fst, (evenF (x * n) d).snd, ())

theorem g_rscale_eq (x n d : Int) : g_rscale x n d = g_rscale_vc x n d := by kernel_rfl
theorem g_rscale_ok (x n d : Int) (h : InI x ∧ InI n ∧ InI d) : g_rscale_vc x n d := by
  obtain ⟨hx, hn, hd⟩ := h
  unfold g_rscale_vc
  simp only [big_digs]
  have h1 := digI_len hx
  have h2 := digI_len hn
  refine ⟨hx, hn, ⟨Big_digs _, Big_digs _, by omega, by omega⟩, ⟨Big_digs _, ?_, hd⟩, ?_⟩
  · obtain ⟨z1, z2⟩ := mul_in hx hn
    exact Nat.le_trans (digs_len (k := 40) (by omega)) (by decide)
  · trivial
set_option maxRecDepth 20000 in
theorem rscale_pure (x n d : Int) (h : InI x ∧ InI n ∧ InI d) : Pure Tryz.prog 37 [.int .i64 x, .int .i64 n, .int .i64 d] (.tuple [.int .i64 (evenF (x * n) d).1, .int .i64 (evenF (x * n) d).2]) :=
  Pure.of_g (E := env_rscale x n d) (ts := tsOf Tryz.f37) (ps := [.int .i64, .int .i64]) (r := ((evenF (x * n) d).1, (evenF (x * n) d).2, ())) (fn := Tryz.f37) (c := codeOf Tryz.f37) (specs_ok (P := Tryz.prog) rfl [sp_of, sp_times, sp_reven] [] rfl rfl) mixed Tryz.func37 rfl rfl (g := g_rscale x n d) (by delta g_rscale start0; first | with_reducible exact Eq.refl _ | exact Eq.refl _) (by rw [g_rscale_eq x n d]; exact g_rscale_ok x n d h)
def q_rscale (x n d : Int) : Prop × V := (InI x ∧ InI n ∧ InI d, (.tuple [.int .i64 (evenF (x * n) d).1, .int .i64 (evenF (x * n) d).2]))
noncomputable def sp_rscale : FSpec Tryz.prog where
  f := 37
  run := fun args => match args with
    | [.int .i64 x, .int .i64 n, .int .i64 d] => some (q_rscale x n d)
    | _ => none
  ok := fun args pre r h hp => by
    try dsimp only at h
    split at h
    · rename_i x n d
      have h := Option.some.inj h
      unfold q_rscale at h
      cases h
      exact (rscale_pure x n d hp).weak (.cons (Weak.refl _) (.cons (Weak.refl _) (.cons (Weak.refl _) .nil)))
    · cases h

noncomputable def env_rrcheck (a b : Int) : Env where
  P := Tryz.prog
  ty := tys0
noncomputable def g_rrcheck (a b : Int) : Prop := vc (env_rrcheck a b) (codeOf Tryz.f36) (start0 Tryz.f36 [.agg [.int .i64 a, .int .i64 b]]) (exitK (tsOf Tryz.f36) [.int .i64] (ratioF a b, ()))
def g_rrcheck_vc (a : Int) (b : Int) : Prop :=
  (decide (a < (1 : Int)) = false →
    (decide (b < (1 : Int)) = false →
        (decide ((1000000000000 : Int) < a) = false →
            (decide ((1000000000000 : Int) < b) = true → ((11 : Int), ()) = (ratioF a b, ())) ∧ (decide ((1000000000000 : Int) < b) = false → ((0 : Int), ()) = (ratioF a b, ()))) ∧
          (decide ((1000000000000 : Int) < a) = !false → ((11 : Int), ()) = (ratioF a b, ()))) ∧
      (decide (b < (1 : Int)) = !false → ((11 : Int), ()) = (ratioF a b, ()))) ∧
  (decide (a < (1 : Int)) = !false → ((11 : Int), ()) = (ratioF a b, ()))

theorem g_rrcheck_eq (a b : Int) : g_rrcheck a b = g_rrcheck_vc a b := by kernel_rfl
theorem g_rrcheck_ok (a b : Int) : g_rrcheck_vc a b := by
  unfold g_rrcheck_vc ratioF
  simp only [decide_eq_true_eq, decide_eq_false_iff_not, Bool.not_false, Prod.mk.injEq, and_true]
  refine ⟨fun h1 => ⟨fun h2 => ⟨fun h3 => ⟨fun h4 => ?_, fun h4 => ?_⟩, fun h3 => ?_⟩, fun h2 => ?_⟩, fun h1 => ?_⟩ <;> split <;> omega
set_option maxRecDepth 20000 in
theorem rrcheck_pure (a b : Int) : Pure Tryz.prog 36 [.agg [.int .i64 a, .int .i64 b]] (.int .i64 (ratioF a b)) :=
  Pure.of_g (E := env_rrcheck a b) (ts := tsOf Tryz.f36) (ps := [.int .i64]) (r := (ratioF a b, ())) (fn := Tryz.f36) (c := codeOf Tryz.f36) (specs_ok (P := Tryz.prog) rfl [] [] rfl rfl) mixed Tryz.func36 rfl rfl (g := g_rrcheck a b) (by delta g_rrcheck start0; first | with_reducible exact Eq.refl _ | exact Eq.refl _) (by rw [g_rrcheck_eq a b]; exact g_rrcheck_ok a b)
def q_rrcheck (a b : Int) : Prop × V := (True, (.int .i64 (ratioF a b)))
noncomputable def sp_rrcheck : FSpec Tryz.prog where
  f := 36
  run := fun args => match args with
    | [.agg [.int .i64 a, .int .i64 b]] => some (q_rrcheck a b)
    | _ => none
  ok := fun args pre r h hp => by
    try dsimp only at h
    split at h
    · rename_i a b
      have h := Option.some.inj h
      unfold q_rrcheck at h
      cases h
      exact (rrcheck_pure a b).weak (.cons (Weak.refl _) .nil)
    · cases h
noncomputable def env_rapply (x a b : Int) : Env where
  P := Tryz.prog
  ty := tys0
  specs := specsOf [sp_rrcheck, sp_rscale]
noncomputable def g_rapply (x a b : Int) : Prop := vc (env_rapply x a b) (codeOf Tryz.f19) (start0 Tryz.f19 [.int .i64 x, .agg [.int .i64 a, .int .i64 b]]) (exitK (tsOf Tryz.f19) [.int .i64, .int .i64] ((applyF x a b).1, (applyF x a b).2, ()))
def g_rapply_vc (x : Int) (a : Int) (b : Int) : Prop :=
  True ∧
  ((!decide (ratioF a b = (0 : Int))) = true → ((0 : Int), (11 : Int), ()) = ((applyF x a b).fst, (applyF x a b).snd, ())) ∧
    ((!decide (ratioF a b = (0 : Int))) = false → (InI x ∧ InI a ∧ InI b) ∧ ((evenF (x * a) b).fst, (evenF (x * a) b).snd, ()) = ((applyF x a b).fst, (applyF x a b).snd, ()))

theorem g_rapply_eq (x a b : Int) : g_rapply x a b = g_rapply_vc x a b := by kernel_rfl
theorem g_rapply_ok (x a b : Int) (h : InI x ∧ InI a ∧ InI b) : g_rapply_vc x a b := by
  unfold g_rapply_vc applyF
  simp only [decide_eq_true_eq, decide_eq_false_iff_not, Bool.not_eq_true', Bool.not_eq_false']
  exact ⟨trivial, fun c => by rw [if_neg c], fun c => ⟨h, by rw [if_pos c]⟩⟩
set_option maxRecDepth 20000 in
theorem rapply_pure (x a b : Int) (h : InI x ∧ InI a ∧ InI b) : Pure Tryz.prog 19 [.int .i64 x, .agg [.int .i64 a, .int .i64 b]] (.tuple [.int .i64 (applyF x a b).1, .int .i64 (applyF x a b).2]) :=
  Pure.of_g (E := env_rapply x a b) (ts := tsOf Tryz.f19) (ps := [.int .i64, .int .i64]) (r := ((applyF x a b).1, (applyF x a b).2, ())) (fn := Tryz.f19) (c := codeOf Tryz.f19) (specs_ok (P := Tryz.prog) rfl [sp_rrcheck, sp_rscale] [] rfl rfl) mixed Tryz.func19 rfl rfl (g := g_rapply x a b) (by delta g_rapply start0; first | with_reducible exact Eq.refl _ | exact Eq.refl _) (by rw [g_rapply_eq x a b]; exact g_rapply_ok x a b h)
def q_rapply (x a b : Int) : Prop × V := (InI x ∧ InI a ∧ InI b, (.tuple [.int .i64 (applyF x a b).1, .int .i64 (applyF x a b).2]))
noncomputable def sp_rapply : FSpec Tryz.prog where
  f := 19
  run := fun args => match args with
    | [.int .i64 x, .agg [.int .i64 a, .int .i64 b]] => some (q_rapply x a b)
    | _ => none
  ok := fun args pre r h hp => by
    try dsimp only at h
    split at h
    · rename_i x a b
      have h := Option.some.inj h
      unfold q_rapply at h
      cases h
      exact (rapply_pure x a b hp).weak (.cons (Weak.refl _) (.cons (Weak.refl _) .nil))
    · cases h

noncomputable def env_rtold (n e : Int) : Env where
  P := Tryz.prog
  ty := tys0
abbrev ann_rtold : Ann := { slots := numP 0 [.int .i64, .int .i64], boxes := [], inv := fun _ _ => True }
noncomputable def g_rtold (n e : Int) : Prop := vc (env_rtold n e) (codeOf Tryz.f17) (start0 Tryz.f17 [.int .i64 n, .int .i64 e]) (exitG (env_rtold n e).P Tryz.f17.results.toList [some 2] (env_rtold n e).pins ann_rtold ((toldF n e).1, (toldF n e).2, ()))
def g_rtold_vc (n : Int) (e : Int) : Prop :=
  ((!decide (e = (0 : Int))) = true → True ∧ ((0 : Int), e, ()) = ((toldF n e).fst, (toldF n e).snd, ())) ∧
  ((!decide (e = (0 : Int))) = false → True ∧ (n, (0 : Int), ()) = ((toldF n e).fst, (toldF n e).snd, ()))

theorem g_rtold_eq (n e : Int) : g_rtold n e = g_rtold_vc n e := by kernel_rfl
theorem g_rtold_ok (n e : Int) : g_rtold_vc n e := by
  unfold g_rtold_vc toldF
  simp only [decide_eq_true_eq, decide_eq_false_iff_not, Bool.not_eq_true', Bool.not_eq_false']
  exact ⟨fun c => ⟨trivial, by rw [if_neg c]⟩, fun c => ⟨trivial, by rw [if_pos c]⟩⟩
set_option maxRecDepth 20000 in
theorem rtold_pure (n e : Int) : Pure Tryz.prog 17 [.int .i64 n, .int .i64 e] (.agg [.int .i64 (toldF n e).1, .int .i64 (toldF n e).2]) :=
  Pure.of_gG (E := env_rtold n e) (sh := [some 2]) (ann := ann_rtold) (x := ((toldF n e).1, (toldF n e).2, ())) (fn := Tryz.f17) (c := codeOf Tryz.f17) (specs_ok (P := Tryz.prog) rfl [] [] rfl rfl) mixed Tryz.func17 rfl rfl rfl rfl rfl (g := g_rtold n e) (by delta g_rtold start0; first | with_reducible exact Eq.refl _ | exact Eq.refl _) (by rw [g_rtold_eq n e]; exact g_rtold_ok n e)
def q_rtold (n e : Int) : Prop × V := (True, (.agg [.int .i64 (toldF n e).1, .int .i64 (toldF n e).2]))
noncomputable def sp_rtold : FSpec Tryz.prog where
  f := 17
  run := fun args => match args with
    | [.int .i64 n, .int .i64 e] => some (q_rtold n e)
    | _ => none
  ok := fun args pre r h hp => by
    try dsimp only at h
    split at h
    · rename_i n e
      have h := Option.some.inj h
      unfold q_rtold at h
      cases h
      exact (rtold_pure n e).weak (.cons (Weak.refl _) (.cons (Weak.refl _) .nil))
    · cases h

noncomputable def env_rvscale (a e n d : Int) (has : Bool) : Env where
  P := Tryz.prog
  ty := tys0
  specs := specsOf [sp_rapply, sp_rtold]
abbrev ann_rvscale : Ann := { slots := numP 0 [.int .i64, .int .i64], boxes := [], inv := fun _ _ => True }
noncomputable def g_rvscale (a e n d : Int) (has : Bool) : Prop := vc (env_rvscale a e n d has) (codeOf Tryz.f8) (start0 Tryz.f8 [.agg [.int .i64 a, .int .i64 e], .agg [.int .i64 n, .int .i64 d], .bool has]) (exitG (env_rvscale a e n d has).P Tryz.f8.results.toList [some 2] (env_rvscale a e n d has).pins ann_rvscale ((vscaleF a e n d has).1, (vscaleF a e n d has).2, ()))
def g_rvscale_vc (a : Int) (e : Int) (n : Int) (d : Int) (has : Bool) : Prop :=
  ((!decide (e = (0 : Int))) = true → True ∧ ((0 : Int), e, ()) = ((vscaleF a e n d has).fst, (vscaleF a e n d has).snd, ())) ∧
  ((!decide (e = (0 : Int))) = false →
    (decide (a = (0 : Int)) = true → True ∧ ((0 : Int), (0 : Int), ()) = ((vscaleF a e n d has).fst, (vscaleF a e n d has).snd, ())) ∧
      (decide (a = (0 : Int)) = false →
        ((!has) = true → True ∧ ((0 : Int), (40 : Int), ()) = ((vscaleF a e n d has).fst, (vscaleF a e n d has).snd, ())) ∧
          ((!has) = false →
            (InI a ∧ InI n ∧ InI d) ∧
              True ∧ True ∧ ((toldF (applyF a n d).fst (applyF a n d).snd).fst, (toldF (applyF a n d).fst (applyF a n d).snd).snd, ()) = ((vscaleF a e n d has).fst, (vscaleF a e n d has).snd, ()))))

theorem g_rvscale_eq (a e n d : Int) (has : Bool) : g_rvscale a e n d has = g_rvscale_vc a e n d has := by kernel_rfl
theorem g_rvscale_ok (a e n d : Int) (has : Bool) (h : InI a ∧ InI n ∧ InI d) : g_rvscale_vc a e n d has := by
  unfold g_rvscale_vc vscaleF
  simp only [decide_eq_true_eq, decide_eq_false_iff_not, Bool.not_eq_true', Bool.not_eq_false']
  refine ⟨fun c => ⟨trivial, by rw [if_neg c]⟩, fun c => ⟨fun k => ⟨trivial, by rw [if_pos c, if_pos k]⟩, fun k => ⟨fun q => ⟨trivial, ?_⟩, fun q => ⟨h, trivial, trivial, ?_⟩⟩⟩⟩
  · subst q
    rw [if_pos c, if_neg k]
    rfl
  · subst q
    rw [if_pos c, if_neg k]
    rfl
set_option maxRecDepth 20000 in
theorem rvscale_pure (a e n d : Int) (has : Bool) (h : InI a ∧ InI n ∧ InI d) : Pure Tryz.prog 8 [.agg [.int .i64 a, .int .i64 e], .agg [.int .i64 n, .int .i64 d], .bool has] (.agg [.int .i64 (vscaleF a e n d has).1, .int .i64 (vscaleF a e n d has).2]) :=
  Pure.of_gG (E := env_rvscale a e n d has) (sh := [some 2]) (ann := ann_rvscale) (x := ((vscaleF a e n d has).1, (vscaleF a e n d has).2, ())) (fn := Tryz.f8) (c := codeOf Tryz.f8) (specs_ok (P := Tryz.prog) rfl [sp_rapply, sp_rtold] [] rfl rfl) mixed Tryz.func8 rfl rfl rfl rfl rfl (g := g_rvscale a e n d has) (by delta g_rvscale start0; first | with_reducible exact Eq.refl _ | exact Eq.refl _) (by rw [g_rvscale_eq a e n d has]; exact g_rvscale_ok a e n d has h)
def q_rvscale (a e n d : Int) (has : Bool) : Prop × V := (InI a ∧ InI n ∧ InI d, (.agg [.int .i64 (vscaleF a e n d has).1, .int .i64 (vscaleF a e n d has).2]))
noncomputable def sp_rvscale : FSpec Tryz.prog where
  f := 8
  run := fun args => match args with
    | [.agg [.int .i64 a, .int .i64 e], .agg [.int .i64 n, .int .i64 d], v2] => (match boolOf v2 with | some has => some (q_rvscale a e n d has) | none => none)
    | _ => none
  ok := fun args pre r h hp => by
    try dsimp only at h
    split at h
    · rename_i a e n d v2
      cases h2 : boolOf v2 with
      | none => rw [h2] at h; cases h
      | some has =>
      rw [h2] at h
      try dsimp only at h
      have h := Option.some.inj h
      unfold q_rvscale at h
      cases h
      exact (rvscale_pure a e n d has hp).weak (.cons (Weak.refl _) (.cons (Weak.refl _) (.cons (boolOf_weak h2) .nil)))
    · cases h

noncomputable def env_rfault (l : List (Int × Int)) : Env where
  P := Tryz.prog
  ty := tys0
  heads := fun
    | 2 => some { slots := [(3, .int .i64)], boxes := [], inv := fun _ (x : Int × Unit) => 0 ≤ x.1 ∧ x.1 ≤ l.length ∧ firstF 0 (l.take x.1.toNat) = 0, measure := fun _ (x : Int × Unit) => (l.length - x.1).toNat }
    | _ => none
noncomputable def g_rfault (l : List (Int × Int)) : Prop := vc (env_rfault l) (codeOf Tryz.f14) (start0 Tryz.f14 [.list .tmp Vl l]) (exitK (tsOf Tryz.f14) [.int .i64] (firstF 0 l, ()))
def g_rfault_vc (l : List (Int × Int)) : Prop :=
  (True ∧ (0 : Int) ≤ (0 : Int) ∧ (0 : Int) ≤ (↑l.length : Int) ∧ firstF (0 : Int) (List.take (Int.toNat (0 : Int)) l) = (0 : Int)) ∧
  ∀ (x : Int × Unit),
    (0 : Int) ≤ x.fst ∧ x.fst ≤ (↑l.length : Int) ∧ firstF (0 : Int) (List.take x.fst.toNat l) = (0 : Int) →
      (decide (x.fst < (↑l.length : Int)) = true →
          ((0 : Int) ≤ x.fst ∧ x.fst < (↑l.length : Int)) ∧
            ∀ (x_1 : Int × Int),
              l[x.fst.toNat]? = some x_1 →
                ((!decide (x_1.snd = (0 : Int))) = true →
                    ((0 : Int) ≤ x.fst ∧ x.fst < (↑l.length : Int)) ∧ ∀ (x_2 : Int × Int), l[x.fst.toNat]? = some x_2 → (x_2.snd, ()) = (firstF (0 : Int) l, ())) ∧
                  ((!decide (x_1.snd = (0 : Int))) = false →
                    ((-9223372036854775808 : Int) ≤ x.fst + (1 : Int) ∧ x.fst + (1 : Int) ≤ (9223372036854775807 : Int)) ∧
                      True ∧
                        ((0 : Int) ≤ x.fst + (1 : Int) ∧ x.fst + (1 : Int) ≤ (↑l.length : Int) ∧ firstF (0 : Int) (List.take (x.fst + (1 : Int)).toNat l) = (0 : Int)) ∧
                          ((↑l.length : Int) - (x.fst + (1 : Int))).toNat < ((↑l.length : Int) - x.fst).toNat)) ∧
        (decide (x.fst < (↑l.length : Int)) = false → ((0 : Int), ()) = (firstF (0 : Int) l, ()))

theorem g_rfault_eq (l : List (Int × Int)) : g_rfault l = g_rfault_vc l := by kernel_rfl
noncomputable def env_ramounts (l : List (Int × Int)) : Env where
  P := Tryz.prog
  ty := tys0
  heads := fun
    | 3 => some { slots := [(4, .int .i64), (3, .slc 5000 I)], boxes := [], inv := fun _ (x : Int × List Int × Unit) => 0 ≤ x.1 ∧ x.1 ≤ l.length ∧ x.2.1 = amts (l.take x.1.toNat), measure := fun _ (x : Int × List Int × Unit) => (l.length - x.1).toNat }
    | _ => none
abbrev ann_ramounts : Ann := { slots := numP 0 [.list .part I], boxes := [], inv := fun _ _ => True }
noncomputable def g_ramounts (l : List (Int × Int)) : Prop := vc (env_ramounts l) (codeOf Tryz.f16) (start0 Tryz.f16 [.list .tmp Vl l]) (exitG (env_ramounts l).P Tryz.f16.results.toList [none] (env_ramounts l).pins ann_ramounts (amts l, ()))
def g_ramounts_vc (l : List (Int × Int)) : Prop :=
  (True ∧ (0 : Int) ≤ (0 : Int) ∧ (0 : Int) ≤ (↑l.length : Int) ∧ [] = amts (List.take (Int.toNat (0 : Int)) l)) ∧
  ∀ (x : Int × List Int × Unit),
    (0 : Int) ≤ x.fst ∧ x.fst ≤ (↑l.length : Int) ∧ x.snd.fst = amts (List.take x.fst.toNat l) →
      (decide (x.fst < (↑l.length : Int)) = true →
          ((0 : Int) ≤ x.fst ∧ x.fst < (↑l.length : Int)) ∧
            ∀ (x_1 : Int × Int),
              l[x.fst.toNat]? = some x_1 →
                ((x.snd.fst.length + (1 : Nat)) * (8 : Nat) ≤ (140737488355328 : Nat) ∧ x.snd.fst.length + (1 : Nat) ≤ (4611686018427387904 : Nat)) ∧
                  ((-9223372036854775808 : Int) ≤ x.fst + (1 : Int) ∧ x.fst + (1 : Int) ≤ (9223372036854775807 : Int)) ∧
                    True ∧
                      ((0 : Int) ≤ x.fst + (1 : Int) ∧ x.fst + (1 : Int) ≤ (↑l.length : Int) ∧ x.snd.fst ++ [x_1.fst] = amts (List.take (x.fst + (1 : Int)).toNat l)) ∧
                        ((↑l.length : Int) - (x.fst + (1 : Int))).toNat < ((↑l.length : Int) - x.fst).toNat) ∧
        (decide (x.fst < (↑l.length : Int)) = false → True ∧ (x.snd.fst, ()) = (amts l, ()))

theorem g_ramounts_eq (l : List (Int × Int)) : g_ramounts l = g_ramounts_vc l := by kernel_rfl
noncomputable def env_rtotal (l : List Int) : Env where
  P := Tryz.prog
  ty := tys0
  specs := specsOf [sp_of, sp_bplus]
  frz := fun | 16 => true | 17 => true | _ => false
  heads := fun
    | 3 => some { slots := [(4, .int .i64)], boxes := [(3, [.bool, .list .part I])], keep := [2], inv := fun _ (x : Int × Bool × List Int × Unit) => 0 ≤ x.1 ∧ x.1 ≤ l.length ∧ x.2.1 = decide (sumI (l.take x.1.toNat) < 0) ∧ x.2.2.1 = digs (sumI (l.take x.1.toNat)).natAbs, measure := fun _ (x : Int × Bool × List Int × Unit) => (l.length - x.1).toNat }
    | _ => none
abbrev ann_rtotal : Ann := { slots := numP 0 [.bool, .list .part I], boxes := [], inv := fun _ _ => True }
noncomputable def g_rtotal (l : List Int) : Prop := vc (env_rtotal l) (codeOf Tryz.f33) (start0 Tryz.f33 [.list .tmp I l]) (exitG (env_rtotal l).P Tryz.f33.results.toList [some 2] (env_rtotal l).pins ann_rtotal (decide (sumI l < 0), digs (sumI l).natAbs, ()))
def g_rtotal_vc (l : List Int) : Prop :=
  ((some (Obj.box [V.kb false, V.nils]) = some (Obj.box [V.kb false, V.nils]) ∧ True) ∧
    (0 : Int) ≤ (0 : Int) ∧ (0 : Int) ≤ (↑l.length : Int) ∧ false = decide (sumI (List.take (Int.toNat (0 : Int)) l) < (0 : Int)) ∧ [] = digs (sumI (List.take (Int.toNat (0 : Int)) l)).natAbs) ∧
  ∀ (x : Int × Bool × List Int × Unit),
    (0 : Int) ≤ x.fst ∧ x.fst ≤ (↑l.length : Int) ∧ x.snd.fst = decide (sumI (List.take x.fst.toNat l) < (0 : Int)) ∧ x.snd.snd.fst = digs (sumI (List.take x.fst.toNat l)).natAbs →
      (decide (x.fst < (↑l.length : Int)) = true →
          ((0 : Int) ≤ x.fst ∧ x.fst < (↑l.length : Int)) ∧
            ∀ (x_1 : Int),
              l[x.fst.toNat]? = some x_1 →
                InI x_1 ∧
                  (Big x.snd.fst x.snd.snd.fst ∧ Big (decide (x_1 < (0 : Int))) (digs x_1.natAbs) ∧ x.snd.snd.fst.length ≤ (1000000 : Nat) ∧ (digs x_1.natAbs).length ≤ (1000000 : Nat)) ∧
                    ((-9223372036854775808 : Int) ≤ x.fst + (1 : Int) ∧ x.fst + (1 : Int) ≤ (9223372036854775807 : Int)) ∧
                      (some (Obj.box [V.kb false, V.nils]) = some (Obj.box [V.kb false, V.nils]) ∧ True) ∧
                        ((0 : Int) ≤ x.fst + (1 : Int) ∧
                            x.fst + (1 : Int) ≤ (↑l.length : Int) ∧
                              decide (big x.snd.fst x.snd.snd.fst + big (decide (x_1 < (0 : Int))) (digs x_1.natAbs) < (0 : Int)) = decide (sumI (List.take (x.fst + (1 : Int)).toNat l) < (0 : Int)) ∧
                                digs (big x.snd.fst x.snd.snd.fst + big (decide (x_1 < (0 : Int))) (digs x_1.natAbs)).natAbs = digs (sumI (List.take (x.fst + (1 : Int)).toNat l)).natAbs) ∧
                          ((↑l.length : Int) - (x.fst + (1 : Int))).toNat < ((↑l.length : Int) - x.fst).toNat) ∧
        (decide (x.fst < (↑l.length : Int)) = false → True ∧ (x.snd.fst, x.snd.snd.fst, ()) = (decide (sumI l < (0 : Int)), digs (sumI l).natAbs, ()))

theorem g_rtotal_eq (l : List Int) : g_rtotal l = g_rtotal_vc l := by kernel_rfl
theorem g_rfault_ok (l : List (Int × Int)) (h : l.length ≤ 1000000) : g_rfault_vc l := by
  unfold g_rfault_vc
  simp only [decide_eq_true_eq, decide_eq_false_iff_not, Bool.not_eq_true', Bool.not_eq_false']
  refine ⟨⟨trivial, by omega, by omega, rfl⟩, ?_⟩
  rintro ⟨i, ⟨⟩⟩ ⟨h0, h1, hf⟩
  dsimp only at h0 h1 hf ⊢
  refine ⟨fun c => ⟨⟨h0, c⟩, fun y hy => ⟨fun k => ⟨⟨h0, c⟩, fun y' hy' => ?_⟩, fun k => ⟨by omega, trivial, ⟨by omega, by omega, ?_⟩, by omega⟩⟩⟩, fun c => ?_⟩
  · rw [hy] at hy'
    cases hy'
    rw [(first_at hf hy).2 k]
  · rw [toNat_next h0, (first_at hf hy).1, k]
  · rw [List.take_of_length_le (by omega)] at hf
    rw [hf]
set_option maxRecDepth 20000 in
theorem rfault_pure (l : List (Int × Int)) (h : l.length ≤ 1000000) : Pure Tryz.prog 14 [.list .tmp Vl l] (.int .i64 (firstF 0 l)) :=
  Pure.of_g (E := env_rfault l) (ts := tsOf Tryz.f14) (ps := [.int .i64]) (r := (firstF 0 l, ())) (fn := Tryz.f14) (c := codeOf Tryz.f14) (specs_ok (P := Tryz.prog) rfl [] [] rfl rfl) mixed Tryz.func14 rfl rfl (g := g_rfault l) (by delta g_rfault start0; first | with_reducible exact Eq.refl _ | exact Eq.refl _) (by rw [g_rfault_eq l]; exact g_rfault_ok l h)
def q_rfault (l : List (Int × Int)) : Prop × V := (l.length ≤ 1000000, (.int .i64 (firstF 0 l)))
noncomputable def sp_rfault : FSpec Tryz.prog where
  f := 14
  run := fun args => match args with
    | [v0] => (match (asL Vl v0 : Option (List (Int × Int))) with | some l => some (q_rfault l) | none => none)
    | _ => none
  ok := fun args pre r h hp => by
    try dsimp only at h
    split at h
    · rename_i v0
      cases h0 : (asL Vl v0 : Option (List (Int × Int))) with
      | none => rw [h0] at h; cases h
      | some l =>
      rw [h0] at h
      try dsimp only at h
      have h := Option.some.inj h
      unfold q_rfault at h
      cases h
      exact (rfault_pure l hp).weak (.cons (asL_weak h0) .nil)
    · cases h
theorem amts_next {l : List (Int × Int)} {i : Nat} {y : Int × Int} (hy : l[i]? = some y) : amts (l.take (i + 1)) = amts (l.take i) ++ [y.1] := by
  unfold amts
  rw [List.take_add_one, hy, List.map_append]
  rfl
theorem g_ramounts_ok (l : List (Int × Int)) (h : l.length ≤ 1000000) : g_ramounts_vc l := by
  unfold g_ramounts_vc
  simp only [decide_eq_true_eq, decide_eq_false_iff_not]
  refine ⟨⟨trivial, by omega, by omega, rfl⟩, ?_⟩
  rintro ⟨i, o, ⟨⟩⟩ ⟨h0, h1, ho⟩
  dsimp only at h0 h1 ho ⊢
  have ol : o.length ≤ 1000000 := by rw [ho, List.length_map, List.length_take]; omega
  refine ⟨fun c => ⟨⟨h0, c⟩, fun y hy => ⟨⟨by omega, by omega⟩, by omega, trivial, ⟨by omega, by omega, ?_⟩, by omega⟩⟩, fun c => ⟨trivial, ?_⟩⟩
  · rw [toNat_next h0, amts_next hy, ho]
  · rw [ho, List.take_of_length_le (by omega)]
set_option maxRecDepth 20000 in
theorem ramounts_pure (l : List (Int × Int)) (h : l.length ≤ 1000000) : Pure Tryz.prog 16 [.list .tmp Vl l] (.list .part I (amts l)) :=
  Pure.of_gG (E := env_ramounts l) (sh := [none]) (ann := ann_ramounts) (x := (amts l, ())) (fn := Tryz.f16) (c := codeOf Tryz.f16) (specs_ok (P := Tryz.prog) rfl [] [] rfl rfl) mixed Tryz.func16 rfl rfl rfl rfl rfl (g := g_ramounts l) (by delta g_ramounts start0; first | with_reducible exact Eq.refl _ | exact Eq.refl _) (by rw [g_ramounts_eq l]; exact g_ramounts_ok l h)
def q_ramounts (l : List (Int × Int)) : Prop × V := (l.length ≤ 1000000, (.list .part I (amts l)))
noncomputable def sp_ramounts : FSpec Tryz.prog where
  f := 16
  run := fun args => match args with
    | [v0] => (match (asL Vl v0 : Option (List (Int × Int))) with | some l => some (q_ramounts l) | none => none)
    | _ => none
  ok := fun args pre r h hp => by
    try dsimp only at h
    split at h
    · rename_i v0
      cases h0 : (asL Vl v0 : Option (List (Int × Int))) with
      | none => rw [h0] at h; cases h
      | some l =>
      rw [h0] at h
      try dsimp only at h
      have h := Option.some.inj h
      unfold q_ramounts at h
      cases h
      exact (ramounts_pure l hp).weak (.cons (asL_weak h0) .nil)
    · cases h
theorem sum_len {l : List Int} (h : ∀ n ∈ l, InI n) (hl : l.length ≤ 100) (i : Nat) : (digs (sumI (l.take i)).natAbs).length ≤ 30 := by
  obtain ⟨a1, a2⟩ := sum_bound (l.take i) (fun n hn => h n (List.mem_of_mem_take hn))
  have : (l.take i).length ≤ 100 := by rw [List.length_take]; omega
  exact digs_len (by omega)
theorem sum_next {l : List Int} {i : Nat} {y : Int} (hy : l[i]? = some y) : sumI (l.take (i + 1)) = sumI (l.take i) + y := by
  rw [List.take_add_one, hy]
  exact sum_snoc _ _
theorem g_rtotal_ok (l : List Int) (h : l.length ≤ 100 ∧ ∀ n ∈ l, InI n) : g_rtotal_vc l := by
  obtain ⟨hl, hi⟩ := h
  unfold g_rtotal_vc
  simp only [decide_eq_true_eq, decide_eq_false_iff_not]
  refine ⟨⟨⟨trivial, trivial⟩, by omega, by omega, by simp [sumI], by simp [sumI, digs_zero]⟩, ?_⟩
  rintro ⟨i, b, d, ⟨⟩⟩ ⟨h0, h1, hb, hd⟩
  dsimp only at h0 h1 hb hd ⊢
  have hB : Big b d := by rw [hb, hd]; exact Big_digs _
  have hv : big b d = sumI (l.take i.toNat) := by rw [hb, hd]; exact big_digs _
  have dl : d.length ≤ 30 := by rw [hd]; exact sum_len hi hl _
  rw [hv]
  refine ⟨fun c => ⟨⟨h0, c⟩, fun y hy => ?_⟩, fun c => ⟨trivial, ?_⟩⟩
  · have hy' := hi y (List.mem_of_getElem? hy)
    rw [big_digs, toNat_next h0, sum_next hy]
    exact ⟨hy', ⟨hB, Big_digs _, by omega, Nat.le_trans (digI_len hy') (by decide)⟩, by omega, ⟨trivial, trivial⟩, ⟨by omega, by omega, rfl, rfl⟩, by omega⟩
  · rw [hb, hd, List.take_of_length_le (by omega)]
set_option maxRecDepth 20000 in
theorem rtotal_pure (l : List Int) (h : l.length ≤ 100 ∧ ∀ n ∈ l, InI n) : Pure Tryz.prog 33 [.list .tmp I l] (.agg [.bool (decide (sumI l < 0)), .list .part I (digs (sumI l).natAbs)]) :=
  Pure.of_gG (E := env_rtotal l) (sh := [some 2]) (ann := ann_rtotal) (x := (decide (sumI l < 0), digs (sumI l).natAbs, ())) (fn := Tryz.f33) (c := codeOf Tryz.f33) (specs_ok (P := Tryz.prog) rfl [sp_of, sp_bplus] [] rfl rfl) mixed Tryz.func33 rfl rfl rfl rfl rfl (g := g_rtotal l) (by delta g_rtotal start0; first | with_reducible exact Eq.refl _ | exact Eq.refl _) (by rw [g_rtotal_eq l]; exact g_rtotal_ok l h)
def q_rtotal (l : List Int) : Prop × V := (l.length ≤ 100 ∧ ∀ n ∈ l, InI n, (.agg [.bool (decide (sumI l < 0)), .list .part I (digs (sumI l).natAbs)]))
noncomputable def sp_rtotal : FSpec Tryz.prog where
  f := 33
  run := fun args => match args with
    | [v0] => (match (asL I v0 : Option (List Int)) with | some l => some (q_rtotal l) | none => none)
    | _ => none
  ok := fun args pre r h hp => by
    try dsimp only at h
    split at h
    · rename_i v0
      cases h0 : (asL I v0 : Option (List Int)) with
      | none => rw [h0] at h; cases h
      | some l =>
      rw [h0] at h
      try dsimp only at h
      have h := Option.some.inj h
      unfold q_rtotal at h
      cases h
      exact (rtotal_pure l hp).weak (.cons (asL_weak h0) .nil)
    · cases h

noncomputable def env_rnet (l m : List Int) : Env where
  P := Tryz.prog
  ty := tys0
  specs := specsOf [sp_rtotal, sp_bminus, sp_told]
  frz := fun | 7 => true | 9 => true | 10 => true | 11 => true | _ => false
noncomputable def g_rnet (l m : List Int) : Prop := vc (env_rnet l m) (codeOf Tryz.f15) (start0 Tryz.f15 [.list .tmp I l, .list .tmp I m]) (exitK (tsOf Tryz.f15) [.int .i64, .int .i64] ((netF l m).1, (netF l m).2, ()))
def g_rnet_vc (l : List Int) (m : List Int) : Prop :=
  (l.length ≤ (100 : Nat) ∧ ∀ (n : Int), n ∈ l → InI n) ∧
  (m.length ≤ (100 : Nat) ∧ ∀ (n : Int), n ∈ m → InI n) ∧
    (Big (decide (sumI l < (0 : Int))) (digs (sumI l).natAbs) ∧
        Big (decide (sumI m < (0 : Int))) (digs (sumI m).natAbs) ∧ (digs (sumI l).natAbs).length ≤ (1000000 : Nat) ∧ (digs (sumI m).natAbs).length ≤ (1000000 : Nat)) ∧
      (Big (decide (big (decide (sumI l < (0 : Int))) (digs (sumI l).natAbs) - big (decide (sumI m < (0 : Int))) (digs (sumI m).natAbs) < (0 : Int)))
            (digs (big (decide (sumI l < (0 : Int))) (digs (sumI l).natAbs) - big (decide (sumI m < (0 : Int))) (digs (sumI m).natAbs)).natAbs) ∧
          (digs (big (decide (sumI l < (0 : Int))) (digs (sumI l).natAbs) - big (decide (sumI m < (0 : Int))) (digs (sumI m).natAbs)).natAbs).length ≤ (1000000 : Nat)) ∧
        (intB
              (big (decide (big (decide (sumI l < (0 : Int))) (digs (sumI l).natAbs) - big (decide (sumI m < (0 : Int))) (digs (sumI m).natAbs) < (0 : Int)))
                (digs (big (decide (sumI l < (0 : Int))) (digs (sumI l).natAbs) - big (decide (sumI m < (0 : Int))) (digs (sumI m).natAbs)).natAbs)),
            faultB
              (big (decide (big (decide (sumI l < (0 : Int))) (digs (sumI l).natAbs) - big (decide (sumI m < (0 : Int))) (digs (sumI m).natAbs) < (0 : Int)))
                (digs (big (decide (sumI l < (0 : Int))) (digs (sumI l).natAbs) - big (decide (sumI m < (0 : Int))) (digs (sumI m).natAbs)).natAbs)),
            ()) =
          ((netF l m).fst, (netF l m).snd, ())

theorem g_rnet_eq (l m : List Int) : g_rnet l m = g_rnet_vc l m := by kernel_rfl
theorem g_rnet_ok (l m : List Int) (h : l.length ≤ 100 ∧ m.length ≤ 100 ∧ (∀ n ∈ l, InI n) ∧ ∀ n ∈ m, InI n) : g_rnet_vc l m := by
  obtain ⟨h1, h2, hl, hm⟩ := h
  obtain ⟨a1, a2⟩ := sum_bound l hl
  obtain ⟨b1, b2⟩ := sum_bound m hm
  have s1 := sum_len hl h1 l.length
  have s2 := sum_len hm h2 m.length
  rw [List.take_length] at s1 s2
  unfold g_rnet_vc
  rw [netF_law hl hm (sumI l - sumI m) rfl (by omega)]
  simp only [big_digs]
  refine ⟨⟨h1, hl⟩, ⟨h2, hm⟩, ⟨Big_digs _, Big_digs _, by omega, by omega⟩, ⟨Big_digs _, Nat.le_trans (digs_len (k := 40) (by omega)) (by decide)⟩, ?_⟩
  trivial
set_option maxRecDepth 20000 in
theorem rnet_pure (l m : List Int) (h : l.length ≤ 100 ∧ m.length ≤ 100 ∧ (∀ n ∈ l, InI n) ∧ ∀ n ∈ m, InI n) : Pure Tryz.prog 15 [.list .tmp I l, .list .tmp I m] (.tuple [.int .i64 (netF l m).1, .int .i64 (netF l m).2]) :=
  Pure.of_g (E := env_rnet l m) (ts := tsOf Tryz.f15) (ps := [.int .i64, .int .i64]) (r := ((netF l m).1, (netF l m).2, ())) (fn := Tryz.f15) (c := codeOf Tryz.f15) (specs_ok (P := Tryz.prog) rfl [sp_rtotal, sp_bminus, sp_told] [] rfl rfl) mixed Tryz.func15 rfl rfl (g := g_rnet l m) (by delta g_rnet start0; first | with_reducible exact Eq.refl _ | exact Eq.refl _) (by rw [g_rnet_eq l m]; exact g_rnet_ok l m h)
def q_rnet (l m : List Int) : Prop × V := (l.length ≤ 100 ∧ m.length ≤ 100 ∧ (∀ n ∈ l, InI n) ∧ ∀ n ∈ m, InI n, (.tuple [.int .i64 (netF l m).1, .int .i64 (netF l m).2]))
noncomputable def sp_rnet : FSpec Tryz.prog where
  f := 15
  run := fun args => match args with
    | [v0, v1] => (match (asL I v0 : Option (List Int)) with | some l => (match (asL I v1 : Option (List Int)) with | some m => some (q_rnet l m) | none => none) | none => none)
    | _ => none
  ok := fun args pre r h hp => by
    try dsimp only at h
    split at h
    · rename_i v0 v1
      cases h0 : (asL I v0 : Option (List Int)) with
      | none => rw [h0] at h; cases h
      | some l =>
      rw [h0] at h
      try dsimp only at h
      cases h1 : (asL I v1 : Option (List Int)) with
      | none => rw [h1] at h; cases h
      | some m =>
      rw [h1] at h
      try dsimp only at h
      have h := Option.some.inj h
      unfold q_rnet at h
      cases h
      exact (rnet_pure l m hp).weak (.cons (asL_weak h0) (.cons (asL_weak h1) .nil))
    · cases h

noncomputable def env_rvnet (l m : List (Int × Int)) : Env where
  P := Tryz.prog
  ty := tys0
  specs := specsOf [sp_rfault, sp_ramounts, sp_rnet, sp_rtold]
  frz := fun | 20 => true | 22 => true | _ => false
abbrev ann_rvnet : Ann := { slots := numP 0 [.int .i64, .int .i64], boxes := [], inv := fun _ _ => True }
noncomputable def g_rvnet (l m : List (Int × Int)) : Prop := vc (env_rvnet l m) (codeOf Tryz.f6) (start0 Tryz.f6 [.list .tmp Vl l, .list .tmp Vl m]) (exitG (env_rvnet l m).P Tryz.f6.results.toList [some 2] (env_rvnet l m).pins ann_rvnet ((vnetF l m).1, (vnetF l m).2, ()))
def g_rvnet_vc (l : List (Int × Int)) (m : List (Int × Int)) : Prop :=
  (((0 : Nat) + l.length) * (16 : Nat) ≤ (140737488355328 : Nat) ∧ (0 : Nat) + l.length ≤ (4611686018427387904 : Nat) ∧ ((0 : Nat) < l.length ∨ (0 : Nat) = (0 : Nat))) ∧
  ((l.length + m.length) * (16 : Nat) ≤ (140737488355328 : Nat) ∧ l.length + m.length ≤ (4611686018427387904 : Nat)) ∧
    (l ++ m).length ≤ (1000000 : Nat) ∧
      ((!decide (firstF (0 : Int) (l ++ m) = (0 : Int))) = true → True ∧ ((0 : Int), firstF (0 : Int) (l ++ m), ()) = ((vnetF l m).fst, (vnetF l m).snd, ())) ∧
        ((!decide (firstF (0 : Int) (l ++ m) = (0 : Int))) = false →
          l.length ≤ (1000000 : Nat) ∧
            m.length ≤ (1000000 : Nat) ∧
              ((amts l).length ≤ (100 : Nat) ∧ (amts m).length ≤ (100 : Nat) ∧ (∀ (n : Int), n ∈ amts l → InI n) ∧ ∀ (n : Int), n ∈ amts m → InI n) ∧
                True ∧
                  True ∧
                    ((toldF (netF (amts l) (amts m)).fst (netF (amts l) (amts m)).snd).fst, (toldF (netF (amts l) (amts m)).fst (netF (amts l) (amts m)).snd).snd, ()) =
                      ((vnetF l m).fst, (vnetF l m).snd, ()))

theorem g_rvnet_eq (l m : List (Int × Int)) : g_rvnet l m = g_rvnet_vc l m := by kernel_rfl
theorem g_rvnet_ok (l m : List (Int × Int)) (h : l.length ≤ 100 ∧ m.length ≤ 100 ∧ InVs l ∧ InVs m) : g_rvnet_vc l m := by
  obtain ⟨h1, h2, hl, hm⟩ := h
  have al : ∀ n ∈ amts l, InI n := by have := amts_all hl l.length; rw [List.take_length] at this; exact this
  have am : ∀ n ∈ amts m, InI n := by have := amts_all hm m.length; rw [List.take_length] at this; exact this
  unfold g_rvnet_vc vnetF
  simp only [decide_eq_true_eq, decide_eq_false_iff_not, Bool.not_eq_true', Bool.not_eq_false', List.length_map, List.length_append]
  refine ⟨⟨by omega, by omega, by simp⟩, by omega, by omega, fun c => ⟨trivial, by rw [if_neg c]⟩, fun c => ⟨by omega, by omega, ⟨h1, h2, al, am⟩, trivial, trivial, by rw [if_pos c]⟩⟩
set_option maxRecDepth 20000 in
theorem rvnet_pure (l m : List (Int × Int)) (h : l.length ≤ 100 ∧ m.length ≤ 100 ∧ InVs l ∧ InVs m) : Pure Tryz.prog 6 [.list .tmp Vl l, .list .tmp Vl m] (.agg [.int .i64 (vnetF l m).1, .int .i64 (vnetF l m).2]) :=
  Pure.of_gG (E := env_rvnet l m) (sh := [some 2]) (ann := ann_rvnet) (x := ((vnetF l m).1, (vnetF l m).2, ())) (fn := Tryz.f6) (c := codeOf Tryz.f6) (specs_ok (P := Tryz.prog) rfl [sp_rfault, sp_ramounts, sp_rnet, sp_rtold] [] rfl rfl) mixed Tryz.func6 rfl rfl rfl rfl rfl (g := g_rvnet l m) (by delta g_rvnet start0; first | with_reducible exact Eq.refl _ | exact Eq.refl _) (by rw [g_rvnet_eq l m]; exact g_rvnet_ok l m h)
def q_rvnet (l m : List (Int × Int)) : Prop × V := (l.length ≤ 100 ∧ m.length ≤ 100 ∧ InVs l ∧ InVs m, (.agg [.int .i64 (vnetF l m).1, .int .i64 (vnetF l m).2]))
noncomputable def sp_rvnet : FSpec Tryz.prog where
  f := 6
  run := fun args => match args with
    | [v0, v1] => (match (asL Vl v0 : Option (List (Int × Int))) with | some l => (match (asL Vl v1 : Option (List (Int × Int))) with | some m => some (q_rvnet l m) | none => none) | none => none)
    | _ => none
  ok := fun args pre r h hp => by
    try dsimp only at h
    split at h
    · rename_i v0 v1
      cases h0 : (asL Vl v0 : Option (List (Int × Int))) with
      | none => rw [h0] at h; cases h
      | some l =>
      rw [h0] at h
      try dsimp only at h
      cases h1 : (asL Vl v1 : Option (List (Int × Int))) with
      | none => rw [h1] at h; cases h
      | some m =>
      rw [h1] at h
      try dsimp only at h
      have h := Option.some.inj h
      unfold q_rvnet at h
      cases h
      exact (rvnet_pure l m hp).weak (.cons (asL_weak h0) (.cons (asL_weak h1) .nil))
    · cases h

end Go.Proofs.YtkifiopfapnpnaaGreatDoor
