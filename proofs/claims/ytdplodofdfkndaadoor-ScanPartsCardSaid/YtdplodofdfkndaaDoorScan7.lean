/-
  ScanBack, ScanParts: the walks and the plain laws.
-/
import Derived.Test.YtdplodofdfkndaaDoorScan6
namespace Go.Proofs.YtdplodofdfkndaaDoor
open Go.Vm

theorem dec_all (u : Nat) : AllD (Lib.decDigits u) := by
  induction u using Nat.strongRecOn with
  | _ u ih =>
    have hd : ∀ v, v < 10 → isDig (UInt8.ofNat (48 + v)) = true := by
      intro v hv
      rw [isDig_iff, UInt8.toNat_ofNat']
      omega
    by_cases h : u < 10
    · rw [Lib.decDigits, dif_pos h]
      intro c hc
      rw [List.mem_singleton.1 hc]
      exact hd u h
    · rw [Lib.decDigits, dif_neg h]
      intro c hc
      rcases List.mem_append.1 hc with k | k
      · exact ih (u / 10) (by omega) c k
      · rw [List.mem_singleton.1 k]
        exact hd (u % 10) (by omega)
theorem pz_dec (u : Nat) : pz (Lib.decDigits u) = u := by
  induction u using Nat.strongRecOn with
  | _ u ih =>
    have hs : ∀ (n : Int) v, v < 10 → pzStep n (UInt8.ofNat (48 + v)) = n * 10 + v := by
      intro n v hv
      have e : (UInt8.ofNat (48 + v)).toNat = 48 + v := by rw [UInt8.toNat_ofNat']; omega
      unfold pzStep
      rw [if_pos (isDig_iff.2 (by omega)), e]
      omega
    by_cases h : u < 10
    · rw [Lib.decDigits, dif_pos h]
      show pzStep 0 _ = _
      rw [hs 0 u h]
      omega
    · rw [Lib.decDigits, dif_neg h, pz_snoc, ih (u / 10) (by omega), hs _ _ (by omega)]
      omega
theorem while_app {D s : By} (hD : AllD D) (hs : ∀ c, s.head? = some c → isDig c = false) : (D ++ s).takeWhile isDig = D := by
  induction D with
  | nil =>
    cases s with
    | nil => rfl
    | cons c r =>
      have := hs c rfl
      rw [List.nil_append, List.takeWhile_cons, if_neg (by rw [this]; decide)]
  | cons x r ih =>
    rw [List.cons_append, List.takeWhile_cons, if_pos (hD x (by simp)), ih (fun c hc => hD c (by simp [hc]))]
theorem numF_back {n : Int} {s : By} (h : InI n) (hs : ∀ c, s.head? = some c → isDig c = false) : numF (120 :: (Lib.itoa n ++ s)) 1 n n = (n, 1 + ((Lib.itoa n).length : Int), 0) := by
  have hbad : ¬ ((1 : Int) < 0 ∨ (((120 : UInt8) :: (Lib.itoa n ++ s)).length : Int) < 1) := by rw [List.length_cons]; omega
  rw [numF_in hbad]
  have e1 : ((120 : UInt8) :: (Lib.itoa n ++ s)).drop (Int.toNat 1) = Lib.itoa n ++ s := rfl
  rw [e1]
  have hz : ∀ (b : By) (u : Nat), b = Lib.decDigits u ++ s → runF b = (Lib.decDigits u).length := by
    intro b u hb
    unfold runF
    rw [hb, while_app (dec_all u) hs]
  obtain ⟨u, hu⟩ : ∃ u : Nat, u = n.natAbs := ⟨_, rfl⟩
  have hpos : 0 < (Lib.decDigits u).length := List.length_pos_iff.2 (dec_ne u)
  have hone : (Lib.decDigits u).head? = some 48 → u = 0 := by
    intro k
    by_cases z : u = 0
    · exact z
    · exact absurd k (dec_head (by omega))
  have hzero : u = 0 → (Lib.decDigits u).length = 1 := by
    intro z
    rw [z, Lib.decDigits, dif_pos (by decide)]
    rfl
  by_cases hn : n < 0
  · have ei : Lib.itoa n = 45 :: Lib.decDigits u := by unfold Lib.itoa; rw [if_pos hn, hu]
    have et : Lib.trimPrefix (Lib.itoa n ++ s) [45] = Lib.decDigits u ++ s := by
      rw [trim_minus, ei, if_pos (show ((45 : UInt8) :: Lib.decDigits u ++ s).head? = some 45 from rfl)]
      rfl
    have hr := hz _ u et
    have hw : wideF (Lib.itoa n ++ s) = (Lib.itoa n).length := by
      unfold wideF
      rw [hr, et, ei, List.length_append, List.length_append, List.length_cons]
      omega
    have htk : (Lib.itoa n ++ s).take (wideF (Lib.itoa n ++ s)).toNat = Lib.itoa n := by
      rw [hw, Int.toNat_natCast]
      exact List.take_left' rfl
    have hp : pzs (Lib.itoa n) = n := by
      unfold pzs
      rw [ei, if_pos (show ((45 : UInt8) :: Lib.decDigits u).head? = some 45 from rfl), pz_neg, pz_dec]
      omega
    have hh : (Lib.decDigits u ++ s).head? = (Lib.decDigits u).head? := head_app (dec_ne u)
    rw [numR_ok (by rw [et]; intro k; have := congrArg List.length k; rw [List.length_append, List.length_nil] at this; omega) (by
      rw [hr, et, hh]
      rintro (k | ⟨k, _⟩)
      · omega
      · have := hone k
        omega)]
    rw [htk, hp, hw]
    obtain ⟨h1, h2⟩ := h
    rw [if_pos (by unfold inR; rw [decide_eq_true_eq]; omega)]
  · have ei : Lib.itoa n = Lib.decDigits u := by
      unfold Lib.itoa
      rw [if_neg hn, hu, show n.toNat = n.natAbs by omega]
    have hh : (Lib.decDigits u ++ s).head? = (Lib.decDigits u).head? := head_app (dec_ne u)
    have h45 : ¬ (Lib.itoa n ++ s).head? = some 45 := by
      rw [ei, hh]
      exact head_dig (dec_all u)
    have et : Lib.trimPrefix (Lib.itoa n ++ s) [45] = Lib.decDigits u ++ s := by
      rw [trim_minus, if_neg h45, ei]
    have hr := hz _ u et
    have hw : wideF (Lib.itoa n ++ s) = (Lib.itoa n).length := by
      unfold wideF
      rw [hr, et, ei]
      omega
    have htk : (Lib.itoa n ++ s).take (wideF (Lib.itoa n ++ s)).toNat = Lib.itoa n := by
      rw [hw, Int.toNat_natCast]
      exact List.take_left' rfl
    have hp : pzs (Lib.itoa n) = n := by
      unfold pzs
      rw [ei, if_neg (head_dig (dec_all u)), pz_dec]
      omega
    rw [numR_ok (by rw [et]; intro k; have := congrArg List.length k; rw [List.length_append, List.length_nil] at this; omega) (by
      rw [hr, et, hh]
      rintro (k | ⟨k, q | q⟩)
      · omega
      · have := hzero (hone k)
        omega
      · exact h45 ((pre_minus _).1 q))]
    rw [htk, hp, hw]
    obtain ⟨h1, h2⟩ := h
    rw [if_pos (by unfold inR; rw [decide_eq_true_eq]; omega)]
theorem numF_err {s : By} {a lo hi : Int} (h : ¬ (numF s a lo hi).2.2 = 0) : (numF s a lo hi).1 = 0 ∧ (numF s a lo hi).2.1 = 0 := by
  unfold numF at h ⊢
  repeat' split
  all_goals first
    | exact ⟨rfl, rfl⟩
    | (rename_i h1 h2 h3 h4
       rw [if_neg h1, if_neg h2, if_neg h3, if_pos h4] at h
       exact absurd rfl h)
theorem run_stop (b : By) (c : UInt8) (h : b[(runF b).toNat]? = some c) : isDig c = false := by
  induction b with
  | nil => simp at h
  | cons x r ih =>
    unfold runF at h ih
    rw [List.takeWhile_cons] at h
    by_cases k : isDig x = true
    · rw [if_pos k, List.length_cons] at h
      refine ih ?_
      rw [Int.toNat_natCast] at h ⊢
      rw [List.getElem?_cons_succ] at h
      exact h
    · rw [if_neg k] at h
      have : some x = some c := h
      cases this
      simpa using k
theorem numF_zero {s : By} {a lo hi : Int} (h : (numF s a lo hi).2.2 = 0) : (0 ≤ a ∧ a ≤ s.length) ∧ (a ≤ (numF s a lo hi).2.1 ∧ (numF s a lo hi).2.1 ≤ s.length) ∧ (lo ≤ (numF s a lo hi).1 ∧ (numF s a lo hi).1 ≤ hi) ∧ InI (numF s a lo hi).1 ∧
    Lib.itoa (numF s a lo hi).1 = (s.take (numF s a lo hi).2.1.toNat).drop a.toNat ∧ ∀ c, s[(numF s a lo hi).2.1.toNat]? = some c → isDig c = false := by
  by_cases hb : a < 0 ∨ (s.length : Int) < a
  · rw [numF_bad hb] at h
    cases h
  rw [numF_in hb] at h ⊢
  have hrl : (s.drop a.toNat).length = s.length - a.toNat := List.length_drop
  by_cases h1 : Lib.trimPrefix (s.drop a.toNat) [45] = []
  · rw [numR_short h1] at h
    cases h
  by_cases h2 : runF (Lib.trimPrefix (s.drop a.toNat) [45]) = 0 ∨ ((Lib.trimPrefix (s.drop a.toNat) [45]).head? = some 48 ∧ (1 < runF (Lib.trimPrefix (s.drop a.toNat) [45]) ∨ Lib.hasPrefix (s.drop a.toNat) [45] = true))
  · rw [numR_form h1 h2] at h
    cases h
  rw [numR_ok h1 h2] at h ⊢
  by_cases h3 : inR (pzs ((s.drop a.toNat).take (wideF (s.drop a.toNat)).toNat)) lo hi = true
  · rw [if_pos h3]
    dsimp only
    unfold inR at h3
    rw [decide_eq_true_eq] at h3
    have hr : runF (Lib.trimPrefix (s.drop a.toNat) [45]) ≠ 0 := fun k => h2 (.inl k)
    obtain ⟨n1, _, n2, n3⟩ := wide_num hr
    have hc := (wide_canon hr).2 (fun k => h2 (.inr k))
    obtain ⟨p1, p2, p3, p4⟩ := first_parts hb
    refine ⟨by omega, by omega, by omega, ⟨by omega, by omega⟩, ?_, fun c hc => ?_⟩
    · rw [hc, List.take_drop]
      congr 2
      omega
    · refine run_stop (Lib.trimPrefix (s.drop a.toNat) [45]) c ?_
      have hr0 : 0 ≤ runF (Lib.trimPrefix (s.drop a.toNat) [45]) := by unfold runF; omega
      rw [← p1, drop_get, p1, ← hc]
      congr 1
      omega
  · rw [if_neg h3] at h
    cases h
theorem itoa_len {n : Int} (h : InI n) : (Lib.itoa n).length ≤ 40 := by
  have h1 := itoa_text (Big_digs n)
  rw [big_digs] at h1
  have h2 := digI_len h
  rw [h1]
  unfold textL padL
  split <;> split <;> simp <;> omega
noncomputable def env_back (n : Int) (s : By) (a lo hi : Int) : Env where
  P := Tryd.prog
  ty := tys0
  specs := specsOf [sp_awake, sp_num, sp_digitsOf]
  frz := fun | 109 => true | 135 => true | _ => false
  joins := fun
    | 8 => some { slots := [], boxes := [], keep := [5], inv := fun _ (_ : Unit) => True }
    | _ => none
noncomputable def g_back (n : Int) (s : By) (a lo hi : Int) : Prop := vc (env_back n s a lo hi) (codeOf Tryd.f5) (start0 Tryd.f5 [.int .i64 n, .str s, .agg [.int .i64 a, .int .i64 lo, .int .i64 hi]]) (exitK (tsOf Tryd.f5) [.bool] (true, ()))
def g_back_vc (n : Int) (s : By) (a : Int) (lo : Int) (hi : Int) : Prop :=
  (decide ((500 : Int) < (↑(List.length s) : Int)) = true → True ∧ (true, ()) = (true, ())) ∧
  (decide ((500 : Int) < (↑(List.length s) : Int)) = false →
    InI n ∧
      ((decide ((↑(List.length s) : Int) = (0 : Int)) = false →
            ((0 : Int) ≤ (0 : Int) ∧ (0 : Int) < (↑(List.length s) : Int)) ∧
              ∀ (c : UInt8),
                s[Int.toNat (0 : Int)]? = some c →
                  (decide ((↑c.toNat : Int) < (48 : Int)) = false →
                      ((0 : Int) ≤ (0 : Int) ∧ (0 : Int) < (↑(List.length s) : Int)) ∧
                        ∀ (c : UInt8),
                          s[Int.toNat (0 : Int)]? = some c →
                            (decide ((57 : Int) < (↑c.toNat : Int)) = true →
                                (1 : Nat) + (Lib.itoa n).length ≤ (9223372036854775807 : Nat) ∧
                                  ([(120 : UInt8)] ++ Lib.itoa n).length + List.length s ≤ (9223372036854775807 : Nat) ∧
                                    ([(120 : UInt8)] ++ Lib.itoa n ++ s).length ≤ (10000 : Nat) ∧
                                      ((!decide ((numF ([(120 : UInt8)] ++ Lib.itoa n ++ s) (1 : Int) n n).fst = n)) = false →
                                          ((-9223372036854775808 : Int) ≤ (1 : Int) + (↑(Lib.itoa n).length : Int) ∧ (1 : Int) + (↑(Lib.itoa n).length : Int) ≤ (9223372036854775807 : Int)) ∧
                                            ((!decide ((numF ([(120 : UInt8)] ++ Lib.itoa n ++ s) (1 : Int) n n).snd.fst = (1 : Int) + (↑(Lib.itoa n).length : Int))) = false →
                                                ((!decide ((numF ([(120 : UInt8)] ++ Lib.itoa n ++ s) (1 : Int) n n).snd.snd = (0 : Int))) = true → (false, ()) = (true, ())) ∧
                                                  ((!decide ((numF ([(120 : UInt8)] ++ Lib.itoa n ++ s) (1 : Int) n n).snd.snd = (0 : Int))) = false →
                                                    (some (Obj.box [V.int IntKind.i64 a, V.int IntKind.i64 lo, V.int IntKind.i64 hi]) =
                                                          some (Obj.box [V.int IntKind.i64 a, V.int IntKind.i64 lo, V.int IntKind.i64 hi]) ∧
                                                        True) ∧
                                                      True)) ∧
                                              ((!decide ((numF ([(120 : UInt8)] ++ Lib.itoa n ++ s) (1 : Int) n n).snd.fst = (1 : Int) + (↑(Lib.itoa n).length : Int))) = !false →
                                                (false, ()) = (true, ()))) ∧
                                        ((!decide ((numF ([(120 : UInt8)] ++ Lib.itoa n ++ s) (1 : Int) n n).fst = n)) = !false → (false, ()) = (true, ()))) ∧
                              (decide ((57 : Int) < (↑c.toNat : Int)) = false →
                                (some (Obj.box [V.int IntKind.i64 a, V.int IntKind.i64 lo, V.int IntKind.i64 hi]) = some (Obj.box [V.int IntKind.i64 a, V.int IntKind.i64 lo, V.int IntKind.i64 hi]) ∧
                                    True) ∧
                                  True)) ∧
                    (decide ((↑c.toNat : Int) < (48 : Int)) = !false →
                      (1 : Nat) + (Lib.itoa n).length ≤ (9223372036854775807 : Nat) ∧
                        ([(120 : UInt8)] ++ Lib.itoa n).length + List.length s ≤ (9223372036854775807 : Nat) ∧
                          ([(120 : UInt8)] ++ Lib.itoa n ++ s).length ≤ (10000 : Nat) ∧
                            ((!decide ((numF ([(120 : UInt8)] ++ Lib.itoa n ++ s) (1 : Int) n n).fst = n)) = false →
                                ((-9223372036854775808 : Int) ≤ (1 : Int) + (↑(Lib.itoa n).length : Int) ∧ (1 : Int) + (↑(Lib.itoa n).length : Int) ≤ (9223372036854775807 : Int)) ∧
                                  ((!decide ((numF ([(120 : UInt8)] ++ Lib.itoa n ++ s) (1 : Int) n n).snd.fst = (1 : Int) + (↑(Lib.itoa n).length : Int))) = false →
                                      ((!decide ((numF ([(120 : UInt8)] ++ Lib.itoa n ++ s) (1 : Int) n n).snd.snd = (0 : Int))) = true → (false, ()) = (true, ())) ∧
                                        ((!decide ((numF ([(120 : UInt8)] ++ Lib.itoa n ++ s) (1 : Int) n n).snd.snd = (0 : Int))) = false →
                                          (some (Obj.box [V.int IntKind.i64 a, V.int IntKind.i64 lo, V.int IntKind.i64 hi]) =
                                                some (Obj.box [V.int IntKind.i64 a, V.int IntKind.i64 lo, V.int IntKind.i64 hi]) ∧
                                              True) ∧
                                            True)) ∧
                                    ((!decide ((numF ([(120 : UInt8)] ++ Lib.itoa n ++ s) (1 : Int) n n).snd.fst = (1 : Int) + (↑(Lib.itoa n).length : Int))) = !false → (false, ()) = (true, ()))) ∧
                              ((!decide ((numF ([(120 : UInt8)] ++ Lib.itoa n ++ s) (1 : Int) n n).fst = n)) = !false → (false, ()) = (true, ())))) ∧
          (decide ((↑(List.length s) : Int) = (0 : Int)) = !false →
            (1 : Nat) + (Lib.itoa n).length ≤ (9223372036854775807 : Nat) ∧
              ([(120 : UInt8)] ++ Lib.itoa n).length + List.length s ≤ (9223372036854775807 : Nat) ∧
                ([(120 : UInt8)] ++ Lib.itoa n ++ s).length ≤ (10000 : Nat) ∧
                  ((!decide ((numF ([(120 : UInt8)] ++ Lib.itoa n ++ s) (1 : Int) n n).fst = n)) = false →
                      ((-9223372036854775808 : Int) ≤ (1 : Int) + (↑(Lib.itoa n).length : Int) ∧ (1 : Int) + (↑(Lib.itoa n).length : Int) ≤ (9223372036854775807 : Int)) ∧
                        ((!decide ((numF ([(120 : UInt8)] ++ Lib.itoa n ++ s) (1 : Int) n n).snd.fst = (1 : Int) + (↑(Lib.itoa n).length : Int))) = false →
                            ((!decide ((numF ([(120 : UInt8)] ++ Lib.itoa n ++ s) (1 : Int) n n).snd.snd = (0 : Int))) = true → (false, ()) = (true, ())) ∧
                              ((!decide ((numF ([(120 : UInt8)] ++ Lib.itoa n ++ s) (1 : Int) n n).snd.snd = (0 : Int))) = false →
                                (some (Obj.box [V.int IntKind.i64 a, V.int IntKind.i64 lo, V.int IntKind.i64 hi]) = some (Obj.box [V.int IntKind.i64 a, V.int IntKind.i64 lo, V.int IntKind.i64 hi]) ∧
                                    True) ∧
                                  True)) ∧
                          ((!decide ((numF ([(120 : UInt8)] ++ Lib.itoa n ++ s) (1 : Int) n n).snd.fst = (1 : Int) + (↑(Lib.itoa n).length : Int))) = !false → (false, ()) = (true, ()))) ∧
                    ((!decide ((numF ([(120 : UInt8)] ++ Lib.itoa n ++ s) (1 : Int) n n).fst = n)) = !false → (false, ()) = (true, ())))) ∧
        ∀ (x : Unit),
          True →
            List.length s ≤ (10000 : Nat) ∧
              ((!decide ((numF s a lo hi).snd.snd = (0 : Int))) = true →
                  (decide ((numF s a lo hi).fst = (0 : Int)) = true →
                      (decide ((numF s a lo hi).snd.fst = (0 : Int)) = true → True ∧ (true, ()) = (true, ())) ∧ (decide ((numF s a lo hi).snd.fst = (0 : Int)) = !true → (false, ()) = (true, ()))) ∧
                    (decide ((numF s a lo hi).fst = (0 : Int)) = !true → (false, ()) = (true, ()))) ∧
                ((!decide ((numF s a lo hi).snd.snd = (0 : Int))) = false →
                  (decide (a < (0 : Int)) = false →
                      (decide ((numF s a lo hi).snd.fst < a) = false →
                          (decide ((↑(List.length s) : Int) < (numF s a lo hi).snd.fst) = false →
                              (decide ((numF s a lo hi).fst < lo) = false →
                                  (decide (hi < (numF s a lo hi).fst) = true → (false, ()) = (true, ())) ∧
                                    (decide (hi < (numF s a lo hi).fst) = false →
                                      InI (numF s a lo hi).fst ∧
                                        ((0 : Int) ≤ a ∧ a ≤ (numF s a lo hi).snd.fst ∧ (numF s a lo hi).snd.fst ≤ (↑(List.length s) : Int)) ∧
                                          (decide (Lib.itoa (numF s a lo hi).fst = List.drop a.toNat (List.take (numF s a lo hi).snd.fst.toNat s)) = true →
                                              (decide ((numF s a lo hi).snd.fst = (↑(List.length s) : Int)) = false →
                                                  ((0 : Int) ≤ (numF s a lo hi).snd.fst ∧ (numF s a lo hi).snd.fst < (↑(List.length s) : Int)) ∧
                                                    ∀ (c : UInt8),
                                                      s[(numF s a lo hi).snd.fst.toNat]? = some c →
                                                        (decide ((↑c.toNat : Int) < (48 : Int)) = false →
                                                            ((0 : Int) ≤ (numF s a lo hi).snd.fst ∧ (numF s a lo hi).snd.fst < (↑(List.length s) : Int)) ∧
                                                              ∀ (c : UInt8),
                                                                s[(numF s a lo hi).snd.fst.toNat]? = some c →
                                                                  (decide ((57 : Int) < (↑c.toNat : Int)) = true → True ∧ (true, ()) = (true, ())) ∧
                                                                    (decide ((57 : Int) < (↑c.toNat : Int)) = !true → (false, ()) = (true, ()))) ∧
                                                          (decide ((↑c.toNat : Int) < (48 : Int)) = !false → True ∧ (true, ()) = (true, ()))) ∧
                                                (decide ((numF s a lo hi).snd.fst = (↑(List.length s) : Int)) = !false → True ∧ (true, ()) = (true, ()))) ∧
                                            (decide (Lib.itoa (numF s a lo hi).fst = List.drop a.toNat (List.take (numF s a lo hi).snd.fst.toNat s)) = !true → (false, ()) = (true, ())))) ∧
                                (decide ((numF s a lo hi).fst < lo) = !false → (false, ()) = (true, ()))) ∧
                            (decide ((↑(List.length s) : Int) < (numF s a lo hi).snd.fst) = !false → (false, ()) = (true, ()))) ∧
                        (decide ((numF s a lo hi).snd.fst < a) = !false → (false, ()) = (true, ()))) ∧
                    (decide (a < (0 : Int)) = !false → (false, ()) = (true, ()))))

theorem g_back_eq (n : Int) (s : By) (a lo hi : Int) : g_back n s a lo hi = g_back_vc n s a lo hi := by kernel_rfl
theorem g_back_ok (n : Int) (s : By) (a lo hi : Int) (h : InI n) : g_back_vc n s a lo hi := by
  unfold g_back_vc
  simp only [decide_eq_true_eq, decide_eq_false_iff_not, Bool.not_eq_true', Bool.not_eq_false', Bool.not_true, Bool.not_false]
  have hil := itoa_len h
  refine ⟨fun _ => ⟨by trivial, by trivial⟩, fun c0 => ⟨h, ⟨fun c1 => ⟨⟨by omega, by omega⟩, fun q hq => ⟨fun c2 => ⟨⟨by omega, by omega⟩, fun q2 hq2 => ⟨fun c3 => ?_, fun c3 => ⟨⟨by trivial, by trivial⟩, trivial⟩⟩⟩, fun c2 => ?_⟩⟩, fun c1 => ?_⟩, fun _ _ => ⟨by omega, fun c1 => ?_, fun c1 => ?_⟩⟩⟩
  · have hs : ∀ c, s.head? = some c → isDig c = false := by
      intro c hc
      rw [List.head?_eq_getElem?] at hc
      have := hq2.symm.trans hc
      cases this
      exact Bool.eq_false_iff.2 (fun k => by have := isDig_iff.1 k; omega)
    have e : [(120 : UInt8)] ++ Lib.itoa n ++ s = 120 :: (Lib.itoa n ++ s) := by simp
    rw [e, numF_back h hs]
    refine ⟨by omega, by simp; omega, by simp; omega, fun _ => ⟨by omega, fun _ => ⟨fun k => absurd rfl k, fun _ => ⟨⟨by trivial, by trivial⟩, trivial⟩⟩, fun k => absurd rfl k⟩, fun k => absurd rfl k⟩
  · have hs : ∀ c, s.head? = some c → isDig c = false := by
      intro c hc
      rw [List.head?_eq_getElem?] at hc
      have := hq.symm.trans hc
      cases this
      exact Bool.eq_false_iff.2 (fun k => by have := isDig_iff.1 k; omega)
    have e : [(120 : UInt8)] ++ Lib.itoa n ++ s = 120 :: (Lib.itoa n ++ s) := by simp
    rw [e, numF_back h hs]
    refine ⟨by omega, by simp; omega, by simp; omega, fun _ => ⟨by omega, fun _ => ⟨fun k => absurd rfl k, fun _ => ⟨⟨by trivial, by trivial⟩, trivial⟩⟩, fun k => absurd rfl k⟩, fun k => absurd rfl k⟩
  · have hs0 : s = [] := List.eq_nil_of_length_eq_zero (by omega)
    have hs : ∀ c, s.head? = some c → isDig c = false := by
      intro c hc
      rw [hs0] at hc
      cases hc
    have e : [(120 : UInt8)] ++ Lib.itoa n ++ s = 120 :: (Lib.itoa n ++ s) := by simp
    rw [e, numF_back h hs]
    refine ⟨by omega, by simp; omega, by simp; omega, fun _ => ⟨by omega, fun _ => ⟨fun k => absurd rfl k, fun _ => ⟨⟨by trivial, by trivial⟩, trivial⟩⟩, fun k => absurd rfl k⟩, fun k => absurd rfl k⟩
  · obtain ⟨e1, e2⟩ := numF_err c1
    exact ⟨fun _ => ⟨fun _ => ⟨by trivial, by trivial⟩, fun k => absurd e2 k⟩, fun k => absurd e1 k⟩
  · obtain ⟨z1, z2, z3, z4, z5, z6⟩ := numF_zero c1
    refine ⟨fun _ => ⟨fun _ => ⟨fun _ => ⟨fun _ => ⟨fun k => absurd k (by omega), fun _ => ⟨z4, by omega, fun _ => ⟨fun k => ⟨⟨by omega, by omega⟩, fun q hq => ⟨fun d => ⟨⟨by omega, by omega⟩, fun q2 hq2 => ⟨fun _ => ⟨by trivial, by trivial⟩, fun e => ?_⟩⟩, fun d => ⟨by trivial, by trivial⟩⟩⟩, fun k => ⟨by trivial, by trivial⟩⟩, fun k => absurd z5 k⟩⟩, fun k => absurd k (by omega)⟩, fun k => absurd k (by omega)⟩, fun k => absurd k (by omega)⟩, fun k => absurd k (by omega)⟩
    rw [hq] at hq2
    cases hq2
    have := z6 q hq
    rw [Bool.eq_false_iff] at this
    exact absurd (isDig_iff.2 (by omega)) this
set_option maxRecDepth 20000 in
theorem back_pure (n : Int) (s : By) (a lo hi : Int) (h : InI n) : Pure Tryd.prog 5 [.int .i64 n, .str s, .agg [.int .i64 a, .int .i64 lo, .int .i64 hi]] (.bool true) :=
  Pure.of_g (E := env_back n s a lo hi) (ts := tsOf Tryd.f5) (ps := [.bool]) (r := (true, ())) (fn := Tryd.f5) (c := codeOf Tryd.f5) (specs_ok (P := Tryd.prog) rfl [sp_awake, sp_num, sp_digitsOf] [] rfl rfl) mixed Tryd.func5 rfl rfl (g := g_back n s a lo hi) (by delta g_back start0; first | with_reducible exact Eq.refl _ | exact Eq.refl _) (by rw [g_back_eq n s a lo hi]; exact g_back_ok n s a lo hi h)
def q_back (n : Int) (s : By) (a lo hi : Int) : Prop × V := (InI n, (.bool true))
noncomputable def sp_back : FSpec Tryd.prog where
  f := 5
  run := fun args => match args with
    | [.int .i64 n, .str s, .agg [.int .i64 a, .int .i64 lo, .int .i64 hi]] => some (q_back n s a lo hi)
    | _ => none
  ok := fun args pre r h hp => by
    try dsimp only at h
    split at h
    · rename_i n s a lo hi
      have h := Option.some.inj h
      unfold q_back at h
      cases h
      exact (back_pure n s a lo hi hp).weak (.cons (Weak.refl _) (.cons (Weak.refl _) (.cons (Weak.refl _) .nil)))
    · cases h

theorem lineF_parts {s : By} {a : Int} (h : 0 ≤ a ∧ a ≤ s.length) :
    ((lineF s a).2.2 = 0 ∧ (lineF s a).2.1 = a + (lineF s a).1.length + 1 ∧ (lineF s a).2.1 ≤ s.length ∧ s.take (lineF s a).2.1.toNat = s.take a.toNat ++ (lineF s a).1 ++ [10] ∧ ∀ c ∈ (lineF s a).1, c ≠ 10) ∨ (lineF s a).2.2 = 4 := by
  have hb : ¬ (a < 0 ∨ (s.length : Int) < a) := by omega
  by_cases hm : (10 : UInt8) ∈ s.drop a.toNat
  · left
    rw [lineF_ok hb hm]
    dsimp only
    have hsp : ∀ (b : By), (10 : UInt8) ∈ b → b.take ((b.takeWhile (· ≠ 10)).length + 1) = b.takeWhile (· ≠ 10) ++ [10] ∧ (b.takeWhile (· ≠ 10)).length < b.length := by
      intro b
      induction b with
      | nil => intro k; simp at k
      | cons x r ih =>
        intro k
        by_cases hx : x = 10
        · subst hx
          simp
        · have hr : (10 : UInt8) ∈ r := (List.mem_cons.1 k).resolve_left (fun q => hx q.symm)
          obtain ⟨i1, i2⟩ := ih hr
          rw [List.takeWhile_cons, if_pos (by simpa using hx), List.length_cons, List.take_succ_cons, i1]
          exact ⟨rfl, by rw [List.length_cons]; omega⟩
    obtain ⟨k1, k2⟩ := hsp _ hm
    have hdl : (s.drop a.toNat).length = s.length - a.toNat := List.length_drop
    refine ⟨by trivial, by trivial, by omega, ?_, fun c hc => ?_⟩
    · generalize hl : ((s.drop a.toNat).takeWhile (· ≠ 10)).length = m at *
      rw [show (a + (m : Int) + 1).toNat = a.toNat + (m + 1) by omega, List.take_add, k1, List.append_assoc]
    · have := List.all_takeWhile (p := fun x : UInt8 => decide (x ≠ 10)) (l := s.drop a.toNat)
      simpa using List.all_eq_true.1 this c hc
  · right
    rw [lineF_short hb hm]
noncomputable def env_parts (s : By) : Env where
  P := Tryd.prog
  ty := tys0
  specs := specsOf [sp_awake, sp_line]
  heads := fun
    | 6 => some { slots := [(5, .int .i64), (4, .int .i64), (3, .str), (6, .any), (7, .any), (8, .any), (9, .any)], boxes := [], inv := fun _ (x : Int × Int × By × Unit × Unit × Unit × Unit × Unit) => 0 ≤ x.1 ∧ x.1 ≤ x.2.1 ∧ x.2.1 ≤ s.length ∧ x.2.2.1 = s.take x.2.1.toNat, measure := fun _ (x : Int × Int × By × Unit × Unit × Unit × Unit × Unit) => (s.length + 1 - x.1).toNat }
    | 13 => some { slots := [(9, .int .i64)], boxes := [], inv := fun st (x : Int × Unit) => 0 ≤ x.1 ∧ x.1 ≤ (lineF s (st.int 4)).1.length, measure := fun st (x : Int × Unit) => ((lineF s (st.int 4)).1.length - x.1).toNat }
    | _ => none
  joins := fun
    | 19 => some { slots := [(4, .int .i64), (3, .str)], boxes := [], inv := fun _ (x : Int × By × Unit) => 0 ≤ x.1 ∧ x.1 ≤ s.length ∧ x.2.1 = s.take x.1.toNat ∧ (lineF s x.1).2.2 ≠ 0 }
    | _ => none
noncomputable def g_parts (s : By) : Prop := vc (env_parts s) (codeOf Tryd.f6) (start0 Tryd.f6 [.str s]) (exitK (tsOf Tryd.f6) [.bool] (true, ()))
def g_parts_vc (s : By) : Prop :=
  (decide ((500 : Int) < (↑(List.length s) : Int)) = true → True ∧ (true, ()) = (true, ())) ∧
  (decide ((500 : Int) < (↑(List.length s) : Int)) = false →
    ((True ∧ (0 : Int) ≤ (0 : Int) ∧ (0 : Int) ≤ (0 : Int) ∧ (0 : Int) ≤ (↑(List.length s) : Int) ∧ [] = List.take (Int.toNat (0 : Int)) s) ∧
        ∀ (x : Int × Int × List UInt8 × Unit × Unit × Unit × Unit × Unit),
          (0 : Int) ≤ x.fst ∧ x.fst ≤ x.snd.fst ∧ x.snd.fst ≤ (↑(List.length s) : Int) ∧ x.snd.snd.fst = List.take x.snd.fst.toNat s →
            (decide (x.fst ≤ (↑(List.length s) : Int)) = true →
                List.length s ≤ (1000000 : Nat) ∧
                  ((!decide ((lineF s x.snd.fst).snd.snd = (0 : Int))) = true →
                      True ∧ (0 : Int) ≤ x.snd.fst ∧ x.snd.fst ≤ (↑(List.length s) : Int) ∧ x.snd.snd.fst = List.take x.snd.fst.toNat s ∧ (lineF s x.snd.fst).snd.snd ≠ (0 : Int)) ∧
                    ((!decide ((lineF s x.snd.fst).snd.snd = (0 : Int))) = false →
                      (decide ((lineF s x.snd.fst).snd.fst ≤ x.snd.fst) = false →
                          (decide ((↑(List.length s) : Int) < (lineF s x.snd.fst).snd.fst) = true → (false, ()) = (true, ())) ∧
                            (decide ((↑(List.length s) : Int) < (lineF s x.snd.fst).snd.fst) = false →
                              (True ∧ (0 : Int) ≤ (0 : Int) ∧ (0 : Int) ≤ (↑(List.length (lineF s x.snd.fst).fst) : Int)) ∧
                                ∀ (x_1 : Int × Unit),
                                  (0 : Int) ≤ x_1.fst ∧ x_1.fst ≤ (↑(List.length (lineF s x.snd.fst).fst) : Int) →
                                    (decide (x_1.fst < (↑(List.length (lineF s x.snd.fst).fst) : Int)) = true →
                                        ((0 : Int) ≤ x_1.fst ∧ x_1.fst < (↑(List.length (lineF s x.snd.fst).fst) : Int)) ∧
                                          ∀ (c : UInt8),
                                            (lineF s x.snd.fst).fst[x_1.fst.toNat]? = some c →
                                              (decide ((↑c.toNat : Int) = (10 : Int)) = true → (false, ()) = (true, ())) ∧
                                                (decide ((↑c.toNat : Int) = (10 : Int)) = false →
                                                  ((-9223372036854775808 : Int) ≤ x_1.fst + (1 : Int) ∧ x_1.fst + (1 : Int) ≤ (9223372036854775807 : Int)) ∧
                                                    True ∧
                                                      ((0 : Int) ≤ x_1.fst + (1 : Int) ∧ x_1.fst + (1 : Int) ≤ (↑(List.length (lineF s x.snd.fst).fst) : Int)) ∧
                                                        ((↑(List.length (lineF s x.snd.fst).fst) : Int) - (x_1.fst + (1 : Int))).toNat <
                                                          ((↑(List.length (lineF s x.snd.fst).fst) : Int) - x_1.fst).toNat)) ∧
                                      (decide (x_1.fst < (↑(List.length (lineF s x.snd.fst).fst) : Int)) = false →
                                        x.snd.snd.fst.length + List.length (lineF s x.snd.fst).fst ≤ (9223372036854775807 : Nat) ∧
                                          (x.snd.snd.fst ++ (lineF s x.snd.fst).fst).length + (1 : Nat) ≤ (9223372036854775807 : Nat) ∧
                                            ((-9223372036854775808 : Int) ≤ x.fst + (1 : Int) ∧ x.fst + (1 : Int) ≤ (9223372036854775807 : Int)) ∧
                                              True ∧
                                                ((0 : Int) ≤ x.fst + (1 : Int) ∧
                                                    x.fst + (1 : Int) ≤ (lineF s x.snd.fst).snd.fst ∧
                                                      (lineF s x.snd.fst).snd.fst ≤ (↑(List.length s) : Int) ∧
                                                        x.snd.snd.fst ++ (lineF s x.snd.fst).fst ++ [(10 : UInt8)] = List.take (lineF s x.snd.fst).snd.fst.toNat s) ∧
                                                  ((↑(List.length s) : Int) + (1 : Int) - (x.fst + (1 : Int))).toNat < ((↑(List.length s) : Int) + (1 : Int) - x.fst).toNat))) ∧
                        (decide ((lineF s x.snd.fst).snd.fst ≤ x.snd.fst) = !false → (false, ()) = (true, ())))) ∧
              (decide (x.fst ≤ (↑(List.length s) : Int)) = false →
                True ∧ (0 : Int) ≤ x.snd.fst ∧ x.snd.fst ≤ (↑(List.length s) : Int) ∧ x.snd.snd.fst = List.take x.snd.fst.toNat s ∧ (lineF s x.snd.fst).snd.snd ≠ (0 : Int))) ∧
      ∀ (x : Int × List UInt8 × Unit),
        (0 : Int) ≤ x.fst ∧ x.fst ≤ (↑(List.length s) : Int) ∧ x.snd.fst = List.take x.fst.toNat s ∧ (lineF s x.fst).snd.snd ≠ (0 : Int) →
          List.length s ≤ (1000000 : Nat) ∧
            ((0 : Int) ≤ x.fst ∧ x.fst ≤ (↑(List.length s) : Int)) ∧
              (decide (x.snd.fst = List.take x.fst.toNat s) = true →
                  (decide ((lineF s x.fst).snd.snd = (4 : Int)) = true → True ∧ (true, ()) = (true, ())) ∧ (decide ((lineF s x.fst).snd.snd = (4 : Int)) = !true → (false, ()) = (true, ()))) ∧
                (decide (x.snd.fst = List.take x.fst.toNat s) = !true → (false, ()) = (true, ())))

theorem g_parts_eq (s : By) : g_parts s = g_parts_vc s := by kernel_rfl
theorem g_parts_ok (s : By) : g_parts_vc s := by
  unfold g_parts_vc
  simp only [decide_eq_true_eq, decide_eq_false_iff_not, Bool.not_eq_true', Bool.not_eq_false', Bool.not_true, Bool.not_false]
  refine ⟨fun _ => ⟨by trivial, by trivial⟩, fun c0 => ⟨⟨⟨trivial, by omega, by omega, by omega, by simp⟩, fun x hx => ⟨fun c1 => ⟨by omega, fun c2 => ⟨trivial, by omega, by omega, hx.2.2.2, c2⟩, fun c2 => ?_⟩, fun c1 => by omega⟩⟩, fun x hx => ?_⟩⟩
  · obtain ⟨x1, x2, x3, x4⟩ := hx
    rcases lineF_parts (s := s) (a := x.2.1) ⟨by omega, x3⟩ with ⟨l1, l2, l3, l4, l5⟩ | l1
    · refine ⟨fun c3 => ⟨fun c4 => by omega, fun c4 => ⟨⟨trivial, by omega, by omega⟩, fun y hy => ⟨fun c5 => ⟨⟨hy.1, c5⟩, fun q hq => ⟨fun c6 => ?_, fun c6 => ⟨by omega, trivial, ⟨by omega, by omega⟩, by omega⟩⟩⟩, fun c5 => ⟨?_, ?_, by omega, trivial, ⟨by omega, by omega, l3, ?_⟩, by omega⟩⟩⟩⟩, fun c3 => by omega⟩
      · exact absurd (u8_ext (a := q) (b := 10) (by rw [c6]; rfl)) (l5 q (List.mem_of_getElem? hq))
      · rw [x4, List.length_take]
        omega
      · rw [x4, List.length_append, List.length_take]
        omega
      · rw [x4]
        exact l4.symm
    · rw [l1] at c2
      cases c2
  · obtain ⟨x1, x2, x3, x4⟩ := hx
    rcases lineF_parts (s := s) (a := x.1) ⟨x1, x2⟩ with ⟨l1, _⟩ | l1
    · exact absurd l1 x4
    · exact ⟨by omega, ⟨x1, x2⟩, fun _ => ⟨fun _ => ⟨by trivial, by trivial⟩, fun k => absurd l1 k⟩, fun k => absurd x3 k⟩
set_option maxRecDepth 20000 in
theorem parts_pure (s : By) : Pure Tryd.prog 6 [.str s] (.bool true) :=
  Pure.of_g (E := env_parts s) (ts := tsOf Tryd.f6) (ps := [.bool]) (r := (true, ())) (fn := Tryd.f6) (c := codeOf Tryd.f6) (specs_ok (P := Tryd.prog) rfl [sp_awake, sp_line] [] rfl rfl) mixed Tryd.func6 rfl rfl (g := g_parts s) (by delta g_parts start0; first | with_reducible exact Eq.refl _ | exact Eq.refl _) (by rw [g_parts_eq s]; exact g_parts_ok s)
def q_parts (s : By) : Prop × V := (True, (.bool true))
noncomputable def sp_parts : FSpec Tryd.prog where
  f := 6
  run := fun args => match args with
    | [.str s] => some (q_parts s)
    | _ => none
  ok := fun args pre r h hp => by
    try dsimp only at h
    split at h
    · rename_i s
      have h := Option.some.inj h
      unfold q_parts at h
      cases h
      exact (parts_pure s).weak (.cons (Weak.refl _) .nil)
    · cases h

end Go.Proofs.YtdplodofdfkndaaDoor
