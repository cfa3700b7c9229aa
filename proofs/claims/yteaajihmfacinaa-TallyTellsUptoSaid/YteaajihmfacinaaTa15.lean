/-
  A tally of entries, of which the last ones are put in one by one.
-/
import Derived.Test.YteaajihmfacinaaTa14
namespace Go.Proofs.Yteaajihmfacinaa.Ta
open Go.Vm
noncomputable def so_new : OSpec Try.prog where
  f := 29
  run := newRun
  ok := fun args σ pre r σ' h hp => by
    unfold newRun at h
    split at h
    · obtain ⟨N, h0, h⟩ := Option.bind_eq_some_iff.1 h
      cases h
      exact (new_upd N hp).weak (.cons (asL_weak h0) .nil)
    · cases h
noncomputable def addRun : List V → Store → Option (Prop × V × Store)
  | [.ptr 9000 0, .agg [.int .i64 p, .int .i64 r, v]], [(9000, .box [.oref 9001, .oref 9002, .int .i64 e, .int .i64 n]), (9001, .opq .grw g), (9002, .opq .gpe h)] =>
    (asL LnT v : Option (List Ln)).bind fun ls => some ((g.2 = nS ∧ h.2 = nS) ∧ LOk ⟨g.1, h.1, e, n⟩ p ls ∧ -1 ≤ e, .int .i64 (addR ⟨g.1, h.1, e, n⟩ (p, r, ls)).2, [(9001, .opq .grw ((addR ⟨g.1, h.1, e, n⟩ (p, r, ls)).1.G, none)), (9002, .opq .gpe ((addR ⟨g.1, h.1, e, n⟩ (p, r, ls)).1.H, none)), (9000, .box [.oref 9001, .oref 9002, .int .i64 (addR ⟨g.1, h.1, e, n⟩ (p, r, ls)).1.e, .int .i64 (addR ⟨g.1, h.1, e, n⟩ (p, r, ls)).1.n])])
  | _, _ => none
noncomputable def so_add' : OSpec Try.prog where
  f := 13
  run := addRun
  ok := fun args σ pre r σ' h hp => by
    unfold addRun at h
    split at h
    · rename_i p r v e n g k
      obtain ⟨ls, h0, h⟩ := Option.bind_eq_some_iff.1 h
      cases h
      obtain ⟨⟨h1, h2⟩, h3⟩ := hp
      obtain ⟨g1, g2⟩ := g
      obtain ⟨k1, k2⟩ := k
      cases h1
      cases h2
      exact (add_upd _ _ _ _ _ _ _ h3).weak (.cons (.refl _) (.cons (.agg (.cons (.refl _) (.cons (.refl _) (.cons (asL_weak h0) .nil)))) .nil))
    · cases h
theorem addsD_snoc (d : TD) (M : List En) (x : En) : addsD d (M ++ [x]) = (addR (addsD d M) x).1 := by
  induction M generalizing d with
  | nil =>
    show addsD (if d.e ≥ 2000 then d else addD d x) [] = (addR d x).1
    unfold addR
    by_cases h : d.e ≥ 2000
    · rw [if_pos h, if_pos h]; rfl
    · rw [if_neg h, if_neg h]; rfl
  | cons y r ih => exact ih _
theorem addsD_keep (M : List En) : ∀ d : TD, (∃ L, Tells d L) → (∃ L, Tells (addsD d M) L) ∧ (addsD d M).n ≤ d.n + (putsL M).length ∧ d.e ≤ (addsD d M).e := by
  induction M with
  | nil => intro d h; exact ⟨h, by simp [addsD, putsL], Int.le_refl _⟩
  | cons y r ih =>
    intro d ⟨L, h⟩
    have e : (putsL (y :: r)).length = y.2.2.length + (putsL r).length := by
      rw [show putsL (y :: r) = lnP y.1 y.2.2 ++ putsL r from rfl, List.length_append, lnP, List.length_map]
    show (∃ L, Tells (addsD (if d.e ≥ 2000 then d else addD d y) r) L) ∧ _
    have hs : addsD d (y :: r) = addsD (if d.e ≥ 2000 then d else addD d y) r := rfl
    rw [hs]
    by_cases hd : d.e ≥ 2000
    · rw [if_pos hd]
      obtain ⟨h1, h2, h3⟩ := ih d ⟨L, h⟩
      exact ⟨h1, by rw [e]; omega, h3⟩
    · rw [if_neg hd]
      obtain ⟨h1, h2, h3⟩ := ih (addD d y) ⟨_, h.add y⟩
      have en : (addD d y).n = d.n + y.2.2.length := by
        have := putsD_n d (lnP y.1 y.2.2)
        rw [lnP, List.length_map] at this
        exact this
      have ee : (addD d y).e = d.e + 1 := rfl
      exact ⟨h1, by rw [e]; omega, by omega⟩
def cutF (N : List En) (n : Int) : Int := if n < 0 ∨ N.length < n then N.length else n
def madeF (N : List En) (n : Int) : TD := addsD (newD (N.take (cutF N n).toNat)) (N.drop (cutF N n).toNat)
def madeK (N : List En) (k i : Nat) : TD := addsD (newD (N.take k)) ((N.take i).drop k)
theorem cutF_in (N : List En) (n : Int) : 0 ≤ cutF N n ∧ cutF N n ≤ N.length := by
  unfold cutF
  split <;> omega
theorem putsL_len_take (N : List En) (k : Nat) : (putsL (N.take k)).length + (putsL (N.drop k)).length = (putsL N).length := by
  rw [← List.length_append, ← puts_app, List.take_append_drop]
theorem newD_n (N : List En) : (newD N).n = (putsL N).length := (Tells.new N).n
theorem NOk.take {N : List En} (h : NOk N) (k : Nat) : NOk (N.take k) := by
  obtain ⟨h1, h2, h3⟩ := h
  refine ⟨Nat.le_trans (List.length_take_le' ..) h1, ?_, fun x hx => h3 x (List.mem_of_mem_take hx)⟩
  rw [lines_len] at h2 ⊢
  have := putsL_len_take N k
  omega
def MInv (N : List En) (k i : Int) (x : (List (Sp × List Rw) × Option Sp) × (List (Sp × List Int) × Option Sp) × Int × Int × Unit) : Prop := k ≤ i ∧ i ≤ N.length ∧ x.1.2 = nS ∧ x.2.1.2 = nS ∧ tdF x = madeK N k.toNat i.toNat
theorem made_next {N : List En} (h : NOk N) {k i : Int} (h0 : 0 ≤ k) (h1 : k ≤ i) {x : En} (hx : N[i.toNat]? = some x) : LOk (madeK N k.toNat i.toNat) x.1 x.2.2 ∧ -1 ≤ (madeK N k.toNat i.toNat).e ∧ (addR (madeK N k.toNat i.toNat) x).1 = madeK N k.toNat (i + 1).toNat := by
  obtain ⟨_, h2, h3⟩ := h
  obtain ⟨a1, a2, a3⟩ := addsD_keep ((N.take i.toNat).drop k.toNat) (newD (N.take k.toNat)) ⟨_, Tells.new _⟩
  have hin := h3 x (List.mem_of_getElem? hx)
  have hlen := (List.getElem?_eq_some_iff.1 hx).1
  refine ⟨⟨a1, ?_, hin.1, hin.2⟩, ?_, ?_⟩
  · rw [newD_n] at a2
    rw [lines_len] at h2
    have b1 := putsL_len_take (N.take i.toNat) k.toNat
    rw [List.take_take, show min k.toNat i.toNat = k.toNat by omega] at b1
    have b2 := putsL_len_take N i.toNat
    have b3 : N.drop i.toNat = x :: N.drop (i.toNat + 1) := by
      rw [List.drop_eq_getElem_cons hlen]
      congr 1
      exact (List.getElem?_eq_some_iff.1 hx).2
    have b4 : (putsL (N.drop i.toNat)).length = x.2.2.length + (putsL (N.drop (i.toNat + 1))).length := by
      rw [b3, show putsL (x :: N.drop (i.toNat + 1)) = lnP x.1 x.2.2 ++ putsL (N.drop (i.toNat + 1)) from rfl, List.length_append, lnP, List.length_map]
    show (addsD (newD (N.take k.toNat)) ((N.take i.toNat).drop k.toNat)).n + _ < big
    unfold big
    omega
  · have : (0 : Int) ≤ (newD (N.take k.toNat)).e := Int.natCast_nonneg _
    exact Int.le_trans (by omega) a3
  · unfold madeK
    rw [← addsD_snoc, take_next (by omega) hx, List.drop_append_of_le_length (by rw [List.length_take]; omega)]
noncomputable def env_made (N : List En) (n : Int) : Env where
  P := Try.prog
  ty := tys0
  upd := updsOf [so_new.upd, so_add'.upd]
  heads := fun | 7 => some { slots := [(6, .int .i64)], boxes := [(100002, [.opq 100000 .grw, .opq 100001 .gpe, .int .i64, .int .i64])], inv := fun _ (x : Int × (List (Sp × List Rw) × Option Sp) × (List (Sp × List Int) × Option Sp) × Int × Int × Unit) => MInv N (cutF N n) x.1 x.2, measure := fun _ (x : Int × (List (Sp × List Rw) × Option Sp) × (List (Sp × List Int) × Option Sp) × Int × Int × Unit) => (N.length - x.1).toNat } | _ => none
abbrev ann_made : Ann := { slots := numP 0 [.bp 100002], boxes := [(100002, [.opq 100000 .grw, .opq 100001 .gpe, .int .i64, .int .i64])], inv := fun _ _ => True }
def g_made_vc (N : List En) (n : Int) : Prop :=
  (decide (n < (0 : Int)) = false → (decide ((↑N.length : Int) < n) = true → ((0 : Int) ≤ (↑N.length : Int) ∧ (↑N.length : Int) ≤ (↑N.length : Int)) ∧ NOk (List.take (↑N.length : Int).toNat N) ∧ (True ∧ MInv N (cutF N n) (↑N.length : Int) (((newD (List.take (↑N.length : Int).toNat N)).G, none), ((newD (List.take (↑N.length : Int).toNat N)).H, none), (newD (List.take (↑N.length : Int).toNat N)).e, (newD (List.take (↑N.length : Int).toNat N)).n, PUnit.unit)) ∧ ∀ (x : Int × (List ((Int × Int × Int) × List (Int × Int × Int)) × Option (Int × Int × Int)) × (List ((Int × Int × Int) × List Int) × Option (Int × Int × Int)) × Int × Int × Unit), MInv N (cutF N n) x.1 x.2 → (decide (x.1 < (↑N.length : Int)) = true → ((0 : Int) ≤ x.1 ∧ x.1 < (↑N.length : Int)) ∧ ∀ (x_1 : Int × Int × List (Int × Int × Int × Int)), N[x.1.toNat]? = some x_1 → ((x.2.1.2 = nS ∧ x.2.2.1.2 = nS) ∧ LOk { G := x.2.1.1, H := x.2.2.1.1, e := x.2.2.2.1, n := x.2.2.2.2.1 } x_1.1 x_1.2.2 ∧ (-1 : Int) ≤ x.2.2.2.1) ∧ ((-9223372036854775808 : Int) ≤ x.1 + (1 : Int) ∧ x.1 + (1 : Int) ≤ (9223372036854775807 : Int)) ∧ True ∧ MInv N (cutF N n) (x.1 + (1 : Int)) (((addR { G := x.2.1.1, H := x.2.2.1.1, e := x.2.2.2.1, n := x.2.2.2.2.1 } (x_1.1, x_1.2.1, x_1.2.2)).1.G, none), ((addR { G := x.2.1.1, H := x.2.2.1.1, e := x.2.2.2.1, n := x.2.2.2.2.1 } (x_1.1, x_1.2.1, x_1.2.2)).1.H, none), (addR { G := x.2.1.1, H := x.2.2.1.1, e := x.2.2.2.1, n := x.2.2.2.2.1 } (x_1.1, x_1.2.1, x_1.2.2)).1.e, (addR { G := x.2.1.1, H := x.2.2.1.1, e := x.2.2.2.1, n := x.2.2.2.2.1 } (x_1.1, x_1.2.1, x_1.2.2)).1.n, PUnit.unit) ∧ ((↑N.length : Int) - (x.1 + (1 : Int))).toNat < ((↑N.length : Int) - x.1).toNat) ∧ (decide (x.1 < (↑N.length : Int)) = false → True ∧ ((), x.2.1, x.2.2.1, x.2.2.2.1, x.2.2.2.2.1, ()) = ((), ((madeF N n).G, nS), ((madeF N n).H, nS), (madeF N n).e, (madeF N n).n, ()))) ∧ (decide ((↑N.length : Int) < n) = false → ((0 : Int) ≤ n ∧ n ≤ (↑N.length : Int)) ∧ NOk (List.take n.toNat N) ∧ (True ∧ MInv N (cutF N n) n (((newD (List.take n.toNat N)).G, none), ((newD (List.take n.toNat N)).H, none), (newD (List.take n.toNat N)).e, (newD (List.take n.toNat N)).n, PUnit.unit)) ∧ ∀ (x : Int × (List ((Int × Int × Int) × List (Int × Int × Int)) × Option (Int × Int × Int)) × (List ((Int × Int × Int) × List Int) × Option (Int × Int × Int)) × Int × Int × Unit), MInv N (cutF N n) x.1 x.2 → (decide (x.1 < (↑N.length : Int)) = true → ((0 : Int) ≤ x.1 ∧ x.1 < (↑N.length : Int)) ∧ ∀ (x_1 : Int × Int × List (Int × Int × Int × Int)), N[x.1.toNat]? = some x_1 → ((x.2.1.2 = nS ∧ x.2.2.1.2 = nS) ∧ LOk { G := x.2.1.1, H := x.2.2.1.1, e := x.2.2.2.1, n := x.2.2.2.2.1 } x_1.1 x_1.2.2 ∧ (-1 : Int) ≤ x.2.2.2.1) ∧ ((-9223372036854775808 : Int) ≤ x.1 + (1 : Int) ∧ x.1 + (1 : Int) ≤ (9223372036854775807 : Int)) ∧ True ∧ MInv N (cutF N n) (x.1 + (1 : Int)) (((addR { G := x.2.1.1, H := x.2.2.1.1, e := x.2.2.2.1, n := x.2.2.2.2.1 } (x_1.1, x_1.2.1, x_1.2.2)).1.G, none), ((addR { G := x.2.1.1, H := x.2.2.1.1, e := x.2.2.2.1, n := x.2.2.2.2.1 } (x_1.1, x_1.2.1, x_1.2.2)).1.H, none), (addR { G := x.2.1.1, H := x.2.2.1.1, e := x.2.2.2.1, n := x.2.2.2.2.1 } (x_1.1, x_1.2.1, x_1.2.2)).1.e, (addR { G := x.2.1.1, H := x.2.2.1.1, e := x.2.2.2.1, n := x.2.2.2.2.1 } (x_1.1, x_1.2.1, x_1.2.2)).1.n, PUnit.unit) ∧ ((↑N.length : Int) - (x.1 + (1 : Int))).toNat < ((↑N.length : Int) - x.1).toNat) ∧ (decide (x.1 < (↑N.length : Int)) = false → True ∧ ((), x.2.1, x.2.2.1, x.2.2.2.1, x.2.2.2.2.1, ()) = ((), ((madeF N n).G, nS), ((madeF N n).H, nS), (madeF N n).e, (madeF N n).n, ())))) ∧ (decide (n < (0 : Int)) = !false → ((0 : Int) ≤ (↑N.length : Int) ∧ (↑N.length : Int) ≤ (↑N.length : Int)) ∧ NOk (List.take (↑N.length : Int).toNat N) ∧ (True ∧ MInv N (cutF N n) (↑N.length : Int) (((newD (List.take (↑N.length : Int).toNat N)).G, none), ((newD (List.take (↑N.length : Int).toNat N)).H, none), (newD (List.take (↑N.length : Int).toNat N)).e, (newD (List.take (↑N.length : Int).toNat N)).n, PUnit.unit)) ∧ ∀ (x : Int × (List ((Int × Int × Int) × List (Int × Int × Int)) × Option (Int × Int × Int)) × (List ((Int × Int × Int) × List Int) × Option (Int × Int × Int)) × Int × Int × Unit), MInv N (cutF N n) x.1 x.2 → (decide (x.1 < (↑N.length : Int)) = true → ((0 : Int) ≤ x.1 ∧ x.1 < (↑N.length : Int)) ∧ ∀ (x_1 : Int × Int × List (Int × Int × Int × Int)), N[x.1.toNat]? = some x_1 → ((x.2.1.2 = nS ∧ x.2.2.1.2 = nS) ∧ LOk { G := x.2.1.1, H := x.2.2.1.1, e := x.2.2.2.1, n := x.2.2.2.2.1 } x_1.1 x_1.2.2 ∧ (-1 : Int) ≤ x.2.2.2.1) ∧ ((-9223372036854775808 : Int) ≤ x.1 + (1 : Int) ∧ x.1 + (1 : Int) ≤ (9223372036854775807 : Int)) ∧ True ∧ MInv N (cutF N n) (x.1 + (1 : Int)) (((addR { G := x.2.1.1, H := x.2.2.1.1, e := x.2.2.2.1, n := x.2.2.2.2.1 } (x_1.1, x_1.2.1, x_1.2.2)).1.G, none), ((addR { G := x.2.1.1, H := x.2.2.1.1, e := x.2.2.2.1, n := x.2.2.2.2.1 } (x_1.1, x_1.2.1, x_1.2.2)).1.H, none), (addR { G := x.2.1.1, H := x.2.2.1.1, e := x.2.2.2.1, n := x.2.2.2.2.1 } (x_1.1, x_1.2.1, x_1.2.2)).1.e, (addR { G := x.2.1.1, H := x.2.2.1.1, e := x.2.2.2.1, n := x.2.2.2.2.1 } (x_1.1, x_1.2.1, x_1.2.2)).1.n, PUnit.unit) ∧ ((↑N.length : Int) - (x.1 + (1 : Int))).toNat < ((↑N.length : Int) - x.1).toNat) ∧ (decide (x.1 < (↑N.length : Int)) = false → True ∧ ((), x.2.1, x.2.2.1, x.2.2.2.1, x.2.2.2.2.1, ()) = ((), ((madeF N n).G, nS), ((madeF N n).H, nS), (madeF N n).e, (madeF N n).n, ())))
theorem g_made_eq (N : List En) (n : Int) : CondO (env_made N n) Try.f8 [.list .tmp EnT N, .int .i64 n] [] [none] ann_made ((), ((madeF N n).G, nS), ((madeF N n).H, nS), (madeF N n).e, (madeF N n).n, ()) = g_made_vc N n := by kernel_rfl
theorem g_made_ok (N : List En) (n : Int) (h : NOk N) : g_made_vc N n := by
  have hc := cutF_in N n
  obtain ⟨hl, _⟩ := id h
  unfold g_made_vc
  simp only [decide_eq_true_eq, decide_eq_false_iff_not, Bool.not_eq_true', Bool.not_eq_false', Bool.not_true, Bool.not_false]
  have key : ∀ x : Int × (List (Sp × List Rw) × Option Sp) × (List (Sp × List Int) × Option Sp) × Int × Int × Unit, MInv N (cutF N n) x.1 x.2 → x.1 < N.length → ∀ y : En, N[x.1.toNat]? = some y →
      (x.2.1.2 = nS ∧ x.2.2.1.2 = nS) ∧ LOk ⟨x.2.1.1, x.2.2.1.1, x.2.2.2.1, x.2.2.2.2.1⟩ y.1 y.2.2 ∧ -1 ≤ x.2.2.2.1 := fun x hx hlt y hy => by
    obtain ⟨m1, m2, m3, m4, m5⟩ := hx
    obtain ⟨a1, a2, a3⟩ := made_next h hc.1 m1 hy
    refine ⟨⟨m3, m4⟩, ?_, ?_⟩
    · rw [← m5] at a1; exact a1
    · rw [← m5] at a2; exact a2
  have step : ∀ x : Int × (List (Sp × List Rw) × Option Sp) × (List (Sp × List Int) × Option Sp) × Int × Int × Unit, MInv N (cutF N n) x.1 x.2 → x.1 < N.length → ∀ y : En, N[x.1.toNat]? = some y → ∀ d', d' = (addR ⟨x.2.1.1, x.2.2.1.1, x.2.2.2.1, x.2.2.2.2.1⟩ y).1 →
      MInv N (cutF N n) (x.1 + 1) ((d'.G, none), (d'.H, none), d'.e, d'.n, PUnit.unit) := fun x hx hlt y hy d' hd => by
    obtain ⟨m1, m2, m3, m4, m5⟩ := hx
    obtain ⟨a1, a2, a3⟩ := made_next h hc.1 m1 hy
    refine ⟨by omega, by omega, rfl, rfl, ?_⟩
    rw [← a3, ← m5]
    exact hd
  have first : ∀ k : Int, k = cutF N n → MInv N (cutF N n) k (((newD (List.take k.toNat N)).G, none), ((newD (List.take k.toNat N)).H, none), (newD (List.take k.toNat N)).e, (newD (List.take k.toNat N)).n, PUnit.unit) := fun k hk => by
    subst hk
    refine ⟨Int.le_refl _, hc.2, rfl, rfl, ?_⟩
    unfold madeK
    rw [List.drop_of_length_le (List.length_take_le _ _)]
    rfl
  have last : ∀ x : Int × (List (Sp × List Rw) × Option Sp) × (List (Sp × List Int) × Option Sp) × Int × Int × Unit, MInv N (cutF N n) x.1 x.2 → ¬ x.1 < N.length → x.2 = (((madeF N n).G, nS), ((madeF N n).H, nS), (madeF N n).e, (madeF N n).n, ()) := fun x hx hlt => by
    obtain ⟨i, ⟨g1, g2⟩, ⟨k1, k2⟩, e', n', ⟨⟩⟩ := x
    obtain ⟨m1, m2, m3, m4, m5⟩ := hx
    dsimp only at m1 m2 m3 m4 m5 hlt ⊢
    have m3 : g2 = nS := m3
    have m4 : k2 = nS := m4
    have hd : (⟨g1, k1, e', n'⟩ : TD) = madeF N n := by
      refine Eq.trans m5 ?_
      unfold madeK madeF
      have e : List.take i.toNat N = N := take_all hlt
      rw [e]
    rw [m3, m4, ← hd]
  have c0 : ∀ k : Int, k = cutF N n → (0 : Int) ≤ k ∧ k ≤ N.length := fun k hk => hk ▸ hc
  refine ⟨fun c1 => ⟨fun c2 => ?_, fun c2 => ?_⟩, fun c1 => ?_⟩
  · have e : (N.length : Int) = cutF N n := (if_pos (.inr c2)).symm
    exact ⟨c0 _ e, h.take _, ⟨trivial, first _ e⟩, fun x hx => ⟨fun c => ⟨⟨Int.le_trans hc.1 hx.1, c⟩, fun y hy => ⟨key x hx c y hy, by have := hx.1; omega, trivial, step x hx c y hy _ rfl, by omega⟩⟩, fun c => ⟨trivial, congrArg (Prod.mk ()) (last x hx c)⟩⟩⟩
  · have e : n = cutF N n := (if_neg (by omega)).symm
    exact ⟨c0 _ e, h.take _, ⟨trivial, first _ e⟩, fun x hx => ⟨fun c => ⟨⟨Int.le_trans hc.1 hx.1, c⟩, fun y hy => ⟨key x hx c y hy, by have := hx.1; omega, trivial, step x hx c y hy _ rfl, by omega⟩⟩, fun c => ⟨trivial, congrArg (Prod.mk ()) (last x hx c)⟩⟩⟩
  · have e : (N.length : Int) = cutF N n := (if_pos (.inl c1)).symm
    exact ⟨c0 _ e, h.take _, ⟨trivial, first _ e⟩, fun x hx => ⟨fun c => ⟨⟨Int.le_trans hc.1 hx.1, c⟩, fun y hy => ⟨key x hx c y hy, by have := hx.1; omega, trivial, step x hx c y hy _ rfl, by omega⟩⟩, fun c => ⟨trivial, congrArg (Prod.mk ()) (last x hx c)⟩⟩⟩
set_option maxRecDepth 20000
theorem made_upd (N : List En) (n : Int) (h : NOk N) : UpdC Try.prog 8 [.list .tmp EnT N, .int .i64 n] [] (.ptr 100002 0) [(100000, .opq .grw ((madeF N n).G, none)), (100001, .opq .gpe ((madeF N n).H, none)), (100002, .box [.oref 100000, .oref 100001, .int .i64 (madeF N n).e, .int .i64 (madeF N n).n])] :=
  by have k := UpdC.of_cond (g_made_eq N n) (g_made_ok N n h) (specs_ok rfl [] [so_new.upd, so_add'.upd] rfl rfl) mixed Try.func8; exact k
noncomputable def q_made (N : List En) (n : Int) : Prop × V × Store := (NOk N, .ptr 100002 0, [(100000, .opq .grw ((madeF N n).G, none)), (100001, .opq .gpe ((madeF N n).H, none)), (100002, .box [.oref 100000, .oref 100001, .int .i64 (madeF N n).e, .int .i64 (madeF N n).n])])
noncomputable def so_made : OSpec Try.prog where
 f := 8
 run := fun args σ => match args, σ with
  | [v0, .int .i64 n], [] => (asL EnT v0 : Option (List En)).bind fun N => some (q_made N n)
  | _, _ => none
 ok := fun args σ pre r σ' h hp => by
  try dsimp only at h
  split at h
  · rename_i v0 n
    obtain ⟨N, h0, h⟩ := Option.bind_eq_some_iff.1 h
    exact of_qo h hp fun h => (made_upd N n h).weak (.cons (asL_weak h0) (.cons (.refl _) .nil))
  · cases h
end Go.Proofs.Yteaajihmfacinaa.Ta
