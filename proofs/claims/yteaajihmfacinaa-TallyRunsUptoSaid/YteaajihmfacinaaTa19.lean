/-
  TallySheets, TallyGrows: the walks.
-/
import Derived.Test.YteaajihmfacinaaTa14
section
namespace Go.Proofs.Yteaajihmfacinaa.Ta
open Go.Vm
noncomputable def so_new : OSpec Try.prog where
  f := 29
  run := newRun
  ok := fun args σ pre r σ' h hp => by
    unfold newRun at h
    split at h
    · obtain ⟨N, h0, h⟩ := Option.bind_eq_some_iff.1 h
      cases h
      exact (new_upd N hp).weak (.cons (asL_weak h0) .nil)
    · cases h
noncomputable def addRun : List V → Store → Option (Prop × V × Store)
  | [.ptr 9000 0, .agg [.int .i64 p, .int .i64 r, v]], [(9000, .box [.oref 9001, .oref 9002, .int .i64 e, .int .i64 n]), (9001, .opq .grw g), (9002, .opq .gpe h)] =>
    (asL LnT v : Option (List Ln)).bind fun ls => some ((g.2 = nS ∧ h.2 = nS) ∧ LOk ⟨g.1, h.1, e, n⟩ p ls ∧ -1 ≤ e, .int .i64 (addR ⟨g.1, h.1, e, n⟩ (p, r, ls)).2, [(9001, .opq .grw ((addR ⟨g.1, h.1, e, n⟩ (p, r, ls)).1.G, none)), (9002, .opq .gpe ((addR ⟨g.1, h.1, e, n⟩ (p, r, ls)).1.H, none)), (9000, .box [.oref 9001, .oref 9002, .int .i64 (addR ⟨g.1, h.1, e, n⟩ (p, r, ls)).1.e, .int .i64 (addR ⟨g.1, h.1, e, n⟩ (p, r, ls)).1.n])])
  | _, _ => none
noncomputable def so_add' : OSpec Try.prog where
  f := 13
  run := addRun
  ok := fun args σ pre r σ' h hp => by
    unfold addRun at h
    split at h
    · rename_i p r v e n g k
      obtain ⟨ls, h0, h⟩ := Option.bind_eq_some_iff.1 h
      cases h
      obtain ⟨⟨h1, h2⟩, h3⟩ := hp
      obtain ⟨g1, g2⟩ := g
      obtain ⟨k1, k2⟩ := k
      cases h1
      cases h2
      exact (add_upd _ _ _ _ _ _ _ h3).weak (.cons (.refl _) (.cons (.agg (.cons (.refl _) (.cons (.refl _) (.cons (asL_weak h0) .nil)))) .nil))
    · cases h
theorem addsD_snoc (d : TD) (M : List En) (x : En) : addsD d (M ++ [x]) = (addR (addsD d M) x).1 := by
  induction M generalizing d with
  | nil =>
    show addsD (if d.e ≥ 2000 then d else addD d x) [] = (addR d x).1
    unfold addR
    by_cases h : d.e ≥ 2000
    · rw [if_pos h, if_pos h]; rfl
    · rw [if_neg h, if_neg h]; rfl
  | cons y r ih => exact ih _
theorem addsD_keep (M : List En) : ∀ d : TD, (∃ L, Tells d L) → (∃ L, Tells (addsD d M) L) ∧ (addsD d M).n ≤ d.n + (putsL M).length ∧ d.e ≤ (addsD d M).e := by
  induction M with
  | nil => intro d h; exact ⟨h, by simp [addsD, putsL], Int.le_refl _⟩
  | cons y r ih =>
    intro d ⟨L, h⟩
    have e : (putsL (y :: r)).length = y.2.2.length + (putsL r).length := by
      rw [show putsL (y :: r) = lnP y.1 y.2.2 ++ putsL r from rfl, List.length_append, lnP, List.length_map]
    show (∃ L, Tells (addsD (if d.e ≥ 2000 then d else addD d y) r) L) ∧ _
    have hs : addsD d (y :: r) = addsD (if d.e ≥ 2000 then d else addD d y) r := rfl
    rw [hs]
    by_cases hd : d.e ≥ 2000
    · rw [if_pos hd]
      obtain ⟨h1, h2, h3⟩ := ih d ⟨L, h⟩
      exact ⟨h1, by rw [e]; omega, h3⟩
    · rw [if_neg hd]
      obtain ⟨h1, h2, h3⟩ := ih (addD d y) ⟨_, h.add y⟩
      have en : (addD d y).n = d.n + y.2.2.length := by
        have := putsD_n d (lnP y.1 y.2.2)
        rw [lnP, List.length_map] at this
        exact this
      have ee : (addD d y).e = d.e + 1 := rfl
      exact ⟨h1, by rw [e]; omega, by omega⟩
def cutF (N : List En) (n : Int) : Int := if n < 0 ∨ N.length < n then N.length else n
def madeF (N : List En) (n : Int) : TD := addsD (newD (N.take (cutF N n).toNat)) (N.drop (cutF N n).toNat)
def madeK (N : List En) (k i : Nat) : TD := addsD (newD (N.take k)) ((N.take i).drop k)
theorem cutF_in (N : List En) (n : Int) : 0 ≤ cutF N n ∧ cutF N n ≤ N.length := by
  unfold cutF
  split <;> omega
theorem putsL_len_take (N : List En) (k : Nat) : (putsL (N.take k)).length + (putsL (N.drop k)).length = (putsL N).length := by
  rw [← List.length_append, ← puts_app, List.take_append_drop]
theorem newD_n (N : List En) : (newD N).n = (putsL N).length := (Tells.new N).n
theorem NOk.take {N : List En} (h : NOk N) (k : Nat) : NOk (N.take k) := by
  obtain ⟨h1, h2, h3⟩ := h
  refine ⟨Nat.le_trans (List.length_take_le' ..) h1, ?_, fun x hx => h3 x (List.mem_of_mem_take hx)⟩
  rw [lines_len] at h2 ⊢
  have := putsL_len_take N k
  omega
def MInv (N : List En) (k i : Int) (x : (List (Sp × List Rw) × Option Sp) × (List (Sp × List Int) × Option Sp) × Int × Int × Unit) : Prop := k ≤ i ∧ i ≤ N.length ∧ x.1.2 = nS ∧ x.2.1.2 = nS ∧ tdF x = madeK N k.toNat i.toNat
theorem made_next {N : List En} (h : NOk N) {k i : Int} (h0 : 0 ≤ k) (h1 : k ≤ i) {x : En} (hx : N[i.toNat]? = some x) : LOk (madeK N k.toNat i.toNat) x.1 x.2.2 ∧ -1 ≤ (madeK N k.toNat i.toNat).e ∧ (addR (madeK N k.toNat i.toNat) x).1 = madeK N k.toNat (i + 1).toNat := by
  obtain ⟨_, h2, h3⟩ := h
  obtain ⟨a1, a2, a3⟩ := addsD_keep ((N.take i.toNat).drop k.toNat) (newD (N.take k.toNat)) ⟨_, Tells.new _⟩
  have hin := h3 x (List.mem_of_getElem? hx)
  have hlen := (List.getElem?_eq_some_iff.1 hx).1
  refine ⟨⟨a1, ?_, hin.1, hin.2⟩, ?_, ?_⟩
  · rw [newD_n] at a2
    rw [lines_len] at h2
    have b1 := putsL_len_take (N.take i.toNat) k.toNat
    rw [List.take_take, show min k.toNat i.toNat = k.toNat by omega] at b1
    have b2 := putsL_len_take N i.toNat
    have b3 : N.drop i.toNat = x :: N.drop (i.toNat + 1) := by
      rw [List.drop_eq_getElem_cons hlen]
      congr 1
      exact (List.getElem?_eq_some_iff.1 hx).2
    have b4 : (putsL (N.drop i.toNat)).length = x.2.2.length + (putsL (N.drop (i.toNat + 1))).length := by
      rw [b3, show putsL (x :: N.drop (i.toNat + 1)) = lnP x.1 x.2.2 ++ putsL (N.drop (i.toNat + 1)) from rfl, List.length_append, lnP, List.length_map]
    show (addsD (newD (N.take k.toNat)) ((N.take i.toNat).drop k.toNat)).n + _ < big
    unfold big
    omega
  · have : (0 : Int) ≤ (newD (N.take k.toNat)).e := Int.natCast_nonneg _
    exact Int.le_trans (by omega) a3
  · unfold madeK
    rw [← addsD_snoc, take_next (by omega) hx, List.drop_append_of_le_length (by rw [List.length_take]; omega)]
noncomputable def env_made (N : List En) (n : Int) : Env where
  P := Try.prog
  ty := tys0
  upd := updsOf [so_new.upd, so_add'.upd]
  heads := fun | 7 => some { slots := [(6, .int .i64)], boxes := [(100002, [.opq 100000 .grw, .opq 100001 .gpe, .int .i64, .int .i64])], inv := fun _ (x : Int × (List (Sp × List Rw) × Option Sp) × (List (Sp × List Int) × Option Sp) × Int × Int × Unit) => MInv N (cutF N n) x.1 x.2, measure := fun _ (x : Int × (List (Sp × List Rw) × Option Sp) × (List (Sp × List Int) × Option Sp) × Int × Int × Unit) => (N.length - x.1).toNat } | _ => none
abbrev ann_made : Ann := { slots := numP 0 [.bp 100002], boxes := [(100002, [.opq 100000 .grw, .opq 100001 .gpe, .int .i64, .int .i64])], inv := fun _ _ => True }
def g_made_vc (N : List En) (n : Int) : Prop :=
  (decide (n < (0 : Int)) = false → (decide ((↑N.length : Int) < n) = true → ((0 : Int) ≤ (↑N.length : Int) ∧ (↑N.length : Int) ≤ (↑N.length : Int)) ∧ NOk (List.take (↑N.length : Int).toNat N) ∧ (True ∧ MInv N (cutF N n) (↑N.length : Int) (((newD (List.take (↑N.length : Int).toNat N)).G, none), ((newD (List.take (↑N.length : Int).toNat N)).H, none), (newD (List.take (↑N.length : Int).toNat N)).e, (newD (List.take (↑N.length : Int).toNat N)).n, PUnit.unit)) ∧ ∀ (x : Int × (List ((Int × Int × Int) × List (Int × Int × Int)) × Option (Int × Int × Int)) × (List ((Int × Int × Int) × List Int) × Option (Int × Int × Int)) × Int × Int × Unit), MInv N (cutF N n) x.1 x.2 → (decide (x.1 < (↑N.length : Int)) = true → ((0 : Int) ≤ x.1 ∧ x.1 < (↑N.length : Int)) ∧ ∀ (x_1 : Int × Int × List (Int × Int × Int × Int)), N[x.1.toNat]? = some x_1 → ((x.2.1.2 = nS ∧ x.2.2.1.2 = nS) ∧ LOk { G := x.2.1.1, H := x.2.2.1.1, e := x.2.2.2.1, n := x.2.2.2.2.1 } x_1.1 x_1.2.2 ∧ (-1 : Int) ≤ x.2.2.2.1) ∧ ((-9223372036854775808 : Int) ≤ x.1 + (1 : Int) ∧ x.1 + (1 : Int) ≤ (9223372036854775807 : Int)) ∧ True ∧ MInv N (cutF N n) (x.1 + (1 : Int)) (((addR { G := x.2.1.1, H := x.2.2.1.1, e := x.2.2.2.1, n := x.2.2.2.2.1 } (x_1.1, x_1.2.1, x_1.2.2)).1.G, none), ((addR { G := x.2.1.1, H := x.2.2.1.1, e := x.2.2.2.1, n := x.2.2.2.2.1 } (x_1.1, x_1.2.1, x_1.2.2)).1.H, none), (addR { G := x.2.1.1, H := x.2.2.1.1, e := x.2.2.2.1, n := x.2.2.2.2.1 } (x_1.1, x_1.2.1, x_1.2.2)).1.e, (addR { G := x.2.1.1, H := x.2.2.1.1, e := x.2.2.2.1, n := x.2.2.2.2.1 } (x_1.1, x_1.2.1, x_1.2.2)).1.n, PUnit.unit) ∧ ((↑N.length : Int) - (x.1 + (1 : Int))).toNat < ((↑N.length : Int) - x.1).toNat) ∧ (decide (x.1 < (↑N.length : Int)) = false → True ∧ ((), x.2.1, x.2.2.1, x.2.2.2.1, x.2.2.2.2.1, ()) = ((), ((madeF N n).G, nS), ((madeF N n).H, nS), (madeF N n).e, (madeF N n).n, ()))) ∧ (decide ((↑N.length : Int) < n) = false → ((0 : Int) ≤ n ∧ n ≤ (↑N.length : Int)) ∧ NOk (List.take n.toNat N) ∧ (True ∧ MInv N (cutF N n) n (((newD (List.take n.toNat N)).G, none), ((newD (List.take n.toNat N)).H, none), (newD (List.take n.toNat N)).e, (newD (List.take n.toNat N)).n, PUnit.unit)) ∧ ∀ (x : Int × (List ((Int × Int × Int) × List (Int × Int × Int)) × Option (Int × Int × Int)) × (List ((Int × Int × Int) × List Int) × Option (Int × Int × Int)) × Int × Int × Unit), MInv N (cutF N n) x.1 x.2 → (decide (x.1 < (↑N.length : Int)) = true → ((0 : Int) ≤ x.1 ∧ x.1 < (↑N.length : Int)) ∧ ∀ (x_1 : Int × Int × List (Int × Int × Int × Int)), N[x.1.toNat]? = some x_1 → ((x.2.1.2 = nS ∧ x.2.2.1.2 = nS) ∧ LOk { G := x.2.1.1, H := x.2.2.1.1, e := x.2.2.2.1, n := x.2.2.2.2.1 } x_1.1 x_1.2.2 ∧ (-1 : Int) ≤ x.2.2.2.1) ∧ ((-9223372036854775808 : Int) ≤ x.1 + (1 : Int) ∧ x.1 + (1 : Int) ≤ (9223372036854775807 : Int)) ∧ True ∧ MInv N (cutF N n) (x.1 + (1 : Int)) (((addR { G := x.2.1.1, H := x.2.2.1.1, e := x.2.2.2.1, n := x.2.2.2.2.1 } (x_1.1, x_1.2.1, x_1.2.2)).1.G, none), ((addR { G := x.2.1.1, H := x.2.2.1.1, e := x.2.2.2.1, n := x.2.2.2.2.1 } (x_1.1, x_1.2.1, x_1.2.2)).1.H, none), (addR { G := x.2.1.1, H := x.2.2.1.1, e := x.2.2.2.1, n := x.2.2.2.2.1 } (x_1.1, x_1.2.1, x_1.2.2)).1.e, (addR { G := x.2.1.1, H := x.2.2.1.1, e := x.2.2.2.1, n := x.2.2.2.2.1 } (x_1.1, x_1.2.1, x_1.2.2)).1.n, PUnit.unit) ∧ ((↑N.length : Int) - (x.1 + (1 : Int))).toNat < ((↑N.length : Int) - x.1).toNat) ∧ (decide (x.1 < (↑N.length : Int)) = false → True ∧ ((), x.2.1, x.2.2.1, x.2.2.2.1, x.2.2.2.2.1, ()) = ((), ((madeF N n).G, nS), ((madeF N n).H, nS), (madeF N n).e, (madeF N n).n, ())))) ∧ (decide (n < (0 : Int)) = !false → ((0 : Int) ≤ (↑N.length : Int) ∧ (↑N.length : Int) ≤ (↑N.length : Int)) ∧ NOk (List.take (↑N.length : Int).toNat N) ∧ (True ∧ MInv N (cutF N n) (↑N.length : Int) (((newD (List.take (↑N.length : Int).toNat N)).G, none), ((newD (List.take (↑N.length : Int).toNat N)).H, none), (newD (List.take (↑N.length : Int).toNat N)).e, (newD (List.take (↑N.length : Int).toNat N)).n, PUnit.unit)) ∧ ∀ (x : Int × (List ((Int × Int × Int) × List (Int × Int × Int)) × Option (Int × Int × Int)) × (List ((Int × Int × Int) × List Int) × Option (Int × Int × Int)) × Int × Int × Unit), MInv N (cutF N n) x.1 x.2 → (decide (x.1 < (↑N.length : Int)) = true → ((0 : Int) ≤ x.1 ∧ x.1 < (↑N.length : Int)) ∧ ∀ (x_1 : Int × Int × List (Int × Int × Int × Int)), N[x.1.toNat]? = some x_1 → ((x.2.1.2 = nS ∧ x.2.2.1.2 = nS) ∧ LOk { G := x.2.1.1, H := x.2.2.1.1, e := x.2.2.2.1, n := x.2.2.2.2.1 } x_1.1 x_1.2.2 ∧ (-1 : Int) ≤ x.2.2.2.1) ∧ ((-9223372036854775808 : Int) ≤ x.1 + (1 : Int) ∧ x.1 + (1 : Int) ≤ (9223372036854775807 : Int)) ∧ True ∧ MInv N (cutF N n) (x.1 + (1 : Int)) (((addR { G := x.2.1.1, H := x.2.2.1.1, e := x.2.2.2.1, n := x.2.2.2.2.1 } (x_1.1, x_1.2.1, x_1.2.2)).1.G, none), ((addR { G := x.2.1.1, H := x.2.2.1.1, e := x.2.2.2.1, n := x.2.2.2.2.1 } (x_1.1, x_1.2.1, x_1.2.2)).1.H, none), (addR { G := x.2.1.1, H := x.2.2.1.1, e := x.2.2.2.1, n := x.2.2.2.2.1 } (x_1.1, x_1.2.1, x_1.2.2)).1.e, (addR { G := x.2.1.1, H := x.2.2.1.1, e := x.2.2.2.1, n := x.2.2.2.2.1 } (x_1.1, x_1.2.1, x_1.2.2)).1.n, PUnit.unit) ∧ ((↑N.length : Int) - (x.1 + (1 : Int))).toNat < ((↑N.length : Int) - x.1).toNat) ∧ (decide (x.1 < (↑N.length : Int)) = false → True ∧ ((), x.2.1, x.2.2.1, x.2.2.2.1, x.2.2.2.2.1, ()) = ((), ((madeF N n).G, nS), ((madeF N n).H, nS), (madeF N n).e, (madeF N n).n, ())))
theorem g_made_eq (N : List En) (n : Int) : CondO (env_made N n) Try.f8 [.list .tmp EnT N, .int .i64 n] [] [none] ann_made ((), ((madeF N n).G, nS), ((madeF N n).H, nS), (madeF N n).e, (madeF N n).n, ()) = g_made_vc N n := by kernel_rfl
theorem g_made_ok (N : List En) (n : Int) (h : NOk N) : g_made_vc N n := by
  have hc := cutF_in N n
  obtain ⟨hl, _⟩ := id h
  unfold g_made_vc
  simp only [decide_eq_true_eq, decide_eq_false_iff_not, Bool.not_eq_true', Bool.not_eq_false', Bool.not_true, Bool.not_false]
  have key : ∀ x : Int × (List (Sp × List Rw) × Option Sp) × (List (Sp × List Int) × Option Sp) × Int × Int × Unit, MInv N (cutF N n) x.1 x.2 → x.1 < N.length → ∀ y : En, N[x.1.toNat]? = some y →
      (x.2.1.2 = nS ∧ x.2.2.1.2 = nS) ∧ LOk ⟨x.2.1.1, x.2.2.1.1, x.2.2.2.1, x.2.2.2.2.1⟩ y.1 y.2.2 ∧ -1 ≤ x.2.2.2.1 := fun x hx hlt y hy => by
    obtain ⟨m1, m2, m3, m4, m5⟩ := hx
    obtain ⟨a1, a2, a3⟩ := made_next h hc.1 m1 hy
    refine ⟨⟨m3, m4⟩, ?_, ?_⟩
    · rw [← m5] at a1; exact a1
    · rw [← m5] at a2; exact a2
  have step : ∀ x : Int × (List (Sp × List Rw) × Option Sp) × (List (Sp × List Int) × Option Sp) × Int × Int × Unit, MInv N (cutF N n) x.1 x.2 → x.1 < N.length → ∀ y : En, N[x.1.toNat]? = some y → ∀ d', d' = (addR ⟨x.2.1.1, x.2.2.1.1, x.2.2.2.1, x.2.2.2.2.1⟩ y).1 →
      MInv N (cutF N n) (x.1 + 1) ((d'.G, none), (d'.H, none), d'.e, d'.n, PUnit.unit) := fun x hx hlt y hy d' hd => by
    obtain ⟨m1, m2, m3, m4, m5⟩ := hx
    obtain ⟨a1, a2, a3⟩ := made_next h hc.1 m1 hy
    refine ⟨by omega, by omega, rfl, rfl, ?_⟩
    rw [← a3, ← m5]
    exact hd
  have first : ∀ k : Int, k = cutF N n → MInv N (cutF N n) k (((newD (List.take k.toNat N)).G, none), ((newD (List.take k.toNat N)).H, none), (newD (List.take k.toNat N)).e, (newD (List.take k.toNat N)).n, PUnit.unit) := fun k hk => by
    subst hk
    refine ⟨Int.le_refl _, hc.2, rfl, rfl, ?_⟩
    unfold madeK
    rw [List.drop_of_length_le (List.length_take_le _ _)]
    rfl
  have last : ∀ x : Int × (List (Sp × List Rw) × Option Sp) × (List (Sp × List Int) × Option Sp) × Int × Int × Unit, MInv N (cutF N n) x.1 x.2 → ¬ x.1 < N.length → x.2 = (((madeF N n).G, nS), ((madeF N n).H, nS), (madeF N n).e, (madeF N n).n, ()) := fun x hx hlt => by
    obtain ⟨i, ⟨g1, g2⟩, ⟨k1, k2⟩, e', n', ⟨⟩⟩ := x
    obtain ⟨m1, m2, m3, m4, m5⟩ := hx
    dsimp only at m1 m2 m3 m4 m5 hlt ⊢
    have m3 : g2 = nS := m3
    have m4 : k2 = nS := m4
    have hd : (⟨g1, k1, e', n'⟩ : TD) = madeF N n := by
      refine Eq.trans m5 ?_
      unfold madeK madeF
      have e : List.take i.toNat N = N := take_all hlt
      rw [e]
    rw [m3, m4, ← hd]
  have c0 : ∀ k : Int, k = cutF N n → (0 : Int) ≤ k ∧ k ≤ N.length := fun k hk => hk ▸ hc
  refine ⟨fun c1 => ⟨fun c2 => ?_, fun c2 => ?_⟩, fun c1 => ?_⟩
  · have e : (N.length : Int) = cutF N n := (if_pos (.inr c2)).symm
    exact ⟨c0 _ e, h.take _, ⟨trivial, first _ e⟩, fun x hx => ⟨fun c => ⟨⟨Int.le_trans hc.1 hx.1, c⟩, fun y hy => ⟨key x hx c y hy, by have := hx.1; omega, trivial, step x hx c y hy _ rfl, by omega⟩⟩, fun c => ⟨trivial, congrArg (Prod.mk ()) (last x hx c)⟩⟩⟩
  · have e : n = cutF N n := (if_neg (by omega)).symm
    exact ⟨c0 _ e, h.take _, ⟨trivial, first _ e⟩, fun x hx => ⟨fun c => ⟨⟨Int.le_trans hc.1 hx.1, c⟩, fun y hy => ⟨key x hx c y hy, by have := hx.1; omega, trivial, step x hx c y hy _ rfl, by omega⟩⟩, fun c => ⟨trivial, congrArg (Prod.mk ()) (last x hx c)⟩⟩⟩
  · have e : (N.length : Int) = cutF N n := (if_pos (.inl c1)).symm
    exact ⟨c0 _ e, h.take _, ⟨trivial, first _ e⟩, fun x hx => ⟨fun c => ⟨⟨Int.le_trans hc.1 hx.1, c⟩, fun y hy => ⟨key x hx c y hy, by have := hx.1; omega, trivial, step x hx c y hy _ rfl, by omega⟩⟩, fun c => ⟨trivial, congrArg (Prod.mk ()) (last x hx c)⟩⟩⟩
set_option maxRecDepth 20000
theorem made_upd (N : List En) (n : Int) (h : NOk N) : UpdC Try.prog 8 [.list .tmp EnT N, .int .i64 n] [] (.ptr 100002 0) [(100000, .opq .grw ((madeF N n).G, none)), (100001, .opq .gpe ((madeF N n).H, none)), (100002, .box [.oref 100000, .oref 100001, .int .i64 (madeF N n).e, .int .i64 (madeF N n).n])] :=
  by have k := UpdC.of_cond (g_made_eq N n) (g_made_ok N n h) (specs_ok rfl [] [so_new.upd, so_add'.upd] rfl rfl) mixed Try.func8; exact k
noncomputable def q_made (N : List En) (n : Int) : Prop × V × Store := (NOk N, .ptr 100002 0, [(100000, .opq .grw ((madeF N n).G, none)), (100001, .opq .gpe ((madeF N n).H, none)), (100002, .box [.oref 100000, .oref 100001, .int .i64 (madeF N n).e, .int .i64 (madeF N n).n])])
noncomputable def so_made : OSpec Try.prog where
 f := 8
 run := fun args σ => match args, σ with
  | [v0, .int .i64 n], [] => (asL EnT v0 : Option (List En)).bind fun N => some (q_made N n)
  | _, _ => none
 ok := fun args σ pre r σ' h hp => by
  try dsimp only at h
  split at h
  · rename_i v0 n
    obtain ⟨N, h0, h⟩ := Option.bind_eq_some_iff.1 h
    exact of_qo h hp fun h => (made_upd N n h).weak (.cons (asL_weak h0) (.cons (.refl _) .nil))
  · cases h
end Go.Proofs.Yteaajihmfacinaa.Ta
end
section
namespace Go.Proofs.Yteaajihmfacinaa.Ta
open Go.Vm
theorem any_hit {α : Type} {l : List α} {p : α → Bool} {i : Int} {x : α} (hx : l[i.toNat]? = some x) (hp : p x = true) : (l.drop i.toNat).any p = true := by
  obtain ⟨h1, h2⟩ := List.getElem?_eq_some_iff.1 hx
  rw [List.drop_eq_getElem_cons h1, h2, List.any_cons, hp, Bool.true_or]
theorem any_miss {α : Type} {l : List α} {p : α → Bool} {i : Int} {x : α} (h0 : 0 ≤ i) (hx : l[i.toNat]? = some x) (hp : p x = false) : (l.drop i.toNat).any p = (l.drop (i + 1).toNat).any p := by
  rw [drop_next h0 hx, List.any_cons, hp, Bool.false_or]
theorem any_end {α : Type} {l : List α} {p : α → Bool} {i : Int} (h : ¬ i < (l.length : Int)) : (l.drop i.toNat).any p = false := by
  rw [List.drop_of_length_le (by omega), List.any_nil]
def few24 (N : List En) : Bool := decide (N.length ≤ 30) && !N.any fun x => decide (60 < x.2.2.length)
noncomputable def env_few24 (N : List En) : Env where
  P := Try.prog
  ty := tys0
  heads := fun | 4 => some { slots := [(3, .int .i64)], boxes := [], inv := fun _ (x : Int × Unit) => 0 ≤ x.1 ∧ x.1 ≤ N.length ∧ (N.any fun x => decide (60 < x.2.2.length)) = ((N.drop x.1.toNat).any fun x => decide (60 < x.2.2.length)), measure := fun _ (x : Int × Unit) => (N.length - x.1).toNat } | _ => none
def g_few24_vc (N : List En) : Prop :=
  (decide ((30 : Int) < (↑N.length : Int)) = true → (false, ()) = (few24 N, ())) ∧ (decide ((30 : Int) < (↑N.length : Int)) = false → (True ∧ (0 : Int) ≤ (0 : Int) ∧ (0 : Int) ≤ (↑N.length : Int) ∧ (N.any fun x => decide ((60 : Nat) < x.2.2.length)) = (List.drop (Int.toNat (0 : Int)) N).any fun x => decide ((60 : Nat) < x.2.2.length)) ∧ ∀ (x : Int × Unit), ((0 : Int) ≤ x.1 ∧ x.1 ≤ (↑N.length : Int) ∧ (N.any fun x => decide ((60 : Nat) < x.2.2.length)) = (List.drop x.1.toNat N).any fun x => decide ((60 : Nat) < x.2.2.length)) → (decide (x.1 < (↑N.length : Int)) = true → ((0 : Int) ≤ x.1 ∧ x.1 < (↑N.length : Int)) ∧ ∀ (x_1 : Int × Int × List (Int × Int × Int × Int)), N[x.1.toNat]? = some x_1 → (decide ((60 : Int) < (↑x_1.2.2.length : Int)) = true → (false, ()) = (few24 N, ())) ∧ (decide ((60 : Int) < (↑x_1.2.2.length : Int)) = false → ((-9223372036854775808 : Int) ≤ x.1 + (1 : Int) ∧ x.1 + (1 : Int) ≤ (9223372036854775807 : Int)) ∧ True ∧ ((0 : Int) ≤ x.1 + (1 : Int) ∧ x.1 + (1 : Int) ≤ (↑N.length : Int) ∧ (N.any fun x => decide ((60 : Nat) < x.2.2.length)) = (List.drop (x.1 + (1 : Int)).toNat N).any fun x => decide ((60 : Nat) < x.2.2.length)) ∧ ((↑N.length : Int) - (x.1 + (1 : Int))).toNat < ((↑N.length : Int) - x.1).toNat)) ∧ (decide (x.1 < (↑N.length : Int)) = false → (true, ()) = (few24 N, ())))
theorem g_few24_eq (N : List En) : Cond (env_few24 N) Try.f9 [.list .tmp EnT N] [.bool] (few24 N, ()) = g_few24_vc N := by kernel_rfl
theorem g_few24_ok (N : List En) (h : N.length ≤ 9223372036854775807) : g_few24_vc N := by
  unfold g_few24_vc few24
  simp only [decide_eq_true_eq, decide_eq_false_iff_not]
  refine ⟨fun c => by rw [decide_eq_false (by omega), Bool.false_and], fun c => ⟨⟨trivial, by omega, by omega, rfl⟩, ?_⟩⟩
  rintro ⟨i, ⟨⟩⟩ ⟨h0, h1, hb⟩
  dsimp only at h0 h1 hb ⊢
  rw [hb, decide_eq_true (by omega), Bool.true_and]
  refine ⟨fun d => ⟨⟨h0, d⟩, fun x hx => ⟨fun k => ?_, fun k => ⟨by omega, trivial, ⟨by omega, by omega, ?_⟩, by omega⟩⟩⟩, fun d => ?_⟩
  · rw [any_hit hx (by rw [decide_eq_true (by omega)])]; rfl
  · rw [any_miss h0 hx (by rw [decide_eq_false (by omega)])]
  · rw [any_end d]; rfl
set_option maxRecDepth 20000
theorem few24_pure (N : List En) (h : N.length ≤ 9223372036854775807) : Pure Try.prog 9 [.list .tmp EnT N] (.bool (few24 N)) :=
  by have k := Pure.of_cond (g_few24_eq N) (g_few24_ok N h) (specs_ok rfl [] [] rfl rfl) mixed Try.func9; exact k
noncomputable def q_few24 (N : List En) : Prop × V := (N.length ≤ 9223372036854775807, (.bool (few24 N)))
noncomputable def sp_few24 : FSpec Try.prog where
 f := 9
 run := fun
  | [v0] => (asL EnT v0 : Option (List En)).bind fun N => some (q_few24 N)
  | _ => none
 ok := fun args pre r h hp => by
  split at h
  · rename_i v0
    obtain ⟨N, h0, h⟩ := Option.bind_eq_some_iff.1 h
    exact of_q h hp fun h => (few24_pure N h).weak (.cons (asL_weak h0) .nil)
  · cases h
noncomputable def env_has' (xs : List Int) (n : Int) : Env where
  P := Try.prog
  ty := tys0
  heads := fun | 2 => some { slots := [(5, .int .i64)], boxes := [], inv := fun _ (x : Int × Unit) => 0 ≤ x.1 ∧ x.1 ≤ xs.length ∧ ∀ j : Nat, j < x.1.toNat → xs[j]? ≠ some n, measure := fun _ (x : Int × Unit) => (xs.length - x.1).toNat } | _ => none
def g_has'_vc (xs : List Int) (n : Int) : Prop :=
  (True ∧ (0 : Int) ≤ (0 : Int) ∧ (0 : Int) ≤ (↑xs.length : Int) ∧ ∀ (j : Nat), j < Int.toNat (0 : Int) → xs[j]? ≠ some n) ∧ ∀ (x : Int × Unit), ((0 : Int) ≤ x.1 ∧ x.1 ≤ (↑xs.length : Int) ∧ ∀ (j : Nat), j < x.1.toNat → xs[j]? ≠ some n) → (decide (x.1 < (↑xs.length : Int)) = true → ((0 : Int) ≤ x.1 ∧ x.1 < (↑xs.length : Int)) ∧ ∀ (x_1 : Int), xs[x.1.toNat]? = some x_1 → (decide (x_1 = n) = true → (true, ()) = (xs.contains n, ())) ∧ (decide (x_1 = n) = false → ((-9223372036854775808 : Int) ≤ x.1 + (1 : Int) ∧ x.1 + (1 : Int) ≤ (9223372036854775807 : Int)) ∧ True ∧ ((0 : Int) ≤ x.1 + (1 : Int) ∧ x.1 + (1 : Int) ≤ (↑xs.length : Int) ∧ ∀ (j : Nat), j < (x.1 + (1 : Int)).toNat → xs[j]? ≠ some n) ∧ ((↑xs.length : Int) - (x.1 + (1 : Int))).toNat < ((↑xs.length : Int) - x.1).toNat)) ∧ (decide (x.1 < (↑xs.length : Int)) = false → (false, ()) = (xs.contains n, ()))
theorem g_has'_eq (xs : List Int) (n : Int) : Cond (env_has' xs n) Try.f23 [.list .tmp I xs, .int .i64 n] [.bool] (xs.contains n, ()) = g_has'_vc xs n := by kernel_rfl
theorem g_has'_ok (xs : List Int) (n : Int) (h : xs.length ≤ 1000000000) : g_has'_vc xs n := by
  refine ⟨⟨trivial, by omega, by omega, fun j hj => by simp at hj⟩, ?_⟩
  rintro ⟨i, _⟩ ⟨h1, h2, h3⟩
  simp only [decide_eq_true_eq, decide_eq_false_iff_not] at *
  refine ⟨fun hlt => ⟨⟨h1, hlt⟩, fun y hy => ⟨fun e => ?_, fun e => ⟨by omega, trivial, ⟨by omega, by omega, fun j hj => ?_⟩, by omega⟩⟩⟩, fun hge => ?_⟩
  · subst e
    have := List.mem_of_getElem? hy
    simp [this]
  · by_cases hji : j < i.toNat
    · exact h3 j hji
    · have : j = i.toNat := by omega
      subst this
      rw [hy]; simpa using e
  · have : n ∉ xs := by
      intro hm
      obtain ⟨j, hj⟩ := List.mem_iff_getElem?.1 hm
      have hj2 := (List.getElem?_eq_some_iff.1 hj).1
      exact h3 j (by omega) hj
    simp [this]
theorem has'_pure (xs : List Int) (n : Int) (h : xs.length ≤ 1000000000) : Pure Try.prog 23 [.list .tmp I xs, .int .i64 n] (.bool (xs.contains n)) :=
  by have k := Pure.of_cond (g_has'_eq xs n) (g_has'_ok xs n h) (specs_ok rfl [] [] rfl rfl) mixed Try.func23; exact k
noncomputable def q_has' (xs : List Int) (n : Int) : Prop × V := (xs.length ≤ 1000000000, (.bool (xs.contains n)))
noncomputable def sp_has' : FSpec Try.prog where
 f := 23
 run := fun
  | [v0, .int .i64 n] => (asL I v0 : Option (List Int)).bind fun xs => some (q_has' xs n)
  | _ => none
 ok := fun args pre r h hp => by
  split at h
  · rename_i v0 n
    obtain ⟨xs, h0, h⟩ := Option.bind_eq_some_iff.1 h
    exact of_q h hp fun h => (has'_pure xs n h).weak (.cons (asL_weak h0) (.cons (.refl _) .nil))
  · cases h
noncomputable def env_sameInts (xs ys : List Int) : Env where
  P := Try.prog
  ty := tys0
  heads := fun | 4 => some { slots := [(5, .int .i64)], boxes := [], inv := fun _ (x : Int × Unit) => 0 ≤ x.1 ∧ x.1 ≤ xs.length ∧ ∀ j : Nat, j < x.1.toNat → xs[j]? = ys[j]?, measure := fun _ (x : Int × Unit) => (xs.length - x.1).toNat } | _ => none
def g_sameInts_vc (xs : List Int) (ys : List Int) : Prop :=
  ((!decide ((↑xs.length : Int) = (↑ys.length : Int))) = true → (false, ()) = (decide (xs = ys), ())) ∧ ((!decide ((↑xs.length : Int) = (↑ys.length : Int))) = false → (True ∧ (0 : Int) ≤ (0 : Int) ∧ (0 : Int) ≤ (↑xs.length : Int) ∧ ∀ (j : Nat), j < Int.toNat (0 : Int) → xs[j]? = ys[j]?) ∧ ∀ (x : Int × Unit), ((0 : Int) ≤ x.1 ∧ x.1 ≤ (↑xs.length : Int) ∧ ∀ (j : Nat), j < x.1.toNat → xs[j]? = ys[j]?) → (decide (x.1 < (↑xs.length : Int)) = true → ((0 : Int) ≤ x.1 ∧ x.1 < (↑xs.length : Int)) ∧ ∀ (x_1 : Int), xs[x.1.toNat]? = some x_1 → ((0 : Int) ≤ x.1 ∧ x.1 < (↑ys.length : Int)) ∧ ∀ (x_2 : Int), ys[x.1.toNat]? = some x_2 → ((!decide (x_1 = x_2)) = true → (false, ()) = (decide (xs = ys), ())) ∧ ((!decide (x_1 = x_2)) = false → ((-9223372036854775808 : Int) ≤ x.1 + (1 : Int) ∧ x.1 + (1 : Int) ≤ (9223372036854775807 : Int)) ∧ True ∧ ((0 : Int) ≤ x.1 + (1 : Int) ∧ x.1 + (1 : Int) ≤ (↑xs.length : Int) ∧ ∀ (j : Nat), j < (x.1 + (1 : Int)).toNat → xs[j]? = ys[j]?) ∧ ((↑xs.length : Int) - (x.1 + (1 : Int))).toNat < ((↑xs.length : Int) - x.1).toNat)) ∧ (decide (x.1 < (↑xs.length : Int)) = false → (true, ()) = (decide (xs = ys), ())))
theorem g_sameInts_eq (xs ys : List Int) : Cond (env_sameInts xs ys) Try.f14 [.list .tmp I xs, .list .tmp I ys] [.bool] (decide (xs = ys), ()) = g_sameInts_vc xs ys := by kernel_rfl
theorem g_sameInts_ok (xs ys : List Int) (h : xs.length ≤ 1000000000) : g_sameInts_vc xs ys := by
  unfold g_sameInts_vc
  simp only [Bool.not_eq_true', decide_eq_false_iff_not, Bool.not_eq_false', decide_eq_true_eq, true_and, Int.ofNat_inj, Int.toNat_zero, Nat.not_lt_zero]
  refine ⟨fun hne => ?_, fun hlen => ⟨⟨by omega, by omega, fun j hj => hj.elim⟩, ?_⟩⟩
  · have : xs ≠ ys := fun e => hne (by rw [e])
    simp [this]
  rintro ⟨i, _⟩ ⟨h1, h2, h3⟩
  simp only at *
  refine ⟨fun hlt => ⟨⟨h1, hlt⟩, fun x hx => ⟨⟨h1, by omega⟩, fun y hy => ⟨fun e => ?_, fun e => ⟨by omega, ⟨by omega, by omega, fun j hj => ?_⟩, by omega⟩⟩⟩⟩, fun hge => ?_⟩
  · have : xs ≠ ys := by
      rintro rfl
      rw [hx] at hy
      cases hy
      exact e rfl
    simp [this]
  · by_cases hji : j < i.toNat
    · exact h3 j hji
    · have : j = i.toNat := by omega
      subst this
      rw [hx, hy, e]
  · have : xs = ys := by
      apply List.ext_getElem?
      intro j
      by_cases hj : j < i.toNat
      · exact h3 j hj
      · rw [List.getElem?_eq_none (by omega), List.getElem?_eq_none (by omega)]
    simp [this]
theorem sameInts_pure (xs ys : List Int) (h : xs.length ≤ 1000000000) : Pure Try.prog 14 [.list .tmp I xs, .list .tmp I ys] (.bool (decide (xs = ys))) :=
  by have k := Pure.of_cond (g_sameInts_eq xs ys) (g_sameInts_ok xs ys h) (specs_ok rfl [] [] rfl rfl) mixed Try.func14; exact k
noncomputable def q_sameInts (xs ys : List Int) : Prop × V := (xs.length ≤ 1000000000, (.bool (decide (xs = ys))))
noncomputable def sp_sameInts : FSpec Try.prog where
 f := 14
 run := fun
  | [v0, v1] => (asL I v0 : Option (List Int)).bind fun xs => (asL I v1 : Option (List Int)).bind fun ys => some (q_sameInts xs ys)
  | _ => none
 ok := fun args pre r h hp => by
  split at h
  · rename_i v0 v1
    obtain ⟨xs, h0, h⟩ := Option.bind_eq_some_iff.1 h
    obtain ⟨ys, h1, h⟩ := Option.bind_eq_some_iff.1 h
    exact of_q h hp fun h => (sameInts_pure xs ys h).weak (.cons (asL_weak h0) (.cons (asL_weak h1) .nil))
  · cases h
def oneL : List Ln := [(1, 4, 2, 5), (1, 4, 0, 7), (1, 5, 0, -12)]
noncomputable def env_one : Env where
  P := Try.prog
  ty := tys0
abbrev ann_one : Ann := { slots := numP 0 [.int .i64, .int .i64, .list .part LnT], boxes := [], inv := fun _ _ => True }
def g_one_vc : Prop :=
  True ∧ ((1 : Int), (0 : Int), [((1 : Int), (4 : Int), (2 : Int), (5 : Int)), ((1 : Int), (4 : Int), (0 : Int), (7 : Int)), ((1 : Int), (5 : Int), (0 : Int), (-12 : Int))], ()) = ((1 : Int), (0 : Int), oneL, ())
theorem g_one_eq  : CondG (env_one ) Try.f30 [] [some 3] ann_one ((1 : Int), (0 : Int), oneL, ()) = g_one_vc  := by kernel_rfl
theorem g_one_ok : g_one_vc := by
  exact ⟨trivial, rfl⟩
theorem one_pure  : Pure Try.prog 30 [] (.agg [.int .i64 1, .int .i64 0, .list .part LnT oneL]) :=
  by have k := Pure.of_condG (r := (.agg [.int .i64 1, .int .i64 0, .list .part LnT oneL])) (g_one_eq ) (g_one_ok ) rfl (specs_ok rfl [] [] rfl rfl) mixed Try.func30; exact k
noncomputable def q_one  : Prop × V := (True, (.agg [.int .i64 1, .int .i64 0, .list .part LnT oneL]))
noncomputable def sp_one : FSpec Try.prog where
 f := 30
 run := fun
  | [] => some (q_one )
  | _ => none
 ok := fun args pre r h hp => by
  split at h
  · skip
    exact of_q h hp fun h => (one_pure ).weak .nil
  · cases h
noncomputable def env_add0 (p r : Int) (ls : List Ln) : Env where
  P := Try.prog
  ty := tys0
  specs := specsOf [sp_tmade0]
def g_add0_vc (p : Int) (r : Int) (ls : List Ln) : Prop :=
  True ∧ ((!false) = true → ((1 : Int), ()) = ((1 : Int), ())) ∧ ((!false) = false → False)
theorem g_add0_eq (p r : Int) (ls : List Ln) : Cond (env_add0 p r ls) Try.f13 [.nilp, .agg [.int .i64 p, .int .i64 r, .list .tmp LnT ls]] [.int .i64] ((1 : Int), ()) = g_add0_vc p r ls := by kernel_rfl
theorem g_add0_ok (p r : Int) (ls : List Ln) : g_add0_vc p r ls := by
  exact ⟨trivial, fun _ => rfl, fun h => by cases h⟩
theorem add0_pure (p r : Int) (ls : List Ln) : Pure Try.prog 13 [.nilp, .agg [.int .i64 p, .int .i64 r, .list .tmp LnT ls]] (.int .i64 (1 : Int)) :=
  by have k := Pure.of_cond (g_add0_eq p r ls) (g_add0_ok p r ls) (specs_ok rfl [sp_tmade0] [] rfl rfl) mixed Try.func13; exact k
noncomputable def q_add0 (p r : Int) (ls : List Ln) : Prop × V := (True, (.int .i64 (1 : Int)))
noncomputable def sp_add0 : FSpec Try.prog where
 f := 13
 run := fun
  | [.nilp, .agg [.int .i64 p, .int .i64 r, v1_2]] => (asL LnT v1_2 : Option (List Ln)).bind fun ls => some (q_add0 p r ls)
  | _ => none
 ok := fun args pre r h hp => by
  split at h
  · rename_i p r v1_2
    obtain ⟨ls, h1_2, h⟩ := Option.bind_eq_some_iff.1 h
    exact of_q h hp fun h => (add0_pure p r ls).weak (.cons (.refl _) (.cons (Weak.agg (.cons (.refl _) (.cons (.refl _) (.cons (asL_weak h1_2) .nil)))) .nil))
  · cases h
end Go.Proofs.Yteaajihmfacinaa.Ta
end
section
namespace Go.Proofs.Yteaajihmfacinaa.Ta
open Go.Vm
noncomputable def sp_totalB : FSpec Try.prog where
  f := 17
  run := fun args => match args with
    | .nilp :: r => sp_total0.run (.nilp :: r)
    | args => sp_total.run args
  ok := fun args pre r h hp => by
    split at h
    · exact sp_total0.ok _ _ _ h hp
    · exact sp_total.ok _ _ _ h hp
noncomputable def env_awake : Env where
  P := Try.prog
  ty := tys0
  specs := specsOf [sp_one, sp_totalB, sp_sheet, sp_ids, sp_sameInts, sp_partners, sp_len, sp_add0]
  upd := updsOf [so_new.upd, so_add'.upd]
  frz := fun | 13 => true | 37 => true | 76 => true | 77 => true | 82 => true | 83 => true | 88 => true | 95 => true | _ => false
def g_awake_vc : Prop :=
  True ∧ NOk [((1 : Int), (0 : Int), oneL)] ∧ True ∧ ((none = nS ∧ none = nS) ∧ LOk { G := (newD [((1 : Int), (0 : Int), oneL)]).G, H := (newD [((1 : Int), (0 : Int), oneL)]).H, e := (newD [((1 : Int), (0 : Int), oneL)]).e, n := (newD [((1 : Int), (0 : Int), oneL)]).n } (1 : Int) oneL ∧ (-1 : Int) ≤ (newD [((1 : Int), (0 : Int), oneL)]).e) ∧ (TRd { G := (addR { G := (newD [((1 : Int), (0 : Int), oneL)]).G, H := (newD [((1 : Int), (0 : Int), oneL)]).H, e := (newD [((1 : Int), (0 : Int), oneL)]).e, n := (newD [((1 : Int), (0 : Int), oneL)]).n } ((1 : Int), (0 : Int), oneL)).1.G, H := (addR { G := (newD [((1 : Int), (0 : Int), oneL)]).G, H := (newD [((1 : Int), (0 : Int), oneL)]).H, e := (newD [((1 : Int), (0 : Int), oneL)]).e, n := (newD [((1 : Int), (0 : Int), oneL)]).n } ((1 : Int), (0 : Int), oneL)).1.H, e := (addR { G := (newD [((1 : Int), (0 : Int), oneL)]).G, H := (newD [((1 : Int), (0 : Int), oneL)]).H, e := (newD [((1 : Int), (0 : Int), oneL)]).e, n := (newD [((1 : Int), (0 : Int), oneL)]).n } ((1 : Int), (0 : Int), oneL)).1.e, n := (addR { G := (newD [((1 : Int), (0 : Int), oneL)]).G, H := (newD [((1 : Int), (0 : Int), oneL)]).H, e := (newD [((1 : Int), (0 : Int), oneL)]).e, n := (newD [((1 : Int), (0 : Int), oneL)]).n } ((1 : Int), (0 : Int), oneL)).1.n } ∧ SpOk ((1 : Int), (4 : Int), (1 : Int))) ∧ (TRd { G := (addR { G := (newD [((1 : Int), (0 : Int), oneL)]).G, H := (newD [((1 : Int), (0 : Int), oneL)]).H, e := (newD [((1 : Int), (0 : Int), oneL)]).e, n := (newD [((1 : Int), (0 : Int), oneL)]).n } ((1 : Int), (0 : Int), oneL)).1.G, H := (addR { G := (newD [((1 : Int), (0 : Int), oneL)]).G, H := (newD [((1 : Int), (0 : Int), oneL)]).H, e := (newD [((1 : Int), (0 : Int), oneL)]).e, n := (newD [((1 : Int), (0 : Int), oneL)]).n } ((1 : Int), (0 : Int), oneL)).1.H, e := (addR { G := (newD [((1 : Int), (0 : Int), oneL)]).G, H := (newD [((1 : Int), (0 : Int), oneL)]).H, e := (newD [((1 : Int), (0 : Int), oneL)]).e, n := (newD [((1 : Int), (0 : Int), oneL)]).n } ((1 : Int), (0 : Int), oneL)).1.e, n := (addR { G := (newD [((1 : Int), (0 : Int), oneL)]).G, H := (newD [((1 : Int), (0 : Int), oneL)]).H, e := (newD [((1 : Int), (0 : Int), oneL)]).e, n := (newD [((1 : Int), (0 : Int), oneL)]).n } ((1 : Int), (0 : Int), oneL)).1.n } ∧ SpOk ((1 : Int), (4 : Int), (1 : Int))) ∧ True ∧ (TRd { G := (addR { G := (newD [((1 : Int), (0 : Int), oneL)]).G, H := (newD [((1 : Int), (0 : Int), oneL)]).H, e := (newD [((1 : Int), (0 : Int), oneL)]).e, n := (newD [((1 : Int), (0 : Int), oneL)]).n } ((1 : Int), (0 : Int), oneL)).1.G, H := (addR { G := (newD [((1 : Int), (0 : Int), oneL)]).G, H := (newD [((1 : Int), (0 : Int), oneL)]).H, e := (newD [((1 : Int), (0 : Int), oneL)]).e, n := (newD [((1 : Int), (0 : Int), oneL)]).n } ((1 : Int), (0 : Int), oneL)).1.H, e := (addR { G := (newD [((1 : Int), (0 : Int), oneL)]).G, H := (newD [((1 : Int), (0 : Int), oneL)]).H, e := (newD [((1 : Int), (0 : Int), oneL)]).e, n := (newD [((1 : Int), (0 : Int), oneL)]).n } ((1 : Int), (0 : Int), oneL)).1.e, n := (addR { G := (newD [((1 : Int), (0 : Int), oneL)]).G, H := (newD [((1 : Int), (0 : Int), oneL)]).H, e := (newD [((1 : Int), (0 : Int), oneL)]).e, n := (newD [((1 : Int), (0 : Int), oneL)]).n } ((1 : Int), (0 : Int), oneL)).1.n } ∧ ((-9223372036854775808 : Int) ≤ (1 : Int) ∧ (1 : Int) ≤ (9223372036854775807 : Int)) ∧ (-9223372036854775808 : Int) ≤ (4 : Int) ∧ (4 : Int) ≤ (9223372036854775807 : Int)) ∧ (decide ((shR (shF (addR { G := (newD [((1 : Int), (0 : Int), oneL)]).G, H := (newD [((1 : Int), (0 : Int), oneL)]).H, e := (newD [((1 : Int), (0 : Int), oneL)]).e, n := (newD [((1 : Int), (0 : Int), oneL)]).n } ((1 : Int), (0 : Int), oneL)).1.G (addR { G := (newD [((1 : Int), (0 : Int), oneL)]).G, H := (newD [((1 : Int), (0 : Int), oneL)]).H, e := (newD [((1 : Int), (0 : Int), oneL)]).e, n := (newD [((1 : Int), (0 : Int), oneL)]).n } ((1 : Int), (0 : Int), oneL)).1.H (1 : Int) (4 : Int) (2 : Int))).2 = (0 : Int)) = true → (decide ((↑(shR (shF (addR { G := (newD [((1 : Int), (0 : Int), oneL)]).G, H := (newD [((1 : Int), (0 : Int), oneL)]).H, e := (newD [((1 : Int), (0 : Int), oneL)]).e, n := (newD [((1 : Int), (0 : Int), oneL)]).n } ((1 : Int), (0 : Int), oneL)).1.G (addR { G := (newD [((1 : Int), (0 : Int), oneL)]).G, H := (newD [((1 : Int), (0 : Int), oneL)]).H, e := (newD [((1 : Int), (0 : Int), oneL)]).e, n := (newD [((1 : Int), (0 : Int), oneL)]).n } ((1 : Int), (0 : Int), oneL)).1.H (1 : Int) (4 : Int) (2 : Int))).1.length : Int) = (2 : Int)) = true → ((0 : Int) ≤ (1 : Int) ∧ (1 : Int) < (↑(shR (shF (addR { G := (newD [((1 : Int), (0 : Int), oneL)]).G, H := (newD [((1 : Int), (0 : Int), oneL)]).H, e := (newD [((1 : Int), (0 : Int), oneL)]).e, n := (newD [((1 : Int), (0 : Int), oneL)]).n } ((1 : Int), (0 : Int), oneL)).1.G (addR { G := (newD [((1 : Int), (0 : Int), oneL)]).G, H := (newD [((1 : Int), (0 : Int), oneL)]).H, e := (newD [((1 : Int), (0 : Int), oneL)]).e, n := (newD [((1 : Int), (0 : Int), oneL)]).n } ((1 : Int), (0 : Int), oneL)).1.H (1 : Int) (4 : Int) (2 : Int))).1.length : Int)) ∧ ∀ (x : Int × Int × Int × Int), (shR (shF (addR { G := (newD [((1 : Int), (0 : Int), oneL)]).G, H := (newD [((1 : Int), (0 : Int), oneL)]).H, e := (newD [((1 : Int), (0 : Int), oneL)]).e, n := (newD [((1 : Int), (0 : Int), oneL)]).n } ((1 : Int), (0 : Int), oneL)).1.G (addR { G := (newD [((1 : Int), (0 : Int), oneL)]).G, H := (newD [((1 : Int), (0 : Int), oneL)]).H, e := (newD [((1 : Int), (0 : Int), oneL)]).e, n := (newD [((1 : Int), (0 : Int), oneL)]).n } ((1 : Int), (0 : Int), oneL)).1.H (1 : Int) (4 : Int) (2 : Int))).1[Int.toNat (1 : Int)]? = some x → ((decide (x.1 = (4 : Int)) && (decide (x.2.1 = (1 : Int)) && (decide (x.2.2.1 = (5 : Int)) && (decide (x.2.2.2 = (10 : Int)) && true)))) = true → (decide ((addR { G := (newD [((1 : Int), (0 : Int), oneL)]).G, H := (newD [((1 : Int), (0 : Int), oneL)]).H, e := (newD [((1 : Int), (0 : Int), oneL)]).e, n := (newD [((1 : Int), (0 : Int), oneL)]).n } ((1 : Int), (0 : Int), oneL)).2 = (0 : Int)) = true → (decide ((netF (amsF (addR { G := (newD [((1 : Int), (0 : Int), oneL)]).G, H := (newD [((1 : Int), (0 : Int), oneL)]).H, e := (newD [((1 : Int), (0 : Int), oneL)]).e, n := (newD [((1 : Int), (0 : Int), oneL)]).n } ((1 : Int), (0 : Int), oneL)).1.G ((1 : Int), (4 : Int), (1 : Int)) (0 : Int)) []).1 = (24 : Int)) = true → (decide ((netF (amsF (addR { G := (newD [((1 : Int), (0 : Int), oneL)]).G, H := (newD [((1 : Int), (0 : Int), oneL)]).H, e := (newD [((1 : Int), (0 : Int), oneL)]).e, n := (newD [((1 : Int), (0 : Int), oneL)]).n } ((1 : Int), (0 : Int), oneL)).1.G ((1 : Int), (4 : Int), (1 : Int)) (0 : Int)) []).2 = (0 : Int)) = true → (decide ((netF (amsF (addR { G := (newD [((1 : Int), (0 : Int), oneL)]).G, H := (newD [((1 : Int), (0 : Int), oneL)]).H, e := (newD [((1 : Int), (0 : Int), oneL)]).e, n := (newD [((1 : Int), (0 : Int), oneL)]).n } ((1 : Int), (0 : Int), oneL)).1.G ((1 : Int), (4 : Int), (1 : Int)) (2 : Int)) []).1 = (10 : Int)) = true → (decide ((netF (amsF (addR { G := (newD [((1 : Int), (0 : Int), oneL)]).G, H := (newD [((1 : Int), (0 : Int), oneL)]).H, e := (newD [((1 : Int), (0 : Int), oneL)]).e, n := (newD [((1 : Int), (0 : Int), oneL)]).n } ((1 : Int), (0 : Int), oneL)).1.G ((1 : Int), (4 : Int), (1 : Int)) (2 : Int)) []).2 = (0 : Int)) = true → (TRd { G := (addR { G := (newD [((1 : Int), (0 : Int), oneL)]).G, H := (newD [((1 : Int), (0 : Int), oneL)]).H, e := (newD [((1 : Int), (0 : Int), oneL)]).e, n := (newD [((1 : Int), (0 : Int), oneL)]).n } ((1 : Int), (0 : Int), oneL)).1.G, H := (addR { G := (newD [((1 : Int), (0 : Int), oneL)]).G, H := (newD [((1 : Int), (0 : Int), oneL)]).H, e := (newD [((1 : Int), (0 : Int), oneL)]).e, n := (newD [((1 : Int), (0 : Int), oneL)]).n } ((1 : Int), (0 : Int), oneL)).1.H, e := (addR { G := (newD [((1 : Int), (0 : Int), oneL)]).G, H := (newD [((1 : Int), (0 : Int), oneL)]).H, e := (newD [((1 : Int), (0 : Int), oneL)]).e, n := (newD [((1 : Int), (0 : Int), oneL)]).n } ((1 : Int), (0 : Int), oneL)).1.e, n := (addR { G := (newD [((1 : Int), (0 : Int), oneL)]).G, H := (newD [((1 : Int), (0 : Int), oneL)]).H, e := (newD [((1 : Int), (0 : Int), oneL)]).e, n := (newD [((1 : Int), (0 : Int), oneL)]).n } ((1 : Int), (0 : Int), oneL)).1.n } ∧ SpOk ((1 : Int), (4 : Int), (1 : Int))) ∧ (idsF (addR { G := (newD [((1 : Int), (0 : Int), oneL)]).G, H := (newD [((1 : Int), (0 : Int), oneL)]).H, e := (newD [((1 : Int), (0 : Int), oneL)]).e, n := (newD [((1 : Int), (0 : Int), oneL)]).n } ((1 : Int), (0 : Int), oneL)).1.G ((1 : Int), (4 : Int), (1 : Int)) (0 : Int)).length ≤ (1000000000 : Nat) ∧ (decide (idsF (addR { G := (newD [((1 : Int), (0 : Int), oneL)]).G, H := (newD [((1 : Int), (0 : Int), oneL)]).H, e := (newD [((1 : Int), (0 : Int), oneL)]).e, n := (newD [((1 : Int), (0 : Int), oneL)]).n } ((1 : Int), (0 : Int), oneL)).1.G ((1 : Int), (4 : Int), (1 : Int)) (0 : Int) = [(1 : Int), (2 : Int), (4 : Int), (5 : Int)]) = true → (TRd { G := (addR { G := (newD [((1 : Int), (0 : Int), oneL)]).G, H := (newD [((1 : Int), (0 : Int), oneL)]).H, e := (newD [((1 : Int), (0 : Int), oneL)]).e, n := (newD [((1 : Int), (0 : Int), oneL)]).n } ((1 : Int), (0 : Int), oneL)).1.G, H := (addR { G := (newD [((1 : Int), (0 : Int), oneL)]).G, H := (newD [((1 : Int), (0 : Int), oneL)]).H, e := (newD [((1 : Int), (0 : Int), oneL)]).e, n := (newD [((1 : Int), (0 : Int), oneL)]).n } ((1 : Int), (0 : Int), oneL)).1.H, e := (addR { G := (newD [((1 : Int), (0 : Int), oneL)]).G, H := (newD [((1 : Int), (0 : Int), oneL)]).H, e := (newD [((1 : Int), (0 : Int), oneL)]).e, n := (newD [((1 : Int), (0 : Int), oneL)]).n } ((1 : Int), (0 : Int), oneL)).1.e, n := (addR { G := (newD [((1 : Int), (0 : Int), oneL)]).G, H := (newD [((1 : Int), (0 : Int), oneL)]).H, e := (newD [((1 : Int), (0 : Int), oneL)]).e, n := (newD [((1 : Int), (0 : Int), oneL)]).n } ((1 : Int), (0 : Int), oneL)).1.n } ∧ SpOk ((1 : Int), (4 : Int), (1 : Int))) ∧ (idsF (addR { G := (newD [((1 : Int), (0 : Int), oneL)]).G, H := (newD [((1 : Int), (0 : Int), oneL)]).H, e := (newD [((1 : Int), (0 : Int), oneL)]).e, n := (newD [((1 : Int), (0 : Int), oneL)]).n } ((1 : Int), (0 : Int), oneL)).1.G ((1 : Int), (4 : Int), (1 : Int)) (2 : Int)).length ≤ (1000000000 : Nat) ∧ (decide (idsF (addR { G := (newD [((1 : Int), (0 : Int), oneL)]).G, H := (newD [((1 : Int), (0 : Int), oneL)]).H, e := (newD [((1 : Int), (0 : Int), oneL)]).e, n := (newD [((1 : Int), (0 : Int), oneL)]).n } ((1 : Int), (0 : Int), oneL)).1.G ((1 : Int), (4 : Int), (1 : Int)) (2 : Int) = [(1 : Int), (4 : Int)]) = true → (TRd { G := (addR { G := (newD [((1 : Int), (0 : Int), oneL)]).G, H := (newD [((1 : Int), (0 : Int), oneL)]).H, e := (newD [((1 : Int), (0 : Int), oneL)]).e, n := (newD [((1 : Int), (0 : Int), oneL)]).n } ((1 : Int), (0 : Int), oneL)).1.G, H := (addR { G := (newD [((1 : Int), (0 : Int), oneL)]).G, H := (newD [((1 : Int), (0 : Int), oneL)]).H, e := (newD [((1 : Int), (0 : Int), oneL)]).e, n := (newD [((1 : Int), (0 : Int), oneL)]).n } ((1 : Int), (0 : Int), oneL)).1.H, e := (addR { G := (newD [((1 : Int), (0 : Int), oneL)]).G, H := (newD [((1 : Int), (0 : Int), oneL)]).H, e := (newD [((1 : Int), (0 : Int), oneL)]).e, n := (newD [((1 : Int), (0 : Int), oneL)]).n } ((1 : Int), (0 : Int), oneL)).1.e, n := (addR { G := (newD [((1 : Int), (0 : Int), oneL)]).G, H := (newD [((1 : Int), (0 : Int), oneL)]).H, e := (newD [((1 : Int), (0 : Int), oneL)]).e, n := (newD [((1 : Int), (0 : Int), oneL)]).n } ((1 : Int), (0 : Int), oneL)).1.n } ∧ SpOk ((1 : Int), (4 : Int), (0 : Int))) ∧ (decide ((↑(idsF (addR { G := (newD [((1 : Int), (0 : Int), oneL)]).G, H := (newD [((1 : Int), (0 : Int), oneL)]).H, e := (newD [((1 : Int), (0 : Int), oneL)]).e, n := (newD [((1 : Int), (0 : Int), oneL)]).n } ((1 : Int), (0 : Int), oneL)).1.G ((1 : Int), (4 : Int), (0 : Int)) (0 : Int)).length : Int) = (0 : Int)) = true → (TRd { G := (addR { G := (newD [((1 : Int), (0 : Int), oneL)]).G, H := (newD [((1 : Int), (0 : Int), oneL)]).H, e := (newD [((1 : Int), (0 : Int), oneL)]).e, n := (newD [((1 : Int), (0 : Int), oneL)]).n } ((1 : Int), (0 : Int), oneL)).1.G, H := (addR { G := (newD [((1 : Int), (0 : Int), oneL)]).G, H := (newD [((1 : Int), (0 : Int), oneL)]).H, e := (newD [((1 : Int), (0 : Int), oneL)]).e, n := (newD [((1 : Int), (0 : Int), oneL)]).n } ((1 : Int), (0 : Int), oneL)).1.H, e := (addR { G := (newD [((1 : Int), (0 : Int), oneL)]).G, H := (newD [((1 : Int), (0 : Int), oneL)]).H, e := (newD [((1 : Int), (0 : Int), oneL)]).e, n := (newD [((1 : Int), (0 : Int), oneL)]).n } ((1 : Int), (0 : Int), oneL)).1.e, n := (addR { G := (newD [((1 : Int), (0 : Int), oneL)]).G, H := (newD [((1 : Int), (0 : Int), oneL)]).H, e := (newD [((1 : Int), (0 : Int), oneL)]).e, n := (newD [((1 : Int), (0 : Int), oneL)]).n } ((1 : Int), (0 : Int), oneL)).1.n } ∧ ((-9223372036854775808 : Int) ≤ (1 : Int) ∧ (1 : Int) ≤ (9223372036854775807 : Int)) ∧ (-9223372036854775808 : Int) ≤ (4 : Int) ∧ (4 : Int) ≤ (9223372036854775807 : Int)) ∧ (prtR (addR { G := (newD [((1 : Int), (0 : Int), oneL)]).G, H := (newD [((1 : Int), (0 : Int), oneL)]).H, e := (newD [((1 : Int), (0 : Int), oneL)]).e, n := (newD [((1 : Int), (0 : Int), oneL)]).n } ((1 : Int), (0 : Int), oneL)).1.G (addR { G := (newD [((1 : Int), (0 : Int), oneL)]).G, H := (newD [((1 : Int), (0 : Int), oneL)]).H, e := (newD [((1 : Int), (0 : Int), oneL)]).e, n := (newD [((1 : Int), (0 : Int), oneL)]).n } ((1 : Int), (0 : Int), oneL)).1.H (1 : Int) (4 : Int) (9 : Int)).length ≤ (1000000000 : Nat) ∧ (decide (prtR (addR { G := (newD [((1 : Int), (0 : Int), oneL)]).G, H := (newD [((1 : Int), (0 : Int), oneL)]).H, e := (newD [((1 : Int), (0 : Int), oneL)]).e, n := (newD [((1 : Int), (0 : Int), oneL)]).n } ((1 : Int), (0 : Int), oneL)).1.G (addR { G := (newD [((1 : Int), (0 : Int), oneL)]).G, H := (newD [((1 : Int), (0 : Int), oneL)]).H, e := (newD [((1 : Int), (0 : Int), oneL)]).e, n := (newD [((1 : Int), (0 : Int), oneL)]).n } ((1 : Int), (0 : Int), oneL)).1.H (1 : Int) (4 : Int) (9 : Int) = [(2 : Int)]) = true → (TRd { G := (addR { G := (newD [((1 : Int), (0 : Int), oneL)]).G, H := (newD [((1 : Int), (0 : Int), oneL)]).H, e := (newD [((1 : Int), (0 : Int), oneL)]).e, n := (newD [((1 : Int), (0 : Int), oneL)]).n } ((1 : Int), (0 : Int), oneL)).1.G, H := (addR { G := (newD [((1 : Int), (0 : Int), oneL)]).G, H := (newD [((1 : Int), (0 : Int), oneL)]).H, e := (newD [((1 : Int), (0 : Int), oneL)]).e, n := (newD [((1 : Int), (0 : Int), oneL)]).n } ((1 : Int), (0 : Int), oneL)).1.H, e := (addR { G := (newD [((1 : Int), (0 : Int), oneL)]).G, H := (newD [((1 : Int), (0 : Int), oneL)]).H, e := (newD [((1 : Int), (0 : Int), oneL)]).e, n := (newD [((1 : Int), (0 : Int), oneL)]).n } ((1 : Int), (0 : Int), oneL)).1.e, n := (addR { G := (newD [((1 : Int), (0 : Int), oneL)]).G, H := (newD [((1 : Int), (0 : Int), oneL)]).H, e := (newD [((1 : Int), (0 : Int), oneL)]).e, n := (newD [((1 : Int), (0 : Int), oneL)]).n } ((1 : Int), (0 : Int), oneL)).1.n } ∧ ((-9223372036854775808 : Int) ≤ (1 : Int) ∧ (1 : Int) ≤ (9223372036854775807 : Int)) ∧ (-9223372036854775808 : Int) ≤ (4 : Int) ∧ (4 : Int) ≤ (9223372036854775807 : Int)) ∧ (decide ((↑(prtR (addR { G := (newD [((1 : Int), (0 : Int), oneL)]).G, H := (newD [((1 : Int), (0 : Int), oneL)]).H, e := (newD [((1 : Int), (0 : Int), oneL)]).e, n := (newD [((1 : Int), (0 : Int), oneL)]).n } ((1 : Int), (0 : Int), oneL)).1.G (addR { G := (newD [((1 : Int), (0 : Int), oneL)]).G, H := (newD [((1 : Int), (0 : Int), oneL)]).H, e := (newD [((1 : Int), (0 : Int), oneL)]).e, n := (newD [((1 : Int), (0 : Int), oneL)]).n } ((1 : Int), (0 : Int), oneL)).1.H (1 : Int) (4 : Int) (0 : Int)).length : Int) = (0 : Int)) = true → True ∧ (decide ((addR { G := (newD [((1 : Int), (0 : Int), oneL)]).G, H := (newD [((1 : Int), (0 : Int), oneL)]).H, e := (newD [((1 : Int), (0 : Int), oneL)]).e, n := (newD [((1 : Int), (0 : Int), oneL)]).n } ((1 : Int), (0 : Int), oneL)).1.n = (6 : Int)) = true → (decide ((1 : Int) = (1 : Int)) = true → True ∧ True ∧ (decide ((1 : Int) = (1 : Int)), ()) = (true, ())) ∧ (decide ((1 : Int) = (1 : Int)) = !true → (false, ()) = (true, ()))) ∧ (decide ((addR { G := (newD [((1 : Int), (0 : Int), oneL)]).G, H := (newD [((1 : Int), (0 : Int), oneL)]).H, e := (newD [((1 : Int), (0 : Int), oneL)]).e, n := (newD [((1 : Int), (0 : Int), oneL)]).n } ((1 : Int), (0 : Int), oneL)).1.n = (6 : Int)) = !true → (false, ()) = (true, ()))) ∧ (decide ((↑(prtR (addR { G := (newD [((1 : Int), (0 : Int), oneL)]).G, H := (newD [((1 : Int), (0 : Int), oneL)]).H, e := (newD [((1 : Int), (0 : Int), oneL)]).e, n := (newD [((1 : Int), (0 : Int), oneL)]).n } ((1 : Int), (0 : Int), oneL)).1.G (addR { G := (newD [((1 : Int), (0 : Int), oneL)]).G, H := (newD [((1 : Int), (0 : Int), oneL)]).H, e := (newD [((1 : Int), (0 : Int), oneL)]).e, n := (newD [((1 : Int), (0 : Int), oneL)]).n } ((1 : Int), (0 : Int), oneL)).1.H (1 : Int) (4 : Int) (0 : Int)).length : Int) = (0 : Int)) = !true → (false, ()) = (true, ()))) ∧ (decide (prtR (addR { G := (newD [((1 : Int), (0 : Int), oneL)]).G, H := (newD [((1 : Int), (0 : Int), oneL)]).H, e := (newD [((1 : Int), (0 : Int), oneL)]).e, n := (newD [((1 : Int), (0 : Int), oneL)]).n } ((1 : Int), (0 : Int), oneL)).1.G (addR { G := (newD [((1 : Int), (0 : Int), oneL)]).G, H := (newD [((1 : Int), (0 : Int), oneL)]).H, e := (newD [((1 : Int), (0 : Int), oneL)]).e, n := (newD [((1 : Int), (0 : Int), oneL)]).n } ((1 : Int), (0 : Int), oneL)).1.H (1 : Int) (4 : Int) (9 : Int) = [(2 : Int)]) = !true → (false, ()) = (true, ()))) ∧ (decide ((↑(idsF (addR { G := (newD [((1 : Int), (0 : Int), oneL)]).G, H := (newD [((1 : Int), (0 : Int), oneL)]).H, e := (newD [((1 : Int), (0 : Int), oneL)]).e, n := (newD [((1 : Int), (0 : Int), oneL)]).n } ((1 : Int), (0 : Int), oneL)).1.G ((1 : Int), (4 : Int), (0 : Int)) (0 : Int)).length : Int) = (0 : Int)) = !true → (false, ()) = (true, ()))) ∧ (decide (idsF (addR { G := (newD [((1 : Int), (0 : Int), oneL)]).G, H := (newD [((1 : Int), (0 : Int), oneL)]).H, e := (newD [((1 : Int), (0 : Int), oneL)]).e, n := (newD [((1 : Int), (0 : Int), oneL)]).n } ((1 : Int), (0 : Int), oneL)).1.G ((1 : Int), (4 : Int), (1 : Int)) (2 : Int) = [(1 : Int), (4 : Int)]) = !true → (false, ()) = (true, ()))) ∧ (decide (idsF (addR { G := (newD [((1 : Int), (0 : Int), oneL)]).G, H := (newD [((1 : Int), (0 : Int), oneL)]).H, e := (newD [((1 : Int), (0 : Int), oneL)]).e, n := (newD [((1 : Int), (0 : Int), oneL)]).n } ((1 : Int), (0 : Int), oneL)).1.G ((1 : Int), (4 : Int), (1 : Int)) (0 : Int) = [(1 : Int), (2 : Int), (4 : Int), (5 : Int)]) = !true → (false, ()) = (true, ()))) ∧ (decide ((netF (amsF (addR { G := (newD [((1 : Int), (0 : Int), oneL)]).G, H := (newD [((1 : Int), (0 : Int), oneL)]).H, e := (newD [((1 : Int), (0 : Int), oneL)]).e, n := (newD [((1 : Int), (0 : Int), oneL)]).n } ((1 : Int), (0 : Int), oneL)).1.G ((1 : Int), (4 : Int), (1 : Int)) (2 : Int)) []).2 = (0 : Int)) = !true → (false, ()) = (true, ()))) ∧ (decide ((netF (amsF (addR { G := (newD [((1 : Int), (0 : Int), oneL)]).G, H := (newD [((1 : Int), (0 : Int), oneL)]).H, e := (newD [((1 : Int), (0 : Int), oneL)]).e, n := (newD [((1 : Int), (0 : Int), oneL)]).n } ((1 : Int), (0 : Int), oneL)).1.G ((1 : Int), (4 : Int), (1 : Int)) (2 : Int)) []).1 = (10 : Int)) = !true → (false, ()) = (true, ()))) ∧ (decide ((netF (amsF (addR { G := (newD [((1 : Int), (0 : Int), oneL)]).G, H := (newD [((1 : Int), (0 : Int), oneL)]).H, e := (newD [((1 : Int), (0 : Int), oneL)]).e, n := (newD [((1 : Int), (0 : Int), oneL)]).n } ((1 : Int), (0 : Int), oneL)).1.G ((1 : Int), (4 : Int), (1 : Int)) (0 : Int)) []).2 = (0 : Int)) = !true → (false, ()) = (true, ()))) ∧ (decide ((netF (amsF (addR { G := (newD [((1 : Int), (0 : Int), oneL)]).G, H := (newD [((1 : Int), (0 : Int), oneL)]).H, e := (newD [((1 : Int), (0 : Int), oneL)]).e, n := (newD [((1 : Int), (0 : Int), oneL)]).n } ((1 : Int), (0 : Int), oneL)).1.G ((1 : Int), (4 : Int), (1 : Int)) (0 : Int)) []).1 = (24 : Int)) = !true → (false, ()) = (true, ()))) ∧ (decide ((addR { G := (newD [((1 : Int), (0 : Int), oneL)]).G, H := (newD [((1 : Int), (0 : Int), oneL)]).H, e := (newD [((1 : Int), (0 : Int), oneL)]).e, n := (newD [((1 : Int), (0 : Int), oneL)]).n } ((1 : Int), (0 : Int), oneL)).2 = (0 : Int)) = !true → (false, ()) = (true, ()))) ∧ ((decide (x.1 = (4 : Int)) && (decide (x.2.1 = (1 : Int)) && (decide (x.2.2.1 = (5 : Int)) && (decide (x.2.2.2 = (10 : Int)) && true)))) = !true → (false, ()) = (true, ()))) ∧ (decide ((↑(shR (shF (addR { G := (newD [((1 : Int), (0 : Int), oneL)]).G, H := (newD [((1 : Int), (0 : Int), oneL)]).H, e := (newD [((1 : Int), (0 : Int), oneL)]).e, n := (newD [((1 : Int), (0 : Int), oneL)]).n } ((1 : Int), (0 : Int), oneL)).1.G (addR { G := (newD [((1 : Int), (0 : Int), oneL)]).G, H := (newD [((1 : Int), (0 : Int), oneL)]).H, e := (newD [((1 : Int), (0 : Int), oneL)]).e, n := (newD [((1 : Int), (0 : Int), oneL)]).n } ((1 : Int), (0 : Int), oneL)).1.H (1 : Int) (4 : Int) (2 : Int))).1.length : Int) = (2 : Int)) = !true → (false, ()) = (true, ()))) ∧ (decide ((shR (shF (addR { G := (newD [((1 : Int), (0 : Int), oneL)]).G, H := (newD [((1 : Int), (0 : Int), oneL)]).H, e := (newD [((1 : Int), (0 : Int), oneL)]).e, n := (newD [((1 : Int), (0 : Int), oneL)]).n } ((1 : Int), (0 : Int), oneL)).1.G (addR { G := (newD [((1 : Int), (0 : Int), oneL)]).G, H := (newD [((1 : Int), (0 : Int), oneL)]).H, e := (newD [((1 : Int), (0 : Int), oneL)]).e, n := (newD [((1 : Int), (0 : Int), oneL)]).n } ((1 : Int), (0 : Int), oneL)).1.H (1 : Int) (4 : Int) (2 : Int))).2 = (0 : Int)) = !true → (false, ()) = (true, ()))
theorem g_awake_eq  : Cond (env_awake ) Try.f10 [] [.bool] (true, ()) = g_awake_vc  := by kernel_rfl
abbrev oneE : List En := [(1, 0, oneL)]
theorem trd_of {N : List En} {e : Int} (hl : (putsL N).length ≤ 20000) (hw : ∀ u ∈ putsL N, WordI u.1 ∧ WL u.2) : TRd { putsD tal0 (putsL N) with e := e } := by
  have h := (Tells.new N).ent e
  refine ⟨⟨_, h, hw⟩, ?_⟩
  have : (putsD tal0 (putsL N)).n = (putsL N).length := (Tells.new N).n
  show (putsD tal0 (putsL N)).n ≤ _
  omega
theorem a_A : addR ⟨(newD oneE).G, (newD oneE).H, (newD oneE).e, (newD oneE).n⟩ (1, 0, oneL) = ({ putsD tal0 (putsL (oneE ++ oneE)) with e := 2 }, 0) := rfl
theorem a_L : ∀ y ∈ oneL, WL y := fun y hy => by
  simp only [oneL, List.mem_cons, List.not_mem_nil, or_false] at hy
  rcases hy with rfl | rfl | rfl <;> exact ⟨⟨by decide, by decide⟩, ⟨by decide, by decide⟩, ⟨by decide, by decide⟩, by decide, by decide⟩
theorem a_R : TRd { putsD tal0 (putsL (oneE ++ oneE)) with e := 2 } := trd_of (by decide) fun u hu => by
  obtain ⟨x, hx, h1, h2⟩ := puts_mem hu
  simp only [oneE, List.cons_append, List.nil_append, List.mem_cons, List.not_mem_nil, or_false, or_self] at hx
  subst hx
  exact ⟨by rw [h1]; exact ⟨by decide, by decide⟩, a_L _ h2⟩
theorem a_H : gGet (putsD tal0 (putsL (oneE ++ oneE))).H (1, 4, 0) = [1] := by decide +kernel
theorem a_sh : shF (putsD tal0 (putsL (oneE ++ oneE))).G (putsD tal0 (putsL (oneE ++ oneE))).H 1 4 2 = some [(1, 1, 5, 5), (4, 1, 5, 10)] := by
  have e : psF (putsD tal0 (putsL (oneE ++ oneE))).H 1 4 = [1] := by
    rw [psF, a_H]
    exact List.mergeSort_singleton _
  rw [shF, e]
  decide +kernel
theorem a_t0 : netF (amsF (putsD tal0 (putsL (oneE ++ oneE))).G (1, 4, 1) 0) [] = (24, 0) := by decide +kernel
theorem a_t2 : netF (amsF (putsD tal0 (putsL (oneE ++ oneE))).G (1, 4, 1) 2) [] = (10, 0) := by decide +kernel
theorem a_i0 : idsF (putsD tal0 (putsL (oneE ++ oneE))).G (1, 4, 1) 0 = [1, 2, 4, 5] := by decide +kernel
theorem a_i2 : idsF (putsD tal0 (putsL (oneE ++ oneE))).G (1, 4, 1) 2 = [1, 4] := by decide +kernel
theorem a_i3 : idsF (putsD tal0 (putsL (oneE ++ oneE))).G (1, 4, 0) 0 = [] := by decide +kernel
theorem a_p9 : prtR (putsD tal0 (putsL (oneE ++ oneE))).G (putsD tal0 (putsL (oneE ++ oneE))).H 1 4 9 = [2] := by decide +kernel
theorem a_p0 : prtR (putsD tal0 (putsL (oneE ++ oneE))).G (putsD tal0 (putsL (oneE ++ oneE))).H 1 4 0 = [] := by decide +kernel
theorem a_n : (putsD tal0 (putsL (oneE ++ oneE))).n = 6 := by decide +kernel
theorem g_awake_ok : g_awake_vc := by
  unfold g_awake_vc
  have s1 : SpOk (1, 4, 1) := ⟨⟨by decide, by decide⟩, ⟨by decide, by decide⟩, by decide, by decide⟩
  have s0 : SpOk (1, 4, 0) := ⟨⟨by decide, by decide⟩, ⟨by decide, by decide⟩, by decide, by decide⟩
  have w1 : WordI 1 := ⟨by decide, by decide⟩
  have w4 : WordI 4 := ⟨by decide, by decide⟩
  have hA := a_A
  unfold oneE at hA
  rw [hA]
  refine ⟨trivial, ⟨by decide, by decide, fun x hx => ?_⟩, trivial, ⟨⟨rfl, rfl⟩, ⟨⟨_, Tells.new oneE⟩, by decide, w1, a_L⟩, by decide⟩, ⟨a_R, s1⟩, ⟨a_R, s1⟩, trivial, ⟨a_R, w1, w4⟩, ?_⟩
  · rw [List.mem_singleton.1 hx]
    exact ⟨w1, a_L⟩
  have r1 := a_sh
  have r2 := a_t0
  have r3 := a_t2
  have r4 := a_i0
  have r5 := a_i2
  have r6 := a_i3
  have r7 := a_p9
  have r8 := a_p0
  have r9 := a_n
  have hR := a_R
  unfold oneE at r1 r2 r3 r4 r5 r6 r7 r8 r9 hR
  simp only [r1, r2, r3, r4, r5, r6, r7, r8, r9, shR]
  refine ⟨fun _ => ⟨fun _ => ⟨⟨by decide, by decide⟩, fun x hx => ?_⟩, fun h => absurd h (by decide)⟩, fun h => absurd h (by decide)⟩
  have hx : some ((4 : Int), (1 : Int), (5 : Int), (10 : Int)) = some x := hx
  cases hx
  have hR6 : TRd ⟨(putsD tal0 (putsL [(1, 0, oneL), (1, 0, oneL)])).G, (putsD tal0 (putsL [(1, 0, oneL), (1, 0, oneL)])).H, 2, 6⟩ := by
    have e : (⟨(putsD tal0 (putsL [(1, 0, oneL), (1, 0, oneL)])).G, (putsD tal0 (putsL [(1, 0, oneL), (1, 0, oneL)])).H, 2, 6⟩ : TD) = { putsD tal0 (putsL (oneE ++ oneE)) with e := 2 } := by
      rw [← a_n]
      rfl
    rw [e]
    exact a_R
  simp [hR6, s1, s0, w1, w4]
set_option maxRecDepth 20000
theorem awake_pure  : Pure Try.prog 10 [] (.bool true) :=
  by have k := Pure.of_cond (g_awake_eq ) (g_awake_ok ) (specs_ok rfl [sp_one, sp_totalB, sp_sheet, sp_ids, sp_sameInts, sp_partners, sp_len, sp_add0] [so_new.upd, so_add'.upd] rfl rfl) mixed Try.func10; exact k
noncomputable def q_awake  : Prop × V := (True, (.bool true))
noncomputable def sp_awake : FSpec Try.prog where
 f := 10
 run := fun
  | [] => some (q_awake )
  | _ => none
 ok := fun args pre r h hp => by
  split at h
  · skip
    exact of_q h hp fun h => (awake_pure ).weak .nil
  · cases h
end Go.Proofs.Yteaajihmfacinaa.Ta
end
section
namespace Go.Proofs.Yteaajihmfacinaa.Ta
open Go.Vm
def NumB : List Po → Nat → Prop
  | [], _ => True
  | x :: r, k => x.1 = ((k + 1 : Nat) : Int) ∧ NumB r (k + 1)
theorem NumB.app : ∀ {A B : List Po} {k : Nat}, NumB A k → NumB B (k + A.length) → NumB (A ++ B) k
  | [], B, k, _, h => by simpa using h
  | x :: r, B, k, h, h2 => by
    refine ⟨h.1, NumB.app h.2 ?_⟩
    rw [List.length_cons] at h2
    rwa [show k + 1 + r.length = k + (r.length + 1) by omega]
theorem num_ln (p i : Int) : ∀ (L : List Ln) (k : Nat), NumB (lnGo p i L k) k
  | [], _ => trivial
  | x :: r, k => ⟨rfl, num_ln p i r (k + 1)⟩
theorem num_po : ∀ (N : List En) (i : Int) (k : Nat), NumB (poGo N i k) k
  | [], _, _ => trivial
  | x :: r, i, k => (num_ln x.1 i x.2.2 k).app (by rw [ln_len]; exact num_po r (i + 1) (k + x.2.2.length))
abbrev rwP (x : Po) : Rw := (x.1, x.2.2.2.2.2.1, x.2.2.2.2.2.2)
theorem rows_of (e a p q : Int) : ∀ (P : List Po) (k : Nat), NumB P k → thoseF (rowsG (P.map puP) (k : Int) (e, a, p)) q = (P.filter (atB e a p q)).map rwP
  | [], _, _ => rfl
  | x :: r, k, h => by
    have ih := rows_of e a p q r (k + 1) h.2
    have h1 := h.1
    rw [List.map_cons, rowsG, show (k : Int) + 1 = ((k + 1 : Nat) : Int) by push_cast; rfl]
    by_cases c : atP (puP x) = (e, a, p)
    · rw [if_pos c]
      simp only [atP, puP, Prod.mk.injEq] at c
      by_cases d : q = 0 ∨ x.2.2.2.2.2.1 = q
      · rw [thoseF, List.filter_cons_of_pos (show byP q (rowP ((k + 1 : Nat) : Int) (puP x)) = true from decide_eq_true d), List.filter_cons_of_pos (by simp [atB, c.1, c.2.1, c.2.2, d]), List.map_cons, ← ih, ← h1]
        rfl
      · rw [thoseF, List.filter_cons_of_neg (show ¬ byP q (rowP ((k + 1 : Nat) : Int) (puP x)) = true from fun hh => d (of_decide_eq_true hh)), List.filter_cons_of_neg (by simp only [atB, decide_eq_true_eq]; exact fun h => d h.2.2.2), ← ih]
        rfl
    · rw [if_neg c, ih, List.filter_cons_of_neg]
      simp only [atB, decide_eq_true_eq]
      exact fun h => c (by simp only [atP, puP, Prod.mk.injEq]; exact ⟨h.1, h.2.1, h.2.2.1⟩)
theorem addsD_few (M : List En) : ∀ (d : TD) (L : List Pu), Tells d L → d.e + M.length ≤ 2000 → Tells (addsD d M) (L ++ putsL M) ∧ (addsD d M).e = d.e + M.length := by
  induction M with
  | nil => intro d L h _; exact ⟨by simpa [addsD, putsL] using h, by simp [addsD]⟩
  | cons x r ih =>
    intro d L h hd
    rw [List.length_cons] at hd
    have e1 : addsD d (x :: r) = addsD (addD d x) r := by
      show addsD (if d.e ≥ 2000 then d else addD d x) r = _
      rw [if_neg (by omega)]
    obtain ⟨a1, a2⟩ := ih (addD d x) _ (h.add x) (by show d.e + 1 + _ ≤ _; omega)
    rw [e1]
    refine ⟨?_, ?_⟩
    · rw [List.append_assoc] at a1
      exact a1
    · rw [a2, List.length_cons]
      show d.e + 1 + _ = _
      push_cast
      omega
theorem few_of {N : List En} (h : few24 N = true) : N.length ≤ 30 ∧ ∀ x ∈ N, x.2.2.length ≤ 60 := by
  unfold few24 at h
  simp only [Bool.and_eq_true, decide_eq_true_eq, Bool.not_eq_true', List.any_eq_false, decide_eq_false_iff_not] at h
  exact ⟨h.1, fun x hx => by have := h.2 x hx; omega⟩
def WN (N : List En) : Prop := ∀ x ∈ N, WordI x.1 ∧ ∀ y ∈ x.2.2, WL y
theorem fw_of {N : List En} (hw : WN N) (h : few24 N = true) : FwE N := ⟨Nat.le_trans (few_of h).1 (by decide), fun x hx => ⟨Nat.le_trans ((few_of h).2 x hx) (by decide), hw x hx⟩⟩
theorem made_tells {N : List En} (n : Int) (h : few24 N = true) : Tells (madeF N n) (putsL N) ∧ (madeF N n).e = N.length := by
  have hl := (few_of h).1
  have hc := cutF_in N n
  obtain ⟨a1, a2⟩ := addsD_few (N.drop (cutF N n).toNat) (newD (N.take (cutF N n).toNat)) _ (Tells.new _) (by
    show ((N.take (cutF N n).toNat).length : Int) + _ ≤ _
    rw [List.length_take, List.length_drop]
    omega)
  rw [← puts_app, List.take_append_drop] at a1
  refine ⟨a1, a2.trans ?_⟩
  show ((N.take (cutF N n).toNat).length : Int) + _ = _
  rw [List.length_take, List.length_drop]
  omega
theorem wn_puts {N : List En} (h : WN N) : ∀ u ∈ putsL N, WordI u.1 ∧ WL u.2 := fun u hu => by
  obtain ⟨x, hx, h1, h2⟩ := puts_mem hu
  exact ⟨by rw [h1]; exact (h x hx).1, (h x hx).2 _ h2⟩
theorem made_rd {N : List En} (n : Int) (hw : WN N) (h : few24 N = true) : TRd ⟨(madeF N n).G, (madeF N n).H, (madeF N n).e, (madeF N n).n⟩ := by
  have ht := (made_tells n h).1
  refine ⟨⟨_, ht, wn_puts hw⟩, ?_⟩
  have h1 := (fw_of hw h).lines
  rw [lines_len] at h1
  have h2 : (madeF N n).n = (putsL N).length := ht.n
  show (madeF N n).n ≤ 20000
  omega
theorem those_made {N : List En} (n : Int) (h : few24 N = true) (e a p q : Int) : thoseF (gGet (madeF N n).G (e, a, p)) q = (rthF N e a p q).map rwP := by
  rw [(made_tells n h).1.rows, ← lines_put]
  exact rows_of e a p q (linesF N) 0 (num_po N 0 0)
theorem ids_made {N : List En} (n : Int) (h : few24 N = true) (e a p q : Int) : idsF (madeF N n).G (e, a, p) q = ridF N e a p q := by
  rw [idsF, those_made n h, List.map_map]
  rfl
theorem ams_made {N : List En} (n : Int) (h : few24 N = true) (e a p q : Int) : amsF (madeF N n).G (e, a, p) q = ramF N e a p q := by
  rw [amsF, those_made n h, List.map_map]
  rfl
theorem mem_lines {N : List En} {u : Pu} : u ∈ putsL N ↔ ∃ x ∈ linesF N, puP x = u := by
  rw [← lines_put]
  exact List.mem_map
theorem per_made {N : List En} (n : Int) (h : few24 N = true) (e a p : Int) : p ∈ gGet (madeF N n).H (e, a, 0) ↔ ∃ x ∈ linesF N, x.2.2.2.1 = e ∧ x.2.2.2.2.1 = a ∧ x.2.2.1 = p := by
  have ht := (made_tells n h).1
  rw [ht.per, ht.mem]
  constructor
  · rintro ⟨u, hu, e1⟩
    obtain ⟨x, hx, rfl⟩ := mem_lines.1 hu
    simp only [atP, puP, Prod.mk.injEq] at e1
    exact ⟨x, hx, e1⟩
  · rintro ⟨x, hx, e1⟩
    exact ⟨puP x, mem_lines.2 ⟨x, hx, rfl⟩, by simp only [atP, puP, Prod.mk.injEq]; exact e1⟩
theorem mem_gen {G : List (Sp × List Rw)} {N : List En} {e a p : Int} (hG : gGet G (e, a, p) = (rthF N e a p 0).map rwP) (y : Int) (c : Int) : y ∈ prtP G e a c p ↔ ∃ x ∈ linesF N, x.2.2.2.1 = e ∧ x.2.2.2.2.1 = a ∧ x.2.2.1 = p ∧ p ≤ c ∧ x.2.2.2.2.2.1 ≠ 0 ∧ x.2.2.2.2.2.1 = y := by
  unfold prtP
  rw [hG]
  simp only [List.mem_map, List.mem_filter, decide_eq_true_eq, rthF, atB]
  constructor
  · rintro ⟨r, ⟨⟨x, ⟨hx, h1⟩, rfl⟩, h2⟩, rfl⟩
    exact ⟨x, hx, h1.1, h1.2.1, h1.2.2.1, h2.1, h2.2, rfl⟩
  · rintro ⟨x, hx, h1, h2, h3, h4, h5, rfl⟩
    exact ⟨_, ⟨⟨x, ⟨hx, h1, h2, h3, .inl trivial⟩, rfl⟩, h4, h5⟩, rfl⟩
theorem those_all (l : List Rw) : thoseF l 0 = l := List.filter_eq_self.2 fun r _ => by simp [byP]
theorem rows_made {N : List En} (n : Int) (h : few24 N = true) (e a p : Int) : gGet (madeF N n).G (e, a, p) = (rthF N e a p 0).map rwP := by
  have := those_made n h e a p 0
  rwa [those_all] at this
theorem prt_made {N : List En} (n : Int) (h : few24 N = true) (e a c : Int) : prtR (madeF N n).G (madeF N n).H e a c = rprF (linesF N) e a c := by
  unfold prtR rprF
  refine rises_ext (rises_fold List.Pairwise.nil) (rises_fold List.Pairwise.nil) fun y => ?_
  rw [mem_fold, mem_fold]
  simp only [List.not_mem_nil, false_or, prtG, List.mem_flatMap, List.mem_map, List.mem_filter, upB, decide_eq_true_eq]
  constructor
  · rintro ⟨p, hp, hy⟩
    obtain ⟨x, hx, h1, h2, h3, h4, h5, h6⟩ := (mem_gen (rows_made n h e a p) y c).1 hy
    exact ⟨x, ⟨hx, h1, h2, by omega, h5⟩, h6⟩
  · rintro ⟨x, ⟨hx, h1, h2, h3, h4⟩, rfl⟩
    exact ⟨x.2.2.1, (per_made n h e a _).2 ⟨x, hx, h1, h2, rfl⟩, (mem_gen (rows_made n h e a _) _ c).2 ⟨x, hx, h1, h2, rfl, h3, h4, rfl⟩⟩
theorem flat_filter {α β : Type} (g : α → List β) (P : α → Bool) : ∀ (l : List α), (∀ x ∈ l, P x = false → g x = []) → (l.filter P).flatMap g = l.flatMap g
  | [], _ => rfl
  | x :: r, h => by
    have ih := flat_filter g P r fun y hy => h y (List.mem_cons_of_mem _ hy)
    by_cases c : P x = true
    · rw [List.filter_cons_of_pos c, List.flatMap_cons, List.flatMap_cons, ih]
    · rw [List.filter_cons_of_neg c, List.flatMap_cons, h x List.mem_cons_self (by simpa using c), List.nil_append, ih]
theorem sort_rises {l : List Int} (h : l.Nodup) : Rises (sortF l) := by
  have h1 : (sortF l).Pairwise (fun x y => decide (x ≤ y) = true) := List.pairwise_mergeSort (fun a b c h1 h2 => by simp at *; omega) (fun a b => by simp; omega) l
  have h2 : (sortF l).Nodup := (List.mergeSort_perm l _).nodup_iff.2 h
  show (sortF l).Pairwise (· < ·)
  refine List.Pairwise.imp (fun {a b} h => ?_) (h1.and h2)
  have h3 := h.1
  have h4 := h.2
  simp only [decide_eq_true_eq] at h3
  omega
theorem perN_rises (N : List En) : (perN N).Pairwise (· < ·) := rises_fold List.Pairwise.nil
theorem ps_made {N : List En} (n : Int) (h : few24 N = true) (e a : Int) : psF (madeF N n).H e a = (perN N).filter fun p => decide (p ∈ gGet (madeF N n).H (e, a, 0)) := by
  have ht := (made_tells n h).1
  refine rises_ext (sort_rises (by rw [ht.per]; exact ht.nd e a)) (List.Pairwise.filter _ (perN_rises N)) fun p => ?_
  rw [psF, sortF, (List.mergeSort_perm _ _).mem_iff, List.mem_filter, decide_eq_true_eq]
  refine ⟨fun hp => ⟨?_, hp⟩, fun hp => hp.2⟩
  obtain ⟨x, hx, _, _, h3⟩ := (per_made n h e a p).1 hp
  have hu : puP x ∈ putsL N := mem_lines.2 ⟨x, hx, rfl⟩
  obtain ⟨en, he, h1, _⟩ := puts_mem hu
  rw [perN, mem_fold]
  exact .inr (List.mem_map.2 ⟨en, he, by rw [← h3]; exact h1.symm⟩)
theorem sh_made {N : List En} (n : Int) (h : few24 N = true) (e a q : Int) : shF (madeF N n).G (madeF N n).H e a q = rsF N e a q := by
  have e1 : ∀ p, shP (madeF N n).G e a q p = rzP N e a q p := fun p => by
    rw [shP, those_made n h, List.map_map]
    rfl
  unfold shF rsF
  congr 1
  unfold shZ rZ
  rw [ps_made n h]
  simp only [e1]
  refine flat_filter _ _ _ fun p _ hp => ?_
  have hp : p ∉ gGet (madeF N n).H (e, a, 0) := by simpa using hp
  unfold rzP rthF
  rw [List.filter_eq_nil_iff.2 fun x hx hx2 => hp ((per_made n h e a p).2 ⟨x, hx, ?_⟩)]
  · rfl
  · simp only [atB, decide_eq_true_eq] at hx2
    exact ⟨hx2.1, hx2.2.1, hx2.2.2.1⟩
end Go.Proofs.Yteaajihmfacinaa.Ta
end
section
namespace Go.Proofs.Yteaajihmfacinaa.Ta
open Go.Vm
def NIn (N : List En) : Prop := NOk N
theorem NIn.wn {N : List En} (h : NIn N) : WN N := h.2.2
theorem shGo_len : ∀ (Z : List (Int × Rw)) (s : Int) (l : List Ro), shGo Z s = some l → l.length = Z.length
  | [], s, l, h => by cases h; rfl
  | (p, r) :: t, s, l, h => by
    rw [shGo] at h
    split at h
    · obtain ⟨m, h1, rfl⟩ := Option.map_eq_some_iff.1 h
      rw [List.length_cons, List.length_cons, shGo_len t _ m h1]
    · cases h
theorem rZ_len {N : List En} (h : FwE N) (e a q : Int) : ∀ ps : List Int, (rZ N e a q ps).length ≤ 10000 * ps.length
  | [] => by simp [rZ]
  | p :: r => by
    have h1 := rZ_len h e a q r
    have h2 := h.those e a p q
    rw [show rZ N e a q (p :: r) = rzP N e a q p ++ rZ N e a q r from rfl, List.length_append, List.length_cons, rzP, List.length_map]
    omega
theorem sh_len {N : List En} (h : FwE N) (e a q : Int) : (shR (rsF N e a q)).1.length ≤ 1000000 := by
  match hr : rsF N e a q with
  | none => simp [shR]
  | some l =>
    have h1 := shGo_len _ _ _ hr
    have h2 := rZ_len h e a q (perN N)
    have h3 := len_fold (m := N.map (·.1)) (l := [])
    rw [List.length_map, List.length_nil] at h3
    have h4 : (perN N).length ≤ 0 + N.length := h3
    have h5 := h.1
    show l.length ≤ _
    omega
set_option maxRecDepth 20000
end Go.Proofs.Yteaajihmfacinaa.Ta
end
