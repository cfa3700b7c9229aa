/-
  Partners, Sheet.
-/
import Derived.Test.YteaajihmfacinaaTa10
namespace Go.Proofs.Yteaajihmfacinaa.Ta
open Go.Vm
def prtP (G : List (Sp × List Rw)) (e a c p : Int) : List Int := ((gGet G (e, a, p)).filter fun r => decide (p ≤ c ∧ r.2.1 ≠ 0)).map (·.2.1)
def prtG (G : List (Sp × List Rw)) (e a c : Int) (ps : List Int) : List Int := ps.flatMap fun p => prtP G e a c p
theorem TRd.per {d : TD} (h : TRd d) (e a : Int) {p : Int} (hp : p ∈ gGet d.H (e, a, 0)) : WordI p := by
  obtain ⟨⟨L, hT, hw⟩, _⟩ := h
  rw [hT.per, hT.mem] at hp
  obtain ⟨u, hu, he⟩ := hp
  have := (hw u hu).1
  simp only [atP, Prod.mk.injEq] at he
  rwa [← he.2.2]
theorem prtG_next (G : List (Sp × List Rw)) (e a c : Int) {ps : List Int} {i p : Int} (h0 : 0 ≤ i) (hp : ps[i.toNat]? = some p) : prtG G e a c (ps.take (i + 1).toNat) = prtG G e a c (ps.take i.toNat) ++ prtP G e a c p := by
  rw [take_next h0 hp, prtG, List.flatMap_append]
  simp [prtG]
def prtK (G : List (Sp × List Rw)) (e a c p k : Int) : List Int := (((gGet G (e, a, p)).take k.toNat).filter fun r => decide (p ≤ c ∧ r.2.1 ≠ 0)).map (·.2.1)
theorem sortF_eq (l : List Int) : (l.mergeSort fun x y => decide (x ≤ y)) = sortF l := rfl
def prtR (G : List (Sp × List Rw)) (H : List (Sp × List Int)) (e a c : Int) : List Int := (prtG G e a c (gGet H (e, a, 0))).foldl withF []
noncomputable def env_partners (G : List (Sp × List Rw)) (H : List (Sp × List Int)) (e n a b c : Int) : Env where
  P := Try.prog
  ty := tys0
  specs := specsOf [sp_tmade]
  upd := updsOf [sp_sort, sp_compact]
  heads := fun
    | 5 => some { slots := [(26, .int .i64), (9, .slc 9000 I)], boxes := [], inv := fun _ (x : Int × List Int × Unit) => 0 ≤ x.1 ∧ x.1 ≤ (gGet H (a, b, 0)).length ∧ (x.2.1.length : Int) ≤ 20000 * x.1 ∧ x.2.1 = prtG G a b c ((gGet H (a, b, 0)).take x.1.toNat), measure := fun _ (x : Int × List Int × Unit) => ((gGet H (a, b, 0)).length - x.1).toNat }
    | 8 => some { slots := [(40, .int .i64), (9, .slc 9000 I)], boxes := [], inv := fun st (x : Int × List Int × Unit) => (gGet H (a, b, 0))[(st.int 26).toNat]? = some (st.int 11) ∧ 0 ≤ st.int 26 ∧ st.int 26 < (gGet H (a, b, 0)).length ∧ 0 ≤ x.1 ∧ x.1 ≤ (gGet G (a, b, st.int 11)).length ∧ (x.2.1.length : Int) ≤ 20000 * st.int 26 + x.1 ∧ x.2.1 = prtG G a b c ((gGet H (a, b, 0)).take (st.int 26).toNat) ++ prtK G a b c (st.int 11) x.1, measure := fun st (x : Int × List Int × Unit) => ((gGet G (a, b, st.int 11)).length - x.1).toNat }
    | _ => none
def g_partners_vc (G : List (Sp × List Rw)) (H : List (Sp × List Int)) (e : Int) (n : Int) (a : Int) (b : Int) (c : Int) : Prop :=
  True ∧ ((!true) = true → ([], ()) = (prtR G H a b c, ())) ∧ ((!true) = false → SpOk (a, b, (0 : Int)) ∧ (True ∧ (0 : Int) ≤ (0 : Int) ∧ (0 : Int) ≤ (↑(gGet H (a, b, (0 : Int))).length : Int) ∧ (↑(0 : Nat) : Int) ≤ (20000 : Int) * (0 : Int) ∧ [] = prtG G a b c (List.take (Int.toNat (0 : Int)) (gGet H (a, b, (0 : Int))))) ∧ ∀ (x : Int × List Int × Unit), (0 : Int) ≤ x.1 ∧ x.1 ≤ (↑(gGet H (a, b, (0 : Int))).length : Int) ∧ (↑x.2.1.length : Int) ≤ (20000 : Int) * x.1 ∧ x.2.1 = prtG G a b c (List.take x.1.toNat (gGet H (a, b, (0 : Int)))) → (decide (x.1 < (↑(gGet H (a, b, (0 : Int))).length : Int)) = true → ((0 : Int) ≤ x.1 ∧ x.1 < (↑(gGet H (a, b, (0 : Int))).length : Int)) ∧ ∀ (x_1 : Int), (gGet H (a, b, (0 : Int)))[x.1.toNat]? = some x_1 → SpOk (a, b, x_1) ∧ (True ∧ (gGet H (a, b, (0 : Int)))[x.1.toNat]? = some x_1 ∧ (0 : Int) ≤ x.1 ∧ x.1 < (↑(gGet H (a, b, (0 : Int))).length : Int) ∧ (0 : Int) ≤ (0 : Int) ∧ (0 : Int) ≤ (↑(gGet G (a, b, x_1)).length : Int) ∧ (↑x.2.1.length : Int) ≤ (20000 : Int) * x.1 + (0 : Int) ∧ x.2.1 = prtG G a b c (List.take x.1.toNat (gGet H (a, b, (0 : Int)))) ++ prtK G a b c x_1 (0 : Int)) ∧ ∀ (x_2 : Int × List Int × Unit), (gGet H (a, b, (0 : Int)))[x.1.toNat]? = some x_1 ∧ (0 : Int) ≤ x.1 ∧ x.1 < (↑(gGet H (a, b, (0 : Int))).length : Int) ∧ (0 : Int) ≤ x_2.1 ∧ x_2.1 ≤ (↑(gGet G (a, b, x_1)).length : Int) ∧ (↑x_2.2.1.length : Int) ≤ (20000 : Int) * x.1 + x_2.1 ∧ x_2.2.1 = prtG G a b c (List.take x.1.toNat (gGet H (a, b, (0 : Int)))) ++ prtK G a b c x_1 x_2.1 → (decide (x_2.1 < (↑(gGet G (a, b, x_1)).length : Int)) = true → ((0 : Int) ≤ x_2.1 ∧ x_2.1 < (↑(gGet G (a, b, x_1)).length : Int)) ∧ ∀ (x_3 : Int × Int × Int), (gGet G (a, b, x_1))[x_2.1.toNat]? = some x_3 → (decide (x_1 ≤ c) = true → ((!decide (x_3.2.1 = (0 : Int))) = true → ((x_2.2.1.length + (1 : Nat)) * (8 : Nat) ≤ (140737488355328 : Nat) ∧ x_2.2.1.length + (1 : Nat) ≤ (4611686018427387904 : Nat)) ∧ ((-9223372036854775808 : Int) ≤ x_2.1 + (1 : Int) ∧ x_2.1 + (1 : Int) ≤ (9223372036854775807 : Int)) ∧ True ∧ ((gGet H (a, b, (0 : Int)))[x.1.toNat]? = some x_1 ∧ (0 : Int) ≤ x.1 ∧ x.1 < (↑(gGet H (a, b, (0 : Int))).length : Int) ∧ (0 : Int) ≤ x_2.1 + (1 : Int) ∧ x_2.1 + (1 : Int) ≤ (↑(gGet G (a, b, x_1)).length : Int) ∧ (↑(x_2.2.1 ++ [x_3.2.1]).length : Int) ≤ (20000 : Int) * x.1 + (x_2.1 + (1 : Int)) ∧ x_2.2.1 ++ [x_3.2.1] = prtG G a b c (List.take x.1.toNat (gGet H (a, b, (0 : Int)))) ++ prtK G a b c x_1 (x_2.1 + (1 : Int))) ∧ ((↑(gGet G (a, b, x_1)).length : Int) - (x_2.1 + (1 : Int))).toNat < ((↑(gGet G (a, b, x_1)).length : Int) - x_2.1).toNat) ∧ ((!decide (x_3.2.1 = (0 : Int))) = false → ((-9223372036854775808 : Int) ≤ x_2.1 + (1 : Int) ∧ x_2.1 + (1 : Int) ≤ (9223372036854775807 : Int)) ∧ True ∧ ((gGet H (a, b, (0 : Int)))[x.1.toNat]? = some x_1 ∧ (0 : Int) ≤ x.1 ∧ x.1 < (↑(gGet H (a, b, (0 : Int))).length : Int) ∧ (0 : Int) ≤ x_2.1 + (1 : Int) ∧ x_2.1 + (1 : Int) ≤ (↑(gGet G (a, b, x_1)).length : Int) ∧ (↑x_2.2.1.length : Int) ≤ (20000 : Int) * x.1 + (x_2.1 + (1 : Int)) ∧ x_2.2.1 = prtG G a b c (List.take x.1.toNat (gGet H (a, b, (0 : Int)))) ++ prtK G a b c x_1 (x_2.1 + (1 : Int))) ∧ ((↑(gGet G (a, b, x_1)).length : Int) - (x_2.1 + (1 : Int))).toNat < ((↑(gGet G (a, b, x_1)).length : Int) - x_2.1).toNat)) ∧ (decide (x_1 ≤ c) = !true → ((-9223372036854775808 : Int) ≤ x_2.1 + (1 : Int) ∧ x_2.1 + (1 : Int) ≤ (9223372036854775807 : Int)) ∧ True ∧ ((gGet H (a, b, (0 : Int)))[x.1.toNat]? = some x_1 ∧ (0 : Int) ≤ x.1 ∧ x.1 < (↑(gGet H (a, b, (0 : Int))).length : Int) ∧ (0 : Int) ≤ x_2.1 + (1 : Int) ∧ x_2.1 + (1 : Int) ≤ (↑(gGet G (a, b, x_1)).length : Int) ∧ (↑x_2.2.1.length : Int) ≤ (20000 : Int) * x.1 + (x_2.1 + (1 : Int)) ∧ x_2.2.1 = prtG G a b c (List.take x.1.toNat (gGet H (a, b, (0 : Int)))) ++ prtK G a b c x_1 (x_2.1 + (1 : Int))) ∧ ((↑(gGet G (a, b, x_1)).length : Int) - (x_2.1 + (1 : Int))).toNat < ((↑(gGet G (a, b, x_1)).length : Int) - x_2.1).toNat)) ∧ (decide (x_2.1 < (↑(gGet G (a, b, x_1)).length : Int)) = false → ((-9223372036854775808 : Int) ≤ x.1 + (1 : Int) ∧ x.1 + (1 : Int) ≤ (9223372036854775807 : Int)) ∧ True ∧ ((0 : Int) ≤ x.1 + (1 : Int) ∧ x.1 + (1 : Int) ≤ (↑(gGet H (a, b, (0 : Int))).length : Int) ∧ (↑x_2.2.1.length : Int) ≤ (20000 : Int) * (x.1 + (1 : Int)) ∧ x_2.2.1 = prtG G a b c (List.take (x.1 + (1 : Int)).toNat (gGet H (a, b, (0 : Int))))) ∧ ((↑(gGet H (a, b, (0 : Int))).length : Int) - (x.1 + (1 : Int))).toNat < ((↑(gGet H (a, b, (0 : Int))).length : Int) - x.1).toNat)) ∧ (decide (x.1 < (↑(gGet H (a, b, (0 : Int))).length : Int)) = false → x.2.1.length ≤ (1000000000 : Nat) ∧ (x.2.1.mergeSort fun x y => decide (x ≤ y)).length ≤ (1000000000 : Nat) ∧ (List.take (Lib.compact (x.2.1.mergeSort fun x y => decide (x ≤ y))).length (List.drop (0 : Nat) (Lib.compact (x.2.1.mergeSort fun x y => decide (x ≤ y)) ++ List.replicate ((x.2.1.mergeSort fun x y => decide (x ≤ y)).length - (Lib.compact (x.2.1.mergeSort fun x y => decide (x ≤ y))).length) (0 : Int))), ()) = (prtR G H a b c, ())))
theorem g_partners_eq (G : List (Sp × List Rw)) (H : List (Sp × List Int)) (e n a b c : Int) : Cond (env_partners G H e n a b c) Try.f20 [.fptr [.fopq .grw (G, none), .fopq .gpe (H, none), .int .i64 e, .int .i64 n], .int .i64 a, .int .i64 b, .int .i64 c] [.list .part I] (prtR G H a b c, ()) = g_partners_vc G H e n a b c := by kernel_rfl
theorem g_partners_ok (G : List (Sp × List Rw)) (H : List (Sp × List Int)) (e n a b c : Int) (h : TRd ⟨G, H, e, n⟩ ∧ WordI a ∧ WordI b) : g_partners_vc G H e n a b c := by
  obtain ⟨hT, ha, hb⟩ := h
  have hz : WordI 0 := ⟨by decide, by decide⟩
  have hps := fun p hp => hT.per a b (p := p) hp
  have hpl := hT.plen a b
  have hrl := fun p => hT.len (a, b, p)
  dsimp only at hps hpl hrl
  unfold g_partners_vc prtR
  simp only [decide_eq_true_eq, decide_eq_false_iff_not, Bool.not_eq_true', Bool.not_eq_false', Bool.not_true, Bool.not_false]
  generalize gGet H (a, b, 0) = ps at hps hpl ⊢
  refine ⟨trivial, (fun h => by cases h), fun _ => ⟨⟨ha, hb, hz⟩, ⟨trivial, by omega, by omega, by simp, rfl⟩, ?_⟩⟩
  rintro ⟨i, out, ⟨⟩⟩ ⟨h0, h1, h2, h3⟩
  dsimp only at h0 h1 h2 h3 ⊢
  refine ⟨fun c1 => ⟨⟨h0, c1⟩, fun p hp => ⟨⟨ha, hb, hps p (List.mem_of_getElem? hp)⟩, ⟨trivial, hp, h0, c1, by omega, by omega, by omega, by rw [h3]; simp [prtK]⟩, ?_⟩⟩, fun c1 => ?_⟩
  · have hrp := hrl p
    rintro ⟨k, ou, ⟨⟩⟩ ⟨_, _, _, k0, k1, k2, k3⟩
    dsimp only at k0 k1 k2 k3 ⊢
    refine ⟨fun c2 => ⟨⟨k0, c2⟩, fun y hy => ?_⟩, fun c2 => ?_⟩
    · have hn : prtK G a b c p (k + 1) = prtK G a b c p k ++ if p ≤ c ∧ y.2.1 ≠ 0 then [y.2.1] else [] := by
        unfold prtK
        rw [take_next k0 hy, List.filter_append, List.map_append]
        by_cases hq : p ≤ c ∧ y.2.1 ≠ 0
        · rw [List.filter_cons_of_pos (by simpa using hq), if_pos hq]
          rfl
        · rw [List.filter_cons_of_neg (by simpa using hq), if_neg hq]
          rfl
      refine ⟨fun d1 => ⟨fun d2 => ⟨by omega, by omega, trivial, ⟨hp, h0, c1, by omega, by omega, by simp only [List.length_append, List.length_singleton]; omega, ?_⟩, by omega⟩, fun d2 => ⟨by omega, trivial, ⟨hp, h0, c1, by omega, by omega, by omega, ?_⟩, by omega⟩⟩, fun d1 => ⟨by omega, trivial, ⟨hp, h0, c1, by omega, by omega, by omega, ?_⟩, by omega⟩⟩
      · rw [hn, if_pos ⟨d1, d2⟩, k3, List.append_assoc]
      · rw [hn, if_neg (fun q => q.2 d2), k3, List.append_nil]
      · rw [hn, if_neg (fun q => d1 q.1), k3, List.append_nil]
    · refine ⟨by omega, trivial, ⟨by omega, by omega, by omega, ?_⟩, by omega⟩
      rw [prtG_next G a b c h0 hp, k3, prtK, take_all c2]
      rfl
  · have e : ps.take i.toNat = ps := take_all c1
    rw [e] at h3
    refine ⟨by omega, by rw [List.length_mergeSort]; omega, ?_⟩
    rw [sortF_eq, compact_sort, List.drop_zero, List.take_left' rfl, h3]
set_option maxRecDepth 20000
theorem partners_pure (G : List (Sp × List Rw)) (H : List (Sp × List Int)) (e n a b c : Int) (h : TRd ⟨G, H, e, n⟩ ∧ WordI a ∧ WordI b) : Pure Try.prog 20 [.fptr [.fopq .grw (G, none), .fopq .gpe (H, none), .int .i64 e, .int .i64 n], .int .i64 a, .int .i64 b, .int .i64 c] (.list .part I (prtR G H a b c)) :=
  by have k := Pure.of_cond (g_partners_eq G H e n a b c) (g_partners_ok G H e n a b c h) (specs_ok rfl [sp_tmade] [sp_sort, sp_compact] rfl rfl) mixed Try.func20; exact k
noncomputable def q_partners (G : List (Sp × List Rw)) (H : List (Sp × List Int)) (e n a b c : Int) : Prop × V := (TRd ⟨G, H, e, n⟩ ∧ WordI a ∧ WordI b, (.list .part I (prtR G H a b c)))
noncomputable def sp_partners : FSpec Try.prog where
 f := 20
 run := fun
  | [.fptr [.fopq .grw (G, none), .fopq .gpe (H, none), .int .i64 e, .int .i64 n], .int .i64 a, .int .i64 b, .int .i64 c] => some (q_partners G H e n a b c)
  | _ => none
 ok := fun args pre r h hp => by
  split at h
  · rename_i G H e n a b c
    exact of_q h hp fun h => (partners_pure G H e n a b c h).weak (.cons (.refl _) (.cons (.refl _) (.cons (.refl _) (.cons (.refl _) .nil))))
  · cases h
abbrev Ro := Int × Int × Int × Int
def shGo : List (Int × Rw) → Int → Option (List Ro)
  | [], _ => some []
  | (p, r) :: t, s => if -9223372036854775808 ≤ s + r.2.2 ∧ s + r.2.2 ≤ 9223372036854775807 then (shGo t (s + r.2.2)).map fun l => (r.1, p, r.2.2, s + r.2.2) :: l else none
def shP (G : List (Sp × List Rw)) (e a q p : Int) : List (Int × Rw) := (thoseF (gGet G (e, a, p)) q).map fun r => (p, r)
def shZ (G : List (Sp × List Rw)) (e a q : Int) (ps : List Int) : List (Int × Rw) := ps.flatMap fun p => shP G e a q p
def shR : Option (List Ro) → List Ro × Int
  | some l => (l, 0)
  | none => ([], 10)
def psF (H : List (Sp × List Int)) (e a : Int) : List Int := sortF (gGet H (e, a, 0))
def shF (G : List (Sp × List Rw)) (H : List (Sp × List Int)) (e a q : Int) : Option (List Ro) := shGo (shZ G e a q (psF H e a)) 0
def ShI (G : List (Sp × List Rw)) (H : List (Sp × List Int)) (e a q : Int) (rest : List (Int × Rw)) (s : Int) (out : List Ro) : Prop := shF G H e a q = (shGo rest s).map fun l => out ++ l
theorem drop_next {α : Type} {l : List α} {i : Int} {x : α} (h0 : 0 ≤ i) (hx : l[i.toNat]? = some x) : l.drop i.toNat = x :: l.drop (i + 1).toNat := by
  obtain ⟨h1, h2⟩ := List.getElem?_eq_some_iff.1 hx
  rw [List.drop_eq_getElem_cons h1, h2, show (i + 1).toNat = i.toNat + 1 by omega]
theorem rowsG_of : ∀ (L : List Pu) (n : Int) (k : Sp) (r : Rw), r ∈ rowsG L n k → ∃ u ∈ L, r.2 = (u.2.2.2.1, u.2.2.2.2)
  | [], n, k, r, h => by cases h
  | u :: t, n, k, r, h => by
    rw [rowsG] at h
    split at h
    · rcases List.mem_cons.1 h with rfl | h
      · exact ⟨u, by simp, rfl⟩
      · obtain ⟨v, hv, e⟩ := rowsG_of t _ k r h
        exact ⟨v, List.mem_cons_of_mem _ hv, e⟩
    · obtain ⟨v, hv, e⟩ := rowsG_of t _ k r h
      exact ⟨v, List.mem_cons_of_mem _ hv, e⟩
theorem TRd.ams {d : TD} (h : TRd d) (k : Sp) (q : Int) : ∀ r ∈ thoseF (gGet d.G k) q, InI r.2.2 := fun r hr => by
  obtain ⟨⟨L, hT, hw⟩, _⟩ := h
  have hr := (List.mem_filter.1 hr).1
  rw [hT.rows] at hr
  obtain ⟨u, hu, e⟩ := rowsG_of L 0 k r hr
  rw [e]
  exact (hw u hu).2.2.2.2
noncomputable def env_sheet (G : List (Sp × List Rw)) (H : List (Sp × List Int)) (e n a b q : Int) : Env where
  P := Try.prog
  ty := tys0
  specs := specsOf [sp_tmade, sp_those, sp_nadd]
  upd := updsOf [so_values.upd, so_sorted.upd]
  frz := fun | 44 => true | _ => false
  heads := fun
    | 7 => some { slots := [(34, .int .i64), (12, .int .i64), (11, .slc 9000 RoT), (32, .slc 9001 I)], boxes := [], drop := [10, 30, 31], inv := fun _ (x : Int × Int × List Ro × List Int × Unit) => x.2.2.2.1 = psF H a b ∧ 0 ≤ x.1 ∧ x.1 ≤ (psF H a b).length ∧ InI x.2.1 ∧ (x.2.2.1.length : Int) ≤ 20000 * x.1 ∧ ShI G H a b q (shZ G a b q ((psF H a b).drop x.1.toNat)) x.2.1 x.2.2.1, measure := fun _ (x : Int × Int × List Ro × List Int × Unit) => ((psF H a b).length - x.1).toNat }
    | 10 => some { slots := [(46, .int .i64), (12, .int .i64), (11, .slc 9000 RoT)], boxes := [], keep := [9001], inv := fun st (x : Int × Int × List Ro × Unit) => (psF H a b)[(st.int 34).toNat]? = some (st.int 14) ∧ 0 ≤ st.int 34 ∧ st.int 34 < (psF H a b).length ∧ 0 ≤ x.1 ∧ x.1 ≤ (thoseF (gGet G (a, b, st.int 14)) q).length ∧ InI x.2.1 ∧ (x.2.2.1.length : Int) ≤ 20000 * st.int 34 + x.1 ∧ ShI G H a b q ((shP G a b q (st.int 14)).drop x.1.toNat ++ shZ G a b q ((psF H a b).drop (st.int 34 + 1).toNat)) x.2.1 x.2.2.1, measure := fun st (x : Int × Int × List Ro × Unit) => ((thoseF (gGet G (a, b, st.int 14)) q).length - x.1).toNat }
    | _ => none
def g_sheet_vc (G : List (Sp × List Rw)) (H : List (Sp × List Int)) (e : Int) (n : Int) (a : Int) (b : Int) (q : Int) : Prop :=
  True ∧ ((!true) = true → ([], (1 : Int), ()) = ((shR (shF G H a b q)).1, (shR (shF G H a b q)).2, ())) ∧ ((!true) = false → SpOk (a, b, (0 : Int)) ∧ True ∧ (gGet H (a, b, (0 : Int))).length ≤ (1000000000 : Nat) ∧ (True ∧ ((gGet H (a, b, (0 : Int))).mergeSort fun x y => decide (x ≤ y)) = psF H a b ∧ (0 : Int) ≤ (0 : Int) ∧ (0 : Int) ≤ (↑(psF H a b).length : Int) ∧ InI (0 : Int) ∧ (↑(0 : Nat) : Int) ≤ (20000 : Int) * (0 : Int) ∧ ShI G H a b q (shZ G a b q (List.drop (Int.toNat (0 : Int)) (psF H a b))) (0 : Int) []) ∧ ∀ (x : Int × Int × List (Int × Int × Int × Int) × List Int × Unit), x.2.2.2.1 = psF H a b ∧ (0 : Int) ≤ x.1 ∧ x.1 ≤ (↑(psF H a b).length : Int) ∧ InI x.2.1 ∧ (↑x.2.2.1.length : Int) ≤ (20000 : Int) * x.1 ∧ ShI G H a b q (shZ G a b q (List.drop x.1.toNat (psF H a b))) x.2.1 x.2.2.1 → (decide (x.1 < (↑((gGet H (a, b, (0 : Int))).mergeSort fun x y => decide (x ≤ y)).length : Int)) = true → ((0 : Int) ≤ x.1 ∧ x.1 < (↑x.2.2.2.1.length : Int)) ∧ x.1.toNat < x.2.2.2.1.length ∧ ∀ (x_1 : Int), x.2.2.2.1[x.1.toNat]? = some x_1 → (TRd { G := G, H := H, e := e, n := n } ∧ SpOk (a, b, x_1)) ∧ ((some (Obj.arr (0 : Nat) I x.2.2.2.1) = some (Obj.arr (0 : Nat) I x.2.2.2.1) ∧ True) ∧ (psF H a b)[x.1.toNat]? = some x_1 ∧ (0 : Int) ≤ x.1 ∧ x.1 < (↑(psF H a b).length : Int) ∧ (0 : Int) ≤ (0 : Int) ∧ (0 : Int) ≤ (↑(thoseF (gGet G (a, b, x_1)) q).length : Int) ∧ InI x.2.1 ∧ (↑x.2.2.1.length : Int) ≤ (20000 : Int) * x.1 + (0 : Int) ∧ ShI G H a b q (List.drop (Int.toNat (0 : Int)) (shP G a b q x_1) ++ shZ G a b q (List.drop (x.1 + (1 : Int)).toNat (psF H a b))) x.2.1 x.2.2.1) ∧ ∀ (x_2 : Int × Int × List (Int × Int × Int × Int) × Unit), (psF H a b)[x.1.toNat]? = some x_1 ∧ (0 : Int) ≤ x.1 ∧ x.1 < (↑(psF H a b).length : Int) ∧ (0 : Int) ≤ x_2.1 ∧ x_2.1 ≤ (↑(thoseF (gGet G (a, b, x_1)) q).length : Int) ∧ InI x_2.2.1 ∧ (↑x_2.2.2.1.length : Int) ≤ (20000 : Int) * x.1 + x_2.1 ∧ ShI G H a b q (List.drop x_2.1.toNat (shP G a b q x_1) ++ shZ G a b q (List.drop (x.1 + (1 : Int)).toNat (psF H a b))) x_2.2.1 x_2.2.2.1 → (decide (x_2.1 < (↑(thoseF (gGet G (a, b, x_1)) q).length : Int)) = true → ((0 : Int) ≤ x_2.1 ∧ x_2.1 < (↑(thoseF (gGet G (a, b, x_1)) q).length : Int)) ∧ ∀ (x_3 : Int × Int × Int), (thoseF (gGet G (a, b, x_1)) q)[x_2.1.toNat]? = some x_3 → (InI x_2.2.1 ∧ InI x_3.2.2) ∧ ((!decide ((addF x_2.2.1 x_3.2.2).2 = (0 : Int))) = true → ([], (addF x_2.2.1 x_3.2.2).2, ()) = ((shR (shF G H a b q)).1, (shR (shF G H a b q)).2, ())) ∧ ((!decide ((addF x_2.2.1 x_3.2.2).2 = (0 : Int))) = false → ((x_2.2.2.1.length + (1 : Nat)) * (32 : Nat) ≤ (140737488355328 : Nat) ∧ x_2.2.2.1.length + (1 : Nat) ≤ (4611686018427387904 : Nat)) ∧ ((-9223372036854775808 : Int) ≤ x_2.1 + (1 : Int) ∧ x_2.1 + (1 : Int) ≤ (9223372036854775807 : Int)) ∧ (some (Obj.arr (0 : Nat) I x.2.2.2.1) = some (Obj.arr (0 : Nat) I x.2.2.2.1) ∧ True) ∧ ((psF H a b)[x.1.toNat]? = some x_1 ∧ (0 : Int) ≤ x.1 ∧ x.1 < (↑(psF H a b).length : Int) ∧ (0 : Int) ≤ x_2.1 + (1 : Int) ∧ x_2.1 + (1 : Int) ≤ (↑(thoseF (gGet G (a, b, x_1)) q).length : Int) ∧ InI (addF x_2.2.1 x_3.2.2).1 ∧ (↑(x_2.2.2.1 ++ [(x_3.1, x_1, x_3.2.2, (addF x_2.2.1 x_3.2.2).1)]).length : Int) ≤ (20000 : Int) * x.1 + (x_2.1 + (1 : Int)) ∧ ShI G H a b q (List.drop (x_2.1 + (1 : Int)).toNat (shP G a b q x_1) ++ shZ G a b q (List.drop (x.1 + (1 : Int)).toNat (psF H a b))) (addF x_2.2.1 x_3.2.2).1 (x_2.2.2.1 ++ [(x_3.1, x_1, x_3.2.2, (addF x_2.2.1 x_3.2.2).1)])) ∧ ((↑(thoseF (gGet G (a, b, x_1)) q).length : Int) - (x_2.1 + (1 : Int))).toNat < ((↑(thoseF (gGet G (a, b, x_1)) q).length : Int) - x_2.1).toNat)) ∧ (decide (x_2.1 < (↑(thoseF (gGet G (a, b, x_1)) q).length : Int)) = false → ((-9223372036854775808 : Int) ≤ x.1 + (1 : Int) ∧ x.1 + (1 : Int) ≤ (9223372036854775807 : Int)) ∧ True ∧ (x.2.2.2.1 = psF H a b ∧ (0 : Int) ≤ x.1 + (1 : Int) ∧ x.1 + (1 : Int) ≤ (↑(psF H a b).length : Int) ∧ InI x_2.2.1 ∧ (↑x_2.2.2.1.length : Int) ≤ (20000 : Int) * (x.1 + (1 : Int)) ∧ ShI G H a b q (shZ G a b q (List.drop (x.1 + (1 : Int)).toNat (psF H a b))) x_2.2.1 x_2.2.2.1) ∧ ((↑(psF H a b).length : Int) - (x.1 + (1 : Int))).toNat < ((↑(psF H a b).length : Int) - x.1).toNat)) ∧ (decide (x.1 < (↑((gGet H (a, b, (0 : Int))).mergeSort fun x y => decide (x ≤ y)).length : Int)) = false → (x.2.2.1, (0 : Int), ()) = ((shR (shF G H a b q)).1, (shR (shF G H a b q)).2, ())))
theorem g_sheet_eq (G : List (Sp × List Rw)) (H : List (Sp × List Int)) (e n a b q : Int) : Cond (env_sheet G H e n a b q) Try.f15 [.fptr [.fopq .grw (G, none), .fopq .gpe (H, none), .int .i64 e, .int .i64 n], .int .i64 a, .int .i64 b, .int .i64 q] [.slc 0 RoT, .int .i64] ((shR (shF G H a b q)).1, (shR (shF G H a b q)).2, ()) = g_sheet_vc G H e n a b q := by kernel_rfl
theorem g_sheet_ok (G : List (Sp × List Rw)) (H : List (Sp × List Int)) (e n a b q : Int) (h : TRd ⟨G, H, e, n⟩ ∧ WordI a ∧ WordI b) : g_sheet_vc G H e n a b q := by
  obtain ⟨hT, ha, hb⟩ := h
  have hz : WordI 0 := ⟨by decide, by decide⟩
  have hps : ∀ p ∈ psF H a b, WordI p := fun p hp => hT.per a b (p := p) ((List.mergeSort_perm _ _).mem_iff.1 hp)
  have hpe : ((gGet H (a, b, 0)).mergeSort fun x y => decide (x ≤ y)) = psF H a b := rfl
  have hpl : (psF H a b).length ≤ 20000 := by
    have := hT.plen a b
    rw [psF, sortF, List.length_mergeSort]
    exact this
  have hpl0 := hT.plen a b
  have hrl := fun p => hT.tlen (a, b, p) q
  have ham := fun p => hT.ams (a, b, p) q
  dsimp only at hps hpl hpl0 hrl ham
  unfold g_sheet_vc
  simp only [decide_eq_true_eq, decide_eq_false_iff_not, Bool.not_eq_true', Bool.not_eq_false', Bool.not_true, Bool.not_false, hpe]
  have hI0 : InI 0 := ⟨by decide, by decide⟩
  have h00 : ShI G H a b q (shZ G a b q (psF H a b)) 0 [] := by simp [ShI, shF]
  obtain ⟨ps, hpsE⟩ : ∃ ps, psF H a b = ps := ⟨_, rfl⟩
  rw [hpsE] at hps hpl h00 ⊢
  refine ⟨trivial, (fun h => by cases h), fun _ => ⟨⟨ha, hb, hz⟩, trivial, by omega, ⟨trivial, trivial, by omega, by omega, hI0, by simp, h00⟩, ?_⟩⟩
  rintro ⟨i, s, out, pp, ⟨⟩⟩ ⟨rfl, h0, h1, h2, h3, h4⟩
  dsimp only at h0 h1 h2 h3 h4 hps hpl h00 ⊢
  refine ⟨fun c1 => ⟨⟨h0, c1⟩, by omega, fun p hp => ⟨⟨hT, ha, hb, hps p (List.mem_of_getElem? hp)⟩, ⟨⟨trivial, trivial⟩, hp, h0, c1, by omega, by omega, h2, by omega, ?_⟩, ?_⟩⟩, fun c1 => ?_⟩
  · rw [drop_next h0 hp] at h4
    exact h4
  · have hrp := hrl p
    rintro ⟨k, t, ou, ⟨⟩⟩ ⟨_, _, _, k0, k1, k2, k3, k4⟩
    dsimp only at k0 k1 k2 k3 k4 ⊢
    refine ⟨fun c2 => ⟨⟨k0, c2⟩, fun y hy => ?_⟩, fun c2 => ?_⟩
    · have hy2 : (shP G a b q p)[k.toNat]? = some (p, y) := by
        rw [shP, List.getElem?_map, hy]
        rfl
      have hyI := ham p y (List.mem_of_getElem? hy)
      rw [drop_next k0 hy2] at k4
      unfold ShI at k4
      rw [List.cons_append, shGo] at k4
      refine ⟨⟨k2, hyI⟩, ?_⟩
      by_cases hin : -9223372036854775808 ≤ t + y.2.2 ∧ t + y.2.2 ≤ 9223372036854775807
      · rw [if_pos hin] at k4
        have e : addF t y.2.2 = (t + y.2.2, 0) := if_pos hin
        rw [e]
        refine ⟨fun d => absurd rfl d, fun _ => ⟨by omega, by omega, ⟨trivial, trivial⟩, ⟨hp, h0, c1, by omega, by omega, hin, by simp only [List.length_append, List.length_singleton]; omega, ?_⟩, by omega⟩⟩
        unfold ShI
        rw [k4, Option.map_map]
        congr 1
        funext l
        simp
      · rw [if_neg hin] at k4
        have e : addF t y.2.2 = (0, 10) := if_neg hin
        rw [e, k4]
        exact ⟨fun _ => rfl, fun d => absurd d (by decide)⟩
    · have e : (shP G a b q p).drop k.toNat = [] := List.drop_of_length_le (by rw [shP, List.length_map]; omega)
      rw [e, List.nil_append] at k4
      exact ⟨by omega, trivial, ⟨rfl, by omega, by omega, k2, by omega, k4⟩, by omega⟩
  · have e : List.drop i.toNat pp = [] := List.drop_of_length_le (by omega)
    rw [e] at h4
    have h4 : shF G H a b q = some (out ++ []) := h4
    rw [h4, List.append_nil]
    rfl
theorem sheet_pure (G : List (Sp × List Rw)) (H : List (Sp × List Int)) (e n a b q : Int) (h : TRd ⟨G, H, e, n⟩ ∧ WordI a ∧ WordI b) : Pure Try.prog 15 [.fptr [.fopq .grw (G, none), .fopq .gpe (H, none), .int .i64 e, .int .i64 n], .int .i64 a, .int .i64 b, .int .i64 q] (.tuple [.olist RoT (shR (shF G H a b q)).1, .int .i64 (shR (shF G H a b q)).2]) :=
  by have k := Pure.of_cond (g_sheet_eq G H e n a b q) (g_sheet_ok G H e n a b q h) (specs_ok rfl [sp_tmade, sp_those, sp_nadd] [so_values.upd, so_sorted.upd] rfl rfl) mixed Try.func15; exact k
noncomputable def q_sheet (G : List (Sp × List Rw)) (H : List (Sp × List Int)) (e n a b q : Int) : Prop × V := (TRd ⟨G, H, e, n⟩ ∧ WordI a ∧ WordI b, (.tuple [.olist RoT (shR (shF G H a b q)).1, .int .i64 (shR (shF G H a b q)).2]))
noncomputable def sp_sheet : FSpec Try.prog where
 f := 15
 run := fun
  | [.fptr [.fopq .grw (G, none), .fopq .gpe (H, none), .int .i64 e, .int .i64 n], .int .i64 a, .int .i64 b, .int .i64 q] => some (q_sheet G H e n a b q)
  | _ => none
 ok := fun args pre r h hp => by
  split at h
  · rename_i G H e n a b q
    exact of_q h hp fun h => (sheet_pure G H e n a b q h).weak (.cons (.refl _) (.cons (.refl _) (.cons (.refl _) (.cons (.refl _) .nil))))
  · cases h
end Go.Proofs.Yteaajihmfacinaa.Ta
