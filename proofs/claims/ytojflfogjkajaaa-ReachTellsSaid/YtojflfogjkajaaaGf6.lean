/-
  law12: GraphLast.
-/
import Derived.Test.YtojflfogjkajaaaGf5
namespace Go.Proofs.Ytojflfogjkajaaa.Gr
open Go.Vm

def Down (m : Int) (R H : GI) (v : Int) : Prop := InA m R ∧ InA m H ∧ ∀ j : Nat, H.getD j [] = if (j : Int) ≤ v then [] else R.getD j []
noncomputable def env_last (m : Int) (l : List Ac) : Env where
  P := Try.prog
  ty := tys0
  specs := specsOf [sp_few, sp_reads, sp_readers, sp_edges, sp_sameInts, sp_awake]
  upd := updsOf [onew.upd, oset.upd]
  heads := fun
    | 9 => some { slots := [(5, .opq 100000 .graph), (7, .opq 100100 .graph), (9, .slc 53 LI), (10, .int .i64)], boxes := [], inv := fun _ (x : GI × GI × GI × Int × Unit) => 0 ≤ x.2.2.2.1 ∧ x.2.2.2.1 ≤ l.length ∧ InA m x.1 ∧ x.2.1 = newR m ∧ x.2.2.1 = x.1, measure := fun _ (x : GI × GI × GI × Int × Unit) => (l.length - x.2.2.2.1).toNat }
    | 15 => some { slots := [(5, .opq 100000 .graph), (7, .opq 100100 .graph), (9, .slc 53 LI), (14, .int .i64)], boxes := [], inv := fun _ (x : GI × GI × GI × Int × Unit) => -1 ≤ x.2.2.2.1 ∧ x.2.2.2.1 < m ∧ Down m x.1 x.2.1 x.2.2.2.1 ∧ x.2.2.1 = x.1, measure := fun _ (x : GI × GI × GI × Int × Unit) => (x.2.2.2.1 + 1).toNat }
    | 21 => some { slots := [(5, .opq 100000 .graph), (7, .opq 100100 .graph), (9, .slc 53 LI), (18, .int .i64)], boxes := [], inv := fun _ (x : GI × GI × GI × Int × Unit) => 0 ≤ x.2.2.2.1 ∧ x.2.2.2.1 ≤ m ∧ InA m x.1 ∧ x.2.1 = x.1, measure := fun _ (x : GI × GI × GI × Int × Unit) => (m - x.2.2.2.1).toNat }
    | _ => none
def g_last_vc (m : Int) (l : List Ac) : Prop :=
  True ∧ ((!fewF l) = false → (decide ((12 : Int) < m) = true → True ∧ (true, ()) = (true, ())) ∧ (decide ((12 : Int) < m) = false → True ∧ True ∧ ((!decide (newE m = (0 : Int))) = false → ((!decide (newE m = (0 : Int))) = false → (decide (List.length (newR m) = (0 : Nat)) = false → (decide (List.length (newR m) = (0 : Nat)) = true → True ∧ (true, ()) = (true, ())) ∧ (decide (List.length (newR m) = (0 : Nat)) = false → ((0 : Int) ≤ m ∧ m ≤ m ∧ m * (↑(24 : Nat) : Int) ≤ (140737488355328 : Int) ∧ m ≤ (4611686018427387904 : Int)) ∧ (True ∧ (0 : Int) ≤ (0 : Int) ∧ (0 : Int) ≤ (↑l.length : Int) ∧ InA m (newR m) ∧ newR m = newR m ∧ List.replicate m.toNat [] = newR m) ∧ ∀ (x : List (List Int) × List (List Int) × List (List Int) × Int × Unit), (0 : Int) ≤ x.2.2.2.1 ∧ x.2.2.2.1 ≤ (↑l.length : Int) ∧ InA m x.1 ∧ x.2.1 = newR m ∧ x.2.2.1 = x.1 → (decide (x.2.2.2.1 < (↑l.length : Int)) = true → ((0 : Int) ≤ x.2.2.2.1 ∧ x.2.2.2.1 < (↑l.length : Int)) ∧ ∀ (x_1 : Int × List Int), l[x.2.2.2.1.toNat]? = some x_1 → ((0 : Int) ≤ x.2.2.2.1 ∧ x.2.2.2.1 < (↑l.length : Int)) ∧ ∀ (x_2 : Int × List Int), l[x.2.2.2.1.toNat]? = some x_2 → x_2.2.length ≤ (1000000000 : Nat) ∧ (decide (mayF x.1 x_1.1 x_2.2 = (0 : Int)) = true → ((0 : Int) ≤ x.2.2.2.1 ∧ x.2.2.2.1 < (↑l.length : Int)) ∧ ∀ (x_3 : Int × List Int), l[x.2.2.2.1.toNat]? = some x_3 → ((0 : Int) ≤ x.2.2.2.1 ∧ x.2.2.2.1 < (↑l.length : Int)) ∧ ∀ (x_4 : Int × List Int), l[x.2.2.2.1.toNat]? = some x_4 → ((0 : Int) ≤ x_3.1 ∧ x_3.1 < (↑x.2.2.1.length : Int)) ∧ x_3.1.toNat < x.2.2.1.length ∧ ∀ (y : List Int), x.2.2.1[x_3.1.toNat]? = some y → ((-9223372036854775808 : Int) ≤ x.2.2.2.1 + (1 : Int) ∧ x.2.2.2.1 + (1 : Int) ≤ (9223372036854775807 : Int)) ∧ True ∧ ((0 : Int) ≤ x.2.2.2.1 + (1 : Int) ∧ x.2.2.2.1 + (1 : Int) ≤ (↑l.length : Int) ∧ InA m (setR x.1 x_1.1 x_2.2) ∧ x.2.1 = newR m ∧ x.2.2.1.set x_3.1.toNat x_4.2 = setR x.1 x_1.1 x_2.2) ∧ ((↑l.length : Int) - (x.2.2.2.1 + (1 : Int))).toNat < ((↑l.length : Int) - x.2.2.2.1).toNat) ∧ (decide (mayF x.1 x_1.1 x_2.2 = (0 : Int)) = false → ((-9223372036854775808 : Int) ≤ x.2.2.2.1 + (1 : Int) ∧ x.2.2.2.1 + (1 : Int) ≤ (9223372036854775807 : Int)) ∧ True ∧ ((0 : Int) ≤ x.2.2.2.1 + (1 : Int) ∧ x.2.2.2.1 + (1 : Int) ≤ (↑l.length : Int) ∧ InA m (setR x.1 x_1.1 x_2.2) ∧ x.2.1 = newR m ∧ x.2.2.1 = setR x.1 x_1.1 x_2.2) ∧ ((↑l.length : Int) - (x.2.2.2.1 + (1 : Int))).toNat < ((↑l.length : Int) - x.2.2.2.1).toNat)) ∧ (decide (x.2.2.2.1 < (↑l.length : Int)) = false → ((-9223372036854775808 : Int) ≤ m - (1 : Int) ∧ m - (1 : Int) ≤ (9223372036854775807 : Int)) ∧ (True ∧ (-1 : Int) ≤ m - (1 : Int) ∧ m - (1 : Int) < m ∧ Down m x.1 x.2.1 (m - (1 : Int)) ∧ x.2.2.1 = x.1) ∧ ∀ (x : List (List Int) × List (List Int) × List (List Int) × Int × Unit), (-1 : Int) ≤ x.2.2.2.1 ∧ x.2.2.2.1 < m ∧ Down m x.1 x.2.1 x.2.2.2.1 ∧ x.2.2.1 = x.1 → (decide ((0 : Int) ≤ x.2.2.2.1) = true → ((0 : Int) ≤ x.2.2.2.1 ∧ x.2.2.2.1 < (↑x.2.2.1.length : Int)) ∧ x.2.2.2.1.toNat < x.2.2.1.length ∧ ∀ (x_1 : List Int), x.2.2.1[x.2.2.2.1.toNat]? = some x_1 → x_1.length ≤ (1000000000 : Nat) ∧ ((!decide (mayF x.2.1 x.2.2.2.1 x_1 = (0 : Int))) = false → ((0 : Int) ≤ x.2.2.2.1 ∧ x.2.2.2.1 < (↑x.2.2.1.length : Int)) ∧ x.2.2.2.1.toNat < x.2.2.1.length ∧ ∀ (x_2 : List Int), x.2.2.1[x.2.2.2.1.toNat]? = some x_2 → ((!decide (addedF x.2.1 x.2.2.2.1 x_1 = (↑x_2.length : Int))) = true → (false, ()) = (true, ())) ∧ ((!decide (addedF x.2.1 x.2.2.2.1 x_1 = (↑x_2.length : Int))) = false → ((-9223372036854775808 : Int) ≤ x.2.2.2.1 - (1 : Int) ∧ x.2.2.2.1 - (1 : Int) ≤ (9223372036854775807 : Int)) ∧ True ∧ ((-1 : Int) ≤ x.2.2.2.1 - (1 : Int) ∧ x.2.2.2.1 - (1 : Int) < m ∧ Down m x.1 (setR x.2.1 x.2.2.2.1 x_1) (x.2.2.2.1 - (1 : Int)) ∧ x.2.2.1 = x.1) ∧ (x.2.2.2.1 - (1 : Int) + (1 : Int)).toNat < (x.2.2.2.1 + (1 : Int)).toNat)) ∧ ((!decide (mayF x.2.1 x.2.2.2.1 x_1 = (0 : Int))) = !false → (false, ()) = (true, ()))) ∧ (decide ((0 : Int) ≤ x.2.2.2.1) = false → (True ∧ (0 : Int) ≤ (0 : Int) ∧ (0 : Int) ≤ m ∧ InA m x.1 ∧ x.2.1 = x.1) ∧ ∀ (x : List (List Int) × List (List Int) × List (List Int) × Int × Unit), (0 : Int) ≤ x.2.2.2.1 ∧ x.2.2.2.1 ≤ m ∧ InA m x.1 ∧ x.2.1 = x.1 → (decide (x.2.2.2.1 < m) = true → True ∧ True ∧ (readsF x.1 x.2.2.2.1).length ≤ (1000000000 : Nat) ∧ ((!decide (readsF x.1 x.2.2.2.1 = readsF x.2.1 x.2.2.2.1)) = false → True ∧ True ∧ (rdsF x.1 x.2.2.2.1).length ≤ (1000000000 : Nat) ∧ ((!decide (rdsF x.1 x.2.2.2.1 = rdsF x.2.1 x.2.2.2.1)) = true → (false, ()) = (true, ())) ∧ ((!decide (rdsF x.1 x.2.2.2.1 = rdsF x.2.1 x.2.2.2.1)) = false → ((-9223372036854775808 : Int) ≤ x.2.2.2.1 + (1 : Int) ∧ x.2.2.2.1 + (1 : Int) ≤ (9223372036854775807 : Int)) ∧ True ∧ ((0 : Int) ≤ x.2.2.2.1 + (1 : Int) ∧ x.2.2.2.1 + (1 : Int) ≤ m ∧ InA m x.1 ∧ x.2.1 = x.1) ∧ (m - (x.2.2.2.1 + (1 : Int))).toNat < (m - x.2.2.2.1).toNat)) ∧ ((!decide (readsF x.1 x.2.2.2.1 = readsF x.2.1 x.2.2.2.1)) = !false → (false, ()) = (true, ()))) ∧ (decide (x.2.2.2.1 < m) = false → True ∧ True ∧ (decide ((List.map (fun l => (↑l.length : Int)) x.1).sum = (List.map (fun l => (↑l.length : Int)) x.2.1).sum) = true → True ∧ (true, ()) = (true, ())) ∧ (decide ((List.map (fun l => (↑l.length : Int)) x.1).sum = (List.map (fun l => (↑l.length : Int)) x.2.1).sum) = !true → (false, ()) = (true, ()))))))) ∧ (decide (List.length (newR m) = (0 : Nat)) = !false → True ∧ (true, ()) = (true, ()))) ∧ ((!decide (newE m = (0 : Int))) = !false → True ∧ (true, ()) = (true, ()))) ∧ ((!decide (newE m = (0 : Int))) = !false → True ∧ (true, ()) = (true, ())))) ∧ ((!fewF l) = !false → True ∧ (true, ()) = (true, ()))
theorem g_last_eq (m : Int) (l : List Ac) : Cond (env_last m l) Try.f5 [.int .i64 m, .list .tmp AcT l] [.bool] (true, ()) = g_last_vc m l := by kernel_rfl
theorem g_last_ok (m : Int) (l : List Ac) : g_last_vc m l := by
  unfold g_last_vc
  simp only [decide_eq_true_eq, decide_eq_false_iff_not, Bool.not_eq_true', Bool.not_eq_false', Bool.not_true, Bool.not_false]
  refine ⟨trivial, fun hf => ⟨fun _ => ⟨trivial, trivial⟩, fun hm => ⟨trivial, trivial, fun hE => ⟨fun _ => ⟨fun _ => ⟨fun _ => ⟨trivial, trivial⟩, fun _ => ?_⟩, fun _ => ⟨trivial, trivial⟩⟩, fun _ => ⟨trivial, trivial⟩⟩, fun _ => ⟨trivial, trivial⟩⟩⟩, fun _ => ⟨trivial, trivial⟩⟩
  have h60 := few_len hf
  have hN := ina_new hE
  have hm1 := hN.2.1
  have hnew : newR m = List.replicate m.toNat [] := by
    unfold newR
    rw [if_pos ⟨hN.2.1, by omega⟩]
  refine ⟨⟨by omega, by omega, by omega, by omega⟩, ⟨trivial, by omega, by omega, hN, trivial, hnew.symm⟩, ?_⟩
  rintro ⟨R, H, L, i, ⟨⟩⟩ ⟨i0, i1, hI, hH, hL⟩
  dsimp only at i0 i1 hI hH hL ⊢
  subst hL
  refine ⟨fun hi => ⟨⟨i0, hi⟩, fun x hx => ⟨⟨i0, hi⟩, fun x2 hx2 => ?_⟩⟩, fun hi => ?_⟩
  · rw [hx] at hx2
    cases hx2
    have hx30 := few_mem hf x (List.mem_of_getElem? hx)
    refine ⟨by omega, fun h0 => ⟨⟨i0, hi⟩, fun x3 hx3 => ⟨⟨i0, hi⟩, fun x4 hx4 => ?_⟩⟩, fun h0 => ⟨by omega, trivial, ⟨by omega, by omega, ina_set hI _ _, hH, ?_⟩, by omega⟩⟩
    · rw [hx] at hx3 hx4
      cases hx3
      cases hx4
      have hmm := may_ok h0
      refine ⟨hmm.2.1, by have := hmm.2.1; omega, fun y hy => ⟨by omega, trivial, ⟨by omega, by omega, ina_set hI _ _, hH, ?_⟩, by omega⟩⟩
      rw [setR, if_pos h0]
    · rw [setR, if_neg h0]
  · clear i0 i1 hi i
    refine ⟨by omega, ⟨trivial, by have := hI.2.1; omega, by omega, ⟨hI, by rw [hH]; exact hN, fun j => ?_⟩, rfl⟩, ?_⟩
    · rw [hH, hnew, List.getD_eq_getElem?_getD]
      by_cases hj : (j : Int) ≤ m - 1
      · rw [if_pos hj, List.getElem?_replicate]
        split <;> rfl
      · rw [if_neg hj, List.getElem?_replicate, if_neg (by omega), List.getD_eq_getElem?_getD, List.getElem?_eq_none (by have := hI.2.2; omega)]
    clear hI hH H L
    rintro ⟨R, H, L, v, ⟨⟩⟩ ⟨v0, v1, hD, hL⟩
    dsimp only at v0 v1 hD hL ⊢
    subst hL
    obtain ⟨hI, hJ, hD⟩ := hD
    refine ⟨fun hv => ?_, fun hv => ?_⟩
    · have hvv : 0 ≤ v ∧ v < List.length (α := List Int) L := ⟨hv, by have := hI.2.2; omega⟩
      refine ⟨hvv, by omega, fun y hy => ?_⟩
      have e1 := reads_at hvv
      rw [hy] at e1
      cases e1
      have hmay : mayF H v (readsF L v) = 0 := by
        have := self_may hI.1 hvv
        have h1 := hI.2.2
        have h2 := hJ.2.2
        have h3 := hI.2.1
        rw [may_eq (by omega)] at this ⊢
        unfold mayG at this ⊢
        rw [show H.length = L.length by omega]
        exact this
      have e2 : H.getD v.toNat [] = [] := by rw [hD, if_pos (by omega)]
      have hadd : addedF H v (readsF L v) = (readsF L v).length := by
        rw [addedF, if_pos hmay, e2]
        unfold newsF
        rw [List.filter_eq_self.2]
        intro x _
        rfl
      refine ⟨reads_le (gok_le hI.1), fun _ => ⟨hvv, by omega, fun z hz => ?_⟩, fun hne => absurd hmay hne⟩
      rw [hy] at hz
      cases hz
      refine ⟨fun hne => absurd hadd hne, fun _ => ⟨by omega, trivial, ⟨by omega, by omega, ⟨hI, ina_set hJ _ _, fun j => ?_⟩, rfl⟩, by omega⟩⟩
      rw [setR, if_pos hmay, List.getD_eq_getElem?_getD, List.getElem?_set]
      have h1 := hI.2.2
      have h2 := hJ.2.2
      by_cases hj : v.toNat = j
      · subst hj
        rw [if_pos rfl, if_pos (by omega), if_neg (by omega), readsF, if_pos hvv]
        rfl
      · rw [if_neg hj, ← List.getD_eq_getElem?_getD, hD]
        by_cases hjv : (j : Int) ≤ v
        · rw [if_pos hjv, if_pos (by omega)]
        · rw [if_neg hjv, if_neg (by omega)]
    · have hHL : H = L := by
        have h1 := hI.2.2
        have h2 := hJ.2.2
        apply List.ext_getElem (by omega)
        intro j k1 k2
        have := hD j
        rw [if_neg (by omega), List.getD_eq_getElem?_getD, List.getD_eq_getElem?_getD, List.getElem?_eq_getElem k1, List.getElem?_eq_getElem k2] at this
        exact this
      refine ⟨⟨trivial, by omega, by have := hI.2.1; omega, hI, hHL⟩, ?_⟩
      clear hHL hD hJ hI v0 v1 hv v H L
      rintro ⟨R, H, L, v, ⟨⟩⟩ ⟨v0, v1, hI, hH⟩
      dsimp only at v0 v1 hI hH ⊢
      subst hH
      refine ⟨fun hv => ⟨trivial, trivial, reads_le (gok_le hI.1), fun _ => ⟨trivial, trivial, rds_le hI.1 v, fun hne => absurd rfl hne, fun _ => ⟨by omega, trivial, ⟨by omega, by omega, hI, rfl⟩, by omega⟩⟩, fun hne => absurd rfl hne⟩, fun _ => ⟨trivial, trivial, fun _ => ⟨trivial, trivial⟩, fun hne => absurd rfl hne⟩⟩
set_option maxRecDepth 20000
theorem last_pure (m : Int) (l : List Ac) : Pure Try.prog 5 [.int .i64 m, .list .tmp AcT l] (.bool true) :=
  by have k := Pure.of_cond (g_last_eq m l) (g_last_ok m l) (specs_ok rfl [sp_few, sp_reads, sp_readers, sp_edges, sp_sameInts, sp_awake] [onew.upd, oset.upd] rfl rfl) mixed Try.func5; exact k
noncomputable def q_last (m : Int) (l : List Ac) : Prop × V := (True, (.bool true))
noncomputable def sp_last : FSpec Try.prog where
 f := 5
 run := fun
  | [.int .i64 m, v1] => (asL AcT v1 : Option (List Ac)).bind fun l => some (q_last m l)
  | _ => none
 ok := fun args pre r h hp => by
  split at h
  · rename_i m v1
    obtain ⟨l, h1, h⟩ := Option.bind_eq_some_iff.1 h
    exact of_q h hp fun h => (last_pure m l).weak (.cons (.refl _) (.cons (asL_weak h1) .nil))
  · cases h

end Go.Proofs.Ytojflfogjkajaaa.Gr
