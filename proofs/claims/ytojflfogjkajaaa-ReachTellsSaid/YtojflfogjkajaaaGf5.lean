/-
  law12: GraphPlays, GraphTurns.
-/
import Derived.Test.YtojflfogjkajaaaGf5a
namespace Go.Proofs.Ytojflfogjkajaaa.Gr
open Go.Vm

noncomputable def env_plays (m : Int) (l : List Ac) (p q : Int) : Env where
  P := Try.prog
  ty := tys0
  specs := specsOf [sp_few, sp_same, sp_has, sp_rhas, sp_reads, sp_rreads, sp_readers, sp_rreaders, sp_sameInts, sp_awake]
  upd := updsOf [so_made.upd]
  frz := fun | 56 => true | 60 => true | 67 => true | 71 => true | _ => false
def g_plays_vc (m : Int) (l : List Ac) (p : Int) (q : Int) : Prop :=
  True ∧ ((!fewF l) = false → (decide ((12 : Int) < m) = true → (decide (m ≤ (20000 : Int)) = true → True ∧ (true, ()) = (true, ())) ∧ (decide (m ≤ (20000 : Int)) = false → fewF l = true ∧ ((!true) = true → (false, ()) = (true, ())) ∧ ((!true) = false → (decide (List.length (actsR (newR m) l) = (0 : Nat)) = true → True ∧ (true, ()) = (true, ())) ∧ (decide (List.length (actsR (newR m) l) = (0 : Nat)) = false → ((List.length (actsR (newR m) l) ≤ (20000 : Nat) ∧ ∀ (v : Nat) (l_1 : List Int), (actsR (newR m) l)[v]? = some l_1 → l_1.Nodup ∧ ∀ (x : Int), x ∈ l_1 → (0 : Int) ≤ x ∧ x < (↑(List.length (actsR (newR m) l)) : Int) ∧ x ≠ (↑v : Int)) ∧ actsR (newR m) l = actsR (newR m) l) ∧ (true = true → True ∧ (∀ (x : List Int), x ∈ actsR (newR m) l → x.length ≤ (1000000000 : Nat)) ∧ (((readsF (actsR (newR m) l) p).contains q == (readsF (actsR (newR m) l) p).contains q) = true → True ∧ True ∧ (readsF (actsR (newR m) l) p).length ≤ (1000000000 : Nat) ∧ (decide (readsF (actsR (newR m) l) p = readsF (actsR (newR m) l) p) = true → True ∧ (List.length (actsR (newR m) l) ≤ (1000000000 : Nat) ∧ ∀ (x : List Int), x ∈ actsR (newR m) l → x.length ≤ (1000000000 : Nat)) ∧ (rdsF (actsR (newR m) l) p).length ≤ (1000000000 : Nat) ∧ (decide (rdsF (actsR (newR m) l) p = rdGo (actsR (newR m) l) p (List.length (actsR (newR m) l))) = true → True ∧ (true, ()) = (true, ())) ∧ (decide (rdsF (actsR (newR m) l) p = rdGo (actsR (newR m) l) p (List.length (actsR (newR m) l))) = !true → (false, ()) = (true, ()))) ∧ (decide (readsF (actsR (newR m) l) p = readsF (actsR (newR m) l) p) = !true → (false, ()) = (true, ()))) ∧ (((readsF (actsR (newR m) l) p).contains q == (readsF (actsR (newR m) l) p).contains q) = !true → (false, ()) = (true, ()))) ∧ (true = !true → (false, ()) = (true, ())))))) ∧ (decide ((12 : Int) < m) = !true → fewF l = true ∧ ((!true) = true → (false, ()) = (true, ())) ∧ ((!true) = false → (decide (List.length (actsR (newR m) l) = (0 : Nat)) = true → True ∧ (true, ()) = (true, ())) ∧ (decide (List.length (actsR (newR m) l) = (0 : Nat)) = false → ((List.length (actsR (newR m) l) ≤ (20000 : Nat) ∧ ∀ (v : Nat) (l_1 : List Int), (actsR (newR m) l)[v]? = some l_1 → l_1.Nodup ∧ ∀ (x : Int), x ∈ l_1 → (0 : Int) ≤ x ∧ x < (↑(List.length (actsR (newR m) l)) : Int) ∧ x ≠ (↑v : Int)) ∧ actsR (newR m) l = actsR (newR m) l) ∧ (true = true → True ∧ (∀ (x : List Int), x ∈ actsR (newR m) l → x.length ≤ (1000000000 : Nat)) ∧ (((readsF (actsR (newR m) l) p).contains q == (readsF (actsR (newR m) l) p).contains q) = true → True ∧ True ∧ (readsF (actsR (newR m) l) p).length ≤ (1000000000 : Nat) ∧ (decide (readsF (actsR (newR m) l) p = readsF (actsR (newR m) l) p) = true → True ∧ (List.length (actsR (newR m) l) ≤ (1000000000 : Nat) ∧ ∀ (x : List Int), x ∈ actsR (newR m) l → x.length ≤ (1000000000 : Nat)) ∧ (rdsF (actsR (newR m) l) p).length ≤ (1000000000 : Nat) ∧ (decide (rdsF (actsR (newR m) l) p = rdGo (actsR (newR m) l) p (List.length (actsR (newR m) l))) = true → True ∧ (true, ()) = (true, ())) ∧ (decide (rdsF (actsR (newR m) l) p = rdGo (actsR (newR m) l) p (List.length (actsR (newR m) l))) = !true → (false, ()) = (true, ()))) ∧ (decide (readsF (actsR (newR m) l) p = readsF (actsR (newR m) l) p) = !true → (false, ()) = (true, ()))) ∧ (((readsF (actsR (newR m) l) p).contains q == (readsF (actsR (newR m) l) p).contains q) = !true → (false, ()) = (true, ()))) ∧ (true = !true → (false, ()) = (true, ())))))) ∧ ((!fewF l) = !false → True ∧ (true, ()) = (true, ()))
theorem g_plays_eq (m : Int) (l : List Ac) (p q : Int) : Cond (env_plays m l p q) Try.f3 [.int .i64 m, .list .tmp AcT l, .agg [.int .i64 p, .int .i64 q]] [.bool] (true, ()) = g_plays_vc m l p q := by kernel_rfl
theorem g_plays_ok (m : Int) (l : List Ac) (p q : Int) : g_plays_vc m l p q := by
  unfold g_plays_vc
  simp only [decide_eq_true_eq, decide_eq_false_iff_not, Bool.not_eq_true', Bool.not_eq_false', Bool.not_true, Bool.not_false]
  have hG := gok_acts l _ (gok_new m)
  generalize hR : actsR (newR m) l = R at hG ⊢
  have h1 := hG.1
  have h2 := gok_le hG
  have hb : ((readsF R p).contains q == (readsF R p).contains q) = true := by simp
  have hd := rds_eq hG p
  have hl := rds_le hG p
  refine ⟨trivial, fun hf => ⟨fun _ => ⟨fun _ => ⟨trivial, trivial⟩, fun _ => ⟨hf, (fun e => by cases e), fun _ => ?_⟩⟩, fun _ => ⟨hf, (fun e => by cases e), fun _ => ?_⟩⟩, fun _ => ⟨trivial, trivial⟩⟩
  all_goals exact ⟨fun _ => ⟨trivial, trivial⟩, fun _ => ⟨⟨hG, trivial⟩, fun _ => ⟨trivial, h2, fun _ => ⟨trivial, trivial, reads_le h2, fun _ => ⟨trivial, ⟨by omega, h2⟩, hl, fun _ => ⟨trivial, trivial⟩, fun hne => absurd hd hne⟩, fun hne => absurd trivial hne⟩, fun hne => by rw [hb] at hne; cases hne⟩, fun e => by cases e⟩⟩
set_option maxRecDepth 20000
theorem plays_pure (m : Int) (l : List Ac) (p q : Int) : Pure Try.prog 3 [.int .i64 m, .list .tmp AcT l, .agg [.int .i64 p, .int .i64 q]] (.bool true) :=
  by have k := Pure.of_cond (g_plays_eq m l p q) (g_plays_ok m l p q) (specs_ok rfl [sp_few, sp_same, sp_has, sp_rhas, sp_reads, sp_rreads, sp_readers, sp_rreaders, sp_sameInts, sp_awake] [so_made.upd] rfl rfl) mixed Try.func3; exact k
noncomputable def q_plays (m : Int) (l : List Ac) (p q : Int) : Prop × V := (True, (.bool true))
noncomputable def sp_plays : FSpec Try.prog where
 f := 3
 run := fun
  | [.int .i64 m, v1, .agg [.int .i64 p, .int .i64 q]] => (asL AcT v1 : Option (List Ac)).bind fun l => some (q_plays m l p q)
  | _ => none
 ok := fun args pre r h hp => by
  split at h
  · rename_i m v1 p q
    obtain ⟨l, h1, h⟩ := Option.bind_eq_some_iff.1 h
    exact of_q h hp fun h => (plays_pure m l p q).weak (.cons (.refl _) (.cons (asL_weak h1) (.cons (.refl _) .nil)))
  · cases h
noncomputable def env_turns (m : Int) (l : List Ac) : Env where
  P := Try.prog
  ty := tys0
  specs := specsOf [sp_few, sp_reads, sp_readers, sp_has, sp_edges, sp_has', sp_awake]
  upd := updsOf [onew.upd, oset.upd]
  frz := fun | 53 => false | _ => false
  heads := fun
    | 7 => some { slots := [(5, .opq 100000 .graph), (7, .int .i64)], boxes := [], inv := fun _ (x : GI × Int × Unit) => 0 ≤ x.2.1 ∧ x.2.1 ≤ l.length ∧ InA m x.1 ∧ actsR x.1 (l.drop x.2.1.toNat) = actsR (newR m) l, measure := fun _ (x : GI × Int × Unit) => (l.length - x.2.1).toNat }
    | 12 => some { slots := [(5, .opq 100000 .graph), (8, .int .i64), (9, .int .i64), (10, .int .i64)], boxes := [], inv := fun _ (x : GI × Int × Int × Int × Unit) => 0 ≤ x.2.2.2.1 ∧ x.2.2.2.1 ≤ m ∧ x.1 = actsR (newR m) l ∧ InA m x.1 ∧ x.2.1 = thG x.1 x.2.2.2.1.toNat ∧ x.2.2.1 = bkG x.1 x.2.2.2.1.toNat, measure := fun _ (x : GI × Int × Int × Int × Unit) => (m - x.2.2.2.1).toNat }
    | 17 => some { slots := [(11, .int .i64)], boxes := [], keep := [100000], inv := fun _ (x : Int × Unit) => 0 ≤ x.1 ∧ x.1 ≤ m, measure := fun _ (x : Int × Unit) => (m - x.1).toNat }
    | _ => none
def g_turns_vc (m : Int) (l : List Ac) : Prop :=
  True ∧ ((!fewF l) = false → (decide ((12 : Int) < m) = true → True ∧ (true, ()) = (true, ())) ∧ (decide ((12 : Int) < m) = false → True ∧ ((!decide (newE m = (0 : Int))) = false → (decide (List.length (newR m) = (0 : Nat)) = true → True ∧ (true, ()) = (true, ())) ∧ (decide (List.length (newR m) = (0 : Nat)) = false → (True ∧ (0 : Int) ≤ (0 : Int) ∧ (0 : Int) ≤ (↑l.length : Int) ∧ InA m (newR m) ∧ actsR (newR m) (List.drop (Int.toNat (0 : Int)) l) = actsR (newR m) l) ∧ ∀ (x : List (List Int) × Int × Unit), (0 : Int) ≤ x.2.1 ∧ x.2.1 ≤ (↑l.length : Int) ∧ InA m x.1 ∧ actsR x.1 (List.drop x.2.1.toNat l) = actsR (newR m) l → (decide (x.2.1 < (↑l.length : Int)) = true → ((0 : Int) ≤ x.2.1 ∧ x.2.1 < (↑l.length : Int)) ∧ ∀ (x_1 : Int × List Int), l[x.2.1.toNat]? = some x_1 → ((0 : Int) ≤ x.2.1 ∧ x.2.1 < (↑l.length : Int)) ∧ ∀ (x_2 : Int × List Int), l[x.2.1.toNat]? = some x_2 → x_2.2.length ≤ (1000000000 : Nat) ∧ ((-9223372036854775808 : Int) ≤ x.2.1 + (1 : Int) ∧ x.2.1 + (1 : Int) ≤ (9223372036854775807 : Int)) ∧ True ∧ ((0 : Int) ≤ x.2.1 + (1 : Int) ∧ x.2.1 + (1 : Int) ≤ (↑l.length : Int) ∧ InA m (setR x.1 x_1.1 x_2.2) ∧ actsR (setR x.1 x_1.1 x_2.2) (List.drop (x.2.1 + (1 : Int)).toNat l) = actsR (newR m) l) ∧ ((↑l.length : Int) - (x.2.1 + (1 : Int))).toNat < ((↑l.length : Int) - x.2.1).toNat) ∧ (decide (x.2.1 < (↑l.length : Int)) = false → (True ∧ (0 : Int) ≤ (0 : Int) ∧ (0 : Int) ≤ m ∧ x.1 = actsR (newR m) l ∧ InA m x.1 ∧ (0 : Int) = thG x.1 (Int.toNat (0 : Int)) ∧ (0 : Int) = bkG x.1 (Int.toNat (0 : Int))) ∧ ∀ (x : List (List Int) × Int × Int × Int × Unit), (0 : Int) ≤ x.2.2.2.1 ∧ x.2.2.2.1 ≤ m ∧ x.1 = actsR (newR m) l ∧ InA m x.1 ∧ x.2.1 = thG x.1 x.2.2.2.1.toNat ∧ x.2.2.1 = bkG x.1 x.2.2.2.1.toNat → (decide (x.2.2.2.1 < m) = true → True ∧ ((-9223372036854775808 : Int) ≤ x.2.1 + (↑(readsF x.1 x.2.2.2.1).length : Int) ∧ x.2.1 + (↑(readsF x.1 x.2.2.2.1).length : Int) ≤ (9223372036854775807 : Int)) ∧ True ∧ ((-9223372036854775808 : Int) ≤ x.2.2.1 + (↑(rdsF x.1 x.2.2.2.1).length : Int) ∧ x.2.2.1 + (↑(rdsF x.1 x.2.2.2.1).length : Int) ≤ (9223372036854775807 : Int)) ∧ ((some (Obj.opq OK.graph x.1) = some (Obj.opq OK.graph x.1) ∧ True) ∧ (0 : Int) ≤ (0 : Int) ∧ (0 : Int) ≤ m) ∧ ∀ (x_1 : Int × Unit), (0 : Int) ≤ x_1.1 ∧ x_1.1 ≤ m → (decide (x_1.1 < m) = true → True ∧ True ∧ (readsF x.1 x.2.2.2.1).length ≤ (1000000000 : Nat) ∧ ((!(readsF x.1 x.2.2.2.1).contains x_1.1 == (readsF x.1 x.2.2.2.1).contains x_1.1) = false → True ∧ (rdsF x.1 x_1.1).length ≤ (1000000000 : Nat) ∧ ((!(readsF x.1 x.2.2.2.1).contains x_1.1 == (rdsF x.1 x_1.1).contains x.2.2.2.1) = false → (decide (x.2.2.2.1 = x_1.1) = true → ((readsF x.1 x.2.2.2.1).contains x_1.1 = true → (false, ()) = (true, ())) ∧ ((readsF x.1 x.2.2.2.1).contains x_1.1 = false → ((-9223372036854775808 : Int) ≤ x_1.1 + (1 : Int) ∧ x_1.1 + (1 : Int) ≤ (9223372036854775807 : Int)) ∧ (some (Obj.opq OK.graph x.1) = some (Obj.opq OK.graph x.1) ∧ True) ∧ ((0 : Int) ≤ x_1.1 + (1 : Int) ∧ x_1.1 + (1 : Int) ≤ m) ∧ (m - (x_1.1 + (1 : Int))).toNat < (m - x_1.1).toNat)) ∧ (decide (x.2.2.2.1 = x_1.1) = !true → ((-9223372036854775808 : Int) ≤ x_1.1 + (1 : Int) ∧ x_1.1 + (1 : Int) ≤ (9223372036854775807 : Int)) ∧ (some (Obj.opq OK.graph x.1) = some (Obj.opq OK.graph x.1) ∧ True) ∧ ((0 : Int) ≤ x_1.1 + (1 : Int) ∧ x_1.1 + (1 : Int) ≤ m) ∧ (m - (x_1.1 + (1 : Int))).toNat < (m - x_1.1).toNat)) ∧ ((!(readsF x.1 x.2.2.2.1).contains x_1.1 == (rdsF x.1 x_1.1).contains x.2.2.2.1) = !false → (false, ()) = (true, ()))) ∧ ((!(readsF x.1 x.2.2.2.1).contains x_1.1 == (readsF x.1 x.2.2.2.1).contains x_1.1) = !false → (false, ()) = (true, ()))) ∧ (decide (x_1.1 < m) = false → True ∧ (readsF x.1 x.2.2.2.1).length ≤ (1000000000 : Nat) ∧ ((!decide (addedF x.1 x.2.2.2.1 (readsF x.1 x.2.2.2.1) = (0 : Int))) = false → ((!decide (droppedF x.1 x.2.2.2.1 (readsF x.1 x.2.2.2.1) = (0 : Int))) = false → ((!decide (mayF x.1 x.2.2.2.1 (readsF x.1 x.2.2.2.1) = (0 : Int))) = true → (false, ()) = (true, ())) ∧ ((!decide (mayF x.1 x.2.2.2.1 (readsF x.1 x.2.2.2.1) = (0 : Int))) = false → ((-9223372036854775808 : Int) ≤ x.2.2.2.1 + (1 : Int) ∧ x.2.2.2.1 + (1 : Int) ≤ (9223372036854775807 : Int)) ∧ True ∧ ((0 : Int) ≤ x.2.2.2.1 + (1 : Int) ∧ x.2.2.2.1 + (1 : Int) ≤ m ∧ setR x.1 x.2.2.2.1 (readsF x.1 x.2.2.2.1) = actsR (newR m) l ∧ InA m (setR x.1 x.2.2.2.1 (readsF x.1 x.2.2.2.1)) ∧ x.2.1 + (↑(readsF x.1 x.2.2.2.1).length : Int) = thG (setR x.1 x.2.2.2.1 (readsF x.1 x.2.2.2.1)) (x.2.2.2.1 + (1 : Int)).toNat ∧ x.2.2.1 + (↑(rdsF x.1 x.2.2.2.1).length : Int) = bkG (setR x.1 x.2.2.2.1 (readsF x.1 x.2.2.2.1)) (x.2.2.2.1 + (1 : Int)).toNat) ∧ (m - (x.2.2.2.1 + (1 : Int))).toNat < (m - x.2.2.2.1).toNat)) ∧ ((!decide (droppedF x.1 x.2.2.2.1 (readsF x.1 x.2.2.2.1) = (0 : Int))) = !false → (false, ()) = (true, ()))) ∧ ((!decide (addedF x.1 x.2.2.2.1 (readsF x.1 x.2.2.2.1) = (0 : Int))) = !false → (false, ()) = (true, ())))) ∧ (decide (x.2.2.2.1 < m) = false → (decide (x.2.1 = x.2.2.1) = true → True ∧ (decide (x.2.1 = (List.map (fun l => (↑l.length : Int)) x.1).sum) = true → True ∧ (true, ()) = (true, ())) ∧ (decide (x.2.1 = (List.map (fun l => (↑l.length : Int)) x.1).sum) = !true → (false, ()) = (true, ()))) ∧ (decide (x.2.1 = x.2.2.1) = !true → (false, ()) = (true, ())))))) ∧ ((!decide (newE m = (0 : Int))) = !false → True ∧ (true, ()) = (true, ())))) ∧ ((!fewF l) = !false → True ∧ (true, ()) = (true, ()))
theorem g_turns_eq (m : Int) (l : List Ac) : Cond (env_turns m l) Try.f4 [.int .i64 m, .list .tmp AcT l] [.bool] (true, ()) = g_turns_vc m l := by kernel_rfl
theorem g_turns_ok (m : Int) (l : List Ac) : g_turns_vc m l := by
  unfold g_turns_vc
  simp only [decide_eq_true_eq, decide_eq_false_iff_not, Bool.not_eq_true', Bool.not_eq_false', Bool.not_true, Bool.not_false]
  refine ⟨trivial, fun hf => ⟨fun _ => ⟨trivial, trivial⟩, fun hm => ⟨trivial, fun hE => ⟨fun _ => ⟨trivial, trivial⟩, fun _ => ?_⟩, fun _ => ⟨trivial, trivial⟩⟩⟩, fun _ => ⟨trivial, trivial⟩⟩
  have h60 := few_len hf
  refine ⟨⟨trivial, by omega, by omega, ina_new hE, rfl⟩, ?_⟩
  rintro ⟨R, i, ⟨⟩⟩ ⟨i0, i1, hI, hA⟩
  dsimp only at i0 i1 hI hA ⊢
  refine ⟨fun hi => ⟨⟨i0, hi⟩, fun x hx => ⟨⟨i0, hi⟩, fun x2 hx2 => ?_⟩⟩, fun hi => ?_⟩
  · rw [hx] at hx2
    cases hx2
    have hx30 := few_mem hf x (List.mem_of_getElem? hx)
    refine ⟨by omega, by omega, trivial, ⟨by omega, by omega, ina_set hI _ _, ?_⟩, by omega⟩
    rw [← hA, show (i + 1).toNat = i.toNat + 1 by omega, List.drop_eq_getElem_cons (show i.toNat < l.length by omega), actsR, setR_setG (by have := hI.2; omega)]
    obtain ⟨hk, rfl⟩ := List.getElem?_eq_some_iff.1 hx
    rfl
  · rw [List.drop_of_length_le (by omega)] at hA
    refine ⟨⟨trivial, by omega, by have := hI.2; omega, hA, hI, by simp [thG], by simp [bkG]⟩, ?_⟩
    clear hA hi i0 i1 i
    clear hI R
    rintro ⟨R, a, b, v, ⟨⟩⟩ ⟨v0, v1, hA, hI, ha, hb⟩
    dsimp only at v0 v1 hA hI ha hb ⊢
    have hlen := hI.2.2
    have hle := gok_le hI.1
    have tl := th_le hle v.toNat (by omega)
    have bl := bk_le R v.toNat
    have bl2 : (v.toNat : Int) * List.length (α := List Int) R ≤ 12 * 12 := Int.mul_le_mul (by omega) (by omega) (by omega) (by omega)
    refine ⟨fun hv => ?_, fun hv => ?_⟩
    · have hvv : 0 ≤ v ∧ v < List.length (α := List Int) R := ⟨v0, by omega⟩
      have r1 := reads_le (v := v) hle
      have r2 := rds_le hI.1 v
      have hs := self_set hI.1 hvv
      have e1 : readsF R v = R.getD v.toNat [] := by rw [readsF, if_pos hvv]
      have e2 : rdsF R v = readersF R v.toNat := by rw [rdsF, if_pos hvv]
      refine ⟨trivial, by omega, trivial, by omega, ⟨⟨trivial, trivial⟩, by omega, by have := hI.2; omega⟩, ?_⟩
      rintro ⟨w, ⟨⟩⟩ ⟨w0, w1⟩
      dsimp only at w0 w1 ⊢
      refine ⟨fun hw => ?_, fun hw => ⟨trivial, r1, fun _ => ⟨fun _ => ⟨fun hne => absurd (self_may hI.1 hvv) hne, fun _ => ⟨by omega, trivial, ⟨by omega, by omega, by rw [hs.1]; exact hA, by rw [hs.1]; exact hI, ?_, ?_⟩, by omega⟩⟩, fun hne => absurd hs.2.2 hne⟩, fun hne => absurd hs.2.1 hne⟩⟩
      · have hww : 0 ≤ w ∧ w < List.length (α := List Int) R := ⟨w0, by omega⟩
        have hbo := has_both hvv hww
        refine ⟨trivial, trivial, r1, fun _ => ⟨trivial, rds_le hI.1 w, fun _ => ⟨fun e => ⟨fun hc => ?_, fun _ => ⟨by omega, ⟨trivial, trivial⟩, ⟨by omega, by omega⟩, by omega⟩⟩, fun _ => ⟨by omega, ⟨trivial, trivial⟩, ⟨by omega, by omega⟩, by omega⟩⟩, fun hc => ?_⟩, fun hc => ?_⟩
        · subst e
          rw [has_self hI.1 hvv] at hc
          cases hc
        · rw [hbo] at hc
          simp at hc
        · simp at hc
      · rw [hs.1, show (v + 1).toNat = v.toNat + 1 by omega, thG_succ, ← e1, ha]
      · rw [hs.1, show (v + 1).toNat = v.toNat + 1 by omega, bkG_succ, ← e2, hb]
    · have hvl : v.toNat = List.length (α := List Int) R := by omega
      have e1 : a = edgesF R := by rw [ha, hvl, th_all]
      have e2 : b = edgesF R := by rw [hb, hvl, bk_all hI.1]
      subst e1
      rw [e2]
      simp [edgesF]
theorem turns_pure (m : Int) (l : List Ac) : Pure Try.prog 4 [.int .i64 m, .list .tmp AcT l] (.bool true) :=
  by have k := Pure.of_cond (g_turns_eq m l) (g_turns_ok m l) (specs_ok rfl [sp_few, sp_reads, sp_readers, sp_has, sp_edges, sp_has', sp_awake] [onew.upd, oset.upd] rfl rfl) mixed Try.func4; exact k
noncomputable def q_turns (m : Int) (l : List Ac) : Prop × V := (True, (.bool true))
noncomputable def sp_turns : FSpec Try.prog where
 f := 4
 run := fun
  | [.int .i64 m, v1] => (asL AcT v1 : Option (List Ac)).bind fun l => some (q_turns m l)
  | _ => none
 ok := fun args pre r h hp => by
  split at h
  · rename_i m v1
    obtain ⟨l, h1, h⟩ := Option.bind_eq_some_iff.1 h
    exact of_q h hp fun h => (turns_pure m l).weak (.cons (.refl _) (.cons (asL_weak h1) .nil))
  · cases h

end Go.Proofs.Ytojflfogjkajaaa.Gr
