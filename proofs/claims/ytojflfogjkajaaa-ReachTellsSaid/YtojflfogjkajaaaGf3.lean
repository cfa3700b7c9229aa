/-
  law12: Few, Made, same.
-/
import Derived.Test.YtojflfogjkajaaaGf2
namespace Go.Proofs.Ytojflfogjkajaaa.Gr
open Go.Vm

noncomputable def fewF (l : List Ac) : Bool := decide (l.length ≤ 60) && l.all fun x => decide (x.2.length ≤ 30)
theorem few_mem {l : List Ac} (h : fewF l = true) (x : Ac) (hx : x ∈ l) : x.2.length ≤ 30 := by
  unfold fewF at h
  rw [Bool.and_eq_true, List.all_eq_true] at h
  have := h.2 x hx
  simpa using this
theorem few_len {l : List Ac} (h : fewF l = true) : l.length ≤ 60 := by
  unfold fewF at h
  rw [Bool.and_eq_true] at h
  simpa using h.1
noncomputable def env_few (l : List Ac) : Env where
  P := Try.prog
  ty := tys0
  heads := fun | 4 => some { slots := [(3, .int .i64)], boxes := [], inv := fun _ (x : Int × Unit) => 0 ≤ x.1 ∧ x.1 ≤ l.length ∧ (l.take x.1.toNat).all (fun x => decide (List.length (α := Int) x.2 ≤ 30)) = true, measure := fun _ (x : Int × Unit) => (l.length - x.1).toNat } | _ => none
def g_few_vc (l : List Ac) : Prop :=
  (decide ((60 : Int) < (↑l.length : Int)) = true → (false, ()) = (fewF l, ())) ∧ (decide ((60 : Int) < (↑l.length : Int)) = false → (True ∧ (0 : Int) ≤ (0 : Int) ∧ (0 : Int) ≤ (↑l.length : Int) ∧ ((List.take (Int.toNat (0 : Int)) l).all fun x => decide (x.2.length ≤ (30 : Nat))) = true) ∧ ∀ (x : Int × Unit), (0 : Int) ≤ x.1 ∧ x.1 ≤ (↑l.length : Int) ∧ ((List.take x.1.toNat l).all fun x => decide (x.2.length ≤ (30 : Nat))) = true → (decide (x.1 < (↑l.length : Int)) = true → ((0 : Int) ≤ x.1 ∧ x.1 < (↑l.length : Int)) ∧ ∀ (x_1 : Int × List Int), l[x.1.toNat]? = some x_1 → (decide ((30 : Int) < (↑x_1.2.length : Int)) = true → (false, ()) = (fewF l, ())) ∧ (decide ((30 : Int) < (↑x_1.2.length : Int)) = false → ((-9223372036854775808 : Int) ≤ x.1 + (1 : Int) ∧ x.1 + (1 : Int) ≤ (9223372036854775807 : Int)) ∧ True ∧ ((0 : Int) ≤ x.1 + (1 : Int) ∧ x.1 + (1 : Int) ≤ (↑l.length : Int) ∧ ((List.take (x.1 + (1 : Int)).toNat l).all fun x => decide (x.2.length ≤ (30 : Nat))) = true) ∧ ((↑l.length : Int) - (x.1 + (1 : Int))).toNat < ((↑l.length : Int) - x.1).toNat)) ∧ (decide (x.1 < (↑l.length : Int)) = false → (true, ()) = (fewF l, ())))
theorem g_few_eq (l : List Ac) : Cond (env_few l) Try.f15 [.list .tmp AcT l] [.bool] (fewF l, ()) = g_few_vc l := by kernel_rfl
theorem g_few_ok (l : List Ac) : g_few_vc l := by
  unfold g_few_vc
  simp only [decide_eq_true_eq, decide_eq_false_iff_not, Bool.not_eq_true', Bool.not_eq_false', Bool.not_true, Bool.not_false]
  refine ⟨fun h => ?_, fun h => ⟨⟨trivial, by omega, by omega, rfl⟩, ?_⟩⟩
  · have : fewF l = false := by
      unfold fewF
      rw [decide_eq_false (by omega), Bool.false_and]
    rw [this]
  · rintro ⟨i, ⟨⟩⟩ ⟨h0, h1, h2⟩
    dsimp only at h0 h1 h2 ⊢
    refine ⟨fun hi => ⟨⟨h0, hi⟩, fun y hy => ⟨fun hc => ?_, fun hc => ⟨by omega, trivial, ⟨by omega, by omega, ?_⟩, by omega⟩⟩⟩, fun hi => ?_⟩
    · have : fewF l = false := by
        rw [← Bool.not_eq_true]
        intro hf
        have := few_mem hf y (List.mem_of_getElem? hy)
        omega
      rw [this]
    · rw [show (i + 1).toNat = i.toNat + 1 by omega, List.take_add_one, hy, List.all_append, h2]
      simp
      omega
    · rw [List.take_of_length_le (by omega)] at h2
      have : fewF l = true := by
        unfold fewF
        rw [h2, decide_eq_true (by omega), Bool.true_and]
      rw [this]
set_option maxRecDepth 20000
theorem few_pure (l : List Ac) : Pure Try.prog 15 [.list .tmp AcT l] (.bool (fewF l)) :=
  by have k := Pure.of_cond (g_few_eq l) (g_few_ok l) (specs_ok rfl [] [] rfl rfl) mixed Try.func15; exact k
noncomputable def q_few (l : List Ac) : Prop × V := (True, (.bool (fewF l)))
noncomputable def sp_few : FSpec Try.prog where
 f := 15
 run := fun
  | [v0] => (asL AcT v0 : Option (List Ac)).bind fun l => some (q_few l)
  | _ => none
 ok := fun args pre r h hp => by
  split at h
  · rename_i v0
    obtain ⟨l, h0, h⟩ := Option.bind_eq_some_iff.1 h
    exact of_q h hp fun h => (few_pure l).weak (.cons (asL_weak h0) .nil)
  · cases h
/-- What acts come to. -/
def actsR (R : GI) : List Ac → GI
  | [] => R
  | x :: r => actsR (setG R x.1 x.2) r
theorem setG_len (R : GI) (v : Int) (l : List Int) : (setG R v l).length = R.length := by
  unfold setG
  split
  · rw [List.length_set]
  · rfl
theorem setG_le {R : GI} {v : Int} {l : List Int} (h : ∀ y ∈ R, y.length ≤ 1000000000) (hl : l.length ≤ 1000000000) : ∀ y ∈ setG R v l, y.length ≤ 1000000000 := by
  unfold setG
  split
  · intro y hy
    rcases List.mem_or_eq_of_mem_set hy with h1 | rfl
    · exact h y h1
    · exact hl
  · exact h
theorem newR_le (m : Int) : ∀ y ∈ newR m, y.length ≤ 1000000000 := by
  intro y hy
  unfold newR at hy
  split at hy
  · rw [(List.mem_replicate.1 hy).2]
    simp
  · cases hy
theorem new_nil (m : Int) : (decide ((newR m).length = 0) == !decide (newE m = 0)) = true := by
  rw [newR_len, newE]
  split
  · have : ¬ m.toNat = 0 := by omega
    simp [this]
  · rfl
theorem acts_nil : ∀ l : List Ac, actsR [] l = []
  | [] => rfl
  | x :: r => by
    have : setG [] x.1 x.2 = [] := by
      unfold setG
      rw [mg_two (.inl (by simp [nodeP]))]
      rfl
    rw [actsR, this, acts_nil r]
noncomputable def env_made (m : Int) (l : List Ac) : Env where
  P := Try.prog
  ty := tys0
  specs := specsOf [sp_rnew, sp_rset]
  upd := updsOf [onew.upd, oset.upd]
  frz := fun | 26 => true | 78 => true | _ => false
  heads := fun | 6 => some { slots := [(7, .opq 100100 .graph), (11, .int .i64)], boxes := [(9, [.list .part LI])], keep := [5], inv := fun _ (x : GI × Int × GI × Unit) => 0 ≤ x.2.1 ∧ x.2.1 ≤ l.length ∧ x.2.2.1 = x.1 ∧ x.1.length = (newR m).length ∧ actsR x.1 (l.drop x.2.1.toNat) = actsR (newR m) l ∧ ∀ y ∈ x.1, List.length y ≤ 1000000000, measure := fun _ (x : GI × Int × GI × Unit) => (l.length - x.2.1).toNat } | _ => none
abbrev ann_made : Ann := { slots := numP 0 [.opq 0 .graph, .list .part LI, .bool], boxes := [], inv := fun _ _ => True }
def g_made_vc (m : Int) (l : List Ac) : Prop :=
  True ∧ True ∧ ((!decide (newE m = newE m)) = false → ((!decide (List.length (newR m) = (0 : Nat)) == !decide (newE m = (0 : Int))) = true → False) ∧ ((!decide (List.length (newR m) = (0 : Nat)) == !decide (newE m = (0 : Int))) = false → ((some (Obj.box [V.nils]) = some (Obj.box [V.nils]) ∧ True) ∧ (0 : Int) ≤ (0 : Int) ∧ (0 : Int) ≤ (↑l.length : Int) ∧ newR m = newR m ∧ List.length (newR m) = List.length (newR m) ∧ actsR (newR m) (List.drop (Int.toNat (0 : Int)) l) = actsR (newR m) l ∧ ∀ (y : List Int), y ∈ newR m → y.length ≤ (1000000000 : Nat)) ∧ ∀ (x : List (List Int) × Int × List (List Int) × Unit), ((0 : Int) ≤ x.2.1 ∧ x.2.1 ≤ (↑l.length : Int) ∧ x.2.2.1 = x.1 ∧ x.1.length = List.length (newR m) ∧ actsR x.1 (List.drop x.2.1.toNat l) = actsR (newR m) l ∧ ∀ (y : List Int), y ∈ x.1 → y.length ≤ (1000000000 : Nat)) → (decide (x.2.1 < (↑l.length : Int)) = true → (decide (newE m = (0 : Int)) = true → ((0 : Int) ≤ x.2.1 ∧ x.2.1 < (↑l.length : Int)) ∧ ∀ (x_1 : Int × List Int), l[x.2.1.toNat]? = some x_1 → ((0 : Int) ≤ x.2.1 ∧ x.2.1 < (↑l.length : Int)) ∧ ∀ (x_2 : Int × List Int), l[x.2.1.toNat]? = some x_2 → x_2.2.length ≤ (1000000000 : Nat) ∧ ((0 : Int) ≤ x.2.1 ∧ x.2.1 < (↑l.length : Int)) ∧ ∀ (x_3 : Int × List Int), l[x.2.1.toNat]? = some x_3 → ((0 : Int) ≤ x.2.1 ∧ x.2.1 < (↑l.length : Int)) ∧ ∀ (x_4 : Int × List Int), l[x.2.1.toNat]? = some x_4 → RSm x.2.2.1 x_4.2 ∧ ((!decide (addedF x.1 x_1.1 x_2.2 = addG x.2.2.1 x_3.1 x_4.2)) = false → ((!decide (droppedF x.1 x_1.1 x_2.2 = dropG x.2.2.1 x_3.1 x_4.2)) = false → ((!decide (mayF x.1 x_1.1 x_2.2 = mayG x.2.2.1 x_3.1 x_4.2)) = true → True ∧ (setR x.1 x_1.1 x_2.2, setG x.2.2.1 x_3.1 x_4.2, false, ()) = (actsR (newR m) l, actsR (newR m) l, true, ())) ∧ ((!decide (mayF x.1 x_1.1 x_2.2 = mayG x.2.2.1 x_3.1 x_4.2)) = false → ((-9223372036854775808 : Int) ≤ x.2.1 + (1 : Int) ∧ x.2.1 + (1 : Int) ≤ (9223372036854775807 : Int)) ∧ (some (Obj.box [V.nils]) = some (Obj.box [V.nils]) ∧ True) ∧ ((0 : Int) ≤ x.2.1 + (1 : Int) ∧ x.2.1 + (1 : Int) ≤ (↑l.length : Int) ∧ setG x.2.2.1 x_3.1 x_4.2 = setR x.1 x_1.1 x_2.2 ∧ List.length (setR x.1 x_1.1 x_2.2) = List.length (newR m) ∧ actsR (setR x.1 x_1.1 x_2.2) (List.drop (x.2.1 + (1 : Int)).toNat l) = actsR (newR m) l ∧ ∀ (y : List Int), y ∈ setR x.1 x_1.1 x_2.2 → y.length ≤ (1000000000 : Nat)) ∧ ((↑l.length : Int) - (x.2.1 + (1 : Int))).toNat < ((↑l.length : Int) - x.2.1).toNat)) ∧ ((!decide (droppedF x.1 x_1.1 x_2.2 = dropG x.2.2.1 x_3.1 x_4.2)) = !false → True ∧ (setR x.1 x_1.1 x_2.2, setG x.2.2.1 x_3.1 x_4.2, false, ()) = (actsR (newR m) l, actsR (newR m) l, true, ()))) ∧ ((!decide (addedF x.1 x_1.1 x_2.2 = addG x.2.2.1 x_3.1 x_4.2)) = !false → True ∧ (setR x.1 x_1.1 x_2.2, setG x.2.2.1 x_3.1 x_4.2, false, ()) = (actsR (newR m) l, actsR (newR m) l, true, ()))) ∧ (decide (newE m = (0 : Int)) = false → True ∧ (x.1, x.2.2.1, true, ()) = (actsR (newR m) l, actsR (newR m) l, true, ()))) ∧ (decide (x.2.1 < (↑l.length : Int)) = !true → True ∧ (x.1, x.2.2.1, true, ()) = (actsR (newR m) l, actsR (newR m) l, true, ())))) ∧ ((!decide (newE m = newE m)) = !false → False)
theorem g_made_eq (m : Int) (l : List Ac) : CondO (env_made m l) Try.f17 [.int .i64 m, .list .tmp AcT l] [] [none, some 1, none] ann_made (actsR (newR m) l, actsR (newR m) l, true, ()) = g_made_vc m l := by kernel_rfl
theorem g_made_ok (m : Int) (l : List Ac) (h : fewF l = true) : g_made_vc m l := by
  unfold g_made_vc
  simp only [decide_eq_true_eq, decide_eq_false_iff_not, Bool.not_eq_true', Bool.not_eq_false', Bool.not_true, Bool.not_false]
  have h60 := few_len h
  refine ⟨trivial, trivial, fun _ => ⟨fun hc => ?_, fun _ => ⟨⟨⟨trivial, trivial⟩, by omega, by omega, trivial, trivial, rfl, newR_le m⟩, ?_⟩⟩, fun hc => absurd trivial hc⟩
  · rw [new_nil] at hc
    cases hc
  rintro ⟨R, i, Q, ⟨⟩⟩ ⟨h0, h1, h2, h3, h4, h5⟩
  dsimp only at h0 h1 h2 h3 h4 h5 ⊢
  subst h2
  refine ⟨fun hi => ⟨fun hE => ⟨⟨h0, hi⟩, fun x hx => ⟨⟨h0, hi⟩, fun x2 hx2 => ?_⟩⟩, fun hE => ⟨trivial, ?_⟩⟩, fun hi => ⟨trivial, ?_⟩⟩
  · have hR : 0 < Q.length := by
      rw [h3, newR_len]
      unfold newE at hE
      split at hE
      · rename_i h
        rw [if_pos h]; omega
      · cases hE
    rw [hx] at hx2
    cases hx2
    have hx30 := few_mem h x (List.mem_of_getElem? hx)
    refine ⟨by omega, ⟨h0, hi⟩, fun x3 hx3 => ⟨⟨h0, hi⟩, fun x4 hx4 => ?_⟩⟩
    rw [hx] at hx3 hx4
    cases hx3
    cases hx4
    have e1 := may_eq hR x.1 x.2
    have e2 : setR Q x.1 x.2 = setG Q x.1 x.2 := by rw [setR, setG, e1]
    have e3 : addedF Q x.1 x.2 = addG Q x.1 x.2 := by rw [addedF, addG, e1]
    have e4 : droppedF Q x.1 x.2 = dropG Q x.1 x.2 := by rw [droppedF, dropG, e1]
    have hlen : (newR m).length ≤ 20000 := by rw [newR_len]; split <;> omega
    have hset := setG_le (v := x.1) h5 (show x.2.length ≤ 1000000000 by omega)
    refine ⟨⟨by omega, by rw [h3]; omega, h5⟩, fun _ => ⟨fun _ => ⟨fun hne => absurd e1 hne, fun _ => ⟨by omega, ⟨trivial, trivial⟩, ⟨by omega, by omega, e2.symm, by rw [e2, setG_len]; exact h3, ?_, by rw [e2]; exact hset⟩, by omega⟩⟩, fun hne => absurd e4 hne⟩, fun hne => absurd e3 hne⟩
    rw [← h4, show (i + 1).toNat = i.toNat + 1 by omega, List.drop_eq_getElem_cons (show i.toNat < l.length by omega), actsR, e2]
    obtain ⟨hk, rfl⟩ := List.getElem?_eq_some_iff.1 hx
    rfl
  · have hR : newR m = [] := by
      unfold newE at hE
      split at hE
      · exact absurd rfl hE
      · rename_i h
        rw [newR, if_neg h]
    rw [hR] at h3 h4 ⊢
    rw [List.eq_nil_of_length_eq_zero h3, acts_nil]
  · rw [List.drop_of_length_le (by omega)] at h4
    rw [← h4]
    rfl
theorem made_upd (m : Int) (l : List Ac) (h : fewF l = true) : UpdC Try.prog 17 [.int .i64 m, .list .tmp AcT l] [] (.tuple [.oref 0, .agg [.list .part LI (actsR (newR m) l)], .bool true]) [(0, .opq .graph (actsR (newR m) l))] :=
  by have k := UpdC.of_cond (g_made_eq m l) (g_made_ok m l h) (specs_ok rfl [sp_rnew, sp_rset] [onew.upd, oset.upd] rfl rfl) mixed Try.func17; exact k
noncomputable def q_made (m : Int) (l : List Ac) : Prop × V × Store := (fewF l = true, .tuple [.oref 0, .agg [.list .part LI (actsR (newR m) l)], .bool true], [(0, .opq .graph (actsR (newR m) l))])
noncomputable def so_made : OSpec Try.prog where
 f := 17
 run := fun args σ => match args, σ with
  | [.int .i64 m, v1], [] => (asL AcT v1 : Option (List Ac)).bind fun l => some (q_made m l)
  | _, _ => none
 ok := fun args σ pre r σ' h hp => by
  try dsimp only at h
  split at h
  · rename_i m v1
    obtain ⟨l, h1, h⟩ := Option.bind_eq_some_iff.1 h
    exact of_qo h hp fun h => (made_upd m l h).weak (.cons (.refl _) (.cons (asL_weak h1) .nil))
  · cases h

end Go.Proofs.Ytojflfogjkajaaa.Gr
