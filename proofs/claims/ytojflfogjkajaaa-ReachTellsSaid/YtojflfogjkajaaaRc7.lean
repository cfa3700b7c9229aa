/-
  law13: ReachSteps, ReachCloses.
-/
import Derived.Test.YtojflfogjkajaaaRc6
namespace Go.Proofs.Ytojflfogjkajaaa.Rc
open Go.Vm Go.Proofs.Ytojflfogjkajaaa.Gr

theorem pth_rev {nx ny : Int → List Int} {w x : Int} {n : Nat} (h : ∀ u v, v ∈ nx u → u ∈ ny v) : ∀ {k : Nat} {v : Int}, Pth nx (Fr n [w]) k v → ∀ j, Pth ny (Fr n [x]) j v → Pth ny (Fr n [x]) (j + k) w
  | _, v, .zero hf, j, hp => by
    have : v = w := by simpa using hf.2
    subst this
    exact hp
  | _, _, .succ (k := k) hp he, j, hq => by
    have := pth_rev h hp (j + 1) (.succ hq (h _ _ he))
    rw [show j + (k + 1) = j + 1 + k by omega]
    exact this
theorem reads_rds {R : GI} (h : GOk R) (u v : Int) (hm : v ∈ readsF R u) : u ∈ rdsF R v := by
  have hu : Dom R.length u := by
    unfold readsF at hm
    split at hm
    · assumption
    · cases hm
  exact (rds_iff h v u hu).2 hm
theorem rds_reads {R : GI} (h : GOk R) (u v : Int) (hm : v ∈ rdsF R u) : u ∈ readsF R v := by
  have hu : Dom R.length u := by
    unfold rdsF at hm
    split at hm
    · assumption
    · cases hm
  exact (rds_iff h u v (rds_dom h u v hu hm)).1 hm
theorem tabS {R : GI} (h : GOk R) (l : List Int) : Table R.length (rdsF R) (Fr R.length l) (stepsF R.length (rdsF R) (Fr R.length l)) := steps_table fr_dom (rds_dom h)
theorem tabN {R : GI} (h : GOk R) (l : List Int) : Table R.length (readsF R) (Fr R.length l) (stepsF R.length (readsF R) (Fr R.length l)) := steps_table fr_dom (reads_dom h)
theorem both_ways {R : GI} (h : GOk R) {v w : Int} (hv : Dom R.length v) (hw : Dom R.length w) :
    (metF (stepsF R.length (rdsF R) (Fr R.length [w]))).contains v = (metF (stepsF R.length (readsF R) (Fr R.length [v]))).contains w := by
  rw [Bool.eq_iff_iff, List.contains_iff_mem, List.contains_iff_mem, mem_met, mem_met]
  have h1 := tabS h [w]
  have h2 := tabN h [v]
  constructor
  · intro hm
    have := pth_rev (rds_reads h) (h1.sound v (atI (stepsF R.length (rdsF R) (Fr R.length [w])) v).toNat (by omega)) 0 (Pth.zero (F := Fr R.length [v]) ⟨hv, by simp⟩)
    exact (h2.exact this).1
  · intro hm
    have := pth_rev (reads_rds h) (h2.sound w (atI (stepsF R.length (readsF R) (Fr R.length [v])) w).toNat (by omega)) 0 (Pth.zero (F := Fr R.length [w]) ⟨hw, by simp⟩)
    exact (h1.exact this).1

/-- The least of the steps of some. -/
def Bst (T : List Int) (l : List Int) (b : Int) : Prop := (b = -1 ∧ ∀ w ∈ l, atI T w < 0) ∨ (0 ≤ b ∧ (∃ w ∈ l, atI T w = b) ∧ ∀ w ∈ l, 0 ≤ atI T w → b ≤ atI T w)
theorem Bst.nil (T : List Int) : Bst T [] (-1) := .inl ⟨rfl, fun w hw => by simp at hw⟩
theorem Bst.snoc {T l : List Int} {b x : Int} (h : Bst T l b) (hx : ¬ (0 ≤ atI T x ∧ (b < 0 ∨ atI T x < b))) : Bst T (l ++ [x]) b := by
  rcases h with ⟨h1, h2⟩ | ⟨h1, ⟨w, h2, h3⟩, h4⟩
  · refine .inl ⟨h1, fun w hw => ?_⟩
    rcases List.mem_append.1 hw with hw | hw
    · exact h2 w hw
    · rw [List.mem_singleton.1 hw]
      omega
  · refine .inr ⟨h1, ⟨w, List.mem_append_left _ h2, h3⟩, fun u hu h0 => ?_⟩
    rcases List.mem_append.1 hu with hu | hu
    · exact h4 u hu h0
    · rw [List.mem_singleton.1 hu] at h0 ⊢
      omega
theorem Bst.put {T l : List Int} {b x : Int} (h : Bst T l b) (hx : 0 ≤ atI T x ∧ (b < 0 ∨ atI T x < b)) : Bst T (l ++ [x]) (atI T x) := by
  refine .inr ⟨hx.1, ⟨x, by simp, rfl⟩, fun u hu h0 => ?_⟩
  rcases List.mem_append.1 hu with hu | hu
  · rcases h with ⟨h1, h2⟩ | ⟨h1, _, h4⟩
    · have := h2 u hu
      omega
    · have := h4 u hu h0
      omega
  · rw [List.mem_singleton.1 hu]
    omega
theorem Bst.low {T l : List Int} {b : Int} (h : Bst T l b) : -1 ≤ b := by
  rcases h with ⟨h1, _⟩ | ⟨h1, _⟩ <;> omega
theorem Bst.fin {R : GI} (hG : GOk R) {fr : List Int} {v b : Int} (hv : Dom R.length v) (h : Bst (stepsF R.length (rdsF R) (Fr R.length fr)) (readsF R v) b) :
    (0 < atI (stepsF R.length (rdsF R) (Fr R.length fr)) v → atI (stepsF R.length (rdsF R) (Fr R.length fr)) v = b + 1) ∧ (atI (stepsF R.length (rdsF R) (Fr R.length fr)) v < 0 → b < 0) := by
  have hT := tabS hG fr
  generalize stepsF R.length (rdsF R) (Fr R.length fr) = T at hT h ⊢
  constructor
  · intro hp
    obtain ⟨u, h1, h2⟩ := hT.pred (v := v) (k := (atI T v).toNat - 1) (by omega)
    have hu := rds_reads hG u v h1
    rcases h with ⟨h3, h4⟩ | ⟨h3, ⟨w, h4, h5⟩, h6⟩
    · have := h4 u hu
      omega
    · have a := h6 u hu (by omega)
      have c := hT.closed w v (by omega) (reads_rds hG v w h4)
      omega
  · intro hn
    rcases h with ⟨h3, h4⟩ | ⟨h3, ⟨w, h4, h5⟩, h6⟩
    · omega
    · have c := hT.closed w v (by omega) (reads_rds hG v w h4)
      omega
theorem acts_len : ∀ (l : List Ac) (R : GI), (actsR R l).length = R.length
  | [], _ => rfl
  | x :: r, R => by rw [actsR, acts_len r, setG_len]
theorem made_len {m : Int} {l : List Ac} (h : ¬ (actsR (newR m) l).length = 0) : ((actsR (newR m) l).length : Int) = m := by
  rw [acts_len, newR_len] at h ⊢
  split at h
  · rename_i hm
    rw [if_pos hm]
    omega
  · exact absurd rfl h
theorem met_le (o : List Int) : (metF o).length ≤ o.length := ixs_le _ _
theorem met_has (T : List Int) (v : Int) : (decide (0 ≤ atI T v) == (metF T).contains v) = true := by
  rw [beq_iff_eq, Bool.eq_iff_iff, decide_eq_true_eq, List.contains_iff_mem, mem_met]
theorem zero_has {n : Nat} {nx : Int → List Int} {fr T : List Int} (hT : Table n nx (Fr n fr) T) {v : Int} (hv : Dom n v) : (decide (atI T v = 0) == fr.contains v) = true := by
  rw [beq_iff_eq, Bool.eq_iff_iff, decide_eq_true_eq, List.contains_iff_mem]
  constructor
  · intro h0
    have := hT.sound v 0 h0
    cases this with
    | zero h => exact h.2
  · intro hm
    exact hT.zero v ⟨hv, hm⟩
noncomputable abbrev TS (m : Int) (l : List Ac) (fr : List Int) : List Int := stepsF (actsR (newR m) l).length (rdsF (actsR (newR m) l)) (Fr (actsR (newR m) l).length fr)
noncomputable def env_lsteps (m : Int) (l : List Ac) (fr : List Int) : Env where
  P := Try.prog
  ty := tys0
  specs := specsOf [sp_few, sp_awake, sp_reach, sp_steps, sp_has', sp_reads]
  upd := updsOf [so_made.upd]
  frz := fun | 44 => true | _ => false
  heads := fun
    | 13 => some { slots := [(12, .int .i64)], boxes := [], keep := [100000, 8], inv := fun _ (x : Int × Unit) => 0 ≤ x.1 ∧ x.1 ≤ m, measure := fun _ (x : Int × Unit) => (m - x.1).toNat }
    | 20 => some { slots := [(13, .int .i64), (15, .int .i64)], boxes := [], keep := [100000, 8], inv := fun st (x : Int × Int × Unit) => 0 ≤ x.2.1 ∧ x.2.1 ≤ (readsF (actsR (newR m) l) (st.int 12)).length ∧ Bst (TS m l fr) ((readsF (actsR (newR m) l) (st.int 12)).take x.2.1.toNat) x.1, measure := fun st (x : Int × Int × Unit) => ((readsF (actsR (newR m) l) (st.int 12)).length - x.2.1).toNat }
    | _ => none
def g_lsteps_vc (m : Int) (l : List Ac) (fr : List Int) : Prop :=
  True ∧ ((!fewF l) = false → (decide ((12 : Int) < m) = false → (decide ((60 : Int) < (↑fr.length : Int)) = true → True ∧ (true, ()) = (true, ())) ∧ (decide ((60 : Int) < (↑fr.length : Int)) = false → fewF l = true ∧ ((!true) = true → (false, ()) = (true, ())) ∧ ((!true) = false → (decide (List.length (actsR (newR m) l) = (0 : Nat)) = true → True ∧ (true, ()) = (true, ())) ∧ (decide (List.length (actsR (newR m) l) = (0 : Nat)) = false → ((List.length (actsR (newR m) l) ≤ (20000 : Nat) ∧ ∀ (v : Nat) (l_1 : List Int), (actsR (newR m) l)[v]? = some l_1 → l_1.Nodup ∧ ∀ (x : Int), x ∈ l_1 → (0 : Int) ≤ x ∧ x < (↑(List.length (actsR (newR m) l)) : Int) ∧ x ≠ (↑v : Int)) ∧ fr.length ≤ (1000000000 : Nat)) ∧ ((List.length (actsR (newR m) l) ≤ (20000 : Nat) ∧ ∀ (v : Nat) (l_1 : List Int), (actsR (newR m) l)[v]? = some l_1 → l_1.Nodup ∧ ∀ (x : Int), x ∈ l_1 → (0 : Int) ≤ x ∧ x < (↑(List.length (actsR (newR m) l)) : Int) ∧ x ≠ (↑v : Int)) ∧ fr.length ≤ (1000000000 : Nat)) ∧ ((!decide ((↑(stepsF (List.length (actsR (newR m) l)) (rdsF (actsR (newR m) l)) (Fr (List.length (actsR (newR m) l)) fr)).length : Int) = m)) = true → (false, ()) = (true, ())) ∧ ((!decide ((↑(stepsF (List.length (actsR (newR m) l)) (rdsF (actsR (newR m) l)) (Fr (List.length (actsR (newR m) l)) fr)).length : Int) = m)) = false → ((some (Obj.opq OK.graph (actsR (newR m) l)) = some (Obj.opq OK.graph (actsR (newR m) l)) ∧ some (Obj.box [V.list LK.part LI (actsR (newR m) l)]) = some (Obj.box [V.list LK.part LI (actsR (newR m) l)]) ∧ True) ∧ (0 : Int) ≤ (0 : Int) ∧ (0 : Int) ≤ m) ∧ ∀ (x : Int × Unit), (0 : Int) ≤ x.1 ∧ x.1 ≤ m → (decide (x.1 < m) = true → ((0 : Int) ≤ x.1 ∧ x.1 < (↑(stepsF (List.length (actsR (newR m) l)) (rdsF (actsR (newR m) l)) (Fr (List.length (actsR (newR m) l)) fr)).length : Int)) ∧ ∀ (x_1 : Int), (stepsF (List.length (actsR (newR m) l)) (rdsF (actsR (newR m) l)) (Fr (List.length (actsR (newR m) l)) fr))[x.1.toNat]? = some x_1 → (metF (stepsF (List.length (actsR (newR m) l)) (rdsF (actsR (newR m) l)) (Fr (List.length (actsR (newR m) l)) fr))).length ≤ (1000000000 : Nat) ∧ ((!decide ((0 : Int) ≤ x_1) == (metF (stepsF (List.length (actsR (newR m) l)) (rdsF (actsR (newR m) l)) (Fr (List.length (actsR (newR m) l)) fr))).contains x.1) = false → ((0 : Int) ≤ x.1 ∧ x.1 < (↑(stepsF (List.length (actsR (newR m) l)) (rdsF (actsR (newR m) l)) (Fr (List.length (actsR (newR m) l)) fr)).length : Int)) ∧ ∀ (x_2 : Int), (stepsF (List.length (actsR (newR m) l)) (rdsF (actsR (newR m) l)) (Fr (List.length (actsR (newR m) l)) fr))[x.1.toNat]? = some x_2 → (decide (x_2 < (-1 : Int)) = false → ((0 : Int) ≤ x.1 ∧ x.1 < (↑(stepsF (List.length (actsR (newR m) l)) (rdsF (actsR (newR m) l)) (Fr (List.length (actsR (newR m) l)) fr)).length : Int)) ∧ ∀ (x_3 : Int), (stepsF (List.length (actsR (newR m) l)) (rdsF (actsR (newR m) l)) (Fr (List.length (actsR (newR m) l)) fr))[x.1.toNat]? = some x_3 → fr.length ≤ (1000000000 : Nat) ∧ ((!decide (x_3 = (0 : Int)) == fr.contains x.1) = true → (false, ()) = (true, ())) ∧ ((!decide (x_3 = (0 : Int)) == fr.contains x.1) = false → True ∧ ((some (Obj.opq OK.graph (actsR (newR m) l)) = some (Obj.opq OK.graph (actsR (newR m) l)) ∧ some (Obj.box [V.list LK.part LI (actsR (newR m) l)]) = some (Obj.box [V.list LK.part LI (actsR (newR m) l)]) ∧ True) ∧ (0 : Int) ≤ (0 : Int) ∧ (0 : Int) ≤ (↑(readsF (actsR (newR m) l) x.1).length : Int) ∧ Bst (TS m l fr) (List.take (Int.toNat (0 : Int)) (readsF (actsR (newR m) l) x.1)) (-1 : Int)) ∧ ∀ (x_4 : Int × Int × Unit), (0 : Int) ≤ x_4.2.1 ∧ x_4.2.1 ≤ (↑(readsF (actsR (newR m) l) x.1).length : Int) ∧ Bst (TS m l fr) (List.take x_4.2.1.toNat (readsF (actsR (newR m) l) x.1)) x_4.1 → (decide (x_4.2.1 < (↑(readsF (actsR (newR m) l) x.1).length : Int)) = true → ((0 : Int) ≤ x_4.2.1 ∧ x_4.2.1 < (↑(readsF (actsR (newR m) l) x.1).length : Int)) ∧ ∀ (x_5 : Int), (readsF (actsR (newR m) l) x.1)[x_4.2.1.toNat]? = some x_5 → (decide (x_5 < (0 : Int)) = false → (decide (m ≤ x_5) = true → (false, ()) = (true, ())) ∧ (decide (m ≤ x_5) = false → ((0 : Int) ≤ x_5 ∧ x_5 < (↑(stepsF (List.length (actsR (newR m) l)) (rdsF (actsR (newR m) l)) (Fr (List.length (actsR (newR m) l)) fr)).length : Int)) ∧ ∀ (x_6 : Int), (stepsF (List.length (actsR (newR m) l)) (rdsF (actsR (newR m) l)) (Fr (List.length (actsR (newR m) l)) fr))[x_5.toNat]? = some x_6 → (decide ((0 : Int) ≤ x_6) = true → (decide (x_4.1 < (0 : Int)) = false → ((0 : Int) ≤ x_5 ∧ x_5 < (↑(stepsF (List.length (actsR (newR m) l)) (rdsF (actsR (newR m) l)) (Fr (List.length (actsR (newR m) l)) fr)).length : Int)) ∧ ∀ (x_7 : Int), (stepsF (List.length (actsR (newR m) l)) (rdsF (actsR (newR m) l)) (Fr (List.length (actsR (newR m) l)) fr))[x_5.toNat]? = some x_7 → (decide (x_7 < x_4.1) = true → ((0 : Int) ≤ x_5 ∧ x_5 < (↑(stepsF (List.length (actsR (newR m) l)) (rdsF (actsR (newR m) l)) (Fr (List.length (actsR (newR m) l)) fr)).length : Int)) ∧ ∀ (x_8 : Int), (stepsF (List.length (actsR (newR m) l)) (rdsF (actsR (newR m) l)) (Fr (List.length (actsR (newR m) l)) fr))[x_5.toNat]? = some x_8 → ((-9223372036854775808 : Int) ≤ x_4.2.1 + (1 : Int) ∧ x_4.2.1 + (1 : Int) ≤ (9223372036854775807 : Int)) ∧ (some (Obj.opq OK.graph (actsR (newR m) l)) = some (Obj.opq OK.graph (actsR (newR m) l)) ∧ some (Obj.box [V.list LK.part LI (actsR (newR m) l)]) = some (Obj.box [V.list LK.part LI (actsR (newR m) l)]) ∧ True) ∧ ((0 : Int) ≤ x_4.2.1 + (1 : Int) ∧ x_4.2.1 + (1 : Int) ≤ (↑(readsF (actsR (newR m) l) x.1).length : Int) ∧ Bst (TS m l fr) (List.take (x_4.2.1 + (1 : Int)).toNat (readsF (actsR (newR m) l) x.1)) x_8) ∧ ((↑(readsF (actsR (newR m) l) x.1).length : Int) - (x_4.2.1 + (1 : Int))).toNat < ((↑(readsF (actsR (newR m) l) x.1).length : Int) - x_4.2.1).toNat) ∧ (decide (x_7 < x_4.1) = false → ((-9223372036854775808 : Int) ≤ x_4.2.1 + (1 : Int) ∧ x_4.2.1 + (1 : Int) ≤ (9223372036854775807 : Int)) ∧ (some (Obj.opq OK.graph (actsR (newR m) l)) = some (Obj.opq OK.graph (actsR (newR m) l)) ∧ some (Obj.box [V.list LK.part LI (actsR (newR m) l)]) = some (Obj.box [V.list LK.part LI (actsR (newR m) l)]) ∧ True) ∧ ((0 : Int) ≤ x_4.2.1 + (1 : Int) ∧ x_4.2.1 + (1 : Int) ≤ (↑(readsF (actsR (newR m) l) x.1).length : Int) ∧ Bst (TS m l fr) (List.take (x_4.2.1 + (1 : Int)).toNat (readsF (actsR (newR m) l) x.1)) x_4.1) ∧ ((↑(readsF (actsR (newR m) l) x.1).length : Int) - (x_4.2.1 + (1 : Int))).toNat < ((↑(readsF (actsR (newR m) l) x.1).length : Int) - x_4.2.1).toNat)) ∧ (decide (x_4.1 < (0 : Int)) = !false → ((0 : Int) ≤ x_5 ∧ x_5 < (↑(stepsF (List.length (actsR (newR m) l)) (rdsF (actsR (newR m) l)) (Fr (List.length (actsR (newR m) l)) fr)).length : Int)) ∧ ∀ (x_7 : Int), (stepsF (List.length (actsR (newR m) l)) (rdsF (actsR (newR m) l)) (Fr (List.length (actsR (newR m) l)) fr))[x_5.toNat]? = some x_7 → ((-9223372036854775808 : Int) ≤ x_4.2.1 + (1 : Int) ∧ x_4.2.1 + (1 : Int) ≤ (9223372036854775807 : Int)) ∧ (some (Obj.opq OK.graph (actsR (newR m) l)) = some (Obj.opq OK.graph (actsR (newR m) l)) ∧ some (Obj.box [V.list LK.part LI (actsR (newR m) l)]) = some (Obj.box [V.list LK.part LI (actsR (newR m) l)]) ∧ True) ∧ ((0 : Int) ≤ x_4.2.1 + (1 : Int) ∧ x_4.2.1 + (1 : Int) ≤ (↑(readsF (actsR (newR m) l) x.1).length : Int) ∧ Bst (TS m l fr) (List.take (x_4.2.1 + (1 : Int)).toNat (readsF (actsR (newR m) l) x.1)) x_7) ∧ ((↑(readsF (actsR (newR m) l) x.1).length : Int) - (x_4.2.1 + (1 : Int))).toNat < ((↑(readsF (actsR (newR m) l) x.1).length : Int) - x_4.2.1).toNat)) ∧ (decide ((0 : Int) ≤ x_6) = !true → ((-9223372036854775808 : Int) ≤ x_4.2.1 + (1 : Int) ∧ x_4.2.1 + (1 : Int) ≤ (9223372036854775807 : Int)) ∧ (some (Obj.opq OK.graph (actsR (newR m) l)) = some (Obj.opq OK.graph (actsR (newR m) l)) ∧ some (Obj.box [V.list LK.part LI (actsR (newR m) l)]) = some (Obj.box [V.list LK.part LI (actsR (newR m) l)]) ∧ True) ∧ ((0 : Int) ≤ x_4.2.1 + (1 : Int) ∧ x_4.2.1 + (1 : Int) ≤ (↑(readsF (actsR (newR m) l) x.1).length : Int) ∧ Bst (TS m l fr) (List.take (x_4.2.1 + (1 : Int)).toNat (readsF (actsR (newR m) l) x.1)) x_4.1) ∧ ((↑(readsF (actsR (newR m) l) x.1).length : Int) - (x_4.2.1 + (1 : Int))).toNat < ((↑(readsF (actsR (newR m) l) x.1).length : Int) - x_4.2.1).toNat))) ∧ (decide (x_5 < (0 : Int)) = !false → (false, ()) = (true, ()))) ∧ (decide (x_4.2.1 < (↑(readsF (actsR (newR m) l) x.1).length : Int)) = false → ((0 : Int) ≤ x.1 ∧ x.1 < (↑(stepsF (List.length (actsR (newR m) l)) (rdsF (actsR (newR m) l)) (Fr (List.length (actsR (newR m) l)) fr)).length : Int)) ∧ ∀ (x_5 : Int), (stepsF (List.length (actsR (newR m) l)) (rdsF (actsR (newR m) l)) (Fr (List.length (actsR (newR m) l)) fr))[x.1.toNat]? = some x_5 → (decide ((0 : Int) < x_5) = true → ((0 : Int) ≤ x.1 ∧ x.1 < (↑(stepsF (List.length (actsR (newR m) l)) (rdsF (actsR (newR m) l)) (Fr (List.length (actsR (newR m) l)) fr)).length : Int)) ∧ ∀ (x_6 : Int), (stepsF (List.length (actsR (newR m) l)) (rdsF (actsR (newR m) l)) (Fr (List.length (actsR (newR m) l)) fr))[x.1.toNat]? = some x_6 → ((-9223372036854775808 : Int) ≤ x_4.1 + (1 : Int) ∧ x_4.1 + (1 : Int) ≤ (9223372036854775807 : Int)) ∧ ((!decide (x_6 = x_4.1 + (1 : Int))) = false → ((0 : Int) ≤ x.1 ∧ x.1 < (↑(stepsF (List.length (actsR (newR m) l)) (rdsF (actsR (newR m) l)) (Fr (List.length (actsR (newR m) l)) fr)).length : Int)) ∧ ∀ (x_7 : Int), (stepsF (List.length (actsR (newR m) l)) (rdsF (actsR (newR m) l)) (Fr (List.length (actsR (newR m) l)) fr))[x.1.toNat]? = some x_7 → (decide (x_7 < (0 : Int)) = true → (decide ((0 : Int) ≤ x_4.1) = true → (false, ()) = (true, ())) ∧ (decide ((0 : Int) ≤ x_4.1) = false → ((-9223372036854775808 : Int) ≤ x.1 + (1 : Int) ∧ x.1 + (1 : Int) ≤ (9223372036854775807 : Int)) ∧ (some (Obj.opq OK.graph (actsR (newR m) l)) = some (Obj.opq OK.graph (actsR (newR m) l)) ∧ some (Obj.box [V.list LK.part LI (actsR (newR m) l)]) = some (Obj.box [V.list LK.part LI (actsR (newR m) l)]) ∧ True) ∧ ((0 : Int) ≤ x.1 + (1 : Int) ∧ x.1 + (1 : Int) ≤ m) ∧ (m - (x.1 + (1 : Int))).toNat < (m - x.1).toNat)) ∧ (decide (x_7 < (0 : Int)) = !true → ((-9223372036854775808 : Int) ≤ x.1 + (1 : Int) ∧ x.1 + (1 : Int) ≤ (9223372036854775807 : Int)) ∧ (some (Obj.opq OK.graph (actsR (newR m) l)) = some (Obj.opq OK.graph (actsR (newR m) l)) ∧ some (Obj.box [V.list LK.part LI (actsR (newR m) l)]) = some (Obj.box [V.list LK.part LI (actsR (newR m) l)]) ∧ True) ∧ ((0 : Int) ≤ x.1 + (1 : Int) ∧ x.1 + (1 : Int) ≤ m) ∧ (m - (x.1 + (1 : Int))).toNat < (m - x.1).toNat)) ∧ ((!decide (x_6 = x_4.1 + (1 : Int))) = !false → (false, ()) = (true, ()))) ∧ (decide ((0 : Int) < x_5) = !true → ((0 : Int) ≤ x.1 ∧ x.1 < (↑(stepsF (List.length (actsR (newR m) l)) (rdsF (actsR (newR m) l)) (Fr (List.length (actsR (newR m) l)) fr)).length : Int)) ∧ ∀ (x_6 : Int), (stepsF (List.length (actsR (newR m) l)) (rdsF (actsR (newR m) l)) (Fr (List.length (actsR (newR m) l)) fr))[x.1.toNat]? = some x_6 → (decide (x_6 < (0 : Int)) = true → (decide ((0 : Int) ≤ x_4.1) = true → (false, ()) = (true, ())) ∧ (decide ((0 : Int) ≤ x_4.1) = false → ((-9223372036854775808 : Int) ≤ x.1 + (1 : Int) ∧ x.1 + (1 : Int) ≤ (9223372036854775807 : Int)) ∧ (some (Obj.opq OK.graph (actsR (newR m) l)) = some (Obj.opq OK.graph (actsR (newR m) l)) ∧ some (Obj.box [V.list LK.part LI (actsR (newR m) l)]) = some (Obj.box [V.list LK.part LI (actsR (newR m) l)]) ∧ True) ∧ ((0 : Int) ≤ x.1 + (1 : Int) ∧ x.1 + (1 : Int) ≤ m) ∧ (m - (x.1 + (1 : Int))).toNat < (m - x.1).toNat)) ∧ (decide (x_6 < (0 : Int)) = !true → ((-9223372036854775808 : Int) ≤ x.1 + (1 : Int) ∧ x.1 + (1 : Int) ≤ (9223372036854775807 : Int)) ∧ (some (Obj.opq OK.graph (actsR (newR m) l)) = some (Obj.opq OK.graph (actsR (newR m) l)) ∧ some (Obj.box [V.list LK.part LI (actsR (newR m) l)]) = some (Obj.box [V.list LK.part LI (actsR (newR m) l)]) ∧ True) ∧ ((0 : Int) ≤ x.1 + (1 : Int) ∧ x.1 + (1 : Int) ≤ m) ∧ (m - (x.1 + (1 : Int))).toNat < (m - x.1).toNat))))) ∧ (decide (x_2 < (-1 : Int)) = !false → (false, ()) = (true, ()))) ∧ ((!decide ((0 : Int) ≤ x_1) == (metF (stepsF (List.length (actsR (newR m) l)) (rdsF (actsR (newR m) l)) (Fr (List.length (actsR (newR m) l)) fr))).contains x.1) = !false → (false, ()) = (true, ()))) ∧ (decide (x.1 < m) = false → True ∧ (true, ()) = (true, ()))))))) ∧ (decide ((12 : Int) < m) = !false → True ∧ (true, ()) = (true, ()))) ∧ ((!fewF l) = !false → True ∧ (true, ()) = (true, ()))
theorem g_lsteps_eq (m : Int) (l : List Ac) (fr : List Int) : Cond (env_lsteps m l fr) Try.f7 [.int .i64 m, .list .tmp AcT l, .list .tmp I fr] [.bool] (true, ()) = g_lsteps_vc m l fr := by kernel_rfl
theorem g_lsteps_ok (m : Int) (l : List Ac) (fr : List Int) : g_lsteps_vc m l fr := by
  unfold g_lsteps_vc
  simp only [decide_eq_true_eq, decide_eq_false_iff_not, Bool.not_eq_true', Bool.not_eq_false', Bool.not_true, Bool.not_false]
  refine ⟨trivial, fun hf => ⟨fun hm => ⟨fun _ => ⟨trivial, trivial⟩, fun h60 => ⟨hf, (fun e => by cases e), fun _ => ⟨fun _ => ⟨trivial, trivial⟩, fun hne => ?_⟩⟩⟩, fun _ => ⟨trivial, trivial⟩⟩, fun _ => ⟨trivial, trivial⟩⟩
  have hG := gok_acts l _ (gok_new m)
  have hRm := made_len hne
  have hfr : fr.length ≤ 1000000000 := by omega
  have hT := tabS hG fr
  have hB := fun (v b : Int) => Bst.fin hG (fr := fr) (v := v) (b := b)
  unfold TS
  generalize actsR (newR m) l = R at *
  generalize stepsF R.length (rdsF R) (Fr R.length fr) = T at *
  have hTl := hT.len
  have hml := met_le T
  refine ⟨⟨hG, hfr⟩, ⟨hG, hfr⟩, fun hne => absurd (by omega) hne, fun _ => ⟨⟨⟨trivial, trivial, trivial⟩, by omega, by omega⟩, ?_⟩⟩
  rintro ⟨v, ⟨⟩⟩ ⟨v0, v1⟩
  dsimp only at v0 v1 ⊢
  refine ⟨fun hv => ⟨⟨v0, by omega⟩, fun tv htv => ?_⟩, fun _ => ⟨trivial, trivial⟩⟩
  have hd : Dom T.length v := ⟨v0, by omega⟩
  have hdR : Dom R.length v := ⟨v0, by omega⟩
  have ev := atI_get hd
  rw [htv] at ev
  cases ev
  have eq : ∀ {x : Int}, T[v.toNat]? = some x → x = atI T v := fun h => by rw [htv] at h; cases h; rfl
  have hlow := hT.low v
  refine ⟨by omega, fun _ => ⟨⟨v0, by omega⟩, fun t2 h2 => ?_⟩, fun hc => by rw [met_has] at hc; cases hc⟩
  have := eq h2
  subst this
  refine ⟨fun _ => ⟨⟨v0, by omega⟩, fun t3 h3 => ?_⟩, fun hc => by omega⟩
  have := eq h3
  subst this
  have hrl := reads_le (v := v) (gok_le hG)
  refine ⟨hfr, (fun hc => by rw [zero_has hT hdR] at hc; cases hc), fun _ => ⟨trivial, ⟨⟨trivial, trivial, trivial⟩, by omega, by omega, Bst.nil _⟩, ?_⟩⟩
  rintro ⟨b, i, ⟨⟩⟩ ⟨i0, i1, hb⟩
  dsimp only at i0 i1 hb ⊢
  refine ⟨fun hi => ⟨⟨i0, hi⟩, fun u hu => ?_⟩, fun hi => ?_⟩
  · have hud := reads_dom hG v u hdR (List.mem_of_getElem? hu)
    have hud2 : 0 ≤ u ∧ u < R.length := hud
    have eu := atI_get (o := T) (v := u) (by rw [hTl]; exact hud)
    have equ : ∀ {x : Int}, T[u.toNat]? = some x → x = atI T u := fun h => by rw [eu] at h; cases h; rfl
    have ht : (readsF R v).take (i + 1).toNat = (readsF R v).take i.toNat ++ [u] := by rw [show (i + 1).toNat = i.toNat + 1 by omega, List.take_add_one, hu]; rfl
    rw [ht]
    have skip : ¬ (0 ≤ atI T u ∧ (b < 0 ∨ atI T u < b)) → Bst T ((readsF R v).take i.toNat ++ [u]) b := fun h => hb.snoc h
    have put : (0 ≤ atI T u ∧ (b < 0 ∨ atI T u < b)) → Bst T ((readsF R v).take i.toNat ++ [u]) (atI T u) := fun h => hb.put h
    refine ⟨fun _ => ⟨fun hc => by omega, fun _ => ⟨⟨by omega, by omega⟩, fun t4 h4 => ?_⟩⟩, fun hc => by omega⟩
    have := equ h4
    subst this
    refine ⟨fun h0 => ⟨fun hb0 => ⟨⟨by omega, by omega⟩, fun t5 h5 => ?_⟩, fun hb0 => ⟨⟨by omega, by omega⟩, fun t5 h5 => ?_⟩⟩, fun h0 => ⟨by omega, ⟨trivial, trivial, trivial⟩, ⟨by omega, by omega, skip (by omega)⟩, by omega⟩⟩
    · have := equ h5
      subst this
      refine ⟨fun hlt => ⟨⟨by omega, by omega⟩, fun t6 h6 => ?_⟩, fun hlt => ⟨by omega, ⟨trivial, trivial, trivial⟩, ⟨by omega, by omega, skip (by omega)⟩, by omega⟩⟩
      have := equ h6
      subst this
      exact ⟨by omega, ⟨trivial, trivial, trivial⟩, ⟨by omega, by omega, put (by omega)⟩, by omega⟩
    · have := equ h5
      subst this
      exact ⟨by omega, ⟨trivial, trivial, trivial⟩, ⟨by omega, by omega, put (by omega)⟩, by omega⟩
  · rw [List.take_of_length_le (by omega)] at hb
    obtain ⟨f1, f2⟩ := hB v b hdR hb
    have hbl := hb.low
    have hbu : b < R.length := by
      rcases hb with ⟨h1, _⟩ | ⟨h1, ⟨w, _, hw⟩, _⟩
      · omega
      · have := hT.lt (v := w) (k := b.toNat) (by omega)
        omega
    clear hB hb
    have nx : (-9223372036854775808 ≤ v + 1 ∧ v + 1 ≤ 9223372036854775807) ∧ (True ∧ True ∧ True) ∧ (0 ≤ v + 1 ∧ v + 1 ≤ m) ∧ (m - (v + 1)).toNat < (m - v).toNat := ⟨by omega, ⟨trivial, trivial, trivial⟩, by omega, by omega⟩
    refine ⟨⟨v0, by omega⟩, fun t4 h4 => ?_⟩
    have := eq h4
    subst this
    refine ⟨fun hp => ⟨⟨v0, by omega⟩, fun t5 h5 => ?_⟩, fun hp => ⟨⟨v0, by omega⟩, fun t5 h5 => ?_⟩⟩
    · have := eq h5
      subst this
      refine ⟨by omega, fun _ => ⟨⟨v0, by omega⟩, fun t6 h6 => ?_⟩, fun hc => absurd (f1 hp) hc⟩
      have := eq h6
      subst this
      exact ⟨fun hc => by omega, fun _ => nx⟩
    · have := eq h5
      subst this
      exact ⟨fun hc => ⟨fun hb => by have := f2 hc; omega, fun _ => nx⟩, fun _ => nx⟩
set_option maxRecDepth 20000
theorem lsteps_pure (m : Int) (l : List Ac) (fr : List Int) : Pure Try.prog 7 [.int .i64 m, .list .tmp AcT l, .list .tmp I fr] (.bool true) :=
  by have k := Pure.of_cond (g_lsteps_eq m l fr) (g_lsteps_ok m l fr) (specs_ok rfl [sp_few, sp_awake, sp_reach, sp_steps, sp_has', sp_reads] [so_made.upd] rfl rfl) mixed Try.func7; exact k
noncomputable def q_lsteps (m : Int) (l : List Ac) (fr : List Int) : Prop × V := (True, (.bool true))
noncomputable def sp_lsteps : FSpec Try.prog where
 f := 7
 run := fun
  | [.int .i64 m, v1, v2] => (asL AcT v1 : Option (List Ac)).bind fun l => (asL I v2 : Option (List Int)).bind fun fr => some (q_lsteps m l fr)
  | _ => none
 ok := fun args pre r h hp => by
  split at h
  · rename_i m v1 v2
    obtain ⟨l, h1, h⟩ := Option.bind_eq_some_iff.1 h
    obtain ⟨fr, h2, h⟩ := Option.bind_eq_some_iff.1 h
    exact of_q h hp fun h => (lsteps_pure m l fr).weak (.cons (.refl _) (.cons (asL_weak h1) (.cons (asL_weak h2) .nil)))
  · cases h
/-- Is one that is read among some? -/
def anyR (R : GI) (T : List Int) (v : Int) (j : Nat) : Bool := (List.range j).any fun (w : Nat) => (readsF R v).contains (w : Int) && (metF T).contains (w : Int)
theorem anyR_succ (R : GI) (T : List Int) (v : Int) (j : Nat) : anyR R T v (j + 1) = (anyR R T v j || ((readsF R v).contains (j : Int) && (metF T).contains (j : Int))) := by simp [anyR, List.range_succ]
theorem anyR_all {R : GI} (hG : GOk R) {fr : List Int} {v : Int} (hv : Dom R.length v) {T : List Int} (hT : Table R.length (rdsF R) (Fr R.length fr) T) : (metF T).contains v = (anyR R T v R.length || fr.contains v) := by
  rw [Bool.eq_iff_iff, Bool.or_eq_true, List.contains_iff_mem, List.contains_iff_mem, mem_met]
  unfold anyR
  simp only [List.any_eq_true, List.mem_range, Bool.and_eq_true, List.contains_iff_mem, mem_met]
  constructor
  · intro h
    by_cases h0 : atI T v = 0
    · have := hT.sound v 0 h0
      cases this with
      | zero h => exact .inr h.2
    · obtain ⟨u, h1, h2⟩ := hT.pred (v := v) (k := (atI T v).toNat - 1) (by omega)
      have hu := dom_of hT.len (v := u) (by omega)
      have hu2 : 0 ≤ u ∧ u < R.length := hu
      refine .inl ⟨u.toNat, by omega, ?_, ?_⟩
      · rw [Int.toNat_of_nonneg hu2.1]
        exact rds_reads hG u v h1
      · rw [Int.toNat_of_nonneg hu2.1]
        omega
  · rintro (⟨w, h1, h2, h3⟩ | h)
    · exact (hT.closed w v h3 (reads_rds hG v w h2)).1
    · rw [hT.zero v ⟨hv, h⟩]
      omega
noncomputable def env_lcloses (m : Int) (l : List Ac) (fr : List Int) : Env where
  P := Try.prog
  ty := tys0
  specs := specsOf [sp_few, sp_awake, sp_reach, sp_needs, sp_has', sp_has]
  upd := updsOf [so_made.upd]
  heads := fun
    | 10 => some { slots := [(11, .int .i64)], boxes := [], keep := [100000, 8], inv := fun _ (x : Int × Unit) => 0 ≤ x.1 ∧ x.1 ≤ m, measure := fun _ (x : Int × Unit) => (m - x.1).toNat }
    | 14 => some { slots := [(12, .bool), (13, .int .i64)], boxes := [], keep := [100000, 8], inv := fun st (x : Bool × Int × Unit) => 0 ≤ x.2.1 ∧ x.2.1 ≤ m ∧ x.1 = anyR (actsR (newR m) l) (TS m l fr) (st.int 11) x.2.1.toNat, measure := fun _ (x : Bool × Int × Unit) => (m - x.2.1).toNat }
    | _ => none
def g_lcloses_vc (m : Int) (l : List Ac) (fr : List Int) : Prop :=
  True ∧ ((!fewF l) = false → (decide ((12 : Int) < m) = false → (decide ((60 : Int) < (↑fr.length : Int)) = true → True ∧ (true, ()) = (true, ())) ∧ (decide ((60 : Int) < (↑fr.length : Int)) = false → fewF l = true ∧ ((!true) = true → (false, ()) = (true, ())) ∧ ((!true) = false → (decide (List.length (actsR (newR m) l) = (0 : Nat)) = true → True ∧ (true, ()) = (true, ())) ∧ (decide (List.length (actsR (newR m) l) = (0 : Nat)) = false → ((List.length (actsR (newR m) l) ≤ (20000 : Nat) ∧ ∀ (v : Nat) (l_1 : List Int), (actsR (newR m) l)[v]? = some l_1 → l_1.Nodup ∧ ∀ (x : Int), x ∈ l_1 → (0 : Int) ≤ x ∧ x < (↑(List.length (actsR (newR m) l)) : Int) ∧ x ≠ (↑v : Int)) ∧ fr.length ≤ (1000000000 : Nat)) ∧ ((some (Obj.opq OK.graph (actsR (newR m) l)) = some (Obj.opq OK.graph (actsR (newR m) l)) ∧ some (Obj.box [V.list LK.part LI (actsR (newR m) l)]) = some (Obj.box [V.list LK.part LI (actsR (newR m) l)]) ∧ True) ∧ (0 : Int) ≤ (0 : Int) ∧ (0 : Int) ≤ m) ∧ ∀ (x : Int × Unit), (0 : Int) ≤ x.1 ∧ x.1 ≤ m → (decide (x.1 < m) = true → ((some (Obj.opq OK.graph (actsR (newR m) l)) = some (Obj.opq OK.graph (actsR (newR m) l)) ∧ some (Obj.box [V.list LK.part LI (actsR (newR m) l)]) = some (Obj.box [V.list LK.part LI (actsR (newR m) l)]) ∧ True) ∧ (0 : Int) ≤ (0 : Int) ∧ (0 : Int) ≤ m ∧ false = anyR (actsR (newR m) l) (TS m l fr) x.1 (Int.toNat (0 : Int))) ∧ ∀ (x_1 : Bool × Int × Unit), (0 : Int) ≤ x_1.2.1 ∧ x_1.2.1 ≤ m ∧ x_1.1 = anyR (actsR (newR m) l) (TS m l fr) x.1 x_1.2.1.toNat → (decide (x_1.2.1 < m) = true → (x_1.1 = false → True ∧ ((readsF (actsR (newR m) l) x.1).contains x_1.2.1 = true → (metF (stepsF (List.length (actsR (newR m) l)) (rdsF (actsR (newR m) l)) (Fr (List.length (actsR (newR m) l)) fr))).length ≤ (1000000000 : Nat) ∧ ((List.length (actsR (newR m) l) ≤ (20000 : Nat) ∧ ∀ (v : Nat) (l_1 : List Int), (actsR (newR m) l)[v]? = some l_1 → l_1.Nodup ∧ ∀ (x : Int), x ∈ l_1 → (0 : Int) ≤ x ∧ x < (↑(List.length (actsR (newR m) l)) : Int) ∧ x ≠ (↑v : Int)) ∧ (1 : Nat) ≤ (1000000000 : Nat)) ∧ (metF (stepsF (List.length (actsR (newR m) l)) (rdsF (actsR (newR m) l)) (Fr (List.length (actsR (newR m) l)) [x_1.2.1]))).length ≤ (1000000000 : Nat) ∧ ((List.length (actsR (newR m) l) ≤ (20000 : Nat) ∧ ∀ (v : Nat) (l_1 : List Int), (actsR (newR m) l)[v]? = some l_1 → l_1.Nodup ∧ ∀ (x : Int), x ∈ l_1 → (0 : Int) ≤ x ∧ x < (↑(List.length (actsR (newR m) l)) : Int) ∧ x ≠ (↑v : Int)) ∧ (1 : Nat) ≤ (1000000000 : Nat)) ∧ (metF (stepsF (List.length (actsR (newR m) l)) (readsF (actsR (newR m) l)) (Fr (List.length (actsR (newR m) l)) [x.1]))).length ≤ (1000000000 : Nat) ∧ ((!(metF (stepsF (List.length (actsR (newR m) l)) (rdsF (actsR (newR m) l)) (Fr (List.length (actsR (newR m) l)) [x_1.2.1]))).contains x.1 == (metF (stepsF (List.length (actsR (newR m) l)) (readsF (actsR (newR m) l)) (Fr (List.length (actsR (newR m) l)) [x.1]))).contains x_1.2.1) = true → (false, ()) = (true, ())) ∧ ((!(metF (stepsF (List.length (actsR (newR m) l)) (rdsF (actsR (newR m) l)) (Fr (List.length (actsR (newR m) l)) [x_1.2.1]))).contains x.1 == (metF (stepsF (List.length (actsR (newR m) l)) (readsF (actsR (newR m) l)) (Fr (List.length (actsR (newR m) l)) [x.1]))).contains x_1.2.1) = false → ((-9223372036854775808 : Int) ≤ x_1.2.1 + (1 : Int) ∧ x_1.2.1 + (1 : Int) ≤ (9223372036854775807 : Int)) ∧ (some (Obj.opq OK.graph (actsR (newR m) l)) = some (Obj.opq OK.graph (actsR (newR m) l)) ∧ some (Obj.box [V.list LK.part LI (actsR (newR m) l)]) = some (Obj.box [V.list LK.part LI (actsR (newR m) l)]) ∧ True) ∧ ((0 : Int) ≤ x_1.2.1 + (1 : Int) ∧ x_1.2.1 + (1 : Int) ≤ m ∧ (metF (stepsF (List.length (actsR (newR m) l)) (rdsF (actsR (newR m) l)) (Fr (List.length (actsR (newR m) l)) fr))).contains x_1.2.1 = anyR (actsR (newR m) l) (TS m l fr) x.1 (x_1.2.1 + (1 : Int)).toNat) ∧ (m - (x_1.2.1 + (1 : Int))).toNat < (m - x_1.2.1).toNat)) ∧ ((readsF (actsR (newR m) l) x.1).contains x_1.2.1 = !true → ((List.length (actsR (newR m) l) ≤ (20000 : Nat) ∧ ∀ (v : Nat) (l_1 : List Int), (actsR (newR m) l)[v]? = some l_1 → l_1.Nodup ∧ ∀ (x : Int), x ∈ l_1 → (0 : Int) ≤ x ∧ x < (↑(List.length (actsR (newR m) l)) : Int) ∧ x ≠ (↑v : Int)) ∧ (1 : Nat) ≤ (1000000000 : Nat)) ∧ (metF (stepsF (List.length (actsR (newR m) l)) (rdsF (actsR (newR m) l)) (Fr (List.length (actsR (newR m) l)) [x_1.2.1]))).length ≤ (1000000000 : Nat) ∧ ((List.length (actsR (newR m) l) ≤ (20000 : Nat) ∧ ∀ (v : Nat) (l_1 : List Int), (actsR (newR m) l)[v]? = some l_1 → l_1.Nodup ∧ ∀ (x : Int), x ∈ l_1 → (0 : Int) ≤ x ∧ x < (↑(List.length (actsR (newR m) l)) : Int) ∧ x ≠ (↑v : Int)) ∧ (1 : Nat) ≤ (1000000000 : Nat)) ∧ (metF (stepsF (List.length (actsR (newR m) l)) (readsF (actsR (newR m) l)) (Fr (List.length (actsR (newR m) l)) [x.1]))).length ≤ (1000000000 : Nat) ∧ ((!(metF (stepsF (List.length (actsR (newR m) l)) (rdsF (actsR (newR m) l)) (Fr (List.length (actsR (newR m) l)) [x_1.2.1]))).contains x.1 == (metF (stepsF (List.length (actsR (newR m) l)) (readsF (actsR (newR m) l)) (Fr (List.length (actsR (newR m) l)) [x.1]))).contains x_1.2.1) = true → (false, ()) = (true, ())) ∧ ((!(metF (stepsF (List.length (actsR (newR m) l)) (rdsF (actsR (newR m) l)) (Fr (List.length (actsR (newR m) l)) [x_1.2.1]))).contains x.1 == (metF (stepsF (List.length (actsR (newR m) l)) (readsF (actsR (newR m) l)) (Fr (List.length (actsR (newR m) l)) [x.1]))).contains x_1.2.1) = false → ((-9223372036854775808 : Int) ≤ x_1.2.1 + (1 : Int) ∧ x_1.2.1 + (1 : Int) ≤ (9223372036854775807 : Int)) ∧ (some (Obj.opq OK.graph (actsR (newR m) l)) = some (Obj.opq OK.graph (actsR (newR m) l)) ∧ some (Obj.box [V.list LK.part LI (actsR (newR m) l)]) = some (Obj.box [V.list LK.part LI (actsR (newR m) l)]) ∧ True) ∧ ((0 : Int) ≤ x_1.2.1 + (1 : Int) ∧ x_1.2.1 + (1 : Int) ≤ m ∧ false = anyR (actsR (newR m) l) (TS m l fr) x.1 (x_1.2.1 + (1 : Int)).toNat) ∧ (m - (x_1.2.1 + (1 : Int))).toNat < (m - x_1.2.1).toNat))) ∧ (x_1.1 = !false → ((List.length (actsR (newR m) l) ≤ (20000 : Nat) ∧ ∀ (v : Nat) (l_1 : List Int), (actsR (newR m) l)[v]? = some l_1 → l_1.Nodup ∧ ∀ (x : Int), x ∈ l_1 → (0 : Int) ≤ x ∧ x < (↑(List.length (actsR (newR m) l)) : Int) ∧ x ≠ (↑v : Int)) ∧ (1 : Nat) ≤ (1000000000 : Nat)) ∧ (metF (stepsF (List.length (actsR (newR m) l)) (rdsF (actsR (newR m) l)) (Fr (List.length (actsR (newR m) l)) [x_1.2.1]))).length ≤ (1000000000 : Nat) ∧ ((List.length (actsR (newR m) l) ≤ (20000 : Nat) ∧ ∀ (v : Nat) (l_1 : List Int), (actsR (newR m) l)[v]? = some l_1 → l_1.Nodup ∧ ∀ (x : Int), x ∈ l_1 → (0 : Int) ≤ x ∧ x < (↑(List.length (actsR (newR m) l)) : Int) ∧ x ≠ (↑v : Int)) ∧ (1 : Nat) ≤ (1000000000 : Nat)) ∧ (metF (stepsF (List.length (actsR (newR m) l)) (readsF (actsR (newR m) l)) (Fr (List.length (actsR (newR m) l)) [x.1]))).length ≤ (1000000000 : Nat) ∧ ((!(metF (stepsF (List.length (actsR (newR m) l)) (rdsF (actsR (newR m) l)) (Fr (List.length (actsR (newR m) l)) [x_1.2.1]))).contains x.1 == (metF (stepsF (List.length (actsR (newR m) l)) (readsF (actsR (newR m) l)) (Fr (List.length (actsR (newR m) l)) [x.1]))).contains x_1.2.1) = true → (false, ()) = (true, ())) ∧ ((!(metF (stepsF (List.length (actsR (newR m) l)) (rdsF (actsR (newR m) l)) (Fr (List.length (actsR (newR m) l)) [x_1.2.1]))).contains x.1 == (metF (stepsF (List.length (actsR (newR m) l)) (readsF (actsR (newR m) l)) (Fr (List.length (actsR (newR m) l)) [x.1]))).contains x_1.2.1) = false → ((-9223372036854775808 : Int) ≤ x_1.2.1 + (1 : Int) ∧ x_1.2.1 + (1 : Int) ≤ (9223372036854775807 : Int)) ∧ (some (Obj.opq OK.graph (actsR (newR m) l)) = some (Obj.opq OK.graph (actsR (newR m) l)) ∧ some (Obj.box [V.list LK.part LI (actsR (newR m) l)]) = some (Obj.box [V.list LK.part LI (actsR (newR m) l)]) ∧ True) ∧ ((0 : Int) ≤ x_1.2.1 + (1 : Int) ∧ x_1.2.1 + (1 : Int) ≤ m ∧ true = anyR (actsR (newR m) l) (TS m l fr) x.1 (x_1.2.1 + (1 : Int)).toNat) ∧ (m - (x_1.2.1 + (1 : Int))).toNat < (m - x_1.2.1).toNat))) ∧ (decide (x_1.2.1 < m) = false → (metF (stepsF (List.length (actsR (newR m) l)) (rdsF (actsR (newR m) l)) (Fr (List.length (actsR (newR m) l)) fr))).length ≤ (1000000000 : Nat) ∧ (x_1.1 = false → fr.length ≤ (1000000000 : Nat) ∧ ((!(metF (stepsF (List.length (actsR (newR m) l)) (rdsF (actsR (newR m) l)) (Fr (List.length (actsR (newR m) l)) fr))).contains x.1 == fr.contains x.1) = true → (x_1.1 = false → fr.length ≤ (1000000000 : Nat) ∧ (fr.contains x.1 = true → (false, ()) = (true, ())) ∧ (fr.contains x.1 = false → (metF (stepsF (List.length (actsR (newR m) l)) (rdsF (actsR (newR m) l)) (Fr (List.length (actsR (newR m) l)) fr))).length ≤ (1000000000 : Nat) ∧ ((metF (stepsF (List.length (actsR (newR m) l)) (rdsF (actsR (newR m) l)) (Fr (List.length (actsR (newR m) l)) fr))).contains x.1 = true → ((!x_1.1) = true → fr.length ≤ (1000000000 : Nat) ∧ ((!fr.contains x.1) = true → (false, ()) = (true, ())) ∧ ((!fr.contains x.1) = false → ((-9223372036854775808 : Int) ≤ x.1 + (1 : Int) ∧ x.1 + (1 : Int) ≤ (9223372036854775807 : Int)) ∧ (some (Obj.opq OK.graph (actsR (newR m) l)) = some (Obj.opq OK.graph (actsR (newR m) l)) ∧ some (Obj.box [V.list LK.part LI (actsR (newR m) l)]) = some (Obj.box [V.list LK.part LI (actsR (newR m) l)]) ∧ True) ∧ ((0 : Int) ≤ x.1 + (1 : Int) ∧ x.1 + (1 : Int) ≤ m) ∧ (m - (x.1 + (1 : Int))).toNat < (m - x.1).toNat)) ∧ ((!x_1.1) = !true → ((-9223372036854775808 : Int) ≤ x.1 + (1 : Int) ∧ x.1 + (1 : Int) ≤ (9223372036854775807 : Int)) ∧ (some (Obj.opq OK.graph (actsR (newR m) l)) = some (Obj.opq OK.graph (actsR (newR m) l)) ∧ some (Obj.box [V.list LK.part LI (actsR (newR m) l)]) = some (Obj.box [V.list LK.part LI (actsR (newR m) l)]) ∧ True) ∧ ((0 : Int) ≤ x.1 + (1 : Int) ∧ x.1 + (1 : Int) ≤ m) ∧ (m - (x.1 + (1 : Int))).toNat < (m - x.1).toNat)) ∧ ((metF (stepsF (List.length (actsR (newR m) l)) (rdsF (actsR (newR m) l)) (Fr (List.length (actsR (newR m) l)) fr))).contains x.1 = !true → ((-9223372036854775808 : Int) ≤ x.1 + (1 : Int) ∧ x.1 + (1 : Int) ≤ (9223372036854775807 : Int)) ∧ (some (Obj.opq OK.graph (actsR (newR m) l)) = some (Obj.opq OK.graph (actsR (newR m) l)) ∧ some (Obj.box [V.list LK.part LI (actsR (newR m) l)]) = some (Obj.box [V.list LK.part LI (actsR (newR m) l)]) ∧ True) ∧ ((0 : Int) ≤ x.1 + (1 : Int) ∧ x.1 + (1 : Int) ≤ m) ∧ (m - (x.1 + (1 : Int))).toNat < (m - x.1).toNat))) ∧ (x_1.1 = !false → (false, ()) = (true, ()))) ∧ ((!(metF (stepsF (List.length (actsR (newR m) l)) (rdsF (actsR (newR m) l)) (Fr (List.length (actsR (newR m) l)) fr))).contains x.1 == fr.contains x.1) = !true → (metF (stepsF (List.length (actsR (newR m) l)) (rdsF (actsR (newR m) l)) (Fr (List.length (actsR (newR m) l)) fr))).length ≤ (1000000000 : Nat) ∧ ((metF (stepsF (List.length (actsR (newR m) l)) (rdsF (actsR (newR m) l)) (Fr (List.length (actsR (newR m) l)) fr))).contains x.1 = true → ((!x_1.1) = true → fr.length ≤ (1000000000 : Nat) ∧ ((!fr.contains x.1) = true → (false, ()) = (true, ())) ∧ ((!fr.contains x.1) = false → ((-9223372036854775808 : Int) ≤ x.1 + (1 : Int) ∧ x.1 + (1 : Int) ≤ (9223372036854775807 : Int)) ∧ (some (Obj.opq OK.graph (actsR (newR m) l)) = some (Obj.opq OK.graph (actsR (newR m) l)) ∧ some (Obj.box [V.list LK.part LI (actsR (newR m) l)]) = some (Obj.box [V.list LK.part LI (actsR (newR m) l)]) ∧ True) ∧ ((0 : Int) ≤ x.1 + (1 : Int) ∧ x.1 + (1 : Int) ≤ m) ∧ (m - (x.1 + (1 : Int))).toNat < (m - x.1).toNat)) ∧ ((!x_1.1) = !true → ((-9223372036854775808 : Int) ≤ x.1 + (1 : Int) ∧ x.1 + (1 : Int) ≤ (9223372036854775807 : Int)) ∧ (some (Obj.opq OK.graph (actsR (newR m) l)) = some (Obj.opq OK.graph (actsR (newR m) l)) ∧ some (Obj.box [V.list LK.part LI (actsR (newR m) l)]) = some (Obj.box [V.list LK.part LI (actsR (newR m) l)]) ∧ True) ∧ ((0 : Int) ≤ x.1 + (1 : Int) ∧ x.1 + (1 : Int) ≤ m) ∧ (m - (x.1 + (1 : Int))).toNat < (m - x.1).toNat)) ∧ ((metF (stepsF (List.length (actsR (newR m) l)) (rdsF (actsR (newR m) l)) (Fr (List.length (actsR (newR m) l)) fr))).contains x.1 = !true → ((-9223372036854775808 : Int) ≤ x.1 + (1 : Int) ∧ x.1 + (1 : Int) ≤ (9223372036854775807 : Int)) ∧ (some (Obj.opq OK.graph (actsR (newR m) l)) = some (Obj.opq OK.graph (actsR (newR m) l)) ∧ some (Obj.box [V.list LK.part LI (actsR (newR m) l)]) = some (Obj.box [V.list LK.part LI (actsR (newR m) l)]) ∧ True) ∧ ((0 : Int) ≤ x.1 + (1 : Int) ∧ x.1 + (1 : Int) ≤ m) ∧ (m - (x.1 + (1 : Int))).toNat < (m - x.1).toNat))) ∧ (x_1.1 = !false → ((!(metF (stepsF (List.length (actsR (newR m) l)) (rdsF (actsR (newR m) l)) (Fr (List.length (actsR (newR m) l)) fr))).contains x.1 == true) = true → (x_1.1 = false → fr.length ≤ (1000000000 : Nat) ∧ (fr.contains x.1 = true → (false, ()) = (true, ())) ∧ (fr.contains x.1 = false → (metF (stepsF (List.length (actsR (newR m) l)) (rdsF (actsR (newR m) l)) (Fr (List.length (actsR (newR m) l)) fr))).length ≤ (1000000000 : Nat) ∧ ((metF (stepsF (List.length (actsR (newR m) l)) (rdsF (actsR (newR m) l)) (Fr (List.length (actsR (newR m) l)) fr))).contains x.1 = true → ((!x_1.1) = true → fr.length ≤ (1000000000 : Nat) ∧ ((!fr.contains x.1) = true → (false, ()) = (true, ())) ∧ ((!fr.contains x.1) = false → ((-9223372036854775808 : Int) ≤ x.1 + (1 : Int) ∧ x.1 + (1 : Int) ≤ (9223372036854775807 : Int)) ∧ (some (Obj.opq OK.graph (actsR (newR m) l)) = some (Obj.opq OK.graph (actsR (newR m) l)) ∧ some (Obj.box [V.list LK.part LI (actsR (newR m) l)]) = some (Obj.box [V.list LK.part LI (actsR (newR m) l)]) ∧ True) ∧ ((0 : Int) ≤ x.1 + (1 : Int) ∧ x.1 + (1 : Int) ≤ m) ∧ (m - (x.1 + (1 : Int))).toNat < (m - x.1).toNat)) ∧ ((!x_1.1) = !true → ((-9223372036854775808 : Int) ≤ x.1 + (1 : Int) ∧ x.1 + (1 : Int) ≤ (9223372036854775807 : Int)) ∧ (some (Obj.opq OK.graph (actsR (newR m) l)) = some (Obj.opq OK.graph (actsR (newR m) l)) ∧ some (Obj.box [V.list LK.part LI (actsR (newR m) l)]) = some (Obj.box [V.list LK.part LI (actsR (newR m) l)]) ∧ True) ∧ ((0 : Int) ≤ x.1 + (1 : Int) ∧ x.1 + (1 : Int) ≤ m) ∧ (m - (x.1 + (1 : Int))).toNat < (m - x.1).toNat)) ∧ ((metF (stepsF (List.length (actsR (newR m) l)) (rdsF (actsR (newR m) l)) (Fr (List.length (actsR (newR m) l)) fr))).contains x.1 = !true → ((-9223372036854775808 : Int) ≤ x.1 + (1 : Int) ∧ x.1 + (1 : Int) ≤ (9223372036854775807 : Int)) ∧ (some (Obj.opq OK.graph (actsR (newR m) l)) = some (Obj.opq OK.graph (actsR (newR m) l)) ∧ some (Obj.box [V.list LK.part LI (actsR (newR m) l)]) = some (Obj.box [V.list LK.part LI (actsR (newR m) l)]) ∧ True) ∧ ((0 : Int) ≤ x.1 + (1 : Int) ∧ x.1 + (1 : Int) ≤ m) ∧ (m - (x.1 + (1 : Int))).toNat < (m - x.1).toNat))) ∧ (x_1.1 = !false → (false, ()) = (true, ()))) ∧ ((!(metF (stepsF (List.length (actsR (newR m) l)) (rdsF (actsR (newR m) l)) (Fr (List.length (actsR (newR m) l)) fr))).contains x.1 == true) = !true → (metF (stepsF (List.length (actsR (newR m) l)) (rdsF (actsR (newR m) l)) (Fr (List.length (actsR (newR m) l)) fr))).length ≤ (1000000000 : Nat) ∧ ((metF (stepsF (List.length (actsR (newR m) l)) (rdsF (actsR (newR m) l)) (Fr (List.length (actsR (newR m) l)) fr))).contains x.1 = true → ((!x_1.1) = true → fr.length ≤ (1000000000 : Nat) ∧ ((!fr.contains x.1) = true → (false, ()) = (true, ())) ∧ ((!fr.contains x.1) = false → ((-9223372036854775808 : Int) ≤ x.1 + (1 : Int) ∧ x.1 + (1 : Int) ≤ (9223372036854775807 : Int)) ∧ (some (Obj.opq OK.graph (actsR (newR m) l)) = some (Obj.opq OK.graph (actsR (newR m) l)) ∧ some (Obj.box [V.list LK.part LI (actsR (newR m) l)]) = some (Obj.box [V.list LK.part LI (actsR (newR m) l)]) ∧ True) ∧ ((0 : Int) ≤ x.1 + (1 : Int) ∧ x.1 + (1 : Int) ≤ m) ∧ (m - (x.1 + (1 : Int))).toNat < (m - x.1).toNat)) ∧ ((!x_1.1) = !true → ((-9223372036854775808 : Int) ≤ x.1 + (1 : Int) ∧ x.1 + (1 : Int) ≤ (9223372036854775807 : Int)) ∧ (some (Obj.opq OK.graph (actsR (newR m) l)) = some (Obj.opq OK.graph (actsR (newR m) l)) ∧ some (Obj.box [V.list LK.part LI (actsR (newR m) l)]) = some (Obj.box [V.list LK.part LI (actsR (newR m) l)]) ∧ True) ∧ ((0 : Int) ≤ x.1 + (1 : Int) ∧ x.1 + (1 : Int) ≤ m) ∧ (m - (x.1 + (1 : Int))).toNat < (m - x.1).toNat)) ∧ ((metF (stepsF (List.length (actsR (newR m) l)) (rdsF (actsR (newR m) l)) (Fr (List.length (actsR (newR m) l)) fr))).contains x.1 = !true → ((-9223372036854775808 : Int) ≤ x.1 + (1 : Int) ∧ x.1 + (1 : Int) ≤ (9223372036854775807 : Int)) ∧ (some (Obj.opq OK.graph (actsR (newR m) l)) = some (Obj.opq OK.graph (actsR (newR m) l)) ∧ some (Obj.box [V.list LK.part LI (actsR (newR m) l)]) = some (Obj.box [V.list LK.part LI (actsR (newR m) l)]) ∧ True) ∧ ((0 : Int) ≤ x.1 + (1 : Int) ∧ x.1 + (1 : Int) ≤ m) ∧ (m - (x.1 + (1 : Int))).toNat < (m - x.1).toNat))))) ∧ (decide (x.1 < m) = false → True ∧ (true, ()) = (true, ())))))) ∧ (decide ((12 : Int) < m) = !false → True ∧ (true, ()) = (true, ()))) ∧ ((!fewF l) = !false → True ∧ (true, ()) = (true, ()))
theorem g_lcloses_eq (m : Int) (l : List Ac) (fr : List Int) : Cond (env_lcloses m l fr) Try.f8 [.int .i64 m, .list .tmp AcT l, .list .tmp I fr] [.bool] (true, ()) = g_lcloses_vc m l fr := by kernel_rfl
theorem g_lcloses_ok (m : Int) (l : List Ac) (fr : List Int) : g_lcloses_vc m l fr := by
  unfold g_lcloses_vc
  simp only [decide_eq_true_eq, decide_eq_false_iff_not, Bool.not_eq_true', Bool.not_eq_false', Bool.not_true, Bool.not_false]
  refine ⟨trivial, fun hf => ⟨fun hm => ⟨fun _ => ⟨trivial, trivial⟩, fun h60 => ⟨hf, (fun e => by cases e), fun _ => ⟨fun _ => ⟨trivial, trivial⟩, fun hne => ?_⟩⟩⟩, fun _ => ⟨trivial, trivial⟩⟩, fun _ => ⟨trivial, trivial⟩⟩
  have hG := gok_acts l _ (gok_new m)
  have hRm := made_len hne
  have hfr : fr.length ≤ 1000000000 := by omega
  have hT := tabS hG fr
  unfold TS
  generalize actsR (newR m) l = R at *
  generalize stepsF R.length (rdsF R) (Fr R.length fr) = T at *
  have hTl := hT.len
  have hml := met_le T
  refine ⟨⟨hG, hfr⟩, ⟨⟨trivial, trivial, trivial⟩, by omega, by omega⟩, ?_⟩
  rintro ⟨v, ⟨⟩⟩ ⟨v0, v1⟩
  dsimp only at v0 v1 ⊢
  have hm2 : ∀ nx l, (metF (stepsF R.length nx (Fr R.length l))).length ≤ 1000000000 := fun nx l => by
    have := met_le (stepsF R.length nx (Fr R.length l))
    rw [steps_len] at this
    omega
  have h1 : (1 : Nat) ≤ 1000000000 := by omega
  refine ⟨fun hv => ⟨⟨⟨trivial, trivial, trivial⟩, by omega, by omega, rfl⟩, ?_⟩, fun _ => ⟨trivial, trivial⟩⟩
  have hd : Dom R.length v := ⟨v0, by omega⟩
  rintro ⟨b, w, ⟨⟩⟩ ⟨w0, w1, hb⟩
  dsimp only at w0 w1 hb ⊢
  refine ⟨fun hw => ?_, fun hw => ?_⟩
  · have hdw : Dom R.length w := ⟨w0, by omega⟩
    have bw : ((metF (stepsF R.length (rdsF R) (Fr R.length [w]))).contains v == (metF (stepsF R.length (readsF R) (Fr R.length [v]))).contains w) = true := by rw [both_ways hG hd hdw]; simp
    have hs := anyR_succ R T v w.toNat
    rw [show w.toNat + 1 = (w + 1).toNat by omega, Int.toNat_of_nonneg w0, ← hb] at hs
    refine ⟨fun hb0 => ⟨trivial, fun hc => ⟨by omega, ⟨hG, h1⟩, hm2 _ _, ⟨hG, h1⟩, hm2 _ _, (fun e => by rw [bw] at e; cases e), fun _ => ⟨by omega, ⟨trivial, trivial, trivial⟩, ⟨by omega, by omega, ?_⟩, by omega⟩⟩, fun hc => ⟨⟨hG, h1⟩, hm2 _ _, ⟨hG, h1⟩, hm2 _ _, (fun e => by rw [bw] at e; cases e), fun _ => ⟨by omega, ⟨trivial, trivial, trivial⟩, ⟨by omega, by omega, ?_⟩, by omega⟩⟩⟩, fun hb0 => ⟨⟨hG, h1⟩, hm2 _ _, ⟨hG, h1⟩, hm2 _ _, (fun e => by rw [bw] at e; cases e), fun _ => ⟨by omega, ⟨trivial, trivial, trivial⟩, ⟨by omega, by omega, ?_⟩, by omega⟩⟩⟩
    · rw [hs, hb0, hc, Bool.false_or, Bool.true_and]
    · rw [hs, hb0, hc, Bool.false_or, Bool.false_and]
    · rw [hs, hb0, Bool.true_or]
  · have hk := anyR_all hG hd hT
    rw [show R.length = w.toNat by omega, ← hb] at hk
    have hml2 : (metF T).length ≤ 1000000000 := by omega
    have nx : (-9223372036854775808 ≤ v + 1 ∧ v + 1 ≤ 9223372036854775807) ∧ (True ∧ True ∧ True) ∧ (0 ≤ v + 1 ∧ v + 1 ≤ m) ∧ (m - (v + 1)).toNat < (m - v).toNat := ⟨by omega, ⟨trivial, trivial, trivial⟩, by omega, by omega⟩
    generalize (metF T).contains v = c at hk ⊢
    generalize fr.contains v = d at hk ⊢
    clear hb
    subst hk
    cases b <;> cases d <;> simp [hml2, hfr, nx]
theorem lcloses_pure (m : Int) (l : List Ac) (fr : List Int) : Pure Try.prog 8 [.int .i64 m, .list .tmp AcT l, .list .tmp I fr] (.bool true) :=
  by have k := Pure.of_cond (g_lcloses_eq m l fr) (g_lcloses_ok m l fr) (specs_ok rfl [sp_few, sp_awake, sp_reach, sp_needs, sp_has', sp_has] [so_made.upd] rfl rfl) mixed Try.func8; exact k
noncomputable def q_lcloses (m : Int) (l : List Ac) (fr : List Int) : Prop × V := (True, (.bool true))
noncomputable def sp_lcloses : FSpec Try.prog where
 f := 8
 run := fun
  | [.int .i64 m, v1, v2] => (asL AcT v1 : Option (List Ac)).bind fun l => (asL I v2 : Option (List Int)).bind fun fr => some (q_lcloses m l fr)
  | _ => none
 ok := fun args pre r h hp => by
  split at h
  · rename_i m v1 v2
    obtain ⟨l, h1, h⟩ := Option.bind_eq_some_iff.1 h
    obtain ⟨fr, h2, h⟩ := Option.bind_eq_some_iff.1 h
    exact of_q h hp fun h => (lcloses_pure m l fr).weak (.cons (.refl _) (.cons (asL_weak h1) (.cons (asL_weak h2) .nil)))
  · cases h

end Go.Proofs.Ytojflfogjkajaaa.Rc
