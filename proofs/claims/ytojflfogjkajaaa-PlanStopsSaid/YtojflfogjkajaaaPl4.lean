/-
  plan: laws of what is done.
-/
import Derived.Test.YtojflfogjkajaaaOd16
section
namespace Go.Proofs.Ytojflfogjkajaaa.Od
open Go.Vm Go.Proofs.Ytojflfogjkajaaa.Gr Go.Proofs.Ytojflfogjkajaaa.Rc
def isD (rd : Int → List Int) (dirty : List Int) (chg : Int → Bool) (out : List Int) (v : Int) : Bool := dirty.contains v || (rd v).any fun w => out.contains w && chg w
def doneR (rd : Int → List Int) (dirty : List Int) (chg : Int → Bool) : List Int → List Int → List Int
  | [], out => out
  | v :: r, out => doneR rd dirty chg r (if isD rd dirty chg out v then out ++ [v] else out)
def kW (rd : Int → List Int) (chg : Int → Bool) (out : List Int) (u : Int) : Nat := (out.filter fun w => chg w && (rd u).contains w).length
theorem kW_snoc (rd : Int → List Int) (chg : Int → Bool) (out : List Int) (v u : Int) : kW rd chg (out ++ [v]) u = kW rd chg out u + if (chg v && (rd u).contains v) = true then 1 else 0 := by
  unfold kW
  rw [List.filter_append, List.length_append, List.filter_cons]
  split <;> simp
theorem kW_zero (rd : Int → List Int) (chg : Int → Bool) (out : List Int) (u : Int) : 0 < kW rd chg out u ↔ ((rd u).any fun w => out.contains w && chg w) = true := by
  unfold kW
  rw [List.length_pos_iff_exists_mem, List.any_eq_true]
  constructor
  · rintro ⟨w, hw⟩
    obtain ⟨h1, h2⟩ := List.mem_filter.1 hw
    rw [Bool.and_eq_true, List.contains_iff_mem] at h2
    exact ⟨w, h2.2, by rw [Bool.and_eq_true, List.contains_iff_mem]; exact ⟨h1, h2.1⟩⟩
  · rintro ⟨w, h1, h2⟩
    rw [Bool.and_eq_true, List.contains_iff_mem] at h2
    exact ⟨w, List.mem_filter.2 ⟨h2.1, by rw [Bool.and_eq_true, List.contains_iff_mem]; exact ⟨h2.2, h1⟩⟩⟩
structure WOk (n : Nat) (B : Int) (W : List (Int × Int)) : Prop where
  srt : Srt W
  dom : ∀ u, mHas W u = true → Dom n u
  bnd : ∀ u, 0 ≤ mGet W u ∧ mGet W u ≤ B
theorem mHas_keys (W : List (Int × Int)) (u : Int) : mHas W u = true ↔ u ∈ W.map (·.1) := by
  unfold mHas
  rw [List.any_eq_true, List.mem_map]
  constructor
  · rintro ⟨p, h1, h2⟩
    exact ⟨p, h1, of_decide_eq_true h2⟩
  · rintro ⟨p, h1, h2⟩
    exact ⟨p, h1, decide_eq_true h2⟩
theorem WOk.len {n : Nat} {B : Int} {W : List (Int × Int)} (h : WOk n B W) : W.length ≤ n := by
  have h1 : (W.map (·.1)).Nodup := (srt_mk h.srt).2.nodup
  have h2 : (W.map (·.1)).length ≤ (ixs (fun _ => true) n).length := sub_len h1 fun x hx => mem_ixs.2 ⟨h.dom x ((mHas_keys W x).2 hx), rfl⟩
  have h3 := ixs_le (fun _ => true) n
  rw [List.length_map] at h2
  omega
theorem mPut_get {W : List (Int × Int)} (hW : Srt W) (k c u : Int) : mGet (mPut W k c) u = if u = k then c else mGet W u := by
  obtain ⟨h1, h2⟩ := srt_mk hW
  have e : ∀ v, v ∉ W.map (·.1) → mGet W v = 0 := fun v hv => by
    have : W.find? (fun p => decide (p.1 = v)) = none := List.find?_eq_none.2 fun p hp hd => hv (List.mem_map.2 ⟨p, hp, of_decide_eq_true hd⟩)
    unfold mGet
    rw [this]
    rfl
  conv => lhs; rw [h1]
  rw [mPut_mk h2, mGet_mk]
  by_cases hk : u = k
  · simp only [hk, if_true]
    rw [if_pos (mem_insU.2 (.inl rfl))]
  · simp only [hk, if_false]
    split
    · rfl
    · rename_i hn
      exact (e u fun hm => hn (mem_insU.2 (.inr hm))).symm
theorem mPut_srt {W : List (Int × Int)} (hW : Srt W) (k c : Int) : Srt (mPut W k c) := by
  obtain ⟨h1, h2⟩ := srt_mk hW
  rw [h1, mPut_mk h2]
  exact mkM_srt (insU_up h2 _) _
theorem mPut_has {W : List (Int × Int)} (hW : Srt W) (k c u : Int) : mHas (mPut W k c) u = true ↔ u = k ∨ mHas W u = true := by
  obtain ⟨h1, h2⟩ := srt_mk hW
  conv => lhs; rw [h1]
  rw [mPut_mk h2, mHas_mk, List.contains_iff_mem, mem_insU, mHas_keys]
def incW (l : List Int) (W : List (Int × Int)) : List (Int × Int) := l.foldl (fun W u => mPut W u (mGet W u + 1)) W
theorem incW_snoc (l : List Int) (u : Int) (W : List (Int × Int)) : incW (l ++ [u]) W = mPut (incW l W) u (mGet (incW l W) u + 1) := by
  unfold incW
  rw [List.foldl_append]
  rfl
theorem incW_ok {n : Nat} {B : Int} : ∀ (l : List Int) {W : List (Int × Int)}, WOk n B W → l.Nodup → (∀ u ∈ l, Dom n u) → Srt (incW l W) ∧ (∀ u, mHas (incW l W) u = true → Dom n u) ∧ ∀ u, mGet (incW l W) u = mGet W u + if u ∈ l then 1 else 0
  | [], W, h, _, _ => ⟨h.srt, h.dom, fun u => by simp [incW]⟩
  | v :: r, W, h, hn, hd => by
    have hn := List.nodup_cons.1 hn
    have hB := h.bnd
    have h' : WOk n (B + 1) (mPut W v (mGet W v + 1)) := ⟨mPut_srt h.srt _ _, fun u hu => by
      rcases (mPut_has h.srt _ _ _).1 hu with rfl | hu
      · exact hd _ (List.mem_cons_self ..)
      · exact h.dom u hu, fun u => by
      rw [mPut_get h.srt]
      have h1 := hB u
      have h2 := hB v
      split <;> omega⟩
    obtain ⟨h1, h2, h3⟩ := incW_ok r h' hn.2 fun u hu => hd u (List.mem_cons_of_mem _ hu)
    refine ⟨h1, h2, fun u => ?_⟩
    show mGet (incW r _) u = _
    rw [h3, mPut_get h.srt]
    by_cases e : u = v
    · subst e
      rw [if_pos rfl, if_neg hn.1, if_pos (List.mem_cons_self ..)]
      omega
    · rw [if_neg e]
      by_cases hr : u ∈ r
      · rw [if_pos hr, if_pos (List.mem_cons_of_mem _ hr)]
      · rw [if_neg hr, if_neg (fun hm => (List.mem_cons.1 hm).elim e hr)]
theorem incW_wok {n : Nat} {B : Int} {l : List Int} {W : List (Int × Int)} (h : WOk n B W) (hn : l.Nodup) (hd : ∀ u ∈ l, Dom n u) : WOk n (B + 1) (incW l W) := by
  obtain ⟨h1, h2, h3⟩ := incW_ok l h hn hd
  refine ⟨h1, h2, fun u => ?_⟩
  rw [h3]
  have := h.bnd u
  split <;> omega
theorem WOk.put {n : Nat} {B : Int} {W : List (Int × Int)} (h : WOk n B W) {v : Int} (hv : Dom n v) : WOk n (B + 1) (mPut W v (mGet W v + 1)) := incW_wok (l := [v]) h (List.nodup_cons.2 ⟨by simp, List.nodup_nil⟩) fun u hu => by rw [List.mem_singleton.1 hu]; exact hv
theorem WOk.mono {n : Nat} {B B' : Int} {W : List (Int × Int)} (h : WOk n B W) (hb : B ≤ B') : WOk n B' W := ⟨h.srt, h.dom, fun u => by have := h.bnd u; omega⟩
theorem WOk.nil (n : Nat) : WOk n 0 [] := ⟨List.Pairwise.nil, (fun u hu => by cases hu), fun _ => ⟨Int.le_refl _, Int.le_refl _⟩⟩
def stepD (W : List (Int × Int)) (v : Int) (done : List Int) : List Int := if mGet W v = 0 then done else done ++ [v]
def stepW (R : GI) (chg : Int → Bool) (W : List (Int × Int)) (v : Int) : List (Int × Int) := if mGet W v = 0 then W else if chg v = true then incW (rdsF R v) W else W
def frstW (dirty : List Int) (W : List (Int × Int)) (v : Int) : List (Int × Int) := if dirty.contains v = true then mPut W v (mGet W v + 1) else W
structure PInv (R : GI) (dirty : List Int) (chg : Int → Bool) (all rest out : List Int) (W : List (Int × Int)) : Prop where
  nd : rest.Nodup
  dm : ∀ v ∈ rest, Dom (List.length (α := List Int) R) v
  ok : WOk (List.length (α := List Int) R) (2 * ((all.length : Int) - rest.length)) W
  le : rest.length ≤ all.length
  ol : out.length + rest.length ≤ all.length
  eq : ∀ u ∈ rest, mGet W u = kW (readsF R) chg out u
  go : doneR (readsF R) dirty chg rest out = doneR (readsF R) dirty chg all []
theorem PInv.start {R : GI} {dirty : List Int} {chg : Int → Bool} {all : List Int} (hn : all.Nodup) (hd : ∀ v ∈ all, Dom (List.length (α := List Int) R) v) : PInv R dirty chg all all [] [] :=
  ⟨hn, hd, (WOk.nil _).mono (by omega), Nat.le_refl _, by simp, fun u _ => rfl, rfl⟩
theorem PInv.step {R : GI} (hG : GOk R) {dirty : List Int} {chg : Int → Bool} {all rest out : List Int} {v : Int} {W : List (Int × Int)} (h : PInv R dirty chg all (v :: rest) out W) :
    PInv R dirty chg all rest (stepD (frstW dirty W v) v out) (stepW R chg (frstW dirty W v) v) ∧ ∃ B, B ≤ 40001 + 2 * (all.length : Int) ∧ WOk (List.length (α := List Int) R) B (frstW dirty W v) := by
  have hnd := List.nodup_cons.1 h.nd
  have hv := h.dm v (List.mem_cons_self ..)
  have hW := h.ok
  have hle := h.le
  have hol := h.ol
  rw [List.length_cons] at hW hle hol
  have hF : WOk (List.length (α := List Int) R) (2 * ((all.length : Int) - ((rest.length + 1 : Nat) : Int)) + 1) (frstW dirty W v) := by
    unfold frstW
    split
    · exact hW.put hv
    · exact hW.mono (by omega)
  have hFg : ∀ u, u ≠ v → mGet (frstW dirty W v) u = mGet W u := fun u hu => by
    unfold frstW
    split
    · rw [mPut_get hW.srt, if_neg hu]
    · rfl
  have hFv : mGet (frstW dirty W v) v = (kW (readsF R) chg out v : Int) + if dirty.contains v = true then 1 else 0 := by
    unfold frstW
    rw [← h.eq v (List.mem_cons_self ..)]
    split
    · rw [mPut_get hW.srt, if_pos rfl]
    · omega
  have hD : mGet (frstW dirty W v) v = 0 ↔ isD (readsF R) dirty chg out v = false := by
    rw [hFv]
    unfold isD
    have hk := kW_zero (readsF R) chg out v
    cases hd : dirty.contains v with
    | true => simp; omega
    | false =>
      simp only [Bool.false_or, if_neg (show ¬ (false = true) by decide)]
      rw [← Bool.not_eq_true, ← hk]
      omega
  have hgo := h.go
  refine ⟨?_, _, ?_, hF⟩
  · by_cases h0 : mGet (frstW dirty W v) v = 0
    · have hi := hD.1 h0
      rw [stepD, stepW, if_pos h0, if_pos h0]
      refine ⟨hnd.2, fun u hu => h.dm u (List.mem_cons_of_mem _ hu), hF.mono (by push_cast; omega), by omega, by omega, fun u hu => ?_, ?_⟩
      · rw [hFg u (fun e => hnd.1 (e ▸ hu))]
        exact h.eq u (List.mem_cons_of_mem _ hu)
      · rw [doneR, hi] at hgo
        exact hgo
    · have hi : isD (readsF R) dirty chg out v = true := by
        cases hx : isD (readsF R) dirty chg out v with
        | true => rfl
        | false => exact absurd (hD.2 hx) h0
      rw [stepD, stepW, if_neg h0, if_neg h0]
      have hru := (rds_up hG v).nodup
      have hrd : ∀ u ∈ rdsF R v, Dom (List.length (α := List Int) R) u := fun u hu => rds_in hG hu
      have hW2 : WOk (List.length (α := List Int) R) (2 * ((all.length : Int) - (rest.length : Int))) (if chg v = true then incW (rdsF R v) (frstW dirty W v) else frstW dirty W v) := by
        split
        · exact (incW_wok hF hru hrd).mono (by push_cast; omega)
        · exact hF.mono (by push_cast; omega)
      refine ⟨hnd.2, fun u hu => h.dm u (List.mem_cons_of_mem _ hu), hW2, by omega, by rw [List.length_append, List.length_singleton]; omega, fun u hu => ?_, ?_⟩
      · have hne : u ≠ v := fun e => hnd.1 (e ▸ hu)
        have h1 := h.eq u (List.mem_cons_of_mem _ hu)
        have h2 := hFg u hne
        rw [kW_snoc]
        cases hc : chg v with
        | true =>
          rw [if_pos rfl, (incW_ok (rdsF R v) hF hru hrd).2.2 u, h2, h1, Bool.true_and]
          by_cases hm : u ∈ rdsF R v
          · rw [if_pos hm, if_pos (List.contains_iff_mem.2 (((gd_of hG).iff u v).1 hm))]
            push_cast
            omega
          · rw [if_neg hm, if_neg (fun hx => hm (((gd_of hG).iff u v).2 (List.contains_iff_mem.1 hx)))]
            push_cast
            omega
        | false =>
          rw [if_neg (by decide), h2, h1, Bool.false_and, if_neg (by decide)]
          push_cast
          omega
      · rw [doneR, hi, if_pos rfl] at hgo
        exact hgo
  · push_cast
    omega
theorem PInv.stop {R : GI} {dirty : List Int} {chg : Int → Bool} {all out : List Int} {W : List (Int × Int)} (h : PInv R dirty chg all [] out W) : out = doneR (readsF R) dirty chg all [] := h.go
end Go.Proofs.Ytojflfogjkajaaa.Od
end
section
namespace Go.Proofs.Ytojflfogjkajaaa.Od
open Go.Vm Go.Proofs.Ytojflfogjkajaaa.Gr Go.Proofs.Ytojflfogjkajaaa.Rc
def chgF (ch : List Bool) (v : Int) : Bool := decide (0 ≤ v) && (decide (v < ch.length) && ch.getD v.toNat false)
noncomputable def env_chg (ch : List Bool) (v : Int) : Env where
  P := Try.prog
  ty := tys2
def g_chg_vc (ch : List Bool) (v : Int) : Prop :=
  (decide ((0 : Int) ≤ v) = true → (decide (v < (↑ch.length : Int)) = true → ((0 : Int) ≤ v ∧ v < (↑ch.length : Int)) ∧ ∀ (x : Bool), ch[v.toNat]? = some x → (x, ()) = (chgF ch v, ())) ∧ (decide (v < (↑ch.length : Int)) = !true → (false, ()) = (chgF ch v, ()))) ∧ (decide ((0 : Int) ≤ v) = !true → (false, ()) = (chgF ch v, ()))
theorem g_chg_eq (ch : List Bool) (v : Int) : Cond (env_chg ch v) Try.f51 [.list .tmp .bool ch, .int .i64 v] [.bool] (chgF ch v, ()) = g_chg_vc ch v := by kernel_rfl
theorem g_chg_ok (ch : List Bool) (v : Int) : g_chg_vc ch v := by
  unfold g_chg_vc
  simp only [decide_eq_true_eq, decide_eq_false_iff_not, Bool.not_true]
  refine ⟨fun h0 => ⟨fun h1 => ⟨⟨h0, h1⟩, fun x hx => ?_⟩, fun h1 => ?_⟩, fun h0 => ?_⟩
  · rw [chgF, decide_eq_true h0, decide_eq_true h1, List.getD_eq_getElem?_getD, hx]
    rfl
  · rw [chgF, decide_eq_false h1, Bool.false_and, Bool.and_false]
  · rw [chgF, decide_eq_false h0, Bool.false_and]
set_option maxRecDepth 20000
theorem chg_pure (ch : List Bool) (v : Int) : Pure Try.prog 51 [.list .tmp .bool ch, .int .i64 v] (.bool (chgF ch v)) :=
  by have k := Pure.of_cond (g_chg_eq ch v) (g_chg_ok ch v) (specs_ok rfl [] [] rfl rfl) mixed Try.func51; exact k
noncomputable def q_chg (ch : List Bool) (v : Int) : Prop × V := (True, (.bool (chgF ch v)))
noncomputable def sp_chg : FSpec Try.prog where
 f := 51
 run := fun
  | [v0, .int .i64 v] => (asL .bool v0 : Option (List Bool)).bind fun ch => some (q_chg ch v)
  | _ => none
 ok := fun args pre r h hp => by
  split at h
  · rename_i v0 v
    obtain ⟨ch, h0, h⟩ := Option.bind_eq_some_iff.1 h
    exact of_q h hp fun h => (chg_pure ch v).weak (.cons (asL_weak h0) (.cons (.refl _) .nil))
  · cases h
noncomputable def env_cont (l : List Int) (v : Int) : Env where
  P := Try.prog
  ty := tys2
  specs := specsOf [sp_idx]
def g_cont_vc (l : List Int) (v : Int) : Prop :=
  l.length ≤ (1000000000 : Nat) ∧ (decide ((0 : Int) ≤ idF l v), ()) = (l.contains v, ())
theorem g_cont_eq (l : List Int) (v : Int) : Cond (env_cont l v) Try.f57 [.list .tmp I l, .int .i64 v] [.bool] (l.contains v, ()) = g_cont_vc l v := by kernel_rfl
theorem idF_has (l : List Int) (v : Int) : decide (0 ≤ idF l v) = l.contains v := by
  rw [Bool.eq_iff_iff, decide_eq_true_eq, List.contains_iff_mem]
  unfold idF
  rcases ixF_cases (fun x => decide (v = x)) l with ⟨h1, h2⟩ | ⟨i, x, h1, h2, h3⟩
  · rw [h1]
    refine ⟨fun h => absurd h (by decide), fun h => ?_⟩
    have := h2 v h
    simp at this
  · rw [h1]
    rw [of_decide_eq_true h3]
    exact ⟨fun _ => List.mem_of_getElem? h2, fun _ => by omega⟩
theorem g_cont_ok (l : List Int) (v : Int) (h : l.length ≤ 1000000000) : g_cont_vc l v := by
  unfold g_cont_vc
  exact ⟨h, by rw [idF_has]⟩
theorem cont_pure (l : List Int) (v : Int) (h : l.length ≤ 1000000000) : Pure Try.prog 57 [.list .tmp I l, .int .i64 v] (.bool (l.contains v)) :=
  by have k := Pure.of_cond (g_cont_eq l v) (g_cont_ok l v h) (specs_ok rfl [sp_idx] [] rfl rfl) mixed Try.func57; exact k
noncomputable def q_cont (l : List Int) (v : Int) : Prop × V := (l.length ≤ 1000000000, (.bool (l.contains v)))
noncomputable def sp_cont : FSpec Try.prog where
 f := 57
 run := fun
  | [v0, .int .i64 v] => (asL I v0 : Option (List Int)).bind fun l => some (q_cont l v)
  | _ => none
 ok := fun args pre r h hp => by
  split at h
  · rename_i v0 v
    obtain ⟨l, h0, h⟩ := Option.bind_eq_some_iff.1 h
    exact of_q h hp fun h => (cont_pure l v h).weak (.cons (asL_weak h0) (.cons (.refl _) .nil))
  · cases h
noncomputable def env_first (l : List Int) (v : Int) : Env where
  P := Try.prog
  ty := tys2
  specs := specsOf [sp_cont]
def g_first_vc (l : List Int) (v : Int) : Prop :=
  l.length ≤ (1000000000 : Nat) ∧ (l.contains v, ()) = (l.contains v, ())
theorem g_first_eq (l : List Int) (v : Int) : Cond (env_first l v) Try.f83 [.int .i64 v, .fptr [.list .tmp I l]] [.bool] (l.contains v, ()) = g_first_vc l v := by kernel_rfl
theorem g_first_ok (l : List Int) (v : Int) (h : l.length ≤ 1000000000) : g_first_vc l v := by
  unfold g_first_vc
  exact ⟨h, rfl⟩
theorem first_pure (l : List Int) (v : Int) (h : l.length ≤ 1000000000) : Pure Try.prog 83 [.int .i64 v, .fptr [.list .tmp I l]] (.bool (l.contains v)) :=
  by have k := Pure.of_cond (g_first_eq l v) (g_first_ok l v h) (specs_ok rfl [sp_cont] [] rfl rfl) mixed Try.func83; exact k
noncomputable def q_first (l : List Int) (v : Int) : Prop × V := (l.length ≤ 1000000000, (.bool (l.contains v)))
noncomputable def sp_first : FSpec Try.prog where
 f := 83
 run := fun
  | [.int .i64 v, .fptr [v1_0]] => (asL I v1_0 : Option (List Int)).bind fun l => some (q_first l v)
  | _ => none
 ok := fun args pre r h hp => by
  split at h
  · rename_i v v1_0
    obtain ⟨l, h1_0, h⟩ := Option.bind_eq_some_iff.1 h
    exact of_q h hp fun h => (first_pure l v h).weak (.cons (.refl _) (.cons (weak_fptr (.cons (asL_weak h1_0) .nil)) .nil))
  · cases h
noncomputable abbrev RcF (R : GI) (dirty : List Int) : List Int := metF (stepsF (List.length (α := List Int) R) (rdsF R) (Fr (List.length (α := List Int) R) dirty))
theorem rc_ir {R : GI} (hG : GOk R) (dirty : List Int) : (RcF R dirty).length ≤ 1000000 ∧ ∀ x ∈ RcF R dirty, -9223372036854775808 ≤ x ∧ x ≤ 9223372036854775807 := by
  have h1 : (RcF R dirty).length ≤ (stepsF (List.length (α := List Int) R) (rdsF R) (Rc.Fr (List.length (α := List Int) R) dirty)).length := met_le _
  have hT := tabS hG dirty
  rw [steps_len] at h1
  have hR := hG.1
  refine ⟨by omega, fun x hx => ?_⟩
  have := dom_of hT.len (mem_met.1 hx)
  unfold Dom at this
  omega
noncomputable def env_pplan (R : GI) (dirty : List Int) : Env where
  P := Try.prog
  ty := tys2
  specs := specsOf [sp_reach, sp_order]
def g_pplan_vc (R : GI) (dirty : List Int) : Prop :=
  ((List.length R ≤ (20000 : Nat) ∧ ∀ (v : Nat) (l : List Int), R[v]? = some l → l.Nodup ∧ ∀ (x : Int), x ∈ l → (0 : Int) ≤ x ∧ x < (↑(List.length R) : Int) ∧ x ≠ (↑v : Int)) ∧ dirty.length ≤ (1000000000 : Nat)) ∧ ((List.length R ≤ (20000 : Nat) ∧ ∀ (v : Nat) (l : List Int), R[v]? = some l → l.Nodup ∧ ∀ (x : Int), x ∈ l → (0 : Int) ≤ x ∧ x < (↑(List.length R) : Int) ∧ x ≠ (↑v : Int)) ∧ (metF (stepsF (List.length R) (rdsF R) (Rc.Fr (List.length R) dirty))).length ≤ (1000000 : Nat) ∧ ∀ (x : Int), x ∈ metF (stepsF (List.length R) (rdsF R) (Rc.Fr (List.length R) dirty)) → (-9223372036854775808 : Int) ≤ x ∧ x ≤ (9223372036854775807 : Int)) ∧ (ordA R (metF (stepsF (List.length R) (rdsF R) (Rc.Fr (List.length R) dirty))), ordE R (metF (stepsF (List.length R) (rdsF R) (Rc.Fr (List.length R) dirty))), ()) = (ordA R (RcF R dirty), ordE R (RcF R dirty), ())
theorem g_pplan_eq (R : GI) (dirty : List Int) : Cond (env_pplan R dirty) Try.f46 [.fopq .graph R, .list .tmp I dirty] [.list .part I, .int .i64] (ordA R (RcF R dirty), ordE R (RcF R dirty), ()) = g_pplan_vc R dirty := by kernel_rfl
theorem g_pplan_ok (R : GI) (dirty : List Int) (h : GOk R ∧ dirty.length ≤ 1000000000) : g_pplan_vc R dirty := by
  unfold g_pplan_vc
  exact ⟨⟨h.1, h.2⟩, ⟨h.1, (rc_ir h.1 dirty).1, (rc_ir h.1 dirty).2⟩, rfl⟩
theorem pplan_pure (R : GI) (dirty : List Int) (h : GOk R ∧ dirty.length ≤ 1000000000) : Pure Try.prog 46 [.fopq .graph R, .list .tmp I dirty] (.tuple [.list .part I (ordA R (RcF R dirty)), .int .i64 (ordE R (RcF R dirty))]) :=
  by have k := Pure.of_cond (g_pplan_eq R dirty) (g_pplan_ok R dirty h) (specs_ok rfl [sp_reach, sp_order] [] rfl rfl) mixed Try.func46; exact k
noncomputable def q_pplan (R : GI) (dirty : List Int) : Prop × V := (GOk R ∧ dirty.length ≤ 1000000000, (.tuple [.list .part I (ordA R (RcF R dirty)), .int .i64 (ordE R (RcF R dirty))]))
noncomputable def sp_pplan : FSpec Try.prog where
 f := 46
 run := fun
  | [.fopq .graph R, v1] => (asL I v1 : Option (List Int)).bind fun dirty => some (q_pplan R dirty)
  | _ => none
 ok := fun args pre r h hp => by
  split at h
  · rename_i R v1
    obtain ⟨dirty, h1, h⟩ := Option.bind_eq_some_iff.1 h
    exact of_q h hp fun h => (pplan_pure R dirty h).weak (.cons (.refl _) (.cons (asL_weak h1) .nil))
  · cases h
noncomputable def env_rplan (R : GI) (dirty : List Int) : Env where
  P := Try.prog
  ty := tys2
  specs := specsOf [sp_rreach, sp_rorder]
  frz := fun | 9 => true | 10 => true | _ => false
def g_rplan_vc (R : GI) (dirty : List Int) : Prop :=
  ((List.length R ≤ (20000 : Nat) ∧ ∀ (v : Nat) (l : List Int), R[v]? = some l → l.Nodup ∧ ∀ (x : Int), x ∈ l → (0 : Int) ≤ x ∧ x < (↑(List.length R) : Int) ∧ x ≠ (↑v : Int)) ∧ dirty.length ≤ (1000000000 : Nat)) ∧ ROk R (metF (stepsF (List.length R) (rdsF R) (Rc.Fr (List.length R) dirty))) ∧ (ordA R (metF (stepsF (List.length R) (rdsF R) (Rc.Fr (List.length R) dirty))), ordE R (metF (stepsF (List.length R) (rdsF R) (Rc.Fr (List.length R) dirty))), ()) = (ordA R (RcF R dirty), ordE R (RcF R dirty), ())
theorem g_rplan_eq (R : GI) (dirty : List Int) : Cond (env_rplan R dirty) Try.f47 [.agg [.list .part LI R], .list .tmp I dirty] [.list .part I, .int .i64] (ordA R (RcF R dirty), ordE R (RcF R dirty), ()) = g_rplan_vc R dirty := by kernel_rfl
theorem g_rplan_ok (R : GI) (dirty : List Int) (h : GOk R ∧ dirty.length ≤ 1000000000) : g_rplan_vc R dirty := by
  unfold g_rplan_vc
  exact ⟨⟨h.1, h.2⟩, ⟨h.1, (rc_ir h.1 dirty).1⟩, rfl⟩
theorem rplan_pure (R : GI) (dirty : List Int) (h : GOk R ∧ dirty.length ≤ 1000000000) : Pure Try.prog 47 [.agg [.list .part LI R], .list .tmp I dirty] (.tuple [.list .part I (ordA R (RcF R dirty)), .int .i64 (ordE R (RcF R dirty))]) :=
  by have k := Pure.of_cond (g_rplan_eq R dirty) (g_rplan_ok R dirty h) (specs_ok rfl [sp_rreach, sp_rorder] [] rfl rfl) mixed Try.func47; exact k
noncomputable def q_rplan (R : GI) (dirty : List Int) : Prop × V := (GOk R ∧ dirty.length ≤ 1000000000, (.tuple [.list .part I (ordA R (RcF R dirty)), .int .i64 (ordE R (RcF R dirty))]))
noncomputable def sp_rplan : FSpec Try.prog where
 f := 47
 run := fun
  | [.agg [v0_0], v1] => (asP LI v0_0 : Option (GI)).bind fun R => (asL I v1 : Option (List Int)).bind fun dirty => some (q_rplan R dirty)
  | _ => none
 ok := fun args pre r h hp => by
  split at h
  · rename_i v0_0 v1
    obtain ⟨R, h0_0, h⟩ := Option.bind_eq_some_iff.1 h
    obtain ⟨dirty, h1, h⟩ := Option.bind_eq_some_iff.1 h
    exact of_q h hp fun h => (rplan_pure R dirty h).weak (.cons (Weak.agg (.cons (asP_weak h0_0) .nil)) (.cons (asL_weak h1) .nil))
  · cases h
noncomputable def env_runc (called : List Int) (ch : List Bool) (v : Int) : Env where
  P := Try.prog
  ty := tys2
  specs := specsOf [sp_chg]
  pins := [9000, 9002]
abbrev ann_runc : Ann := { slots := numP 0 [.bool], boxes := [(9000, [.any, .slc 9001 I]), (9002, [.list .tmp .bool])], inv := fun _ _ => True }
def g_runc_vc (called : List Int) (ch : List Bool) (v : Int) : Prop :=
  ((called.length + (1 : Nat)) * (8 : Nat) ≤ (140737488355328 : Nat) ∧ called.length + (1 : Nat) ≤ (4611686018427387904 : Nat)) ∧ True ∧ True ∧ (chgF ch v, (), called ++ [v], ch, ()) = (chgF ch v, (), called ++ [v], ch, ())
theorem g_runc_eq (called : List Int) (ch : List Bool) (v : Int) : CondO (env_runc called ch v) Try.f82 [.int .i64 v, .ptr 9000 0, .ptr 9002 0] [(9000, .box [.any, .slc 9001 0 none]), (9001, .arr 0 (.int .i64) called), (9002, .box [.list .tmp .bool ch])] [none] ann_runc (chgF ch v, (), called ++ [v], ch, ()) = g_runc_vc called ch v := by kernel_rfl
theorem g_runc_ok (called : List Int) (ch : List Bool) (v : Int) (h : called.length ≤ 1000000) : g_runc_vc called ch v := by
  unfold g_runc_vc
  exact ⟨by omega, trivial, trivial, rfl⟩
theorem runc_upd (called : List Int) (ch : List Bool) (v : Int) (h : called.length ≤ 1000000) : UpdC Try.prog 82 [.int .i64 v, .ptr 9000 0, .ptr 9002 0] [(9000, .box [.any, .slc 9001 0 none]), (9001, .arr 0 (.int .i64) called), (9002, .box [.list .tmp .bool ch])] (.bool (chgF ch v)) [(9001, .arr 0 (.int .i64) (called ++ [v])), (9000, .box [.any, .slc 9001 0 none]), (9002, .box [.list .tmp .bool ch])] :=
  by have k := UpdC.of_cond (g_runc_eq called ch v) (g_runc_ok called ch v h) (specs_ok rfl [sp_chg] [] rfl rfl) mixed Try.func82; exact k
noncomputable def q_runc (called : List Int) (ch : List Bool) (v : Int) : Prop × V × Store := (called.length ≤ 1000000, .bool (chgF ch v), [(9001, .arr 0 (.int .i64) (called ++ [v])), (9000, .box [.any, .slc 9001 0 none]), (9002, .box [.list .tmp .bool ch])])
noncomputable def so_runc : OSpec Try.prog where
 f := 82
 run := fun args σ => match args, σ with
  | [.int .i64 v, .ptr 9000 0, .ptr 9002 0], [(9000, .box [.any, .slc 9001 0 none]), (9001, .arr 0 (.int .i64) called), (9002, .box [.list .tmp .bool ch])] => some (q_runc called ch v)
  | _, _ => none
 ok := fun args σ pre r σ' h hp => by
  try dsimp only at h
  split at h
  · rename_i v called ch
    exact of_qo h hp fun h => (runc_upd called ch v h).weak (.cons (.refl _) (.cons (.refl _) (.cons (.refl _) .nil)))
  · cases h
end Go.Proofs.Ytojflfogjkajaaa.Od
end
section
namespace Go.Proofs.Ytojflfogjkajaaa.Od
open Go.Vm Go.Proofs.Ytojflfogjkajaaa.Gr Go.Proofs.Ytojflfogjkajaaa.Rc
abbrev allT : Int → Bool := fun _ => true
def DOk (R : GI) (W : List (Int × Int)) : Prop := GOk R ∧ WOk (List.length (α := List Int) R) 1000000 W
theorem DOk.round {R : GI} {W : List (Int × Int)} (h : DOk R W) {v i u : Int} (h0 : 0 ≤ i) (hu : (rdsF R v)[i.toNat]? = some u) {W' : List (Int × Int)} (hW : W' = incW ((rdsF R v).take i.toNat) W) :
    ((-9223372036854775808 ≤ u ∧ u ≤ 9223372036854775807) ∧ (-9223372036854775808 ≤ mGet W' u + 1 ∧ mGet W' u + 1 ≤ 9223372036854775807)) ∧ W'.length ≤ 1000000000 ∧ mPut W' u (mGet W' u + 1) = incW ((rdsF R v).take (i + 1).toNat) W := by
  subst hW
  have hd := rds_in h.1 (List.mem_of_getElem? hu)
  unfold Dom at hd
  have hR := h.1.1
  have hn : ((rdsF R v).take i.toNat).Nodup := (rds_up h.1 v).nodup.sublist (List.take_sublist _ _)
  have hk := incW_wok h.2 hn fun u hu => rds_in h.1 (List.mem_of_mem_take hu)
  have hl := hk.len
  have hb := hk.bnd u
  refine ⟨by omega, by omega, ?_⟩
  rw [show (i + 1).toNat = i.toNat + 1 by omega, take_snoc hu, incW_snoc]
noncomputable def env_stepn (R : GI) (W : List (Int × Int)) (done : List Int) (v : Int) : Env where
  P := Try.prog
  ty := tys2
  specs := specsOf [sp_readers]
  pins := [9000, 9001]
  heads := fun | 4 => some { slots := [(44, .int .i64)], drop := [17, 20], boxes := [(9000, [.fop .graph, .nf, .opq 9001 .mii, .slc 9002 I])], inv := fun _ (x : Int × GI × Unit × List (Int × Int) × List Int × Unit) => 0 ≤ x.1 ∧ x.1 ≤ (rdsF R v).length ∧ x.2.1 = R ∧ x.2.2.2.1 = incW ((rdsF R v).take x.1.toNat) W ∧ x.2.2.2.2.1 = done ++ [v], measure := fun _ (x : Int × GI × Unit × List (Int × Int) × List Int × Unit) => ((rdsF R v).length - x.1).toNat } | _ => none
abbrev ann_stepn : Ann := { slots := numP 0 [], boxes := [(9000, [.fop .graph, .nf, .opq 9001 .mii, .slc 9002 I])], inv := fun _ _ => True }
def g_stepn_vc (R : GI) (W : List (Int × Int)) (done : List Int) (v : Int) : Prop :=
  ((-9223372036854775808 : Int) ≤ v ∧ v ≤ (9223372036854775807 : Int)) ∧ (decide (mGet W v = (0 : Int)) = true → True ∧ (R, (), W, done, ()) = (R, (), stepW R allT W v, stepD W v done, ())) ∧ (decide (mGet W v = (0 : Int)) = false → ((done.length + (1 : Nat)) * (8 : Nat) ≤ (140737488355328 : Nat) ∧ done.length + (1 : Nat) ≤ (4611686018427387904 : Nat)) ∧ True ∧ (True ∧ (0 : Int) ≤ (0 : Int) ∧ (0 : Int) ≤ (↑(rdsF R v).length : Int) ∧ R = R ∧ W = incW (List.take (Int.toNat (0 : Int)) (rdsF R v)) W ∧ done ++ [v] = done ++ [v]) ∧ ∀ (x : Int × List (List Int) × Unit × List (Int × Int) × List Int × Unit), (0 : Int) ≤ x.1 ∧ x.1 ≤ (↑(rdsF R v).length : Int) ∧ x.2.1 = R ∧ x.2.2.2.1 = incW (List.take x.1.toNat (rdsF R v)) W ∧ x.2.2.2.2.1 = done ++ [v] → (decide (x.1 < (↑(rdsF R v).length : Int)) = true → ((0 : Int) ≤ x.1 ∧ x.1 < (↑(rdsF R v).length : Int)) ∧ ∀ (x_1 : Int), (rdsF R v)[x.1.toNat]? = some x_1 → ((-9223372036854775808 : Int) ≤ x_1 ∧ x_1 ≤ (9223372036854775807 : Int)) ∧ ((-9223372036854775808 : Int) ≤ mGet x.2.2.2.1 x_1 + (1 : Int) ∧ mGet x.2.2.2.1 x_1 + (1 : Int) ≤ (9223372036854775807 : Int)) ∧ (((-9223372036854775808 : Int) ≤ x_1 ∧ x_1 ≤ (9223372036854775807 : Int)) ∧ ((-9223372036854775808 : Int) ≤ mGet x.2.2.2.1 x_1 + (1 : Int) ∧ mGet x.2.2.2.1 x_1 + (1 : Int) ≤ (9223372036854775807 : Int)) ∧ x.2.2.2.1.length ≤ (1000000000 : Nat)) ∧ ((-9223372036854775808 : Int) ≤ x.1 + (1 : Int) ∧ x.1 + (1 : Int) ≤ (9223372036854775807 : Int)) ∧ True ∧ ((0 : Int) ≤ x.1 + (1 : Int) ∧ x.1 + (1 : Int) ≤ (↑(rdsF R v).length : Int) ∧ x.2.1 = R ∧ mPut x.2.2.2.1 x_1 (mGet x.2.2.2.1 x_1 + (1 : Int)) = incW (List.take (x.1 + (1 : Int)).toNat (rdsF R v)) W ∧ x.2.2.2.2.1 = done ++ [v]) ∧ ((↑(rdsF R v).length : Int) - (x.1 + (1 : Int))).toNat < ((↑(rdsF R v).length : Int) - x.1).toNat) ∧ (decide (x.1 < (↑(rdsF R v).length : Int)) = false → True ∧ (x.2.1, (), x.2.2.2.1, x.2.2.2.2.1, ()) = (R, (), stepW R allT W v, stepD W v done, ())))
theorem g_stepn_eq (R : GI) (W : List (Int × Int)) (done : List Int) (v : Int) : CondO (env_stepn R W done v) Try.f84 [.ptr 9000 0, .int .i64 v] [(9000, .box [.fopq .graph R, .nilf, .oref 9001, .slc 9002 0 none]), (9001, .opq .mii W), (9002, .arr 0 (.int .i64) done)] [] ann_stepn (R, (), stepW R allT W v, stepD W v done, ()) = g_stepn_vc R W done v := by kernel_rfl
theorem g_stepn_ok (R : GI) (W : List (Int × Int)) (done : List Int) (v : Int) (h : DOk R W ∧ done.length ≤ 1000000 ∧ Dom (List.length (α := List Int) R) v) : g_stepn_vc R W done v := by
  unfold g_stepn_vc
  simp only [decide_eq_true_eq, decide_eq_false_iff_not]
  obtain ⟨hD, hl, hv⟩ := h
  have hR := hD.1.1
  unfold Dom at hv
  refine ⟨by omega, fun h0 => ⟨trivial, by rw [stepW, stepD, if_pos h0, if_pos h0]⟩, fun h0 => ⟨by omega, trivial, ⟨trivial, by omega, by omega, trivial, rfl, trivial⟩, fun x hx => ?_⟩⟩
  obtain ⟨a1, a2, a3, a4, a5⟩ := hx
  refine ⟨fun c => ⟨⟨a1, c⟩, fun u hu => ?_⟩, fun c => ⟨trivial, ?_⟩⟩
  · obtain ⟨⟨b1, b2⟩, b3, b4⟩ := hD.round a1 hu a4
    exact ⟨b1, b2, ⟨b1, b2, b3⟩, by have := rds_le hD.1 v; omega, trivial, ⟨by omega, by omega, a3, b4, a5⟩, by omega⟩
  · rw [List.take_of_length_le (by omega)] at a4
    rw [a3, a4, a5, stepW, stepD, if_neg h0, if_neg h0, if_pos rfl]
set_option maxRecDepth 20000
theorem stepn_upd (R : GI) (W : List (Int × Int)) (done : List Int) (v : Int) (h : DOk R W ∧ done.length ≤ 1000000 ∧ Dom (List.length (α := List Int) R) v) : UpdC Try.prog 84 [.ptr 9000 0, .int .i64 v] [(9000, .box [.fopq .graph R, .nilf, .oref 9001, .slc 9002 0 none]), (9001, .opq .mii W), (9002, .arr 0 (.int .i64) done)] (.tuple []) [(9001, .opq .mii (stepW R allT W v)), (9002, .arr 0 (.int .i64) (stepD W v done)), (9000, .box [.fopq .graph R, .nilf, .oref 9001, .slc 9002 0 none])] :=
  by have k := UpdC.of_cond (g_stepn_eq R W done v) (g_stepn_ok R W done v h) (specs_ok rfl [sp_readers] [] rfl rfl) mixed Try.func84; exact k
noncomputable def q_stepn (R : GI) (W : List (Int × Int)) (done : List Int) (v : Int) : Prop × V × Store := (DOk R W ∧ done.length ≤ 1000000 ∧ Dom (List.length (α := List Int) R) v, .tuple [], [(9001, .opq .mii (stepW R allT W v)), (9002, .arr 0 (.int .i64) (stepD W v done)), (9000, .box [.fopq .graph R, .nilf, .oref 9001, .slc 9002 0 none])])
noncomputable def so_stepn : OSpec Try.prog where
 f := 84
 run := fun args σ => match args, σ with
  | [.ptr 9000 0, .int .i64 v], [(9000, .box [.fopq .graph R, .nilf, .oref 9001, .slc 9002 0 none]), (9001, .opq .mii W), (9002, .arr 0 (.int .i64) done)] => some (q_stepn R W done v)
  | _, _ => none
 ok := fun args σ pre r σ' h hp => by
  try dsimp only at h
  split at h
  · rename_i v R W done
    exact of_qo h hp fun h => (stepn_upd R W done v h).weak (.cons (.refl _) (.cons (.refl _) .nil))
  · cases h
noncomputable def env_stepc (R : GI) (W : List (Int × Int)) (done called : List Int) (ch : List Bool) (v : Int) : Env where
  P := Try.prog
  ty := tys2
  specs := specsOf [sp_readers]
  upd := updsOf [so_runc.upd]
  pins := [9000, 9001, 9003, 9004]
  heads := fun | 4 => some { slots := [(44, .int .i64)], drop := [17, 20], boxes := [(9000, [.fop .graph, .clo 82 [9001, 9003], .opq 9004 .mii, .slc 9005 I])], keep := [9001, 9002, 9003], inv := fun _ (x : Int × GI × Unit × List (Int × Int) × List Int × Unit) => 0 ≤ x.1 ∧ x.1 ≤ (rdsF R v).length ∧ x.2.1 = R ∧ x.2.2.2.1 = incW ((rdsF R v).take x.1.toNat) W ∧ x.2.2.2.2.1 = done ++ [v], measure := fun _ (x : Int × GI × Unit × List (Int × Int) × List Int × Unit) => ((rdsF R v).length - x.1).toNat } | _ => none
abbrev ann_stepc : Ann := { slots := numP 0 [], boxes := [(9000, [.fop .graph, .clo 82 [9001, 9003], .opq 9004 .mii, .slc 9005 I]), (9001, [.any, .slc 9002 I]), (9003, [.list .tmp .bool])], inv := fun _ _ => True }
def g_stepc_vc (R : GI) (W : List (Int × Int)) (done : List Int) (called : List Int) (ch : List Bool) (v : Int) : Prop :=
  ((-9223372036854775808 : Int) ≤ v ∧ v ≤ (9223372036854775807 : Int)) ∧ (decide (mGet W v = (0 : Int)) = true → True ∧ (R, (), W, done, (), called, ch, ()) = (R, (), stepW R (chgF ch) W v, stepD W v done, (), stepD W v called, ch, ())) ∧ (decide (mGet W v = (0 : Int)) = false → ((done.length + (1 : Nat)) * (8 : Nat) ≤ (140737488355328 : Nat) ∧ done.length + (1 : Nat) ≤ (4611686018427387904 : Nat)) ∧ called.length ≤ (1000000 : Nat) ∧ ((!chgF ch v) = true → True ∧ (R, (), W, done ++ [v], (), called ++ [v], ch, ()) = (R, (), stepW R (chgF ch) W v, stepD W v done, (), stepD W v called, ch, ())) ∧ ((!chgF ch v) = false → True ∧ ((some (Obj.box [V.any, V.slc (9002 : Nat) (1 : Nat) none]) = some (Obj.box [V.any, V.slc (9002 : Nat) (1 : Nat) none]) ∧ some (Obj.arr (1 : Nat) (Ty.int IntKind.i64) (called ++ [v])) = some (Obj.arr (1 : Nat) (Ty.int IntKind.i64) (called ++ [v])) ∧ some (Obj.box [V.list LK.tmp Ty.bool ch]) = some (Obj.box [V.list LK.tmp Ty.bool ch]) ∧ True) ∧ (0 : Int) ≤ (0 : Int) ∧ (0 : Int) ≤ (↑(rdsF R v).length : Int) ∧ R = R ∧ W = incW (List.take (Int.toNat (0 : Int)) (rdsF R v)) W ∧ done ++ [v] = done ++ [v]) ∧ ∀ (x : Int × List (List Int) × Unit × List (Int × Int) × List Int × Unit), (0 : Int) ≤ x.1 ∧ x.1 ≤ (↑(rdsF R v).length : Int) ∧ x.2.1 = R ∧ x.2.2.2.1 = incW (List.take x.1.toNat (rdsF R v)) W ∧ x.2.2.2.2.1 = done ++ [v] → (decide (x.1 < (↑(rdsF R v).length : Int)) = true → ((0 : Int) ≤ x.1 ∧ x.1 < (↑(rdsF R v).length : Int)) ∧ ∀ (x_1 : Int), (rdsF R v)[x.1.toNat]? = some x_1 → ((-9223372036854775808 : Int) ≤ x_1 ∧ x_1 ≤ (9223372036854775807 : Int)) ∧ ((-9223372036854775808 : Int) ≤ mGet x.2.2.2.1 x_1 + (1 : Int) ∧ mGet x.2.2.2.1 x_1 + (1 : Int) ≤ (9223372036854775807 : Int)) ∧ (((-9223372036854775808 : Int) ≤ x_1 ∧ x_1 ≤ (9223372036854775807 : Int)) ∧ ((-9223372036854775808 : Int) ≤ mGet x.2.2.2.1 x_1 + (1 : Int) ∧ mGet x.2.2.2.1 x_1 + (1 : Int) ≤ (9223372036854775807 : Int)) ∧ x.2.2.2.1.length ≤ (1000000000 : Nat)) ∧ ((-9223372036854775808 : Int) ≤ x.1 + (1 : Int) ∧ x.1 + (1 : Int) ≤ (9223372036854775807 : Int)) ∧ (some (Obj.box [V.any, V.slc (9002 : Nat) (1 : Nat) none]) = some (Obj.box [V.any, V.slc (9002 : Nat) (1 : Nat) none]) ∧ some (Obj.arr (1 : Nat) (Ty.int IntKind.i64) (called ++ [v])) = some (Obj.arr (1 : Nat) (Ty.int IntKind.i64) (called ++ [v])) ∧ some (Obj.box [V.list LK.tmp Ty.bool ch]) = some (Obj.box [V.list LK.tmp Ty.bool ch]) ∧ True) ∧ ((0 : Int) ≤ x.1 + (1 : Int) ∧ x.1 + (1 : Int) ≤ (↑(rdsF R v).length : Int) ∧ x.2.1 = R ∧ mPut x.2.2.2.1 x_1 (mGet x.2.2.2.1 x_1 + (1 : Int)) = incW (List.take (x.1 + (1 : Int)).toNat (rdsF R v)) W ∧ x.2.2.2.2.1 = done ++ [v]) ∧ ((↑(rdsF R v).length : Int) - (x.1 + (1 : Int))).toNat < ((↑(rdsF R v).length : Int) - x.1).toNat) ∧ (decide (x.1 < (↑(rdsF R v).length : Int)) = false → True ∧ (x.2.1, (), x.2.2.2.1, x.2.2.2.2.1, (), called ++ [v], ch, ()) = (R, (), stepW R (chgF ch) W v, stepD W v done, (), stepD W v called, ch, ()))))
theorem g_stepc_eq (R : GI) (W : List (Int × Int)) (done called : List Int) (ch : List Bool) (v : Int) : CondO (env_stepc R W done called ch v) Try.f84 [.ptr 9000 0, .int .i64 v] [(9000, .box [.fopq .graph R, .fn (.func 82) [] [.ptr 9001 0, .ptr 9003 0], .oref 9004, .slc 9005 0 none]), (9001, .box [.any, .slc 9002 0 none]), (9002, .arr 0 (.int .i64) called), (9003, .box [.list .tmp .bool ch]), (9004, .opq .mii W), (9005, .arr 0 (.int .i64) done)] [] ann_stepc (R, (), stepW R (chgF ch) W v, stepD W v done, (), stepD W v called, ch, ()) = g_stepc_vc R W done called ch v := by kernel_rfl
theorem g_stepc_ok (R : GI) (W : List (Int × Int)) (done called : List Int) (ch : List Bool) (v : Int) (h : DOk R W ∧ done.length ≤ 1000000 ∧ called.length ≤ 1000000 ∧ Dom (List.length (α := List Int) R) v) : g_stepc_vc R W done called ch v := by
  unfold g_stepc_vc
  simp only [decide_eq_true_eq, decide_eq_false_iff_not, Bool.not_eq_true', Bool.not_eq_false']
  obtain ⟨hD, hl, hc, hv⟩ := h
  have hR := hD.1.1
  unfold Dom at hv
  refine ⟨by omega, fun h0 => ⟨trivial, by rw [stepW, stepD, stepD, if_pos h0, if_pos h0, if_pos h0]⟩, fun h0 => ⟨by omega, hc, fun hg => ⟨trivial, by rw [stepW, stepD, stepD, if_neg h0, if_neg h0, if_neg h0, hg, if_neg (by decide)]⟩, fun hg => ⟨trivial, ⟨⟨trivial, trivial, trivial, trivial⟩, by omega, by omega, trivial, rfl, trivial⟩, fun x hx => ?_⟩⟩⟩
  obtain ⟨a1, a2, a3, a4, a5⟩ := hx
  refine ⟨fun c => ⟨⟨a1, c⟩, fun u hu => ?_⟩, fun c => ⟨trivial, ?_⟩⟩
  · obtain ⟨⟨b1, b2⟩, b3, b4⟩ := hD.round a1 hu a4
    exact ⟨b1, b2, ⟨b1, b2, b3⟩, by have := rds_le hD.1 v; omega, ⟨trivial, trivial, trivial, trivial⟩, ⟨by omega, by omega, a3, b4, a5⟩, by omega⟩
  · rw [List.take_of_length_le (by omega)] at a4
    rw [a3, a4, a5, stepW, stepD, stepD, if_neg h0, if_neg h0, if_neg h0, if_pos hg]
theorem stepc_upd (R : GI) (W : List (Int × Int)) (done called : List Int) (ch : List Bool) (v : Int) (h : DOk R W ∧ done.length ≤ 1000000 ∧ called.length ≤ 1000000 ∧ Dom (List.length (α := List Int) R) v) : UpdC Try.prog 84 [.ptr 9000 0, .int .i64 v] [(9000, .box [.fopq .graph R, .fn (.func 82) [] [.ptr 9001 0, .ptr 9003 0], .oref 9004, .slc 9005 0 none]), (9001, .box [.any, .slc 9002 0 none]), (9002, .arr 0 (.int .i64) called), (9003, .box [.list .tmp .bool ch]), (9004, .opq .mii W), (9005, .arr 0 (.int .i64) done)] (.tuple []) [(9004, .opq .mii (stepW R (chgF ch) W v)), (9005, .arr 0 (.int .i64) (stepD W v done)), (9002, .arr 0 (.int .i64) (stepD W v called)), (9000, .box [.fopq .graph R, .fn (.func 82) [] [.ptr 9001 0, .ptr 9003 0], .oref 9004, .slc 9005 0 none]), (9001, .box [.any, .slc 9002 0 none]), (9003, .box [.list .tmp .bool ch])] :=
  by have k := UpdC.of_cond (g_stepc_eq R W done called ch v) (g_stepc_ok R W done called ch v h) (specs_ok rfl [sp_readers] [so_runc.upd] rfl rfl) mixed Try.func84; exact k
noncomputable def q_stepc (R : GI) (W : List (Int × Int)) (done called : List Int) (ch : List Bool) (v : Int) : Prop × V × Store := (DOk R W ∧ done.length ≤ 1000000 ∧ called.length ≤ 1000000 ∧ Dom (List.length (α := List Int) R) v, .tuple [], [(9004, .opq .mii (stepW R (chgF ch) W v)), (9005, .arr 0 (.int .i64) (stepD W v done)), (9002, .arr 0 (.int .i64) (stepD W v called)), (9000, .box [.fopq .graph R, .fn (.func 82) [] [.ptr 9001 0, .ptr 9003 0], .oref 9004, .slc 9005 0 none]), (9001, .box [.any, .slc 9002 0 none]), (9003, .box [.list .tmp .bool ch])])
noncomputable def so_stepc : OSpec Try.prog where
 f := 84
 run := fun args σ => match args, σ with
  | [.ptr 9000 0, .int .i64 v], [(9000, .box [.fopq .graph R, .fn (.func 82) [] [.ptr 9001 0, .ptr 9003 0], .oref 9004, .slc 9005 0 none]), (9001, .box [.any, .slc 9002 0 none]), (9002, .arr 0 (.int .i64) called), (9003, .box [.list .tmp .bool ch]), (9004, .opq .mii W), (9005, .arr 0 (.int .i64) done)] => some (q_stepc R W done called ch v)
  | _, _ => none
 ok := fun args σ pre r σ' h hp => by
  try dsimp only at h
  split at h
  · rename_i v R called ch W done
    exact of_qo h hp fun h => (stepc_upd R W done called ch v h).weak (.cons (.refl _) (.cons (.refl _) .nil))
  · cases h
end Go.Proofs.Ytojflfogjkajaaa.Od
end
section
namespace Go.Proofs.Ytojflfogjkajaaa.Od
open Go.Vm Go.Proofs.Ytojflfogjkajaaa.Gr Go.Proofs.Ytojflfogjkajaaa.Rc
section
variable {rd : Int → List Int} {dirty : List Int} {chg : Int → Bool}
theorem doneR_app : ∀ (rest out : List Int), ∃ d, doneR rd dirty chg rest out = out ++ d ∧ d.Sublist rest
  | [], out => ⟨[], by simp [doneR], List.Sublist.refl _⟩
  | v :: r, out => by
    unfold doneR
    split
    · obtain ⟨d, h1, h2⟩ := doneR_app r (out ++ [v])
      exact ⟨v :: d, by rw [h1, List.append_assoc]; rfl, h2.cons_cons v⟩
    · obtain ⟨d, h1, h2⟩ := doneR_app r out
      exact ⟨d, h1, h2.cons v⟩
theorem done_sub (all : List Int) : (doneR rd dirty chg all []).Sublist all := by
  obtain ⟨d, h1, h2⟩ := doneR_app (rd := rd) (dirty := dirty) (chg := chg) all []
  rw [h1]
  exact h2
theorem done_none : ∀ (rest out : List Int), (∀ v ∈ out, v ∈ dirty) → ∀ v ∈ doneR rd dirty (fun _ => false) rest out, v ∈ dirty
  | [], out, h => h
  | v :: r, out, h => by
    unfold doneR
    refine done_none r _ fun u hu => ?_
    split at hu
    · rename_i hv
      rcases List.mem_append.1 hu with hu | hu
      · exact h u hu
      · rw [List.mem_singleton.1 hu]
        unfold isD at hv
        simpa using hv
    · exact h u hu
abbrev Aft (rd : Int → List Int) (all : List Int) : Prop := all.Pairwise fun u v => v ∉ rd u
theorem done_all : ∀ (rest out all : List Int), all = out ++ rest → Aft rd all → (∀ v ∈ all, v ∉ rd v) → (∀ v ∈ all, v ∈ dirty ∨ ∃ w ∈ rd v, w ∈ all) → doneR rd dirty (fun _ => true) rest out = all
  | [], out, all, e, _, _, _ => by rw [e, doneR, List.append_nil]
  | v :: r, out, all, e, hA, hn, hk => by
    unfold doneR
    have hv : v ∈ all := by rw [e]; simp
    have hA' := hA
    rw [e] at hA'
    have h2 := (List.pairwise_cons.1 (List.pairwise_append.1 hA').2.1).1
    have : isD rd dirty (fun _ => true) out v = true := by
      unfold isD
      rcases hk v hv with h | ⟨w, h3, h4⟩
      · rw [List.contains_iff_mem.2 h]
        rfl
      · rw [Bool.or_eq_true]
        refine .inr (List.any_eq_true.2 ⟨w, h3, ?_⟩)
        rw [Bool.and_true, List.contains_iff_mem]
        rw [e] at h4
        rcases List.mem_append.1 h4 with h4 | h4
        · exact h4
        · rcases List.mem_cons.1 h4 with rfl | h4
          · exact absurd h3 (hn _ hv)
          · exact absurd h3 (h2 w h4)
    rw [this, if_pos rfl]
    exact done_all r (out ++ [v]) all (by rw [e, List.append_assoc]; rfl) hA hn hk
theorem done_stop : ∀ (rest out : List Int), (out ++ rest).Nodup → Aft rd rest → (∀ v ∈ rest, v ∉ rd v) → ∀ v ∈ rest, (v ∈ doneR rd dirty chg rest out ↔ isD rd dirty chg (doneR rd dirty chg rest out) v = true)
  | [], _, _, _, _, v, hv => by cases hv
  | v :: r, out, hN, hA, hn, u, hu => by
    have hN1 := List.nodup_append.1 hN
    have hN2 := List.nodup_cons.1 hN1.2.1
    have hA2 := List.pairwise_cons.1 hA
    have hstep : doneR rd dirty chg (v :: r) out = doneR rd dirty chg r (if isD rd dirty chg out v then out ++ [v] else out) := rfl
    have hvo : v ∉ out := fun h => hN1.2.2 v h v (List.mem_cons_self ..) rfl
    have hN3 : ((if isD rd dirty chg out v = true then out ++ [v] else out) ++ r).Nodup := by
      split
      · rw [List.append_assoc]
        exact hN
      · refine List.nodup_append.2 ⟨hN1.1, hN2.2, fun a ha b hb => hN1.2.2 a ha b (List.mem_cons_of_mem _ hb)⟩
    rw [hstep]
    rcases List.mem_cons.1 hu with rfl | hu
    · obtain ⟨d, h1, h2⟩ := doneR_app (rd := rd) (dirty := dirty) (chg := chg) r (if isD rd dirty chg out u = true then out ++ [u] else out)
      rw [h1]
      have hd : u ∉ d := fun h => hN2.1 (h2.subset h)
      have hw : ∀ w ∈ rd u, w ∉ d := fun w hw h => hA2.1 w (h2.subset h) hw
      have hne := hn u (List.mem_cons_self ..)
      have e1 : isD rd dirty chg ((if isD rd dirty chg out u = true then out ++ [u] else out) ++ d) u = isD rd dirty chg out u := by
        have : ∀ w ∈ rd u, ((if isD rd dirty chg out u = true then out ++ [u] else out) ++ d).contains w = out.contains w := fun w hm => by
          rw [Bool.eq_iff_iff, List.contains_iff_mem, List.contains_iff_mem, List.mem_append]
          constructor
          · rintro (h | h)
            · split at h
              · rcases List.mem_append.1 h with h | h
                · exact h
                · rw [List.mem_singleton.1 h] at hm
                  exact absurd hm hne
              · exact h
            · exact absurd h (hw w hm)
          · intro h
            refine .inl ?_
            split
            · exact List.mem_append_left _ h
            · exact h
        unfold isD at this ⊢
        congr 1
        rw [Bool.eq_iff_iff, List.any_eq_true, List.any_eq_true]
        constructor
        · rintro ⟨w, h3, h4⟩
          exact ⟨w, h3, by rw [this w h3] at h4; exact h4⟩
        · rintro ⟨w, h3, h4⟩
          exact ⟨w, h3, by rw [this w h3]; exact h4⟩
      rw [e1, List.mem_append]
      cases h : isD rd dirty chg out u with
      | true => simp
      | false => simp [hvo, hd]
    · exact done_stop r _ hN3 hA2.2 (fun x hx => hn x (List.mem_cons_of_mem _ hx)) u hu
end
structure PSt (R : GI) (dirty all : List Int) : Prop where
  nd : all.Nodup
  aft : Aft (readsF R) all
  ne : ∀ v, v ∉ readsF R v
  dom : ∀ v ∈ all, Dom (List.length (α := List Int) R) v
  frst : ∀ v ∈ dirty, Dom (List.length (α := List Int) R) v → v ∈ all
  clo : ∀ v w, w ∈ readsF R v → w ∈ all → v ∈ all
  src : ∀ v ∈ all, v ∈ dirty ∨ ∃ w ∈ readsF R v, w ∈ all
  len : all.length ≤ List.length (α := List Int) R
theorem pst {R : GI} (hG : GOk R) (dirty : List Int) : (ordE R (RcF R dirty) = 26 ∧ ordA R (RcF R dirty) = []) ∨ ordE R (RcF R dirty) = 0 ∧ PSt R dirty (ordA R (RcF R dirty)) := by
  rcases stands hG (RcF R dirty) with ⟨h1, _, h2, _⟩ | ⟨h1, _, hS⟩
  · exact .inl ⟨h1, h2⟩
  · refine .inr ⟨h1, ?_⟩
    have hT := tabS hG dirty
    have hmem : ∀ v, v ∈ ordA R (RcF R dirty) ↔ v ∈ RcF R dirty := fun v => ⟨hS.sub v, fun h => hS.all v h (by
      have h0 := mem_met.1 h
      exact dom_of hT.len h0)⟩
    refine ⟨hS.nd, List.pairwise_iff_getElem.2 fun i j hi hj hij => hS.ord i j _ _ (by omega) (List.getElem?_eq_getElem hi) (List.getElem?_eq_getElem hj), (gd_of hG).ne, fun v hv => dom_of hT.len (mem_met.1 (hS.sub v hv)), fun v hv hd => (hmem v).2 (mem_met.2 (by rw [hT.zero v ⟨hd, hv⟩]; omega)), fun v w hw hm => (hmem v).2 ?_, fun v hv => ?_, hS.lena⟩
    · exact mem_met.2 (hT.closed w v (mem_met.1 ((hmem w).1 hm)) (reads_rds hG v w hw)).1
    · have h := mem_met.1 ((hmem v).1 hv)
      by_cases h0 : atI (stepsF (List.length (α := List Int) R) (rdsF R) (Fr (List.length (α := List Int) R) dirty)) v = 0
      · have := hT.sound v 0 h0
        cases this with
        | zero h => exact .inl h.2
      · obtain ⟨u, h1, h2⟩ := hT.pred (v := v) (k := (atI (stepsF (List.length (α := List Int) R) (rdsF R) (Fr (List.length (α := List Int) R) dirty)) v).toNat - 1) (by omega)
        exact .inr ⟨u, rds_reads hG u v h1, (hmem u).2 (mem_met.2 (by omega))⟩
noncomputable def runF (R : GI) (dirty : List Int) (chg : Int → Bool) : List Int := doneR (readsF R) dirty chg (ordA R (RcF R dirty)) []
theorem runF_len (R : GI) (dirty : List Int) (chg : Int → Bool) : (runF R dirty chg).length ≤ List.length (α := List Int) R := by
  have h1 := (done_sub (rd := readsF R) (dirty := dirty) (chg := chg) (ordA R (RcF R dirty))).length_le
  have h2 := ordA_len R (RcF R dirty)
  unfold runF
  omega
theorem runF_sub (R : GI) (dirty : List Int) (chg : Int → Bool) : (runF R dirty chg).Sublist (ordA R (RcF R dirty)) := done_sub _
theorem PSt.stops {R : GI} {dirty : List Int} (h : PSt R dirty (ordA R (RcF R dirty))) (chg : Int → Bool) {v : Int} (hv : Dom (List.length (α := List Int) R) v) : (runF R dirty chg).contains v = isD (readsF R) dirty chg (runF R dirty chg) v := by
  rw [Bool.eq_iff_iff, List.contains_iff_mem]
  by_cases hm : v ∈ ordA R (RcF R dirty)
  · exact done_stop _ [] (by simpa using h.nd) h.aft (fun u _ => h.ne u) v hm
  · have h1 : v ∉ runF R dirty chg := fun hx => hm ((runF_sub R dirty chg).subset hx)
    refine ⟨fun hx => absurd hx h1, fun hx => ?_⟩
    unfold isD at hx
    rw [Bool.or_eq_true, List.contains_iff_mem] at hx
    rcases hx with hx | hx
    · exact absurd (h.frst v hx hv) hm
    · obtain ⟨w, h2, h3⟩ := List.any_eq_true.1 hx
      rw [Bool.and_eq_true, List.contains_iff_mem] at h3
      exact absurd (h.clo v w h2 ((runF_sub R dirty chg).subset h3.1)) hm
theorem PSt.whole {R : GI} {dirty : List Int} (h : PSt R dirty (ordA R (RcF R dirty))) : runF R dirty allT = ordA R (RcF R dirty) := done_all _ [] _ rfl h.aft (fun v _ => h.ne v) h.src
theorem PSt.ord {R : GI} {dirty : List Int} (h : PSt R dirty (ordA R (RcF R dirty))) (chg : Int → Bool) (i k : Nat) (u v : Int) (hik : i ≤ k) (hu : (runF R dirty chg)[i]? = some u) (hv : (runF R dirty chg)[k]? = some v) : v ∉ readsF R u := by
  obtain ⟨hi, e1⟩ := List.getElem?_eq_some_iff.1 hu
  obtain ⟨hk, e2⟩ := List.getElem?_eq_some_iff.1 hv
  have hP := h.aft.sublist (runF_sub R dirty chg)
  by_cases e : i = k
  · subst e
    rw [e1] at e2
    subst e2
    exact h.ne u
  · have := List.pairwise_iff_getElem.1 hP i k hi hk (by omega)
    rw [e1, e2] at this
    exact this
theorem PSt.rnd {R : GI} {dirty : List Int} (h : PSt R dirty (ordA R (RcF R dirty))) (chg : Int → Bool) : (runF R dirty chg).Nodup := h.nd.sublist (runF_sub R dirty chg)
end Go.Proofs.Ytojflfogjkajaaa.Od
end
