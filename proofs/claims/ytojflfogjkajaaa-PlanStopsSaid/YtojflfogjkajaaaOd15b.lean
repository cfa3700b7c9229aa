/-
  Orders and rows: how they stand.
-/
import Derived.Test.YtojflfogjkajaaaOd14
section
namespace Go.Proofs.Ytojflfogjkajaaa.Od
open Go.Vm Go.Proofs.Ytojflfogjkajaaa.Gr Go.Proofs.Ytojflfogjkajaaa.Rc
def Chn (R : GI) (l : List Int) : Prop := ∀ (i : Nat) (u w : Int), l[i]? = some u → l[i + 1]? = some w → w ∈ readsF R u
def CW (R : GI) (sm way : List Int) : Prop := way.Nodup ∧ way ≠ [] ∧ (∀ v ∈ way, hel R sm v = true) ∧ Chn R way
theorem CW.len {R : GI} {sm way : List Int} (h : CW R sm way) : way.length ≤ (AL R sm).length := sub_len h.1 fun v hv => (hel_iff.1 (h.2.2.1 v hv)).1
theorem CW.last {R : GI} {sm way : List Int} (h : CW R sm way) : way[way.length - 1]? = some (lastF way) ∧ hel R sm (lastF way) = true := by
  have hp := List.length_pos_iff.2 h.2.1
  have e : way[way.length - 1]? = some (lastF way) := by
    rw [lastF, List.getD_eq_getElem?_getD, List.getElem?_eq_getElem (by omega)]
    rfl
  exact ⟨e, h.2.2.1 _ (List.mem_of_getElem? e)⟩
theorem CW.next {R : GI} {sm way : List Int} (h : CW R sm way) (hn : ¬ 0 ≤ idF way (nxt R sm (lastF way))) : CW R sm (way ++ [nxt R sm (lastF way)]) := by
  obtain ⟨hl1, hl2⟩ := h.last
  obtain ⟨_, _, _, hx, hy⟩ := nxt_ok hl2
  obtain ⟨h3, h4, h5, h6⟩ := h
  have hp := List.length_pos_iff.2 h4
  refine ⟨?_, by simp, fun v hv => ?_, fun i u w hu hw => ?_⟩
  · rw [List.nodup_append]
    refine ⟨h3, List.nodup_cons.2 ⟨by simp, List.nodup_nil⟩, fun a ha b hb => ?_⟩
    rw [List.mem_singleton.1 hb]
    rcases ixF_cases (fun x => decide (nxt R sm (lastF way) = x)) way with ⟨_, h8⟩ | ⟨i, v, h7, _, _⟩
    · intro e
      have := h8 a ha
      rw [e, decide_eq_true rfl] at this
      cases this
    · exact absurd (show 0 ≤ idF way (nxt R sm (lastF way)) by rw [idF, h7]; omega) hn
  · rcases List.mem_append.1 hv with hv | hv
    · exact h5 v hv
    · rw [List.mem_singleton.1 hv]
      exact hx
  · have hi := (List.getElem?_eq_some_iff.1 hw).1
    rw [List.length_append, List.length_singleton] at hi
    rw [List.getElem?_append_left (by omega)] at hu
    by_cases hc : i + 1 < way.length
    · rw [List.getElem?_append_left hc] at hw
      exact h6 i u w hu hw
    · have e : i = way.length - 1 := by omega
      subst e
      rw [List.getElem?_append_right (by omega), show way.length - 1 + 1 - way.length = 0 by omega] at hw
      rw [hl1] at hu
      cases hu
      have hw : some (nxt R sm (lastF way)) = some w := hw
      cases hw
      exact hy
theorem nd_notin {l : List Int} (h : l.Nodup) {i : Nat} {v : Int} (hv : l[i]? = some v) : v ∉ l.take i := by
  intro hin
  obtain ⟨j, hj, e⟩ := List.getElem_of_mem hin
  rw [List.length_take] at hj
  rw [List.getElem_take] at e
  have hi : i < l.length := (List.getElem?_eq_some_iff.1 hv).1
  have e2 : l[i] = v := (List.getElem?_eq_some_iff.1 hv).2
  exact (List.pairwise_iff_getElem.1 h) j i (by omega) hi (by omega) (e.trans e2.symm)
set_option maxRecDepth 20000
end Go.Proofs.Ytojflfogjkajaaa.Od
end
section
namespace Go.Proofs.Ytojflfogjkajaaa.Od
open Go.Vm Go.Proofs.Ytojflfogjkajaaa.Gr Go.Proofs.Ytojflfogjkajaaa.Rc
section
variable {rd rs : Int → List Int} {all : List Int}
theorem Bt.ord (hG : Gd rd rs) {out : List Int} (h : Bt rd all out) : ∀ (i k : Nat) (u v : Int), i ≤ k → out[i]? = some u → out[k]? = some v → v ∉ rd u := by
  induction h with
  | nil => intro i k u v _ hu; simp at hu
  | @snoc out x hb hc ih =>
    intro i k u v hik hu hv hm
    have hk := (List.getElem?_eq_some_iff.1 hv).1
    rw [List.length_append, List.length_singleton] at hk
    by_cases h1 : k < out.length
    · rw [List.getElem?_append_left (by omega)] at hu hv
      exact ih i k u v hik hu hv hm
    · have e : k = out.length := by omega
      subst e
      rw [List.getElem?_append_right (Nat.le_refl _), Nat.sub_self] at hv
      have hv : some x = some v := hv
      cases hv
      by_cases h2 : i < out.length
      · rw [List.getElem?_append_left h2] at hu
        exact hc.2.1 (hb.os.clo u (List.mem_of_getElem? hu) x hm hc.1)
      · have e : i = out.length := by omega
        subst e
        rw [List.getElem?_append_right (Nat.le_refl _), Nat.sub_self] at hu
        have hu : some x = some u := hu
        cases hu
        exact hG.ne x hm
theorem Wt.at {w : List (List Int)} (h : Wt rd all w) : ∀ (i : Nat) (r : List Int), w[i]? = some r → r = rowF rd all (w.take i).flatten := by
  induction h with
  | nil => intro i r hr; simp at hr
  | @snoc out hb hn ih =>
    intro i r hr
    have hi := (List.getElem?_eq_some_iff.1 hr).1
    rw [List.length_append, List.length_singleton] at hi
    by_cases h1 : i < out.length
    · rw [List.getElem?_append_left h1] at hr
      rw [List.take_append_of_le_length (by omega)]
      exact ih i r hr
    · have e : i = out.length := by omega
      subst e
      rw [List.getElem?_append_right (Nat.le_refl _), Nat.sub_self] at hr
      have hr : some _ = some r := hr
      cases hr
      rw [List.take_append_of_le_length (Nat.le_refl _), List.take_length]
theorem flat_take {w : List (List Int)} {i : Nat} {r : List Int} (h : w[i]? = some r) : (w.take (i + 1)).flatten = (w.take i).flatten ++ r := by
  rw [List.take_add_one, h]
  simp
theorem flat_mono (w : List (List Int)) {i j : Nat} (h : i ≤ j) {u : Int} (hu : u ∈ (w.take i).flatten) : u ∈ (w.take j).flatten := by
  obtain ⟨r, hr, hur⟩ := List.mem_flatten.1 hu
  refine List.mem_flatten.2 ⟨r, ?_, hur⟩
  have : w.take i = (w.take j).take i := by rw [List.take_take, Nat.min_eq_left h]
  rw [this] at hr
  exact List.mem_of_mem_take hr
theorem mem_row {ahead : List Int} {v : Int} : v ∈ rowF rd all ahead ↔ C rd all ahead v := by
  unfold rowF
  rw [List.mem_filter, decide_eq_true_eq]
  exact ⟨fun h => h.2, fun h => ⟨h.1, h⟩⟩
theorem Wt.reads {w : List (List Int)} (h : Wt rd all w) {i : Nat} {p r : List Int} {v : Int} (hp : w[i]? = some p) (hr : w[i + 1]? = some r) (hv : v ∈ r) : ∃ u, u ∈ p ∧ u ∈ rd v := by
  have e1 := h.at i p hp
  have e2 := h.at (i + 1) r hr
  rw [e2, mem_row] at hv
  rw [flat_take hp] at hv
  have hnC : ¬ C rd all (w.take i).flatten v := fun hc => hv.2.1 (List.mem_append_right _ (by rw [e1]; exact mem_row.2 hc))
  have : cntO rd all (w.take i).flatten v ≠ 0 := fun h0 => hnC ⟨hv.1, fun hm => hv.2.1 (List.mem_append_left _ hm), h0⟩
  refine Classical.byContradiction fun hn => this (cnt_zero.2 fun u h1 h2 => ?_)
  rcases List.mem_append.1 (cnt_zero.1 hv.2.2 u h1 h2) with h3 | h3
  · exact h3
  · exact absurd ⟨u, h3, h1⟩ hn
theorem Wt.ahead {w : List (List Int)} (h : Wt rd all w) {i j : Nat} (hij : i ≤ j) {r s : List Int} {v u : Int} (hr : w[i]? = some r) (hs : w[j]? = some s) (hv : v ∈ r) (hu : u ∈ s) : u ∉ rd v := by
  rw [h.at i r hr, mem_row] at hv
  rw [h.at j s hs, mem_row] at hu
  exact fun hm => hu.2.1 (flat_mono w hij (cnt_zero.1 hv.2.2 u hm hu.1))
end
theorem both (R : GI) (sm : List Int) : (ordS R sm = none ∧ wavS R sm = none) ∨ ∃ o w, ordS R sm = some o ∧ wavS R sm = some w := by
  have hn : (AL R sm).Nodup := (all_up _ _).nodup
  cases ho : ordS R sm with
  | none =>
    cases hw : wavS R sm with
    | none => exact .inl ⟨rfl, rfl⟩
    | some w =>
      obtain ⟨o, h1, h2, h3⟩ := ordR_none ho
      obtain ⟨h4, h5⟩ := wavR_some hw
      have hb := h4.bt hn
      have : w.flatten.length ≤ o.length := sub_len hb.os.nd (Bt.sub h2 hb)
      omega
  | some o =>
    cases hw : wavS R sm with
    | some w => exact .inr ⟨o, w, rfl, rfl⟩
    | none =>
      obtain ⟨w, h1, h2, h3⟩ := wavR_none hw
      obtain ⟨h4, h5⟩ := ordR_some ho
      have hs : ∀ u, ¬ C (readsF R) (AL R sm) w.flatten u := fun u hc => by
        have := mem_row.2 hc
        rw [h2] at this
        cases this
      have : o.length ≤ w.flatten.length := sub_len h4.os.nd (Bt.sub hs h4)
      omega
structure Stands (R : GI) (sm a : List Int) (w : List (List Int)) : Prop where
  sub : ∀ v ∈ a, v ∈ sm
  nd : a.Nodup
  ord : ∀ (i k : Nat) (u v : Int), i ≤ k → a[i]? = some u → a[k]? = some v → v ∉ readsF R u
  all : ∀ v ∈ sm, Dom (List.length (α := List Int) R) v → v ∈ a
  lena : a.length ≤ List.length (α := List Int) R
  len : w.flatten.length = a.length
  wl : w.length ≤ w.flatten.length
  rl : ∀ (i : Nat) r, w[i]? = some r → r.length ≤ w.flatten.length
  up : ∀ (i : Nat) r, w[i]? = some r → Up r
  mem : ∀ (i : Nat) r, w[i]? = some r → ∀ v ∈ r, v ∈ a
  rds : ∀ (i : Nat) p r, w[i]? = some p → w[i + 1]? = some r → ∀ v ∈ r, ∃ u, u ∈ p ∧ u ∈ readsF R v
  ahd : ∀ (i j : Nat) r s, i ≤ j → w[i]? = some r → w[j]? = some s → ∀ v ∈ r, ∀ u ∈ s, u ∉ readsF R v
theorem stands {R : GI} (hG : GOk R) (sm : List Int) : (ordE R sm = 26 ∧ wavE R sm = 26 ∧ ordA R sm = [] ∧ wavA R sm = []) ∨ ordE R sm = 0 ∧ wavE R sm = 0 ∧ Stands R sm (ordA R sm) (wavA R sm) := by
  have hn : (AL R sm).Nodup := (all_up _ _).nodup
  rcases both R sm with ⟨h1, h2⟩ | ⟨o, w, h1, h2⟩
  · exact .inl ⟨by rw [ordE, h1], by rw [wavE, h2], by rw [ordA, h1], by rw [wavA, h2]⟩
  · refine .inr ⟨by rw [ordE, h1], by rw [wavE, h2], ?_⟩
    rw [ordA, wavA, h1, h2]
    show Stands R sm o w
    obtain ⟨b1, b2⟩ := ordR_some h1
    obtain ⟨w1, w2⟩ := wavR_some h2
    have wb := w1.bt hn
    have hal := al_len R sm
    have l1 : o.length ≤ (AL R sm).length := b1.os.le
    have l2 : w.flatten.length ≤ (AL R sm).length := wb.os.le
    have b2' : (AL R sm).length ≤ o.length := b2
    have w2' : (AL R sm).length ≤ w.flatten.length := w2
    have cov : ∀ {o : List Int}, Bt (readsF R) (AL R sm) o → (AL R sm).length ≤ o.length → ∀ v ∈ AL R sm, v ∈ o := fun {o} hb hl v hv => Classical.byContradiction fun hno => by
      have : (v :: o).length ≤ (AL R sm).length := sub_len (List.nodup_cons.2 ⟨hno, hb.os.nd⟩) fun x hx => by
        rcases List.mem_cons.1 hx with rfl | hx
        · exact hv
        · exact hb.os.sub x hx
      rw [List.length_cons] at this
      omega
    have wl := w1.len
    refine ⟨fun v hv => (mem_all.1 (b1.os.sub v hv)).2, b1.os.nd, b1.ord (gd_of hG), fun v hv hd => cov b1 b2 v (mem_all.2 ⟨hd, hv⟩), by omega, by omega, wl.1, fun i r hr => wl.2 r (List.mem_of_getElem? hr), fun i r hr => ?_, fun i r hr v hv => ?_, fun i p r hp hr v hv => w1.reads hp hr hv, fun i j r s hij hr hs v hv u hu => w1.ahead hij hr hs hv hu⟩
    · rw [w1.at i r hr]
      exact (all_up _ _).filter _
    · rw [w1.at i r hr, mem_row] at hv
      exact cov b1 b2 v hv.1
end Go.Proofs.Ytojflfogjkajaaa.Od
end
