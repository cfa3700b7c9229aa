/-
  order.Circle.
-/
import Derived.Test.YtojflfogjkajaaaOd8
section
namespace Go.Proofs.Ytojflfogjkajaaa.Od
open Go.Vm Go.Proofs.Ytojflfogjkajaaa.Gr Go.Proofs.Ytojflfogjkajaaa.Rc
def rowF (rd : Int → List Int) (all ahead : List Int) : List Int := all.filter fun v => decide (C rd all ahead v)
def wavN (rd : Int → List Int) (all : List Int) : Nat → List (List Int) → Option (List (List Int))
  | 0, out => if all.length ≤ out.flatten.length then some out else none
  | k + 1, out => if all.length ≤ out.flatten.length then some out else if rowF rd all out.flatten = [] then none else wavN rd all k (out ++ [rowF rd all out.flatten])
def wavR (rd : Int → List Int) (all : List Int) (out : List (List Int)) : Option (List (List Int)) := wavN rd all (all.length - out.flatten.length) out
theorem flat_snoc (out : List (List Int)) (r : List Int) : (out ++ [r]).flatten = out.flatten ++ r := by simp
theorem wavN_any (rd : Int → List Int) (all : List Int) : ∀ (k j : Nat) (out : List (List Int)), all.length - out.flatten.length ≤ k → all.length - out.flatten.length ≤ j → wavN rd all k out = wavN rd all j out := by
  have z : ∀ (j : Nat) (out : List (List Int)), all.length ≤ out.flatten.length → wavN rd all j out = some out := fun j out h => by
    cases j <;> rw [wavN, if_pos h]
  intro k
  induction k with
  | zero => intro j out h _; rw [z 0 out (by omega), z j out (by omega)]
  | succ k ih =>
    intro j out h1 h2
    by_cases h : all.length ≤ out.flatten.length
    · rw [z _ out h, z _ out h]
    · cases j with
      | zero => omega
      | succ j =>
        rw [wavN, wavN, if_neg h, if_neg h]
        split
        · rfl
        · rename_i hr
          have : 0 < (rowF rd all out.flatten).length := List.length_pos_iff.2 hr
          refine ih j _ ?_ ?_ <;> rw [flat_snoc, List.length_append] <;> omega
theorem wavR_eq (rd : Int → List Int) (all : List Int) (out : List (List Int)) : wavR rd all out = if all.length ≤ out.flatten.length then some out else if rowF rd all out.flatten = [] then none else wavR rd all (out ++ [rowF rd all out.flatten]) := by
  unfold wavR
  cases h : all.length - out.flatten.length with
  | zero =>
    have hn : all.length ≤ out.flatten.length := by omega
    rw [wavN, if_pos hn, if_pos hn]
  | succ k =>
    have hn : ¬ all.length ≤ out.flatten.length := by omega
    rw [wavN, if_neg hn, if_neg hn]
    split
    · rfl
    · rename_i hr
      have : 0 < (rowF rd all out.flatten).length := List.length_pos_iff.2 hr
      refine wavN_any rd all _ _ _ ?_ (Nat.le_refl _)
      rw [flat_snoc, List.length_append]
      omega
theorem sort_mem {l : List Int} {x : Int} : x ∈ sortF l ↔ x ∈ l := by
  unfold sortF
  exact List.mem_mergeSort
theorem sort_up {l : List Int} (h : l.Nodup) : Up (sortF l) := by
  have h1 : (sortF l).Pairwise fun a b => decide (a ≤ b) = true := List.pairwise_mergeSort (fun a b c h1 h2 => by simp at *; omega) (fun a b => by simp; omega) l
  have h2 : (sortF l).Nodup := (List.mergeSort_perm l _).nodup_iff.2 h
  refine (h1.and h2).imp fun {a b} h => ?_
  have := h.1
  simp only [decide_eq_true_eq] at this
  have := h.2
  omega
theorem sort_row {rd : Int → List Int} {all ahead P : List Int} (hu : Up all) (hp : Pend rd all ahead P) : sortF P = rowF rd all ahead := by
  refine up_ext (sort_up hp.nodup) (hu.filter _) fun x => ?_
  rw [sort_mem, hp.mem, rowF, List.mem_filter, decide_eq_true_eq]
  exact ⟨fun h => ⟨h.1, h⟩, fun h => h.2⟩
def wavS (R : GI) (sm : List Int) : Option (List (List Int)) := wavR (readsF R) (AL R sm) []
def wavA (R : GI) (sm : List Int) : List (List Int) := match wavS R sm with | some o => o | none => []
def wavE (R : GI) (sm : List Int) : Int := match wavS R sm with | some _ => 0 | none => 26
def VInv (R : GI) (sm P ahead : List Int) (R' : GI) (W : List (Int × Int)) (left : Int) : Prop :=
  R' = R ∧ Os (readsF R) (AL R sm) ahead ∧ W = mkM (AL R sm) (CN R sm ahead) ∧ left = (AL R sm).length - ahead.length ∧ Pend (readsF R) (AL R sm) ahead P
theorem VInv.start {R : GI} (sm : List Int) : VInv R sm (rdyB R sm (riseF sm)) [] R (mkM (AL R sm) (fB R sm (riseF sm))) (AL R sm).length := by
  refine ⟨rfl, Os.nil, fB_end R sm, by simp, ?_⟩
  rw [rdyB_end]
  exact Pend.begin (all_up _ _).nodup
theorem VInv.len {R : GI} {sm P ahead : List Int} {R' : GI} {W : List (Int × Int)} {left : Int} (h : VInv R sm P ahead R' W left) : P.length + ahead.length ≤ (AL R sm).length := h.2.2.2.2.le h.2.1
theorem VInv.perm {R : GI} {sm P Q ahead : List Int} {R' : GI} {W : List (Int × Int)} {left : Int} (h : VInv R sm P ahead R' W left) (hq : ∀ u, Q.count u = P.count u) : VInv R sm Q ahead R' W left := ⟨h.1, h.2.1, h.2.2.1, h.2.2.2.1, h.2.2.2.2.perm hq⟩
theorem VInv.next {R : GI} (hG : GOk R) {sm P ahead : List Int} {v : Int} {R' : GI} {W : List (Int × Int)} {left : Int} (h : VInv R sm (v :: P) ahead R' W left) : VInv R sm (P ++ takeR (rdsF R' v) W) (ahead ++ [v]) R' (takeW (rdsF R' v) W) (left - 1) := by
  obtain ⟨h1, h2, h3, h4, h6⟩ := h
  subst h1
  obtain ⟨hC, hS⟩ := h6.step (gd_of hG) h2
  refine ⟨rfl, h2.snoc hC, ?_, ?_, ?_⟩
  · rw [h3, take_cnt hG hC.1 hC.2.1]
  · rw [List.length_append, List.length_singleton, h4]
    push_cast
    omega
  · rw [h3, take_new]
    exact hS
def WInv (R : GI) (sm P : List Int) (out : List (List Int)) (R' : GI) (W : List (Int × Int)) (left : Int) : Prop := VInv R sm P out.flatten R' W left ∧ wavR (readsF R) (AL R sm) out = wavS R sm ∧ out.length ≤ out.flatten.length
theorem WInv.row {R : GI} {sm P : List Int} {out : List (List Int)} {R' : GI} {W : List (Int × Int)} {left : Int} (h : WInv R sm P out R' W left) (h0 : 0 < P.length) :
    wavR (readsF R) (AL R sm) (out ++ [sortF P]) = wavS R sm ∧ out.length + 1 ≤ (out ++ [sortF P]).flatten.length ∧ VInv R sm (sortF P) out.flatten R' W left ∧ 0 < (sortF P).length := by
  obtain ⟨h1, h2, h3⟩ := h
  have hl := h1.len
  have hs := sort_row (all_up _ _) h1.2.2.2.2
  have hsl : (sortF P).length = P.length := List.length_mergeSort _
  have e := wavR_eq (readsF R) (AL R sm) out
  rw [if_neg (by omega), if_neg (by rw [← hs]; exact List.ne_nil_of_length_pos (by omega)), ← hs, h2] at e
  refine ⟨e.symm, ?_, h1.perm fun u => (List.mergeSort_perm P _).count_eq u, by omega⟩
  rw [flat_snoc, List.length_append]
  omega
theorem WInv.stop {R : GI} {sm P : List Int} {out : List (List Int)} {R' : GI} {W : List (Int × Int)} {left : Int} (h : WInv R sm P out R' W left) (h0 : P = []) : (0 < left → wavS R sm = none) ∧ (¬ 0 < left → wavS R sm = some out) := by
  obtain ⟨h1, h2, h3⟩ := h
  have hl := h1.2.2.2.1
  have e := wavR_eq (readsF R) (AL R sm) out
  have hs := sort_row (all_up _ _) h1.2.2.2.2
  have hn : rowF (readsF R) (AL R sm) out.flatten = [] := by
    rw [← hs, h0]
    simp [sortF]
  rw [if_pos hn, h2] at e
  exact ⟨fun h => by rw [e, if_neg (by omega)], fun h => by rw [e, if_pos (by omega)]⟩
set_option maxRecDepth 20000
end Go.Proofs.Ytojflfogjkajaaa.Od
end
section
namespace Go.Proofs.Ytojflfogjkajaaa.Od
open Go.Vm Go.Proofs.Ytojflfogjkajaaa.Gr Go.Proofs.Ytojflfogjkajaaa.Rc
section
variable {rd rs : Int → List Int} {all out : List Int}
inductive Bt (rd : Int → List Int) (all : List Int) : List Int → Prop
  | nil : Bt rd all []
  | snoc {out : List Int} {v : Int} : Bt rd all out → C rd all out v → Bt rd all (out ++ [v])
theorem Bt.os (h : Bt rd all out) : Os rd all out := by
  induction h with
  | nil => exact Os.nil
  | snoc _ hc ih => exact ih.snoc hc
theorem Bt.avoid (h : Bt rd all out) {H : Int → Prop} (hH : ∀ v, H v → v ∈ all ∧ ∃ w, w ∈ rd v ∧ H w) : ∀ v ∈ out, ¬ H v := by
  induction h with
  | nil => intro v hv; cases hv
  | @snoc out v hb hc ih =>
    intro u hu hHu
    rcases List.mem_append.1 hu with hu | hu
    · exact ih u hu hHu
    · rw [List.mem_singleton.1 hu] at hHu
      obtain ⟨w, h1, h2⟩ := (hH v hHu).2
      exact ih w (cnt_zero.1 hc.2.2 w h1 (hH w h2).1) h2
theorem stuck_held (hs : ∀ u, ¬ C rd all out u) {v : Int} (hv : v ∈ all) (ho : v ∉ out) : ∃ w, w ∈ rd v ∧ w ∈ all ∧ w ∉ out := by
  refine Classical.byContradiction fun hn => hs v ⟨hv, ho, cnt_zero.2 fun w h1 h2 => ?_⟩
  exact Classical.byContradiction fun h3 => hn ⟨w, h1, h2, h3⟩
theorem Bt.sub {o1 o2 : List Int} (s1 : ∀ u, ¬ C rd all o1 u) (h2 : Bt rd all o2) : ∀ v ∈ o2, v ∈ o1 := fun v hv => by
  have := h2.avoid (H := fun v => v ∈ all ∧ v ∉ o1) (fun v hv => ⟨hv.1, by
    obtain ⟨w, a, b, c⟩ := stuck_held s1 hv.1 hv.2
    exact ⟨w, a, b, c⟩⟩) v hv
  exact Classical.byContradiction fun hn => this ⟨h2.os.sub v hv, hn⟩
def ordM (rd : Int → List Int) (all : List Int) : Nat → List Int → List Int
  | 0, out => out
  | k + 1, out => match nextF rd all out with
    | none => out
    | some v => ordM rd all k (out ++ [v])
theorem next_C {v : Int} (h : nextF rd all out = some v) : C rd all out v := by
  have := List.find?_some h
  exact of_decide_eq_true this
theorem next_no (h : nextF rd all out = none) (u : Int) : ¬ C rd all out u := fun hc => by
  have := List.find?_eq_none.1 h u hc.1
  exact this (decide_eq_true hc)
theorem full_no (h : Os rd all out) (hl : all.length ≤ out.length) (u : Int) : ¬ C rd all out u := fun hc => by
  have := (h.snoc hc).le
  rw [List.length_append, List.length_singleton] at this
  omega
theorem ordM_ok : ∀ (k : Nat) (out : List Int), Bt rd all out → all.length - out.length ≤ k → Bt rd all (ordM rd all k out) ∧ ∀ u, ¬ C rd all (ordM rd all k out) u
  | 0, out, hb, hl => ⟨hb, full_no (out := out) hb.os (by omega)⟩
  | k + 1, out, hb, hl => by
    unfold ordM
    split
    · rename_i h
      exact ⟨hb, next_no h⟩
    · rename_i v h
      exact ordM_ok k _ (hb.snoc (next_C h)) (by rw [List.length_append, List.length_singleton]; omega)
def endF (rd : Int → List Int) (all : List Int) : List Int := ordM rd all all.length []
theorem end_ok : Bt rd all (endF rd all) ∧ ∀ u, ¬ C rd all (endF rd all) u := ordM_ok _ _ .nil (by simp)
theorem ordN_some : ∀ (k : Nat) (out o : List Int), Bt rd all out → ordN rd all k out = some o → Bt rd all o ∧ all.length ≤ o.length
  | 0, out, o, hb, h => by
    unfold ordN at h
    split at h
    · cases h
      exact ⟨hb, by assumption⟩
    · cases h
  | k + 1, out, o, hb, h => by
    unfold ordN at h
    split at h
    · cases h
      exact ⟨hb, by assumption⟩
    · split at h
      · cases h
      · rename_i v hv
        exact ordN_some k _ _ (hb.snoc (next_C hv)) h
theorem ordN_none : ∀ (k : Nat) (out : List Int), Bt rd all out → all.length - out.length ≤ k → ordN rd all k out = none → ∃ o, Bt rd all o ∧ (∀ u, ¬ C rd all o u) ∧ o.length < all.length
  | 0, out, hb, hl, h => by
    unfold ordN at h
    split at h
    · cases h
    · omega
  | k + 1, out, hb, hl, h => by
    unfold ordN at h
    split at h
    · cases h
    · rename_i hn
      split at h
      · rename_i hv
        exact ⟨out, hb, next_no hv, by omega⟩
      · rename_i v hv
        exact ordN_none k _ (hb.snoc (next_C hv)) (by rw [List.length_append, List.length_singleton]; omega) h
theorem ordR_some {o : List Int} (h : ordR rd all [] = some o) : Bt rd all o ∧ all.length ≤ o.length := ordN_some _ _ _ .nil h
theorem ordR_none (h : ordR rd all [] = none) : ∃ o, Bt rd all o ∧ (∀ u, ¬ C rd all o u) ∧ o.length < all.length := ordN_none _ _ .nil (by simp) h
end
def hel (R : GI) (sm : List Int) (v : Int) : Bool := (AL R sm).contains v && !(endF (readsF R) (AL R sm)).contains v
theorem hel_iff {R : GI} {sm : List Int} {v : Int} : hel R sm v = true ↔ v ∈ AL R sm ∧ v ∉ endF (readsF R) (AL R sm) := by
  unfold hel
  rw [Bool.and_eq_true, List.contains_iff_mem, Bool.not_eq_true', Bool.eq_false_iff]
  exact ⟨fun ⟨h1, h2⟩ => ⟨h1, fun h => h2 (List.contains_iff_mem.2 h)⟩, fun ⟨h1, h2⟩ => ⟨h1, fun h => h2 (List.contains_iff_mem.1 h)⟩⟩
theorem hel_next {R : GI} {sm : List Int} {v : Int} (h : hel R sm v = true) : ∃ w, w ∈ readsF R v ∧ hel R sm w = true := by
  obtain ⟨h1, h2⟩ := hel_iff.1 h
  obtain ⟨w, a, b, c⟩ := stuck_held end_ok.2 h1 h2
  exact ⟨w, a, hel_iff.2 ⟨b, c⟩⟩
def ixF (p : Int → Bool) (l : List Int) : Int := match l.findIdx? p with
  | some i => (i : Int)
  | none => -1
theorem ixF_none {p : Int → Bool} {l : List Int} (h : l.any p = false) : ixF p l = -1 := by
  have : l.findIdx? p = none := List.findIdx?_eq_none_iff.2 fun x hx => by
    rw [List.any_eq_false] at h
    simpa using h x hx
  rw [ixF, this]
theorem ixF_at {p : Int → Bool} {l : List Int} {i : Nat} {v : Int} (hv : l[i]? = some v) (hp : p v = true) (ha : (l.take i).any p = false) : ixF p l = i := by
  have : l.findIdx? p = some i := by
    obtain ⟨hi, e⟩ := List.getElem?_eq_some_iff.1 hv
    rw [List.findIdx?_eq_some_iff_getElem]
    refine ⟨hi, by rw [e]; exact hp, fun j hj => ?_⟩
    rw [List.any_eq_false] at ha
    have := ha l[j] (List.mem_iff_getElem.2 ⟨j, by rw [List.length_take]; omega, by rw [List.getElem_take]⟩)
    simpa using this
  rw [ixF, this]
theorem ixF_cases (p : Int → Bool) (l : List Int) : (ixF p l = -1 ∧ ∀ x ∈ l, p x = false) ∨ ∃ (i : Nat) (v : Int), ixF p l = i ∧ l[i]? = some v ∧ p v = true := by
  unfold ixF
  cases h : l.findIdx? p with
  | none => exact .inl ⟨rfl, fun x hx => by simpa using List.findIdx?_eq_none_iff.1 h x hx⟩
  | some i =>
    obtain ⟨hi, h1, _⟩ := List.findIdx?_eq_some_iff_getElem.1 h
    exact .inr ⟨i, l[i], rfl, List.getElem?_eq_getElem hi, h1⟩
abbrev idF (l : List Int) (v : Int) : Int := ixF (fun x => decide (v = x)) l
def lastF (way : List Int) : Int := way.getD (way.length - 1) 0
def nxt (R : GI) (sm : List Int) (u : Int) : Int := (readsF R u).getD (ixF (hel R sm) (readsF R u)).toNat 0
def cirN (R : GI) (sm : List Int) : Nat → List Int → List Int
  | 0, _ => []
  | k + 1, way => if 0 ≤ idF way (nxt R sm (lastF way)) then way.drop (idF way (nxt R sm (lastF way))).toNat else cirN R sm k (way ++ [nxt R sm (lastF way)])
def cirR (R : GI) (sm way : List Int) : List Int := cirN R sm ((AL R sm).length + 1 - way.length) way
def cirF (R : GI) (sm : List Int) : List Int := if ixF (hel R sm) sm < 0 then [] else cirR R sm [sm.getD (ixF (hel R sm) sm).toNat 0]
theorem cirR_eq (R : GI) (sm way : List Int) (h : way.length ≤ (AL R sm).length) : cirR R sm way = if 0 ≤ idF way (nxt R sm (lastF way)) then way.drop (idF way (nxt R sm (lastF way))).toNat else cirR R sm (way ++ [nxt R sm (lastF way)]) := by
  unfold cirR
  have : (AL R sm).length + 1 - way.length = ((AL R sm).length - way.length) + 1 := by omega
  rw [this, cirN]
  split
  · rfl
  · rw [show (AL R sm).length + 1 - (way ++ [nxt R sm (lastF way)]).length = (AL R sm).length - way.length by rw [List.length_append, List.length_singleton]; omega]
theorem nxt_ok {R : GI} {sm : List Int} {u : Int} (h : hel R sm u = true) : 0 ≤ ixF (hel R sm) (readsF R u) ∧ ixF (hel R sm) (readsF R u) < (readsF R u).length ∧ (readsF R u)[(ixF (hel R sm) (readsF R u)).toNat]? = some (nxt R sm u) ∧ hel R sm (nxt R sm u) = true ∧ nxt R sm u ∈ readsF R u := by
  obtain ⟨w, h1, h2⟩ := hel_next h
  unfold nxt
  rcases ixF_cases (hel R sm) (readsF R u) with ⟨_, h4⟩ | ⟨i, v, h3, h4, h5⟩
  · rw [h4 w h1] at h2
    cases h2
  · have hi := (List.getElem?_eq_some_iff.1 h4).1
    rw [h3, Int.toNat_natCast, List.getD_eq_getElem?_getD, h4]
    exact ⟨by omega, by omega, rfl, h5, List.mem_of_getElem? h4⟩
end Go.Proofs.Ytojflfogjkajaaa.Od
end
section
namespace Go.Proofs.Ytojflfogjkajaaa.Od
open Go.Vm Go.Proofs.Ytojflfogjkajaaa.Gr Go.Proofs.Ytojflfogjkajaaa.Rc
set_option maxRecDepth 20000
noncomputable def env_idx (l : List Int) (v : Int) : Env where
  P := Try.prog
  ty := tys2
  heads := fun | 2 => .some { slots := [(8, .int .i64)], boxes := [], inv := fun _ (x : Int × Unit) => 0 ≤ x.1 ∧ x.1 ≤ l.length ∧ (l.take x.1.toNat).any (fun x => decide (v = x)) = false, measure := fun _ (x : Int × Unit) => (l.length - x.1).toNat } | _ => .none
def g_idx_vc (l : List Int) (v : Int) : Prop :=
  (True ∧ (0 : Int) ≤ (0 : Int) ∧ (0 : Int) ≤ (↑l.length : Int) ∧ ((List.take (Int.toNat (0 : Int)) l).any fun x => decide (v = x)) = false) ∧ ∀ (x : Int × Unit), (0 : Int) ≤ x.1 ∧ x.1 ≤ (↑l.length : Int) ∧ ((List.take x.1.toNat l).any fun x => decide (v = x)) = false → (decide (x.1 < (↑l.length : Int)) = true → ((0 : Int) ≤ x.1 ∧ x.1 < (↑l.length : Int)) ∧ ∀ (x_1 : Int), l[x.1.toNat]? = some x_1 → (decide (v = x_1) = true → (x.1, ()) = (idF l v, ())) ∧ (decide (v = x_1) = false → ((-9223372036854775808 : Int) ≤ x.1 + (1 : Int) ∧ x.1 + (1 : Int) ≤ (9223372036854775807 : Int)) ∧ True ∧ ((0 : Int) ≤ x.1 + (1 : Int) ∧ x.1 + (1 : Int) ≤ (↑l.length : Int) ∧ ((List.take (x.1 + (1 : Int)).toNat l).any fun x => decide (v = x)) = false) ∧ ((↑l.length : Int) - (x.1 + (1 : Int))).toNat < ((↑l.length : Int) - x.1).toNat)) ∧ (decide (x.1 < (↑l.length : Int)) = false → ((-1 : Int), ()) = (idF l v, ()))
theorem g_idx_eq (l : List Int) (v : Int) : Cond (env_idx l v) Try.f81 [.list .tmp I l, .int .i64 v] [.int .i64] (idF l v, ()) = g_idx_vc l v := by kernel_rfl
theorem g_idx_ok (l : List Int) (v : Int) (h : l.length ≤ 1000000000) : g_idx_vc l v := by
  unfold g_idx_vc
  simp only [decide_eq_true_eq, decide_eq_false_iff_not, Bool.not_eq_true', Bool.not_eq_false', Bool.not_true, Bool.not_false]
  refine ⟨⟨trivial, by omega, by omega, rfl⟩, fun x ⟨a1, a2, a3⟩ => ⟨fun b1 => ⟨⟨a1, b1⟩, fun u hu => ⟨fun c1 => ?_, fun c1 => ⟨by omega, trivial, ⟨by omega, by omega, ?_⟩, by omega⟩⟩⟩, fun b1 => ?_⟩⟩
  · rw [idF, ixF_at hu (decide_eq_true c1) a3, Int.toNat_of_nonneg a1]
  · rw [show (x.1 + 1).toNat = x.1.toNat + 1 by omega, take_snoc hu, List.any_append, a3]
    simpa using c1
  · rw [List.take_of_length_le (by omega)] at a3
    rw [idF, ixF_none a3]
theorem idx_pure (l : List Int) (v : Int) (h : l.length ≤ 1000000000) : Pure Try.prog 81 [.list .tmp I l, .int .i64 v] (.int .i64 (idF l v)) :=
  by have k := Pure.of_cond (g_idx_eq l v) (g_idx_ok l v h) (specs_ok rfl [] [] rfl rfl) mixed Try.func81; exact k
noncomputable def q_idx (l : List Int) (v : Int) : Prop × V := (l.length ≤ 1000000000, (.int .i64 (idF l v)))
noncomputable def sp_idx : FSpec Try.prog where
 f := 81
 run := fun
  | [v0, .int .i64 v] => (asL I v0 : Option (List Int)).bind fun l => some (q_idx l v)
  | _ => none
 ok := fun args pre r h hp => by
  split at h
  · rename_i v0 v
    obtain ⟨l, h0, h⟩ := Option.bind_eq_some_iff.1 h
    exact of_q h hp fun h => (idx_pure l v h).weak (.cons (asL_weak h0) (.cons (.refl _) .nil))
  · cases h
def CInv (R : GI) (sm : List Int) (R' : GI) (W : List (Int × Int)) (way : List Int) : Prop :=
  R' = R ∧ (∀ v, decide (0 < mGet W v) = hel R sm v) ∧ way.Nodup ∧ way ≠ [] ∧ (∀ v ∈ way, hel R sm v = true) ∧ cirR R sm way = cirF R sm
theorem CInv.len {R : GI} {sm : List Int} {R' : GI} {W : List (Int × Int)} {way : List Int} (h : CInv R sm R' W way) : way.length ≤ (AL R sm).length := sub_len h.2.2.1 fun v hv => (hel_iff.1 (h.2.2.2.2.1 v hv)).1
theorem CInv.last {R : GI} {sm : List Int} {R' : GI} {W : List (Int × Int)} {way : List Int} (h : CInv R sm R' W way) : way[way.length - 1]? = some (lastF way) ∧ hel R sm (lastF way) = true := by
  have hp := List.length_pos_iff.2 h.2.2.2.1
  have e : way[way.length - 1]? = some (lastF way) := by
    rw [lastF, List.getD_eq_getElem?_getD, List.getElem?_eq_getElem (by omega)]
    rfl
  exact ⟨e, h.2.2.2.2.1 _ (List.mem_of_getElem? e)⟩
theorem CInv.next {R : GI} {sm : List Int} {R' : GI} {W : List (Int × Int)} {way : List Int} (h : CInv R sm R' W way) (hn : ¬ 0 ≤ idF way (nxt R sm (lastF way))) : CInv R sm R' W (way ++ [nxt R sm (lastF way)]) := by
  have hl := h.len
  have hx := (nxt_ok h.last.2).2.2.2.1
  obtain ⟨h1, h2, h3, h4, h5, h6⟩ := h
  refine ⟨h1, h2, ?_, by simp, fun v hv => ?_, ?_⟩
  · rw [List.nodup_append]
    refine ⟨h3, List.nodup_cons.2 ⟨by simp, List.nodup_nil⟩, fun a ha b hb => ?_⟩
    rw [List.mem_singleton.1 hb]
    rcases ixF_cases (fun x => decide (nxt R sm (lastF way) = x)) way with ⟨_, h8⟩ | ⟨i, v, h7, _, _⟩
    · intro e
      have := h8 a ha
      rw [e, decide_eq_true rfl] at this
      cases this
    · exact absurd (show 0 ≤ idF way (nxt R sm (lastF way)) by rw [idF, h7]; omega) hn
  · rcases List.mem_append.1 hv with hv | hv
    · exact h5 v hv
    · rw [List.mem_singleton.1 hv]
      exact hx
  · rw [← h6, cirR_eq R sm way hl, if_neg hn]
end Go.Proofs.Ytojflfogjkajaaa.Od
end
