/-
  reach: steps.
-/
import Derived.Test.YtojflfogjkajaaaRc3
namespace Go.Proofs.Ytojflfogjkajaaa.Rc
open Go.Vm Go.Proofs.Ytojflfogjkajaaa.Gr

theorem bi_put {n : Nat} {nx : Int → List Int} {F : Int → Prop} {v x : Int} {i : Nat} {o row : List Int} (h : Bi n nx F v i o row) (hx : (nx v)[i]? = some x) (hd : Dom n x) : Bi n nx F v (i + 1) (putO n o x (atI o v + 1)) (putW n o row x) := by
  unfold putO putW
  by_cases hb : putB n o x = true
  · rw [if_pos hb, if_pos hb]
    have : 0 ≤ x ∧ x < (n : Int) ∧ atI o x < 0 := by simpa [putB] using hb
    exact h.put hx hd this.2.2
  · rw [if_neg hb, if_neg hb]
    refine h.skip hx ?_
    apply Classical.byContradiction
    intro hn
    exact hb (by simpa [putB] using ⟨hd.1, hd.2, by omega⟩)
theorem bs_put {n : Nat} {l : List Int} {x : Int} {i : Nat} {o row : List Int} (h : Bs n l i o row) (hx : l[i]? = some x) : Bs n l (i + 1) (putO n o x 0) (putW n o row x) := by
  unfold putO putW
  by_cases hb : putB n o x = true
  · rw [if_pos hb, if_pos hb]
    have : 0 ≤ x ∧ x < (n : Int) ∧ atI o x < 0 := by simpa [putB] using hb
    exact h.put hx ⟨this.1, this.2.1⟩ this.2.2
  · rw [if_neg hb, if_neg hb]
    refine h.skip hx fun hc => hb ?_
    obtain ⟨⟨h1, h2⟩, h3⟩ := hc
    simpa [putB] using ⟨h1, h2, h3⟩
theorem put_cnt {n : Nat} {o row : List Int} {v k : Int} (hl : o.length = n) (hk : 0 ≤ k) : negs (putO n o v k) + (putW n o row v).length = negs o + row.length ∧ 2 * negs (putO n o v k) + (putW n o row v).length ≤ 2 * negs o + row.length ∧ (putO n o v k).length = n := by
  unfold putO putW
  by_cases hb : putB n o v = true
  · rw [if_pos hb, if_pos hb]
    have h1 : 0 ≤ v ∧ v < (n : Int) ∧ atI o v < 0 := by simpa [putB] using hb
    have := negs_set (o := o) (k := v.toNat) (x := k) (atI_get ⟨h1.1, by omega⟩) h1.2.2 hk
    rw [List.length_append, List.length_set]
    simp only [List.length_cons, List.length_nil]
    omega
  · rw [if_neg hb, if_neg hb]
    omega
theorem fill_next {m i : Nat} (h : i < m) : (List.replicate i (-1 : Int) ++ List.replicate (m - i) 0).set i (-1) = List.replicate (i + 1) (-1) ++ List.replicate (m - (i + 1)) 0 := by
  apply List.ext_getElem?
  intro j
  rw [List.getElem?_set]
  simp only [List.length_append, List.length_replicate]
  by_cases hj : i = j
  · subst hj
    rw [if_pos rfl, if_pos (by omega), List.getElem?_append_left (by simp), List.getElem?_replicate, if_pos (by omega)]
  · rw [if_neg hj]
    by_cases h1 : j < i
    · rw [List.getElem?_append_left (by simpa using h1), List.getElem?_append_left (by simp; omega), List.getElem?_replicate, List.getElem?_replicate, if_pos h1, if_pos (by omega)]
    · rw [List.getElem?_append_right (by simp; omega), List.getElem?_append_right (by simp; omega), List.getElem?_replicate, List.getElem?_replicate]
      simp only [List.length_replicate]
      by_cases h2 : j < m
      · rw [if_pos (by omega), if_pos (by omega)]
      · rw [if_neg (by omega), if_neg (by omega)]
theorem negs_rep (m : Nat) : negs (List.replicate m (-1)) = m := by
  unfold negs
  rw [List.filter_eq_self.2]
  · simp
  · intro x hx
    rw [(List.mem_replicate.1 hx).2]
    rfl
theorem negs_le (o : List Int) : negs o ≤ o.length := List.length_filter_le _ _
theorem rds_dom {R : GI} (h : GOk R) (v w : Int) (_ : Dom R.length v) (hw : w ∈ rdsF R v) : Dom R.length w := by
  unfold rdsF at hw
  split at hw
  · rename_i hv
    obtain ⟨u, h1, h2, _⟩ := mem_readers.1 hw
    exact ⟨by omega, by omega⟩
  · cases hw
theorem reads_dom {R : GI} (h : GOk R) (v w : Int) (_ : Dom R.length v) (hw : w ∈ readsF R v) : Dom R.length w := by
  unfold readsF at hw
  split at hw
  · rename_i hv
    have := (h.2 v.toNat _ (reads_at hv)).2 w (by rw [readsF, if_pos hv]; exact hw)
    exact ⟨this.1, this.2.1⟩
  · cases hw
theorem fr_dom {n : Nat} {l : List Int} : ∀ v, Fr n l v → Dom n v := fun _ h => h.1
/-- Who reads whom, from both sides. -/
theorem rds_iff {R : GI} (h : GOk R) (u v : Int) (hv : Dom R.length v) : v ∈ rdsF R u ↔ u ∈ readsF R v := by
  have hv2 : 0 ≤ v ∧ v < R.length := hv
  constructor
  · intro hm
    have hu : 0 ≤ u ∧ u < R.length := by
      unfold rdsF at hm
      split at hm
      · assumption
      · cases hm
    have := has_both hv2 hu
    rw [List.contains_iff_mem.2 hm] at this
    exact List.contains_iff_mem.1 this
  · intro hm
    have hu := reads_dom h v u hv hm
    have := has_both hv2 hu
    rw [List.contains_iff_mem.2 hm] at this
    exact List.contains_iff_mem.1 this.symm
theorem put_top {n : Nat} {o row : List Int} {u x : Int} (hl : o.length = n) (h : ∀ v, atI o v + negs o ≤ n) (hu : 0 ≤ atI o u) (v : Int) : atI (putO n o x (atI o u + 1)) v + negs (putO n o x (atI o u + 1)) ≤ n := by
  have h1 := (put_cnt (row := row) (v := x) (k := atI o u + 1) hl (by omega)).1
  unfold putO putW at h1
  unfold putO
  by_cases hb : putB n o x = true
  · rw [if_pos hb, if_pos hb] at h1
    have h2 : 0 ≤ x ∧ x < (n : Int) ∧ atI o x < 0 := by simpa [putB] using hb
    rw [if_pos hb, atI_set ⟨h2.1, by omega⟩]
    rw [List.length_append] at h1
    simp only [List.length_cons, List.length_nil] at h1
    have := h u
    have := h v
    split <;> omega
  · rw [if_neg hb]
    exact h v
noncomputable def env_stepsS (n : Int) (R : GI) (l : List Int) : Env where
  P := Try.prog
  ty := tys0
  specs := specsOf [sp_nextS]
  upd := updsOf [so_put.upd]
  recut := fun | 45 => true | _ => false
  heads := fun
    | 3 => some { slots := [(20, .int .i64)], boxes := [(7, [.slc 17 I])], keep := [3], inv := fun _ (x : Int × List Int × Unit) => 0 ≤ x.1 ∧ x.1 ≤ R.length ∧ x.2.1 = List.replicate x.1.toNat (-1) ++ List.replicate (R.length - x.1.toNat) 0, measure := fun _ (x : Int × List Int × Unit) => (R.length - x.1).toNat }
    | 10 => some { slots := [(30, .int .i64)], boxes := [(7, [.slc 17 I]), (9, [.slc 900 I])], keep := [3], drop := [17, 18], inv := fun _ (x : Int × List Int × List Int × Unit) => 0 ≤ x.1 ∧ x.1 ≤ l.length ∧ Bs R.length l x.1.toNat x.2.1 x.2.2.1 ∧ negs x.2.1 + x.2.2.1.length ≤ R.length, measure := fun _ (x : Int × List Int × List Int × Unit) => (l.length - x.1).toNat }
    | 18 => some { slots := [(50, .int .i64)], boxes := [(7, [.slc 17 I]), (9, [.slc 900 I])], keep := [3], drop := [17, 18, 38, 41, 42, 44, 45], inv := fun st (x : Int × List Int × List Int × Unit) => 0 ≤ x.1 ∧ x.1 ≤ (rdsF R (st.int 13)).length ∧ Bi R.length (rdsF R) (Fr R.length l) (st.int 13) x.1.toNat x.2.1 x.2.2.1 ∧ negs x.2.1 + x.2.2.1.length ≤ R.length ∧ (∀ v, atI x.2.1 v + negs x.2.1 ≤ List.length (α := List Int) R) ∧ 2 * negs x.2.1 + x.2.2.1.length ≤ 2 * negs (st.ints 17) + (st.ints 900).length, measure := fun st (x : Int × List Int × List Int × Unit) => ((rdsF R (st.int 13)).length - x.1).toNat }
    | _ => none
  joins := fun
    | 2000000 => some { slots := [], boxes := [(7, [.slc 17 I]), (9, [.slc 900 I])], keep := [3], drop := [17, 18], inv := fun _ (x : List Int × List Int × Unit) => Bf R.length (rdsF R) (Fr R.length l) x.1 x.2.1 ∧ negs x.1 + x.2.1.length ≤ R.length ∧ (∀ v, atI x.1 v + negs x.1 ≤ List.length (α := List Int) R), measure := fun _ (x : List Int × List Int × Unit) => 2 * negs x.1 + x.2.1.length }
    | _ => none
def g_stepsS_vc (n : Int) (R : GI) (l : List Int) : Prop :=
  ((0 : Int) ≤ n ∧ n ≤ n ∧ n * (↑(8 : Nat) : Int) ≤ (140737488355328 : Int) ∧ n ≤ (4611686018427387904 : Int)) ∧ ((some (Obj.box [V.int IntKind.i64 n]) = some (Obj.box [V.int IntKind.i64 n]) ∧ True) ∧ (0 : Int) ≤ (0 : Int) ∧ (0 : Int) ≤ (↑(List.length R) : Int) ∧ List.replicate n.toNat (0 : Int) = List.replicate (Int.toNat (0 : Int)) (-1 : Int) ++ List.replicate (List.length R - Int.toNat (0 : Int)) (0 : Int)) ∧ ∀ (x : Int × List Int × Unit), (0 : Int) ≤ x.1 ∧ x.1 ≤ (↑(List.length R) : Int) ∧ x.2.1 = List.replicate x.1.toNat (-1 : Int) ++ List.replicate (List.length R - x.1.toNat) (0 : Int) → (decide (x.1 < (↑(List.replicate n.toNat (0 : Int)).length : Int)) = true → ((0 : Int) ≤ x.1 ∧ x.1 < (↑x.2.1.length : Int)) ∧ x.1.toNat < x.2.1.length ∧ ∀ (y : Int), x.2.1[x.1.toNat]? = some y → ((-9223372036854775808 : Int) ≤ x.1 + (1 : Int) ∧ x.1 + (1 : Int) ≤ (9223372036854775807 : Int)) ∧ (some (Obj.box [V.int IntKind.i64 n]) = some (Obj.box [V.int IntKind.i64 n]) ∧ True) ∧ ((0 : Int) ≤ x.1 + (1 : Int) ∧ x.1 + (1 : Int) ≤ (↑(List.length R) : Int) ∧ x.2.1.set x.1.toNat (-1 : Int) = List.replicate (x.1 + (1 : Int)).toNat (-1 : Int) ++ List.replicate (List.length R - (x.1 + (1 : Int)).toNat) (0 : Int)) ∧ ((↑(List.length R) : Int) - (x.1 + (1 : Int))).toNat < ((↑(List.length R) : Int) - x.1).toNat) ∧ (decide (x.1 < (↑(List.replicate n.toNat (0 : Int)).length : Int)) = false → ((some (Obj.box [V.int IntKind.i64 n]) = some (Obj.box [V.int IntKind.i64 n]) ∧ True) ∧ (0 : Int) ≤ (0 : Int) ∧ (0 : Int) ≤ (↑l.length : Int) ∧ Bs (List.length R) l (Int.toNat (0 : Int)) x.2.1 [] ∧ negs x.2.1 + (0 : Nat) ≤ List.length R) ∧ ∀ (x : Int × List Int × List Int × Unit), (0 : Int) ≤ x.1 ∧ x.1 ≤ (↑l.length : Int) ∧ Bs (List.length R) l x.1.toNat x.2.1 x.2.2.1 ∧ negs x.2.1 + x.2.2.1.length ≤ List.length R → (decide (x.1 < (↑l.length : Int)) = true → ((0 : Int) ≤ x.1 ∧ x.1 < (↑l.length : Int)) ∧ ∀ (x_1 : Int), l[x.1.toNat]? = some x_1 → ((↑x.2.1.length : Int) = n ∧ x.2.2.1.length ≤ (1000000000 : Nat)) ∧ ((-9223372036854775808 : Int) ≤ x.1 + (1 : Int) ∧ x.1 + (1 : Int) ≤ (9223372036854775807 : Int)) ∧ (some (Obj.box [V.int IntKind.i64 n]) = some (Obj.box [V.int IntKind.i64 n]) ∧ True) ∧ ((0 : Int) ≤ x.1 + (1 : Int) ∧ x.1 + (1 : Int) ≤ (↑l.length : Int) ∧ Bs (List.length R) l (x.1 + (1 : Int)).toNat (putO n x.2.1 x_1 (0 : Int)) (putW n x.2.1 x.2.2.1 x_1) ∧ negs (putO n x.2.1 x_1 (0 : Int)) + (putW n x.2.1 x.2.2.1 x_1).length ≤ List.length R) ∧ ((↑l.length : Int) - (x.1 + (1 : Int))).toNat < ((↑l.length : Int) - x.1).toNat) ∧ (decide (x.1 < (↑l.length : Int)) = false → (decide ((0 : Int) < (↑x.2.2.1.length : Int)) = true → ((0 : Int) ≤ (0 : Int) ∧ (0 : Int) < (↑x.2.2.1.length : Int)) ∧ Int.toNat (0 : Int) < x.2.2.1.length ∧ ∀ (x_1 : Int), x.2.2.1[Int.toNat (0 : Int)]? = some x_1 → ((0 : Int) ≤ (1 : Int) ∧ (1 : Int) ≤ (↑x.2.2.1.length : Int)) ∧ True ∧ ((some (Obj.box [V.int IntKind.i64 n]) = some (Obj.box [V.int IntKind.i64 n]) ∧ True) ∧ (0 : Int) ≤ (0 : Int) ∧ (0 : Int) ≤ (↑(rdsF R x_1).length : Int) ∧ Bi (List.length R) (rdsF R) (Fr (List.length R) l) x_1 (Int.toNat (0 : Int)) x.2.1 (List.take (x.2.2.1.length - Int.toNat (1 : Int)) (List.drop (Int.toNat (1 : Int)) x.2.2.1)) ∧ negs x.2.1 + (List.take (x.2.2.1.length - Int.toNat (1 : Int)) (List.drop (Int.toNat (1 : Int)) x.2.2.1)).length ≤ List.length R ∧ (∀ (v : Int), atI x.2.1 v + (↑(negs x.2.1) : Int) ≤ (↑(List.length R) : Int)) ∧ (2 : Nat) * negs x.2.1 + (List.take (x.2.2.1.length - Int.toNat (1 : Int)) (List.drop (Int.toNat (1 : Int)) x.2.2.1)).length ≤ (2 : Nat) * negs x.2.1 + (List.take (x.2.2.1.length - Int.toNat (1 : Int)) (List.drop (Int.toNat (1 : Int)) x.2.2.1)).length) ∧ ∀ (x_2 : Int × List Int × List Int × Unit), (0 : Int) ≤ x_2.1 ∧ x_2.1 ≤ (↑(rdsF R x_1).length : Int) ∧ Bi (List.length R) (rdsF R) (Fr (List.length R) l) x_1 x_2.1.toNat x_2.2.1 x_2.2.2.1 ∧ negs x_2.2.1 + x_2.2.2.1.length ≤ List.length R ∧ (∀ (v : Int), atI x_2.2.1 v + (↑(negs x_2.2.1) : Int) ≤ (↑(List.length R) : Int)) ∧ (2 : Nat) * negs x_2.2.1 + x_2.2.2.1.length ≤ (2 : Nat) * negs x.2.1 + (List.take (x.2.2.1.length - Int.toNat (1 : Int)) (List.drop (Int.toNat (1 : Int)) x.2.2.1)).length → (decide (x_2.1 < (↑(rdsF R x_1).length : Int)) = true → ((0 : Int) ≤ x_2.1 ∧ x_2.1 < (↑(rdsF R x_1).length : Int)) ∧ ∀ (x_3 : Int), (rdsF R x_1)[x_2.1.toNat]? = some x_3 → ((0 : Int) ≤ x_1 ∧ x_1 < (↑x_2.2.1.length : Int)) ∧ x_1.toNat < x_2.2.1.length ∧ ∀ (x_4 : Int), x_2.2.1[x_1.toNat]? = some x_4 → ((-9223372036854775808 : Int) ≤ x_4 + (1 : Int) ∧ x_4 + (1 : Int) ≤ (9223372036854775807 : Int)) ∧ ((↑x_2.2.1.length : Int) = n ∧ x_2.2.2.1.length ≤ (1000000000 : Nat)) ∧ ((-9223372036854775808 : Int) ≤ x_2.1 + (1 : Int) ∧ x_2.1 + (1 : Int) ≤ (9223372036854775807 : Int)) ∧ (some (Obj.box [V.int IntKind.i64 n]) = some (Obj.box [V.int IntKind.i64 n]) ∧ True) ∧ ((0 : Int) ≤ x_2.1 + (1 : Int) ∧ x_2.1 + (1 : Int) ≤ (↑(rdsF R x_1).length : Int) ∧ Bi (List.length R) (rdsF R) (Fr (List.length R) l) x_1 (x_2.1 + (1 : Int)).toNat (putO n x_2.2.1 x_3 (x_4 + (1 : Int))) (putW n x_2.2.1 x_2.2.2.1 x_3) ∧ negs (putO n x_2.2.1 x_3 (x_4 + (1 : Int))) + (putW n x_2.2.1 x_2.2.2.1 x_3).length ≤ List.length R ∧ (∀ (v : Int), atI (putO n x_2.2.1 x_3 (x_4 + (1 : Int))) v + (↑(negs (putO n x_2.2.1 x_3 (x_4 + (1 : Int)))) : Int) ≤ (↑(List.length R) : Int)) ∧ (2 : Nat) * negs (putO n x_2.2.1 x_3 (x_4 + (1 : Int))) + (putW n x_2.2.1 x_2.2.2.1 x_3).length ≤ (2 : Nat) * negs x.2.1 + (List.take (x.2.2.1.length - Int.toNat (1 : Int)) (List.drop (Int.toNat (1 : Int)) x.2.2.1)).length) ∧ ((↑(rdsF R x_1).length : Int) - (x_2.1 + (1 : Int))).toNat < ((↑(rdsF R x_1).length : Int) - x_2.1).toNat) ∧ (decide (x_2.1 < (↑(rdsF R x_1).length : Int)) = false → (0 : Nat) = (0 : Nat) ∧ ((some (Obj.box [V.int IntKind.i64 n]) = some (Obj.box [V.int IntKind.i64 n]) ∧ True) ∧ Bf (List.length R) (rdsF R) (Fr (List.length R) l) x_2.2.1 x_2.2.2.1 ∧ negs x_2.2.1 + x_2.2.2.1.length ≤ List.length R ∧ ∀ (v : Int), atI x_2.2.1 v + (↑(negs x_2.2.1) : Int) ≤ (↑(List.length R) : Int)) ∧ ∀ (x : List Int × List Int × Unit), (Bf (List.length R) (rdsF R) (Fr (List.length R) l) x.1 x.2.1 ∧ negs x.1 + x.2.1.length ≤ List.length R ∧ ∀ (v : Int), atI x.1 v + (↑(negs x.1) : Int) ≤ (↑(List.length R) : Int)) → (decide ((0 : Int) < (↑x.2.1.length : Int)) = true → ((0 : Int) ≤ (0 : Int) ∧ (0 : Int) < (↑x.2.1.length : Int)) ∧ Int.toNat (0 : Int) < x.2.1.length ∧ ∀ (x_3 : Int), x.2.1[Int.toNat (0 : Int)]? = some x_3 → ((0 : Int) ≤ (1 : Int) ∧ (1 : Int) ≤ (↑x.2.1.length : Int)) ∧ True ∧ ((some (Obj.box [V.int IntKind.i64 n]) = some (Obj.box [V.int IntKind.i64 n]) ∧ True) ∧ (0 : Int) ≤ (0 : Int) ∧ (0 : Int) ≤ (↑(rdsF R x_3).length : Int) ∧ Bi (List.length R) (rdsF R) (Fr (List.length R) l) x_3 (Int.toNat (0 : Int)) x.1 (List.take (x.2.1.length - Int.toNat (1 : Int)) (List.drop (Int.toNat (1 : Int)) x.2.1)) ∧ negs x.1 + (List.take (x.2.1.length - Int.toNat (1 : Int)) (List.drop (Int.toNat (1 : Int)) x.2.1)).length ≤ List.length R ∧ (∀ (v : Int), atI x.1 v + (↑(negs x.1) : Int) ≤ (↑(List.length R) : Int)) ∧ (2 : Nat) * negs x.1 + (List.take (x.2.1.length - Int.toNat (1 : Int)) (List.drop (Int.toNat (1 : Int)) x.2.1)).length ≤ (2 : Nat) * negs x.1 + (List.take (x.2.1.length - Int.toNat (1 : Int)) (List.drop (Int.toNat (1 : Int)) x.2.1)).length) ∧ ∀ (x_4 : Int × List Int × List Int × Unit), (0 : Int) ≤ x_4.1 ∧ x_4.1 ≤ (↑(rdsF R x_3).length : Int) ∧ Bi (List.length R) (rdsF R) (Fr (List.length R) l) x_3 x_4.1.toNat x_4.2.1 x_4.2.2.1 ∧ negs x_4.2.1 + x_4.2.2.1.length ≤ List.length R ∧ (∀ (v : Int), atI x_4.2.1 v + (↑(negs x_4.2.1) : Int) ≤ (↑(List.length R) : Int)) ∧ (2 : Nat) * negs x_4.2.1 + x_4.2.2.1.length ≤ (2 : Nat) * negs x.1 + (List.take (x.2.1.length - Int.toNat (1 : Int)) (List.drop (Int.toNat (1 : Int)) x.2.1)).length → (decide (x_4.1 < (↑(rdsF R x_3).length : Int)) = true → ((0 : Int) ≤ x_4.1 ∧ x_4.1 < (↑(rdsF R x_3).length : Int)) ∧ ∀ (x_5 : Int), (rdsF R x_3)[x_4.1.toNat]? = some x_5 → ((0 : Int) ≤ x_3 ∧ x_3 < (↑x_4.2.1.length : Int)) ∧ x_3.toNat < x_4.2.1.length ∧ ∀ (x_6 : Int), x_4.2.1[x_3.toNat]? = some x_6 → ((-9223372036854775808 : Int) ≤ x_6 + (1 : Int) ∧ x_6 + (1 : Int) ≤ (9223372036854775807 : Int)) ∧ ((↑x_4.2.1.length : Int) = n ∧ x_4.2.2.1.length ≤ (1000000000 : Nat)) ∧ ((-9223372036854775808 : Int) ≤ x_4.1 + (1 : Int) ∧ x_4.1 + (1 : Int) ≤ (9223372036854775807 : Int)) ∧ (some (Obj.box [V.int IntKind.i64 n]) = some (Obj.box [V.int IntKind.i64 n]) ∧ True) ∧ ((0 : Int) ≤ x_4.1 + (1 : Int) ∧ x_4.1 + (1 : Int) ≤ (↑(rdsF R x_3).length : Int) ∧ Bi (List.length R) (rdsF R) (Fr (List.length R) l) x_3 (x_4.1 + (1 : Int)).toNat (putO n x_4.2.1 x_5 (x_6 + (1 : Int))) (putW n x_4.2.1 x_4.2.2.1 x_5) ∧ negs (putO n x_4.2.1 x_5 (x_6 + (1 : Int))) + (putW n x_4.2.1 x_4.2.2.1 x_5).length ≤ List.length R ∧ (∀ (v : Int), atI (putO n x_4.2.1 x_5 (x_6 + (1 : Int))) v + (↑(negs (putO n x_4.2.1 x_5 (x_6 + (1 : Int)))) : Int) ≤ (↑(List.length R) : Int)) ∧ (2 : Nat) * negs (putO n x_4.2.1 x_5 (x_6 + (1 : Int))) + (putW n x_4.2.1 x_4.2.2.1 x_5).length ≤ (2 : Nat) * negs x.1 + (List.take (x.2.1.length - Int.toNat (1 : Int)) (List.drop (Int.toNat (1 : Int)) x.2.1)).length) ∧ ((↑(rdsF R x_3).length : Int) - (x_4.1 + (1 : Int))).toNat < ((↑(rdsF R x_3).length : Int) - x_4.1).toNat) ∧ (decide (x_4.1 < (↑(rdsF R x_3).length : Int)) = false → (0 : Nat) = (0 : Nat) ∧ (some (Obj.box [V.int IntKind.i64 n]) = some (Obj.box [V.int IntKind.i64 n]) ∧ True) ∧ (Bf (List.length R) (rdsF R) (Fr (List.length R) l) x_4.2.1 x_4.2.2.1 ∧ negs x_4.2.1 + x_4.2.2.1.length ≤ List.length R ∧ ∀ (v : Int), atI x_4.2.1 v + (↑(negs x_4.2.1) : Int) ≤ (↑(List.length R) : Int)) ∧ (2 : Nat) * negs x_4.2.1 + x_4.2.2.1.length < (2 : Nat) * negs x.1 + x.2.1.length)) ∧ (decide ((0 : Int) < (↑x.2.1.length : Int)) = false → (x.1, ()) = (stepsF (List.length R) (rdsF R) (Fr (List.length R) l), ())))) ∧ (decide ((0 : Int) < (↑x.2.2.1.length : Int)) = false → (x.2.1, ()) = (stepsF (List.length R) (rdsF R) (Fr (List.length R) l), ()))))
theorem g_stepsS_eq (n : Int) (R : GI) (l : List Int) : Cond (env_stepsS n R l) Try.f67 [.int .i64 n, .list .tmp I l, .fn (.func 69) [] [.fptr [.fopq .graph R]]] [.slc 0 I] (stepsF R.length (rdsF R) (Fr R.length l), ()) = g_stepsS_vc n R l := by kernel_rfl
theorem g_stepsS_ok (n : Int) (R : GI) (l : List Int) (h : GOk R ∧ l.length ≤ 1000000000 ∧ n = R.length) : g_stepsS_vc n R l := by
  unfold g_stepsS_vc
  simp only [decide_eq_true_eq, decide_eq_false_iff_not, Bool.not_eq_true', Bool.not_eq_false', Bool.not_true, Bool.not_false]
  obtain ⟨hG, hl, rfl⟩ := h
  have hR := hG.1
  have fin : ∀ o : List Int, Bf R.length (rdsF R) (Fr R.length l) o [] → o = stepsF R.length (rdsF R) (Fr R.length l) := fun o h => h.table.eq fr_dom (rds_dom hG)
  refine ⟨⟨by omega, by omega, by omega, by omega⟩, ⟨⟨trivial, trivial⟩, by omega, by omega, by simp⟩, ?_⟩
  rintro ⟨i, o, ⟨⟩⟩ ⟨h0, h1, h2⟩
  dsimp only at h0 h1 h2 ⊢
  have hlen : o.length = R.length := by rw [h2]; simp; omega
  have hrep : (List.replicate (List.length (α := List Int) R : Int).toNat (0 : Int)).length = R.length := by simp
  refine ⟨fun hi => ⟨⟨h0, by omega⟩, by omega, fun y _ => ⟨by omega, ⟨trivial, trivial⟩, ⟨by omega, by omega, ?_⟩, by omega⟩⟩, fun hi => ⟨⟨⟨trivial, trivial⟩, by omega, by omega, ?_, ?_⟩, ?_⟩⟩
  · rw [h2, show (i + 1).toNat = i.toNat + 1 by omega]
    exact fill_next (by omega)
  · rw [h2, show i.toNat = List.length (α := List Int) R by omega, Nat.sub_self]
    simpa using Bs.begin R.length l
  · have := negs_le o
    omega
  clear hi h0 h1 h2 hlen hrep i o
  rintro ⟨i, o, row, ⟨⟩⟩ ⟨h0, h1, hB, hN⟩
  dsimp only at h0 h1 hB hN ⊢
  refine ⟨fun hi => ⟨⟨h0, hi⟩, fun x hx => ?_⟩, fun hi => ?_⟩
  · have hc := put_cnt (row := row) (v := x) (k := 0) hB.len (by omega)
    refine ⟨⟨by have := hB.len; omega, by omega⟩, by omega, ⟨trivial, trivial⟩, ⟨by omega, by omega, ?_, by omega⟩, by omega⟩
    rw [show (i + 1).toNat = i.toNat + 1 by omega]
    exact bs_put hB hx
  have hF := hB.fin (by omega) (rdsF R)
  have hT : ∀ v, atI o v + negs o ≤ List.length (α := List Int) R := fun v => by
    have h3 := negs_le o
    have h4 := hB.len
    rcases hB.two v with e | e <;> omega
  clear hB hi h0 h1 i
  refine ⟨fun hr => ?_, fun hr => ?_⟩
  rotate_left
  · rw [List.eq_nil_of_length_eq_zero (show row.length = 0 by omega)] at hF
    rw [fin o hF]
  cases row with
  | nil => simp at hr
  | cons v row =>
  have e1 : List.take ((v :: row).length - Int.toNat 1) (List.drop (Int.toNat 1) (v :: row)) = row := by simp
  rw [e1]
  have hlr : (v :: row).length = row.length + 1 := rfl
  refine ⟨⟨by omega, by omega⟩, by simp, fun x hx0 => ?_⟩
  have hx : some v = some x := hx0
  clear hx0
  cases hx
  have hrl := rds_le hG v
  refine ⟨⟨by omega, by omega⟩, trivial, ⟨⟨trivial, trivial⟩, by omega, by omega, hF.pop, by omega, hT, Nat.le_refl _⟩, ?_⟩
  clear hF hT
  rintro ⟨i, o2, row2, ⟨⟩⟩ ⟨a0, a1, hB, hN2, hT, hM⟩
  dsimp only at a0 a1 hB hN2 hT hM ⊢
  refine ⟨fun hi => ⟨⟨a0, hi⟩, fun y hy => ?_⟩, fun hi => ⟨trivial, ⟨⟨trivial, trivial⟩, hB.next (by omega), hN2, hT⟩, ?_⟩⟩
  · have hd := dom_of hB.len hB.cur
    have hd2 : 0 ≤ v ∧ v < R.length := hd
    refine ⟨⟨hd2.1, by have := hB.len; omega⟩, by have := hB.len; omega, fun z hz => ?_⟩
    have e2 := atI_get (o := o2) (v := v) (by rw [hB.len]; exact hd)
    rw [hz] at e2
    cases e2
    have hT1 := hT v
    have hcur := hB.cur
    have hc := put_cnt (row := row2) (v := y) (k := atI o2 v + 1) hB.len (by omega)
    refine ⟨by omega, ⟨by have := hB.len; omega, by omega⟩, by omega, ⟨trivial, trivial⟩, ⟨by omega, by omega, ?_, by omega, put_top (row := row2) hB.len hT hcur, by omega⟩, by omega⟩
    rw [show (i + 1).toNat = i.toNat + 1 by omega]
    exact bi_put hB hy (rds_dom hG v y hd (List.mem_of_getElem? hy))
  clear hi hM hT hN2 hB a0 a1 i o2 row2 hlr hrl e1 hr hN v row o
  rintro ⟨o, row, ⟨⟩⟩ ⟨hF, hN, hT⟩
  dsimp only at hF hN hT ⊢
  refine ⟨fun hr => ?_, fun hr => ?_⟩
  rotate_left
  · rw [List.eq_nil_of_length_eq_zero (show row.length = 0 by omega)] at hF
    rw [fin o hF]
  cases row with
  | nil => simp at hr
  | cons v row =>
  have e1 : List.take ((v :: row).length - Int.toNat 1) (List.drop (Int.toNat 1) (v :: row)) = row := by simp
  rw [e1]
  have hlr : (v :: row).length = row.length + 1 := rfl
  refine ⟨⟨by omega, by omega⟩, by simp, fun x hx0 => ?_⟩
  have hx : some v = some x := hx0
  clear hx0
  cases hx
  have hrl := rds_le hG v
  refine ⟨⟨by omega, by omega⟩, trivial, ⟨⟨trivial, trivial⟩, by omega, by omega, hF.pop, by omega, hT, Nat.le_refl _⟩, ?_⟩
  clear hF hT
  rintro ⟨i, o2, row2, ⟨⟩⟩ ⟨a0, a1, hB, hN2, hT, hM⟩
  dsimp only at a0 a1 hB hN2 hT hM ⊢
  refine ⟨fun hi => ⟨⟨a0, hi⟩, fun y hy => ?_⟩, fun hi => ⟨trivial, ⟨trivial, trivial⟩, ⟨hB.next (by omega), hN2, hT⟩, by omega⟩⟩
  have hd := dom_of hB.len hB.cur
  have hd2 : 0 ≤ v ∧ v < R.length := hd
  refine ⟨⟨hd2.1, by have := hB.len; omega⟩, by have := hB.len; omega, fun z hz => ?_⟩
  have e2 := atI_get (o := o2) (v := v) (by rw [hB.len]; exact hd)
  rw [hz] at e2
  cases e2
  have hT1 := hT v
  have hcur := hB.cur
  have hc := put_cnt (row := row2) (v := y) (k := atI o2 v + 1) hB.len (by omega)
  refine ⟨by omega, ⟨by have := hB.len; omega, by omega⟩, by omega, ⟨trivial, trivial⟩, ⟨by omega, by omega, ?_, by omega, put_top (row := row2) hB.len hT hcur, by omega⟩, by omega⟩
  rw [show (i + 1).toNat = i.toNat + 1 by omega]
  exact bi_put hB hy (rds_dom hG v y hd (List.mem_of_getElem? hy))
set_option maxRecDepth 20000
theorem stepsS_pure (n : Int) (R : GI) (l : List Int) (h : GOk R ∧ l.length ≤ 1000000000 ∧ n = R.length) : Pure Try.prog 67 [.int .i64 n, .list .tmp I l, .fn (.func 69) [] [.fptr [.fopq .graph R]]] (.olist I (stepsF R.length (rdsF R) (Fr R.length l))) :=
  by have k := Pure.of_cond (g_stepsS_eq n R l) (g_stepsS_ok n R l h) (specs_ok rfl [sp_nextS] [so_put.upd] rfl rfl) mixed Try.func67; exact k
noncomputable def q_stepsS (n : Int) (R : GI) (l : List Int) : Prop × V := (GOk R ∧ l.length ≤ 1000000000 ∧ n = R.length, (.olist I (stepsF R.length (rdsF R) (Fr R.length l))))
noncomputable def sp_stepsS : FSpec Try.prog where
 f := 67
 run := fun
  | [.int .i64 n, v1, .fn (.func 69) [] [.fptr [.fopq .graph R]]] => (asL I v1 : Option (List Int)).bind fun l => some (q_stepsS n R l)
  | _ => none
 ok := fun args pre r h hp => by
  split at h
  · rename_i n v1 R
    obtain ⟨l, h1, h⟩ := Option.bind_eq_some_iff.1 h
    exact of_q h hp fun h => (stepsS_pure n R l h).weak (.cons (.refl _) (.cons (asL_weak h1) (.cons (.refl _) .nil)))
  · cases h

end Go.Proofs.Ytojflfogjkajaaa.Rc
