/-
  account: whether accounts may be.
-/
import Derived.Test.YtgjpehgnagfghaaGreatEql1
namespace Go.Proofs.YtgjpehgnagfghaaGreat.Acc
open Go.Vm
def badA (n : Int) : List AcD → Int → Option (Int × Int)
  | [], _ => none
  | x :: r, i => if mayA x n = 0 then badA n r (i + 1) else some (i, mayA x n)
theorem bad_next {n : Int} {l : List AcD} {i : Int} {x : AcD} (h0 : 0 ≤ i) (hx : l[i.toNat]? = some x) : badA n (l.drop i.toNat) i = if mayA x n = 0 then badA n (l.drop (i + 1).toNat) (i + 1) else some (i, mayA x n) := by
  obtain ⟨h1, h2⟩ := List.getElem?_eq_some_iff.1 hx
  rw [List.drop_eq_getElem_cons h1, h2, show (i + 1).toNat = i.toNat + 1 by omega]
  rfl
theorem bad_end {n : Int} {l : List AcD} {i : Int} (h : ¬ i < (l.length : Int)) : badA n (l.drop i.toNat) i = none := by
  rw [List.drop_of_length_le (by omega)]
  rfl
def cirF (l : List Int) (n : Int) : Int × Int := match l with
  | [] => (n, 0)
  | a :: _ => (a - 1, 26)
def endF (p : Int → Bool) (l : List AcD) : Int × Int := cirF (thoseF p l.length) l.length
def checkG (p : Int → Bool) (l : List AcD) : Int × Int :=
  if 60 < (l.length : Int) then (0, 3) else if l.take 3 ≠ ownL then (0, 28) else match badA l.length l 0 with
    | some r => r
    | none => endF p l
theorem check_full {p : Int → Bool} {l : List AcD} (h : 60 < (l.length : Int)) : checkG p l = (0, 3) := by unfold checkG; rw [if_pos h]
theorem check_own {p : Int → Bool} {l : List AcD} (h : ¬ 60 < (l.length : Int)) (k : l.take 3 ≠ ownL) : checkG p l = (0, 28) := by unfold checkG; rw [if_neg h, if_pos k]
theorem check_bad {p : Int → Bool} {l : List AcD} {r : Int × Int} (h : ¬ 60 < (l.length : Int)) (k : l.take 3 = ownL) (hb : badA l.length l 0 = some r) : checkG p l = r := by unfold checkG; rw [if_neg h, if_neg (fun c => c k), hb]
theorem check_end {p : Int → Bool} {l : List AcD} (h : ¬ 60 < (l.length : Int)) (k : l.take 3 = ownL) (hb : badA l.length l 0 = none) : checkG p l = endF p l := by unfold checkG; rw [if_neg h, if_neg (fun c => c k), hb]
def checkF (l : List AcD) : Int × Int := checkG (roundF l) l
theorem th_congr {p q : Int → Bool} {n : Nat} (h : ∀ a : Int, 1 ≤ a → a ≤ n → p a = q a) : ∀ (f : Nat) (i : Int), 1 ≤ i → i + f ≤ n + 1 → thGo p f i = thGo q f i
  | 0, _, _, _ => rfl
  | f + 1, i, h1, h2 => by
    rw [thGo, thGo, th_congr h f (i + 1) (by omega) (by omega), h i h1 (by omega)]
theorem check_round (l : List AcD) : checkG (roundR l) l = checkF l := by
  unfold checkF checkG endF thoseF
  rw [th_congr (p := roundR l) (q := roundF l) (n := l.length) (fun a h1 h2 => (round_eq ⟨h1, h2⟩).symm) l.length 1 (by omega) (by omega)]
theorem th_mem {p : Int → Bool} : ∀ (f : Nat) (i : Int), ∀ x ∈ thGo p f i, i ≤ x ∧ x < i + f
  | 0, _, x, h => by simp [thGo] at h
  | f + 1, i, x, h => by
    rw [thGo] at h
    split at h
    · rcases List.mem_cons.1 h with rfl | h
      · omega
      · have := th_mem f (i + 1) x h; omega
    · have := th_mem f (i + 1) x h; omega
theorem its_len (l : List AcD) (a : Int) (m : Nat) : (its l a m).length = m := by simp [its]
noncomputable def env_check (l : List AcD) : Env where
  P := Tryz.prog
  ty := tys0
  specs := specsOf [sp_new, Eql.sp_eacc, sp_place, sp_kind, sp_thr]
  frz := fun | 21 => true | 22 => true | _ => false
  heads := fun | 6 => some { slots := [(27, .int .i64)], boxes := [], inv := fun _ (x : Int × Unit) => 0 ≤ x.1 ∧ x.1 ≤ l.length ∧ l.take 3 = ownL ∧ badA l.length l 0 = badA l.length (l.drop x.1.toNat) x.1, measure := fun _ (x : Int × Unit) => (l.length - x.1).toNat } | _ => none
def g_check_vc (l : List AcD) : Prop :=
  (decide ((60 : Int) < (↑l.length : Int)) = true → ((0 : Int), (3 : Int), ()) = ((checkF l).1, (checkF l).2, ())) ∧ (decide ((60 : Int) < (↑l.length : Int)) = false → (decide ((↑l.length : Int) < (3 : Int)) = false → ((0 : Int) ≤ (3 : Int) ∧ (3 : Int) ≤ (↑l.length : Int)) ∧ True ∧ (List.take (Int.toNat (3 : Int)) l).length ≤ (1000000000 : Nat) ∧ ((!decide (List.take (Int.toNat (3 : Int)) l = ownL)) = true → ((0 : Int), (28 : Int), ()) = ((checkF l).1, (checkF l).2, ())) ∧ ((!decide (List.take (Int.toNat (3 : Int)) l = ownL)) = false → (True ∧ (0 : Int) ≤ (0 : Int) ∧ (0 : Int) ≤ (↑l.length : Int) ∧ List.take (3 : Nat) l = ownL ∧ badA (↑l.length : Int) l (0 : Int) = badA (↑l.length : Int) (List.drop (Int.toNat (0 : Int)) l) (0 : Int)) ∧ ∀ (x : Int × Unit), (0 : Int) ≤ x.1 ∧ x.1 ≤ (↑l.length : Int) ∧ List.take (3 : Nat) l = ownL ∧ badA (↑l.length : Int) l (0 : Int) = badA (↑l.length : Int) (List.drop x.1.toNat l) x.1 → (decide (x.1 < (↑l.length : Int)) = true → ((0 : Int) ≤ x.1 ∧ x.1 < (↑l.length : Int)) ∧ ∀ (x_1 : Int × Int × Bool × Bool), l[x.1.toNat]? = some x_1 → True ∧ ((!decide (placeF x_1.1 (↑l.length : Int) = (0 : Int))) = true → (x.1, placeF x_1.1 (↑l.length : Int), ()) = ((checkF l).1, (checkF l).2, ())) ∧ ((!decide (placeF x_1.1 (↑l.length : Int) = (0 : Int))) = false → True ∧ ((!decide (kindF x_1.2.1 x_1.2.2.1 x_1.2.2.2 = (0 : Int))) = true → (x.1, kindF x_1.2.1 x_1.2.2.1 x_1.2.2.2, ()) = ((checkF l).1, (checkF l).2, ())) ∧ ((!decide (kindF x_1.2.1 x_1.2.2.1 x_1.2.2.2 = (0 : Int))) = false → ((-9223372036854775808 : Int) ≤ x.1 + (1 : Int) ∧ x.1 + (1 : Int) ≤ (9223372036854775807 : Int)) ∧ True ∧ ((0 : Int) ≤ x.1 + (1 : Int) ∧ x.1 + (1 : Int) ≤ (↑l.length : Int) ∧ List.take (3 : Nat) l = ownL ∧ badA (↑l.length : Int) l (0 : Int) = badA (↑l.length : Int) (List.drop (x.1 + (1 : Int)).toNat l) (x.1 + (1 : Int))) ∧ ((↑l.length : Int) - (x.1 + (1 : Int))).toNat < ((↑l.length : Int) - x.1).toNat))) ∧ (decide (x.1 < (↑l.length : Int)) = false → (l = l ∧ l.length ≤ (1000000000 : Nat)) ∧ (decide ((0 : Int) < (↑(thoseF (roundF l) l.length).length : Int)) = true → ((0 : Int) ≤ (0 : Int) ∧ (0 : Int) < (↑(thoseF (roundF l) l.length).length : Int)) ∧ Int.toNat (0 : Int) < (thoseF (roundF l) l.length).length ∧ ∀ (x : Int), (thoseF (roundF l) l.length)[Int.toNat (0 : Int)]? = some x → ((-9223372036854775808 : Int) ≤ x - (1 : Int) ∧ x - (1 : Int) ≤ (9223372036854775807 : Int)) ∧ (x - (1 : Int), (26 : Int), ()) = ((checkF l).1, (checkF l).2, ())) ∧ (decide ((0 : Int) < (↑(thoseF (roundF l) l.length).length : Int)) = false → ((↑l.length : Int), (0 : Int), ()) = ((checkF l).1, (checkF l).2, ()))))) ∧ (decide ((↑l.length : Int) < (3 : Int)) = !false → ((0 : Int), (28 : Int), ()) = ((checkF l).1, (checkF l).2, ())))
theorem g_check_eq (l : List AcD) : Cond (env_check l) Tryz.f19 [.list .tmp AcT l] [.int .i64, .int .i64] ((checkF l).1, (checkF l).2, ()) = g_check_vc l := by kernel_rfl
theorem g_check_ok (l : List AcD) (h : l.length ≤ 1000000000) : g_check_vc l := by
  unfold g_check_vc
  simp only [decide_eq_true_eq, decide_eq_false_iff_not]
  rw [show checkF l = checkG (roundF l) l from rfl]
  refine ⟨fun c => by rw [check_full c], fun c => ⟨fun d => ⟨by omega, trivial, by rw [List.length_take]; omega, fun e => ?_, fun e => ?_⟩, fun d => ?_⟩⟩
  · have e : l.take 3 ≠ ownL := by simpa using e
    rw [check_own c e]
  · have e : l.take 3 = ownL := by simpa using e
    refine ⟨⟨trivial, by omega, by omega, e, rfl⟩, ?_⟩
    rintro ⟨i, ⟨⟩⟩ ⟨h0, h1, -, hb⟩
    dsimp only at h0 h1 hb ⊢
    refine ⟨fun k => ⟨⟨h0, k⟩, fun x hx => ⟨trivial, fun m => ?_, fun m => ⟨trivial, fun o => ?_, fun o => ⟨by omega, trivial, ⟨by omega, by omega, e, ?_⟩, by omega⟩⟩⟩⟩, fun k => ⟨⟨trivial, h⟩, fun m => ⟨⟨by omega, m⟩, by omega, fun x hx => ?_⟩, fun m => ?_⟩⟩
    · have m : placeF x.1 l.length ≠ 0 := by simpa using m
      have e2 : mayA x l.length = placeF x.1 l.length := by unfold mayA; rw [if_neg m]
      rw [check_bad c e (by rw [hb, bad_next h0 hx, if_neg (by rw [e2]; exact m)]), e2]
    · have m : placeF x.1 l.length = 0 := by simpa using m
      have o : kindF x.2.1 x.2.2.1 x.2.2.2 ≠ 0 := by simpa using o
      have e2 : mayA x l.length = kindF x.2.1 x.2.2.1 x.2.2.2 := by unfold mayA; rw [if_pos m]
      rw [check_bad c e (by rw [hb, bad_next h0 hx, if_neg (by rw [e2]; exact o)]), e2]
    · have m : placeF x.1 l.length = 0 := by simpa using m
      have o : kindF x.2.1 x.2.2.1 x.2.2.2 = 0 := by simpa using o
      have e2 : mayA x l.length = 0 := by unfold mayA; rw [if_pos m, o]
      rw [hb, bad_next h0 hx, if_pos e2]
    · have hm := th_mem (p := roundF l) l.length 1 x (List.mem_of_getElem? hx)
      refine ⟨by omega, ?_⟩
      rw [check_end c e (by rw [hb, bad_end k])]
      unfold endF
      cases ht : thoseF (roundF l) l.length with
      | nil => rw [ht] at m; simp at m
      | cons y r =>
        rw [ht] at hx
        have : y = x := by simpa using hx
        rw [this]; rfl
    · rw [check_end c e (by rw [hb, bad_end k])]
      unfold endF
      rw [show thoseF (roundF l) l.length = [] from List.eq_nil_of_length_eq_zero (by omega)]
      rfl
  · rw [check_own c (fun e => by
      have := congrArg List.length e
      rw [List.length_take] at this
      simp at this
      simp at d
      omega)]
set_option maxRecDepth 20000
theorem check_pure (l : List AcD) (h : l.length ≤ 1000000000) : Pure Tryz.prog 19 [.list .tmp AcT l] (.tuple [.int .i64 (checkF l).1, .int .i64 (checkF l).2]) :=
  by have k := Pure.of_cond (g_check_eq l) (g_check_ok l h) (specs_ok rfl [sp_new, Eql.sp_eacc, sp_place, sp_kind, sp_thr] [] rfl rfl) mixed Tryz.func19; exact k
noncomputable def q_check (l : List AcD) : Prop × V := (l.length ≤ 1000000000, (.tuple [.int .i64 (checkF l).1, .int .i64 (checkF l).2]))
noncomputable def sp_check : FSpec Tryz.prog where
 f := 19
 run := fun
  | [v0] => (asL AcT v0 : Option (List AcD)).bind fun l => some (q_check l)
  | _ => none
 ok := fun args pre r h hp => by
  split at h
  · rename_i v0
    obtain ⟨l, h0, h⟩ := Option.bind_eq_some_iff.1 h
    exact of_q h hp fun h => (check_pure l h).weak (.cons (asL_weak h0) .nil)
  · cases h
noncomputable def env_up (l : List AcD) (a : Int) : Env where
  P := Tryz.prog
  ty := tys0
  specs := specsOf [sp_ris, Stk.sp_has]
  heads := fun | 5 => some { slots := [(5, .slc 9000 I), (6, .int .i64)], boxes := [], inv := fun _ (x : List Int × Int × Unit) => ∃ m, x.1 = its l a m ∧ x.2.1 = it l a (m + 1) ∧ Way l a m ∧ isIn l a ∧ upF l a = upGo l a (l.length + 1 - m) (it l a (m + 1)) (its l a m), measure := fun _ (x : List Int × Int × Unit) => l.length + 1 - x.1.length } | _ => none
def g_up_vc (l : List AcD) (a : Int) : Prop :=
  True ∧ ((!decide (isIn l a)) = true → ([], ()) = (upF l a, ())) ∧ ((!decide (isIn l a)) = false → ((-9223372036854775808 : Int) ≤ a - (1 : Int) ∧ a - (1 : Int) ≤ (9223372036854775807 : Int)) ∧ ((0 : Int) ≤ a - (1 : Int) ∧ a - (1 : Int) < (↑l.length : Int)) ∧ ∀ (x : Int × Int × Bool × Bool), l[(a - (1 : Int)).toNat]? = some x → (True ∧ ∃ m, [] = its l a m ∧ x.1 = it l a (m + (1 : Nat)) ∧ Way l a m ∧ isIn l a ∧ upF l a = upGo l a (l.length + (1 : Nat) - m) (it l a (m + (1 : Nat))) (its l a m)) ∧ ∀ (x : List Int × Int × Unit), (∃ m, x.1 = its l a m ∧ x.2.1 = it l a (m + (1 : Nat)) ∧ Way l a m ∧ isIn l a ∧ upF l a = upGo l a (l.length + (1 : Nat) - m) (it l a (m + (1 : Nat))) (its l a m)) → True ∧ (decide (isIn l x.2.1) = true → ((!decide (x.2.1 = a)) = true → x.1.length ≤ (1000000000 : Nat) ∧ ((!x.1.contains x.2.1) = true → ((x.1.length + (1 : Nat)) * (8 : Nat) ≤ (140737488355328 : Nat) ∧ x.1.length + (1 : Nat) ≤ (4611686018427387904 : Nat)) ∧ ((-9223372036854775808 : Int) ≤ x.2.1 - (1 : Int) ∧ x.2.1 - (1 : Int) ≤ (9223372036854775807 : Int)) ∧ ((0 : Int) ≤ x.2.1 - (1 : Int) ∧ x.2.1 - (1 : Int) < (↑l.length : Int)) ∧ ∀ (x_1 : Int × Int × Bool × Bool), l[(x.2.1 - (1 : Int)).toNat]? = some x_1 → True ∧ (∃ m, x.1 ++ [x.2.1] = its l a m ∧ x_1.1 = it l a (m + (1 : Nat)) ∧ Way l a m ∧ isIn l a ∧ upF l a = upGo l a (l.length + (1 : Nat) - m) (it l a (m + (1 : Nat))) (its l a m)) ∧ l.length + (1 : Nat) - (x.1 ++ [x.2.1]).length < l.length + (1 : Nat) - x.1.length) ∧ ((!x.1.contains x.2.1) = false → (x.1, ()) = (upF l a, ()))) ∧ ((!decide (x.2.1 = a)) = !true → (x.1, ()) = (upF l a, ()))) ∧ (decide (isIn l x.2.1) = !true → (x.1, ()) = (upF l a, ())))
theorem g_up_eq (l : List AcD) (a : Int) : Cond (env_up l a) Tryz.f111 [.list .tmp AcT l, .int .i64 a] [.slc 0 I] (upF l a, ()) = g_up_vc l a := by kernel_rfl
theorem g_up_ok (l : List AcD) (a : Int) (h : l.length ≤ 1000000) : g_up_vc l a := by
  unfold g_up_vc
  simp only [decide_eq_true_eq, decide_eq_false_iff_not]
  refine ⟨trivial, fun c => ?_, fun c => ?_⟩
  · have c : ¬ isIn l a := by simpa using c
    unfold upF; rw [if_neg c]
  have c : isIn l a := by simpa using c
  have c1 := c.1
  have c2 := c.2
  refine ⟨by omega, by omega, fun x hx => ⟨⟨trivial, 0, rfl, (parA_at hx).symm, .zero l a, c, ?_⟩, ?_⟩⟩
  · unfold upF; rw [if_pos c]; rfl
  rintro ⟨out, p, ⟨⟩⟩ ⟨m, h1, h2, h3, h4, h5⟩
  dsimp only at h1 h2 ⊢
  have hlen := h3.len h4
  have hl : out.length = m := by rw [h1, its_len]
  have hf : l.length + 1 - m = (l.length - m) + 1 := by omega
  rw [hf, upGo, ← h1, ← h2] at h5
  refine ⟨trivial, fun d => ⟨fun e => ⟨by omega, fun f => ⟨by omega, by have := d.1; have := d.2; omega, by have := d.1; have := d.2; omega, fun y hy => ⟨trivial, ⟨m + 1, ?_, ?_, ?_, h4, ?_⟩, ?_⟩⟩, fun f => ?_⟩, fun e => ?_⟩, fun d => ?_⟩
  · rw [its_succ, h1, h2]
  · show y.1 = parA l (it l a (m + 1))
    rw [← h2, parA_at hy]
  · refine h3.next (h2 ▸ d) (h2 ▸ (by simpa using e)) ?_
    rw [← h1, ← h2]
    simpa using f
  · rw [h5, if_pos ⟨d, by simpa using e, by simpa using f⟩, its_succ, h1, h2, show l.length + 1 - (m + 1) = l.length - m by omega]
    rfl
  · simp only [List.length_append, List.length_singleton]; omega
  · rw [h5, if_neg (fun k => k.2.2 (by simpa using f))]
  · rw [h5, if_neg (fun k => k.2.1 (by simpa using e))]
  · rw [h5, if_neg (fun k => by simp at d; exact d k.1)]
theorem up_pure (l : List AcD) (a : Int) (h : l.length ≤ 1000000) : Pure Tryz.prog 111 [.list .tmp AcT l, .int .i64 a] (.olist I (upF l a)) :=
  by have k := Pure.of_cond (g_up_eq l a) (g_up_ok l a h) (specs_ok rfl [sp_ris, Stk.sp_has] [] rfl rfl) mixed Tryz.func111; exact k
noncomputable def q_up (l : List AcD) (a : Int) : Prop × V := (l.length ≤ 1000000, (.olist I (upF l a)))
noncomputable def sp_up : FSpec Tryz.prog where
 f := 111
 run := fun
  | [v0, .int .i64 a] => (asL AcT v0 : Option (List AcD)).bind fun l => some (q_up l a)
  | _ => none
 ok := fun args pre r h hp => by
  split at h
  · rename_i v0 a
    obtain ⟨l, h0, h⟩ := Option.bind_eq_some_iff.1 h
    exact of_q h hp fun h => (up_pure l a h).weak (.cons (asL_weak h0) (.cons (.refl _) .nil))
  · cases h
noncomputable def env_rround (l : List AcD) (a : Int) : Env where
  P := Tryz.prog
  ty := tys0
  specs := specsOf [sp_up]
def g_rround_vc (l : List AcD) (a : Int) : Prop :=
  l.length ≤ (1000000 : Nat) ∧ (decide ((0 : Int) < (↑(upF l a).length : Int)) = true → ((-9223372036854775808 : Int) ≤ (↑(upF l a).length : Int) - (1 : Int) ∧ (↑(upF l a).length : Int) - (1 : Int) ≤ (9223372036854775807 : Int)) ∧ ((0 : Int) ≤ (↑(upF l a).length : Int) - (1 : Int) ∧ (↑(upF l a).length : Int) - (1 : Int) < (↑(upF l a).length : Int)) ∧ ((↑(upF l a).length : Int) - (1 : Int)).toNat < (upF l a).length ∧ ∀ (x : Int), (upF l a)[((↑(upF l a).length : Int) - (1 : Int)).toNat]? = some x → ((-9223372036854775808 : Int) ≤ x - (1 : Int) ∧ x - (1 : Int) ≤ (9223372036854775807 : Int)) ∧ ((0 : Int) ≤ x - (1 : Int) ∧ x - (1 : Int) < (↑l.length : Int)) ∧ ∀ (x_1 : Int × Int × Bool × Bool), l[(x - (1 : Int)).toNat]? = some x_1 → (decide (x_1.1 = a), ()) = (roundR l a, ())) ∧ (decide ((0 : Int) < (↑(upF l a).length : Int)) = false → ((-9223372036854775808 : Int) ≤ a - (1 : Int) ∧ a - (1 : Int) ≤ (9223372036854775807 : Int)) ∧ ((0 : Int) ≤ a - (1 : Int) ∧ a - (1 : Int) < (↑l.length : Int)) ∧ ∀ (x : Int × Int × Bool × Bool), l[(a - (1 : Int)).toNat]? = some x → (decide (x.1 = a), ()) = (roundR l a, ()))
theorem g_rround_eq (l : List AcD) (a : Int) : Cond (env_rround l a) Tryz.f88 [.list .tmp AcT l, .int .i64 a] [.bool] (roundR l a, ()) = g_rround_vc l a := by kernel_rfl
theorem g_rround_ok (l : List AcD) (a : Int) (h : isIn l a ∧ l.length ≤ 1000000) : g_rround_vc l a := by
  unfold g_rround_vc
  simp only [decide_eq_true_eq, decide_eq_false_iff_not]
  obtain ⟨⟨a1, a2⟩, hl⟩ := h
  obtain ⟨k, e, hw, -⟩ := up_its ⟨a1, a2⟩
  have hk := hw.len ⟨a1, a2⟩
  have hn : (upF l a).length = k := by rw [e, its_len]
  unfold roundR
  refine ⟨hl, fun c => ⟨by omega, by omega, by omega, fun x hx => ?_⟩, fun c => ⟨by omega, by omega, fun x hx => ?_⟩⟩
  · have hi := (hw.inn x (e ▸ List.mem_of_getElem? hx)).1
    obtain ⟨i1, i2⟩ := hi
    refine ⟨by omega, by omega, fun y hy => ?_⟩
    rw [List.getLast?_eq_getElem?, show (upF l a).length - 1 = (((upF l a).length : Int) - 1).toNat by omega, hx, Option.getD_some, parA_at hy]
  · rw [show upF l a = [] from List.eq_nil_of_length_eq_zero (by omega), List.getLast?_nil, Option.getD_none, parA_at hx]
theorem rround_pure (l : List AcD) (a : Int) (h : isIn l a ∧ l.length ≤ 1000000) : Pure Tryz.prog 88 [.list .tmp AcT l, .int .i64 a] (.bool (roundR l a)) :=
  by have k := Pure.of_cond (g_rround_eq l a) (g_rround_ok l a h) (specs_ok rfl [sp_up] [] rfl rfl) mixed Tryz.func88; exact k
noncomputable def q_rround (l : List AcD) (a : Int) : Prop × V := (isIn l a ∧ l.length ≤ 1000000, (.bool (roundR l a)))
noncomputable def sp_rround : FSpec Tryz.prog where
 f := 88
 run := fun
  | [v0, .int .i64 a] => (asL AcT v0 : Option (List AcD)).bind fun l => some (q_rround l a)
  | _ => none
 ok := fun args pre r h hp => by
  split at h
  · rename_i v0 a
    obtain ⟨l, h0, h⟩ := Option.bind_eq_some_iff.1 h
    exact of_q h hp fun h => (rround_pure l a h).weak (.cons (asL_weak h0) (.cons (.refl _) .nil))
  · cases h
def chGo (a : Int) : List AcD → Int → List Int
  | [], _ => []
  | x :: r, i => if x.1 = a then (i + 1) :: chGo a r (i + 1) else chGo a r (i + 1)
def chF (l : List AcD) (a : Int) : List Int := if isIn l a then chGo a l 0 else []
theorem ch_next {a : Int} {l : List AcD} {i : Int} {x : AcD} (h0 : 0 ≤ i) (hx : l[i.toNat]? = some x) : chGo a (l.drop i.toNat) i = if x.1 = a then (i + 1) :: chGo a (l.drop (i + 1).toNat) (i + 1) else chGo a (l.drop (i + 1).toNat) (i + 1) := by
  obtain ⟨h1, h2⟩ := List.getElem?_eq_some_iff.1 hx
  rw [List.drop_eq_getElem_cons h1, h2, show (i + 1).toNat = i.toNat + 1 by omega]
  rfl
theorem ch_any (a : Int) : ∀ (l : List AcD) (i : Int), chGo a l i = [] ↔ l.any (upLf a) = false
  | [], _ => by simp [chGo]
  | x :: r, i => by
    rw [chGo, List.any_cons]
    by_cases c : x.1 = a
    · simp [c, upLf]
    · simp [c, upLf, ch_any a r (i + 1)]
noncomputable def env_children (l : List AcD) (a : Int) : Env where
  P := Tryz.prog
  ty := tys0
  specs := specsOf [sp_ris]
  heads := fun | 3 => some { slots := [(6, .int .i64), (5, .slc 9000 I)], boxes := [], inv := fun _ (x : Int × List Int × Unit) => 0 ≤ x.1 ∧ x.1 ≤ l.length ∧ x.2.1.length ≤ x.1.toNat ∧ chF l a = x.2.1 ++ (if isIn l a then chGo a (l.drop x.1.toNat) x.1 else []), measure := fun _ (x : Int × List Int × Unit) => (l.length - x.1).toNat } | _ => none
def g_children_vc (l : List AcD) (a : Int) : Prop :=
  (True ∧ (0 : Int) ≤ (0 : Int) ∧ (0 : Int) ≤ (↑l.length : Int) ∧ (0 : Nat) ≤ Int.toNat (0 : Int) ∧ chF l a = if isIn l a then chGo a (List.drop (Int.toNat (0 : Int)) l) (0 : Int) else []) ∧ ∀ (x : Int × List Int × Unit), ((0 : Int) ≤ x.1 ∧ x.1 ≤ (↑l.length : Int) ∧ x.2.1.length ≤ x.1.toNat ∧ chF l a = x.2.1 ++ if isIn l a then chGo a (List.drop x.1.toNat l) x.1 else []) → (decide (x.1 < (↑l.length : Int)) = true → True ∧ (decide (isIn l a) = true → ((0 : Int) ≤ x.1 ∧ x.1 < (↑l.length : Int)) ∧ ∀ (x_1 : Int × Int × Bool × Bool), l[x.1.toNat]? = some x_1 → (decide (x_1.1 = a) = true → ((-9223372036854775808 : Int) ≤ x.1 + (1 : Int) ∧ x.1 + (1 : Int) ≤ (9223372036854775807 : Int)) ∧ ((x.2.1.length + (1 : Nat)) * (8 : Nat) ≤ (140737488355328 : Nat) ∧ x.2.1.length + (1 : Nat) ≤ (4611686018427387904 : Nat)) ∧ ((-9223372036854775808 : Int) ≤ x.1 + (1 : Int) ∧ x.1 + (1 : Int) ≤ (9223372036854775807 : Int)) ∧ True ∧ ((0 : Int) ≤ x.1 + (1 : Int) ∧ x.1 + (1 : Int) ≤ (↑l.length : Int) ∧ (x.2.1 ++ [x.1 + (1 : Int)]).length ≤ (x.1 + (1 : Int)).toNat ∧ chF l a = x.2.1 ++ [x.1 + (1 : Int)] ++ if isIn l a then chGo a (List.drop (x.1 + (1 : Int)).toNat l) (x.1 + (1 : Int)) else []) ∧ ((↑l.length : Int) - (x.1 + (1 : Int))).toNat < ((↑l.length : Int) - x.1).toNat) ∧ (decide (x_1.1 = a) = false → ((-9223372036854775808 : Int) ≤ x.1 + (1 : Int) ∧ x.1 + (1 : Int) ≤ (9223372036854775807 : Int)) ∧ True ∧ ((0 : Int) ≤ x.1 + (1 : Int) ∧ x.1 + (1 : Int) ≤ (↑l.length : Int) ∧ x.2.1.length ≤ (x.1 + (1 : Int)).toNat ∧ chF l a = x.2.1 ++ if isIn l a then chGo a (List.drop (x.1 + (1 : Int)).toNat l) (x.1 + (1 : Int)) else []) ∧ ((↑l.length : Int) - (x.1 + (1 : Int))).toNat < ((↑l.length : Int) - x.1).toNat)) ∧ (decide (isIn l a) = !true → ((-9223372036854775808 : Int) ≤ x.1 + (1 : Int) ∧ x.1 + (1 : Int) ≤ (9223372036854775807 : Int)) ∧ True ∧ ((0 : Int) ≤ x.1 + (1 : Int) ∧ x.1 + (1 : Int) ≤ (↑l.length : Int) ∧ x.2.1.length ≤ (x.1 + (1 : Int)).toNat ∧ chF l a = x.2.1 ++ if isIn l a then chGo a (List.drop (x.1 + (1 : Int)).toNat l) (x.1 + (1 : Int)) else []) ∧ ((↑l.length : Int) - (x.1 + (1 : Int))).toNat < ((↑l.length : Int) - x.1).toNat)) ∧ (decide (x.1 < (↑l.length : Int)) = false → (x.2.1, ()) = (chF l a, ()))
theorem g_children_eq (l : List AcD) (a : Int) : Cond (env_children l a) Tryz.f147 [.list .tmp AcT l, .int .i64 a] [.slc 0 I] (chF l a, ()) = g_children_vc l a := by kernel_rfl
theorem g_children_ok (l : List AcD) (a : Int) (h : l.length ≤ 1000000) : g_children_vc l a := by
  unfold g_children_vc
  simp only [decide_eq_true_eq, decide_eq_false_iff_not]
  refine ⟨⟨trivial, by omega, by omega, by omega, rfl⟩, ?_⟩
  rintro ⟨i, out, ⟨⟩⟩ ⟨h0, h1, h2, hb⟩
  dsimp only at h0 h1 h2 hb ⊢
  refine ⟨fun c => ⟨trivial, fun d => ⟨⟨h0, c⟩, fun x hx => ⟨fun k => ⟨by omega, by omega, by omega, trivial, ⟨by omega, by omega, by simp only [List.length_append, List.length_singleton]; omega, ?_⟩, by omega⟩, fun k => ⟨by omega, trivial, ⟨by omega, by omega, by omega, ?_⟩, by omega⟩⟩⟩, fun d => ⟨by omega, trivial, ⟨by omega, by omega, by omega, ?_⟩, by omega⟩⟩, fun c => ?_⟩
  · rw [hb, if_pos d, if_pos d, ch_next h0 hx, if_pos k, List.append_assoc]; rfl
  · rw [hb, if_pos d, if_pos d, ch_next h0 hx, if_neg k]
  · have d : ¬ isIn l a := by simpa using d
    rw [hb, if_neg d, if_neg d]
  · rw [hb]
    split
    · rw [List.drop_of_length_le (by omega)]; simp [chGo]
    · simp
theorem children_pure (l : List AcD) (a : Int) (h : l.length ≤ 1000000) : Pure Tryz.prog 147 [.list .tmp AcT l, .int .i64 a] (.olist I (chF l a)) :=
  by have k := Pure.of_cond (g_children_eq l a) (g_children_ok l a h) (specs_ok rfl [sp_ris] [] rfl rfl) mixed Tryz.func147; exact k
noncomputable def q_children (l : List AcD) (a : Int) : Prop × V := (l.length ≤ 1000000, (.olist I (chF l a)))
noncomputable def sp_children : FSpec Tryz.prog where
 f := 147
 run := fun
  | [v0, .int .i64 a] => (asL AcT v0 : Option (List AcD)).bind fun l => some (q_children l a)
  | _ => none
 ok := fun args pre r h hp => by
  split at h
  · rename_i v0 a
    obtain ⟨l, h0, h⟩ := Option.bind_eq_some_iff.1 h
    exact of_q h hp fun h => (children_pure l a h).weak (.cons (asL_weak h0) (.cons (.refl _) .nil))
  · cases h
noncomputable def env_rleaf (l : List AcD) (a : Int) : Env where
  P := Tryz.prog
  ty := tys0
  specs := specsOf [sp_ris, sp_children]
def g_rleaf_vc (l : List AcD) (a : Int) : Prop :=
  True ∧ (decide (isIn l a) = true → l.length ≤ (1000000 : Nat) ∧ (decide ((↑(chF l a).length : Int) = (0 : Int)), ()) = (leafF l a, ())) ∧ (decide (isIn l a) = !true → (false, ()) = (leafF l a, ()))
theorem g_rleaf_eq (l : List AcD) (a : Int) : Cond (env_rleaf l a) Tryz.f117 [.list .tmp AcT l, .int .i64 a] [.bool] (leafF l a, ()) = g_rleaf_vc l a := by kernel_rfl
theorem g_rleaf_ok (l : List AcD) (a : Int) (h : l.length ≤ 1000000) : g_rleaf_vc l a := by
  unfold g_rleaf_vc leafF
  refine ⟨trivial, fun c => ⟨h, ?_⟩, fun c => ?_⟩
  · rw [c, Bool.true_and]
    have c : isIn l a := by simpa using c
    unfold chF
    rw [if_pos c]
    have := ch_any a l 0
    rcases hb : l.any (upLf a) with _ | _ <;> rw [hb] at this <;> simp_all
  · rw [show decide (isIn l a) = false by simpa using c, Bool.false_and]
theorem rleaf_pure (l : List AcD) (a : Int) (h : l.length ≤ 1000000) : Pure Tryz.prog 117 [.list .tmp AcT l, .int .i64 a] (.bool (leafF l a)) :=
  by have k := Pure.of_cond (g_rleaf_eq l a) (g_rleaf_ok l a h) (specs_ok rfl [sp_ris, sp_children] [] rfl rfl) mixed Tryz.func117; exact k
noncomputable def q_rleaf (l : List AcD) (a : Int) : Prop × V := (l.length ≤ 1000000, (.bool (leafF l a)))
noncomputable def sp_rleaf : FSpec Tryz.prog where
 f := 117
 run := fun
  | [v0, .int .i64 a] => (asL AcT v0 : Option (List AcD)).bind fun l => some (q_rleaf l a)
  | _ => none
 ok := fun args pre r h hp => by
  split at h
  · rename_i v0 a
    obtain ⟨l, h0, h⟩ := Option.bind_eq_some_iff.1 h
    exact of_q h hp fun h => (rleaf_pure l a h).weak (.cons (asL_weak h0) (.cons (.refl _) .nil))
  · cases h
theorem acc_cmp (x y : AcD) : (decide (x.1 = y.1) && (decide (x.2.1 = y.2.1) && (x.2.2.1 == y.2.2.1 && (x.2.2.2 == y.2.2.2 && true)))) = decide (x = y) := by
  obtain ⟨a, b, c, d⟩ := x
  obtain ⟨e, f, g, h⟩ := y
  rw [Bool.eq_iff_iff]
  simp
noncomputable def env_rcheck (l : List AcD) : Env where
  P := Tryz.prog
  ty := tys0
  specs := specsOf [sp_rnew, sp_rmay, sp_rround]
  heads := fun | 7 => some { slots := [(5, .int .i64)], boxes := [], inv := fun _ (x : Int × Unit) => 0 ≤ x.1 ∧ x.1 ≤ l.length ∧ l.take 3 = ownL ∧ badA l.length l 0 = badA l.length (l.drop x.1.toNat) x.1, measure := fun _ (x : Int × Unit) => (l.length - x.1).toNat } | 13 => some { slots := [(7, .int .i64)], boxes := [], inv := fun _ (x : Int × Unit) => 0 ≤ x.1 ∧ x.1 ≤ l.length ∧ l.take 3 = ownL ∧ badA l.length l 0 = none ∧ endF (roundR l) l = cirF (thGo (roundR l) (l.length - x.1.toNat) (x.1 + 1)) l.length, measure := fun _ (x : Int × Unit) => (l.length - x.1).toNat } | _ => none
def g_rcheck_vc (l : List AcD) : Prop :=
  (decide ((60 : Int) < (↑l.length : Int)) = true → ((0 : Int), (3 : Int), ()) = ((checkG (roundR l) l).1, (checkG (roundR l) l).2, ())) ∧ (decide ((60 : Int) < (↑l.length : Int)) = false → True ∧ (decide ((↑l.length : Int) < (3 : Int)) = false → ((0 : Int) ≤ (0 : Int) ∧ (0 : Int) < (↑l.length : Int)) ∧ ∀ (x : Int × Int × Bool × Bool), l[Int.toNat (0 : Int)]? = some x → ((0 : Int) ≤ (0 : Int) ∧ (0 : Int) < (↑ownL.length : Int)) ∧ ∀ (x_1 : Int × Int × Bool × Bool), ownL[Int.toNat (0 : Int)]? = some x_1 → ((!(decide (x.1 = x_1.1) && (decide (x.2.1 = x_1.2.1) && (x.2.2.1 == x_1.2.2.1 && (x.2.2.2 == x_1.2.2.2 && true))))) = false → ((0 : Int) ≤ (1 : Int) ∧ (1 : Int) < (↑l.length : Int)) ∧ ∀ (x : Int × Int × Bool × Bool), l[Int.toNat (1 : Int)]? = some x → ((0 : Int) ≤ (1 : Int) ∧ (1 : Int) < (↑ownL.length : Int)) ∧ ∀ (x_2 : Int × Int × Bool × Bool), ownL[Int.toNat (1 : Int)]? = some x_2 → ((!(decide (x.1 = x_2.1) && (decide (x.2.1 = x_2.2.1) && (x.2.2.1 == x_2.2.2.1 && (x.2.2.2 == x_2.2.2.2 && true))))) = false → ((0 : Int) ≤ (2 : Int) ∧ (2 : Int) < (↑l.length : Int)) ∧ ∀ (x : Int × Int × Bool × Bool), l[Int.toNat (2 : Int)]? = some x → ((0 : Int) ≤ (2 : Int) ∧ (2 : Int) < (↑ownL.length : Int)) ∧ ∀ (x_3 : Int × Int × Bool × Bool), ownL[Int.toNat (2 : Int)]? = some x_3 → ((!(decide (x.1 = x_3.1) && (decide (x.2.1 = x_3.2.1) && (x.2.2.1 == x_3.2.2.1 && (x.2.2.2 == x_3.2.2.2 && true))))) = true → ((0 : Int), (28 : Int), ()) = ((checkG (roundR l) l).1, (checkG (roundR l) l).2, ())) ∧ ((!(decide (x.1 = x_3.1) && (decide (x.2.1 = x_3.2.1) && (x.2.2.1 == x_3.2.2.1 && (x.2.2.2 == x_3.2.2.2 && true))))) = false → (True ∧ (0 : Int) ≤ (0 : Int) ∧ (0 : Int) ≤ (↑l.length : Int) ∧ List.take (3 : Nat) l = ownL ∧ badA (↑l.length : Int) l (0 : Int) = badA (↑l.length : Int) (List.drop (Int.toNat (0 : Int)) l) (0 : Int)) ∧ ∀ (x : Int × Unit), (0 : Int) ≤ x.1 ∧ x.1 ≤ (↑l.length : Int) ∧ List.take (3 : Nat) l = ownL ∧ badA (↑l.length : Int) l (0 : Int) = badA (↑l.length : Int) (List.drop x.1.toNat l) x.1 → (decide (x.1 < (↑l.length : Int)) = true → ((0 : Int) ≤ x.1 ∧ x.1 < (↑l.length : Int)) ∧ ∀ (x_4 : Int × Int × Bool × Bool), l[x.1.toNat]? = some x_4 → True ∧ ((!decide (mayA (x_4.1, x_4.2.1, x_4.2.2.1, x_4.2.2.2) (↑l.length : Int) = (0 : Int))) = true → (x.1, mayA (x_4.1, x_4.2.1, x_4.2.2.1, x_4.2.2.2) (↑l.length : Int), ()) = ((checkG (roundR l) l).1, (checkG (roundR l) l).2, ())) ∧ ((!decide (mayA (x_4.1, x_4.2.1, x_4.2.2.1, x_4.2.2.2) (↑l.length : Int) = (0 : Int))) = false → ((-9223372036854775808 : Int) ≤ x.1 + (1 : Int) ∧ x.1 + (1 : Int) ≤ (9223372036854775807 : Int)) ∧ True ∧ ((0 : Int) ≤ x.1 + (1 : Int) ∧ x.1 + (1 : Int) ≤ (↑l.length : Int) ∧ List.take (3 : Nat) l = ownL ∧ badA (↑l.length : Int) l (0 : Int) = badA (↑l.length : Int) (List.drop (x.1 + (1 : Int)).toNat l) (x.1 + (1 : Int))) ∧ ((↑l.length : Int) - (x.1 + (1 : Int))).toNat < ((↑l.length : Int) - x.1).toNat)) ∧ (decide (x.1 < (↑l.length : Int)) = false → (True ∧ (0 : Int) ≤ (0 : Int) ∧ (0 : Int) ≤ (↑l.length : Int) ∧ List.take (3 : Nat) l = ownL ∧ badA (↑l.length : Int) l (0 : Int) = none ∧ endF (roundR l) l = cirF (thGo (roundR l) (l.length - Int.toNat (0 : Int)) ((0 : Int) + (1 : Int))) (↑l.length : Int)) ∧ ∀ (x : Int × Unit), (0 : Int) ≤ x.1 ∧ x.1 ≤ (↑l.length : Int) ∧ List.take (3 : Nat) l = ownL ∧ badA (↑l.length : Int) l (0 : Int) = none ∧ endF (roundR l) l = cirF (thGo (roundR l) (l.length - x.1.toNat) (x.1 + (1 : Int))) (↑l.length : Int) → (decide (x.1 < (↑l.length : Int)) = true → ((-9223372036854775808 : Int) ≤ x.1 + (1 : Int) ∧ x.1 + (1 : Int) ≤ (9223372036854775807 : Int)) ∧ (isIn l (x.1 + (1 : Int)) ∧ l.length ≤ (1000000 : Nat)) ∧ (roundR l (x.1 + (1 : Int)) = true → (x.1, (26 : Int), ()) = ((checkG (roundR l) l).1, (checkG (roundR l) l).2, ())) ∧ (roundR l (x.1 + (1 : Int)) = false → ((-9223372036854775808 : Int) ≤ x.1 + (1 : Int) ∧ x.1 + (1 : Int) ≤ (9223372036854775807 : Int)) ∧ True ∧ ((0 : Int) ≤ x.1 + (1 : Int) ∧ x.1 + (1 : Int) ≤ (↑l.length : Int) ∧ List.take (3 : Nat) l = ownL ∧ badA (↑l.length : Int) l (0 : Int) = none ∧ endF (roundR l) l = cirF (thGo (roundR l) (l.length - (x.1 + (1 : Int)).toNat) (x.1 + (1 : Int) + (1 : Int))) (↑l.length : Int)) ∧ ((↑l.length : Int) - (x.1 + (1 : Int))).toNat < ((↑l.length : Int) - x.1).toNat)) ∧ (decide (x.1 < (↑l.length : Int)) = false → ((↑l.length : Int), (0 : Int), ()) = ((checkG (roundR l) l).1, (checkG (roundR l) l).2, ()))))) ∧ ((!(decide (x.1 = x_2.1) && (decide (x.2.1 = x_2.2.1) && (x.2.2.1 == x_2.2.2.1 && (x.2.2.2 == x_2.2.2.2 && true))))) = !false → ((0 : Int), (28 : Int), ()) = ((checkG (roundR l) l).1, (checkG (roundR l) l).2, ()))) ∧ ((!(decide (x.1 = x_1.1) && (decide (x.2.1 = x_1.2.1) && (x.2.2.1 == x_1.2.2.1 && (x.2.2.2 == x_1.2.2.2 && true))))) = !false → ((0 : Int), (28 : Int), ()) = ((checkG (roundR l) l).1, (checkG (roundR l) l).2, ()))) ∧ (decide ((↑l.length : Int) < (3 : Int)) = !false → ((0 : Int), (28 : Int), ()) = ((checkG (roundR l) l).1, (checkG (roundR l) l).2, ())))
theorem g_rcheck_eq (l : List AcD) : Cond (env_rcheck l) Tryz.f37 [.list .tmp AcT l] [.int .i64, .int .i64] ((checkG (roundR l) l).1, (checkG (roundR l) l).2, ()) = g_rcheck_vc l := by kernel_rfl
theorem g_rcheck_ok (l : List AcD) (h : l.length ≤ 1000000) : g_rcheck_vc l := by
  unfold g_rcheck_vc
  simp only [acc_cmp, Bool.not_eq_true', Bool.not_eq_false', Bool.not_false, decide_eq_true_eq, decide_eq_false_iff_not]
  have far : ∀ k x x1, k < 3 → l[k]? = some x → ownL[k]? = some x1 → x ≠ x1 → l.take 3 ≠ ownL := fun k x x1 h3 hx hx1 hn e => by
    rw [← e, List.getElem?_take, if_pos h3, hx] at hx1
    cases hx1
    exact hn rfl
  refine ⟨fun c => by rw [check_full c], fun c => ⟨trivial, fun d => ⟨⟨by omega, by omega⟩, fun x hx => ⟨⟨by omega, by decide⟩, fun x1 hx1 => ⟨fun e1 => ⟨⟨by omega, by omega⟩, fun y hy => ⟨⟨by omega, by decide⟩, fun y1 hy1 => ⟨fun e2 => ⟨⟨by omega, by omega⟩, fun z hz => ⟨⟨by omega, by decide⟩, fun z1 hz1 => ⟨fun e3 => ?_, fun e3 => ?_⟩⟩⟩, fun e2 => ?_⟩⟩⟩, fun e1 => ?_⟩⟩⟩, fun d => ?_⟩⟩
  · rw [check_own c (far 2 z z1 (by omega) hz hz1 e3)]
  · subst e1 e2 e3
    have own : l.take 3 = ownL := by
      refine List.ext_getElem? fun j => ?_
      rw [List.getElem?_take]
      by_cases j0 : j = 0
      · subst j0; exact hx.trans hx1.symm
      by_cases j1 : j = 1
      · subst j1; exact hy.trans hy1.symm
      by_cases j2 : j = 2
      · subst j2; exact hz.trans hz1.symm
      rw [if_neg (by omega), List.getElem?_eq_none (by simp; omega)]
    refine ⟨⟨trivial, by omega, by omega, own, rfl⟩, ?_⟩
    rintro ⟨i, ⟨⟩⟩ ⟨h0, h1, -, hb⟩
    dsimp only at h0 h1 hb ⊢
    refine ⟨fun k => ⟨⟨h0, k⟩, fun x hx => ⟨trivial, fun m => ?_, fun m => ⟨by omega, trivial, ⟨by omega, by omega, own, ?_⟩, by omega⟩⟩⟩, fun k => ⟨⟨trivial, by omega, by omega, own, by rw [hb, bad_end k], rfl⟩, ?_⟩⟩
    · rw [check_bad c own (by rw [hb, bad_next h0 hx, if_neg m])]
    · rw [hb, bad_next h0 hx, if_pos m]
    · rintro ⟨i, ⟨⟩⟩ ⟨h0, h1, -, hb, he⟩
      dsimp only at h0 h1 he ⊢
      refine ⟨fun k => ⟨by omega, ⟨⟨by omega, by omega⟩, h⟩, fun m => ?_, fun m => ⟨by omega, trivial, ⟨by omega, by omega, own, hb, ?_⟩, by omega⟩⟩, fun k => ?_⟩
      · rw [check_end c own hb, he, th_hit (by omega) m]
        show _ = (i + 1 - 1, 26, ())
        rw [show i + 1 - 1 = i by omega]
      · rw [he, th_miss (by omega) m, show l.length - (i + 1).toNat = l.length - i.toNat - 1 by omega]
      · rw [check_end c own hb, he, show l.length - i.toNat = 0 by omega]
        rfl
  · rw [check_own c (far 1 y y1 (by omega) hy hy1 e2)]
  · rw [check_own c (far 0 x x1 (by omega) hx hx1 e1)]
  · rw [check_own c (fun e => by
      have := congrArg List.length e
      rw [List.length_take] at this
      simp at this
      omega)]
theorem rcheck_pure (l : List AcD) (h : l.length ≤ 1000000) : Pure Tryz.prog 37 [.list .tmp AcT l] (.tuple [.int .i64 (checkG (roundR l) l).1, .int .i64 (checkG (roundR l) l).2]) :=
  by have k := Pure.of_cond (g_rcheck_eq l) (g_rcheck_ok l h) (specs_ok rfl [sp_rnew, sp_rmay, sp_rround] [] rfl rfl) mixed Tryz.func37; exact k
noncomputable def q_rcheck (l : List AcD) : Prop × V := (l.length ≤ 1000000, (.tuple [.int .i64 (checkG (roundR l) l).1, .int .i64 (checkG (roundR l) l).2]))
noncomputable def sp_rcheck : FSpec Tryz.prog where
 f := 37
 run := fun
  | [v0] => (asL AcT v0 : Option (List AcD)).bind fun l => some (q_rcheck l)
  | _ => none
 ok := fun args pre r h hp => by
  split at h
  · rename_i v0
    obtain ⟨l, h0, h⟩ := Option.bind_eq_some_iff.1 h
    exact of_q h hp fun h => (rcheck_pure l h).weak (.cons (asL_weak h0) .nil)
  · cases h
end Go.Proofs.YtgjpehgnagfghaaGreat.Acc
