/-
  cell: a key's text printed: the walk.
-/
import Derived.Test.YtemgelifnjefoaaDoorCell4
namespace Go.Proofs.YtemgelifnjefoaaDoor
open Go.Vm

noncomputable def env_print (r e a p c q : Int) : Env where
  P := Tryd.prog
  ty := tys1
  specs := specsOf [sp_check, sp_words, sp_digitsOf]
  upd := updsOf [so_write.upd, so_bstr.upd]
  frz := fun | 13 => true | _ => false
  own := fun | 5 => true | _ => false
  heads := fun
    | 7 => some { slots := [(32, .int .i64)], boxes := [(5, [.own 5 54, .slc 9000 B8])], keep := [], drop := [1, 14, 17, 20, 22, 24, 26, 28], inv := fun _ (x : Int × Unit × List Int × Unit) => 0 ≤ x.1 ∧ x.1 ≤ 5 ∧ x.2.2.1 = byD (wordC r ++ sayF ((numsC (r, e, a, p, c, q)).take x.1.toNat)), measure := fun _ (x : Int × Unit × List Int × Unit) => (5 - x.1).toNat }
    | _ => none
noncomputable def g_print (r e a p c q : Int) : Prop := vc (env_print r e a p c q) (codeOf Tryd.f16) (start0 Tryd.f16 [.agg [.int .i64 r, .int .i64 e, .int .i64 a, .int .i64 p, .int .i64 c, .int .i64 q]]) (exitK (tsOf Tryd.f16) [.str, .int .i64] ((printC (r, e, a, p, c, q)).1, (printC (r, e, a, p, c, q)).2, ()))
def g_print_vc (r : Int) (e : Int) (a : Int) (p : Int) (c : Int) (q : Int) : Prop :=
  True ∧ ((!decide (ckF (r, e, a, p, c, q) = (0 : Int))) = true → ([], ckF (r, e, a, p, c, q), ()) = ((printC (r, e, a, p, c, q)).fst, (printC (r, e, a, p, c, q)).snd, ())) ∧ ((!decide (ckF (r, e, a, p, c, q) = (0 : Int))) = false → True ∧ ((-9223372036854775808 : Int) ≤ r - (1 : Int) ∧ r - (1 : Int) ≤ (9223372036854775807 : Int)) ∧ ((0 : Int) ≤ r - (1 : Int) ∧ r - (1 : Int) < (↑wordsL.length : Int)) ∧ ∀ (x : List UInt8), wordsL[(r - (1 : Int)).toNat]? = some x → x.length ≤ (100000000 : Nat) ∧ (True ∧ (0 : Int) ≤ (0 : Int) ∧ (0 : Int) ≤ (5 : Int) ∧ byD x = byD (wordC r ++ sayF (List.take (Int.toNat (0 : Int)) (numsC (r, e, a, p, c, q))))) ∧ ∀ (x : Int × Unit × List Int × Unit), (0 : Int) ≤ x.fst ∧ x.fst ≤ (5 : Int) ∧ x.snd.snd.fst = byD (wordC r ++ sayF (List.take x.fst.toNat (numsC (r, e, a, p, c, q)))) → (decide (x.fst < (↑(5 : Nat) : Int)) = true → ((0 : Int) ≤ x.fst ∧ x.fst < (↑(5 : Nat) : Int)) ∧ ∀ (x_1 : Int), [e, a, p, c, q][x.fst.toNat]? = some x_1 → InI x_1 ∧ (1 : Nat) + (Lib.itoa x_1).length ≤ (9223372036854775807 : Nat) ∧ ([(32 : UInt8)] ++ Lib.itoa x_1).length + x.snd.snd.fst.length ≤ (100000000 : Nat) ∧ ((-9223372036854775808 : Int) ≤ x.fst + (1 : Int) ∧ x.fst + (1 : Int) ≤ (9223372036854775807 : Int)) ∧ True ∧ ((0 : Int) ≤ x.fst + (1 : Int) ∧ x.fst + (1 : Int) ≤ (5 : Int) ∧ x.snd.snd.fst ++ byD ([(32 : UInt8)] ++ Lib.itoa x_1) = byD (wordC r ++ sayF (List.take (x.fst + (1 : Int)).toNat (numsC (r, e, a, p, c, q))))) ∧ ((5 : Int) - (x.fst + (1 : Int))).toNat < ((5 : Int) - x.fst).toNat) ∧ (decide (x.fst < (↑(5 : Nat) : Int)) = false → ((0 : Nat) < x.snd.snd.fst.length ∧ ∀ (z : Int), z ∈ x.snd.snd.fst → (0 : Int) ≤ z ∧ z ≤ (255 : Int)) ∧ (List.map (fun z => z.toNat.toUInt8) x.snd.snd.fst, (0 : Int), ()) = ((printC (r, e, a, p, c, q)).fst, (printC (r, e, a, p, c, q)).snd, ())))
theorem g_print_eq (r e a p c q : Int) : g_print r e a p c q = g_print_vc r e a p c q := by kernel_rfl
theorem g_print_ok (r e a p c q : Int) : g_print_vc r e a p c q := by
  unfold g_print_vc
  simp only [decide_eq_true_eq, decide_eq_false_iff_not, Bool.not_eq_true', Bool.not_eq_false', Bool.not_true, Bool.not_false]
  repeat' (first | with_reducible apply And.intro | (intro (x : Int × Unit × List Int × Unit); obtain ⟨i, ⟨⟩, d, ⟨⟩⟩ := x; rintro ⟨h0, h1, h2⟩; dsimp only at h0 h1 h2 ⊢) | intro _)
  all_goals try (first | trivial | rfl | omega)
  all_goals try (rename_i hk; first | (have := ck_ok hk; unfold okC at this; dsimp only at this; have : wordsL.length = 7 := rfl; omega) | (obtain ⟨k1, k2⟩ := ck_no hk; unfold printC; rw [if_neg k1, k2]; done))
  all_goals try (rename_i hk x hx; have := words_len (List.mem_of_getElem? hx); omega)
  · rename_i hk x hx
    have hw : wordC r = x := by unfold wordC; rw [hx]; rfl
    rw [hw]
    simp [sayF]
  · rename_i hk x hx hi n hn
    exact nums_in (ck_ok hk) n (List.mem_of_getElem? hn)
  · rename_i hk x hx hi n hn
    have := itoa_len (nums_in (ck_ok hk) n (List.mem_of_getElem? hn))
    omega
  · rename_i hk x hx hi n hn
    have := itoa_len (nums_in (ck_ok hk) n (List.mem_of_getElem? hn))
    have h3 := say_len (l := (numsC (r, e, a, p, c, q)).take i.toNat) fun m hm => nums_in (ck_ok hk) m (List.mem_of_mem_take hm)
    have h4 : ((numsC (r, e, a, p, c, q)).take i.toNat).length ≤ 5 := List.length_take_le' _ _
    have h5 := wordC_len r
    rw [h2, byD_len]
    simp only [List.length_append, List.length_singleton]
    omega
  · rename_i hk x hx hi n hn
    have hn : (numsC (r, e, a, p, c, q))[i.toNat]? = some n := hn
    rw [show (i + 1).toNat = i.toNat + 1 by omega, sayF_next hn, h2, ← byD_app, List.append_assoc]
  · rename_i hk x hx hi
    have := wordC_pos (ck_ok hk).1 (ck_ok hk).2.1
    rw [h2, byD_len, List.length_append]
    dsimp only at this
    omega
  · rename_i hk x hx hi z hz
    rw [h2] at hz
    exact (byD_in _ z hz).1
  · rename_i hk x hx hi z hz
    rw [h2] at hz
    exact (byD_in _ z hz).2
  · rename_i hk x hx hi
    have := strOf_byD (textC (r, e, a, p, c, q))
    unfold printC
    rw [if_pos (ck_ok hk), h2, List.take_of_length_le (by show 5 ≤ i.toNat; omega)]
    unfold strOf at this
    rw [← this]
    rfl
set_option maxRecDepth 20000 in
theorem print_pure (r e a p c q : Int) : Pure Tryd.prog 16 [.agg [.int .i64 r, .int .i64 e, .int .i64 a, .int .i64 p, .int .i64 c, .int .i64 q]] (.tuple [.str (printC (r, e, a, p, c, q)).1, .int .i64 (printC (r, e, a, p, c, q)).2]) :=
  Pure.of_g (E := env_print r e a p c q) (ts := tsOf Tryd.f16) (ps := [.str, .int .i64]) (r := ((printC (r, e, a, p, c, q)).1, (printC (r, e, a, p, c, q)).2, ())) (fn := Tryd.f16) (c := codeOf Tryd.f16) (specs_ok (P := Tryd.prog) rfl [sp_check, sp_words, sp_digitsOf] [so_write.upd, so_bstr.upd] rfl rfl) mixed Tryd.func16 rfl rfl (g := g_print r e a p c q) (by delta g_print start0; first | with_reducible exact Eq.refl _ | exact Eq.refl _) (by rw [g_print_eq r e a p c q]; exact g_print_ok r e a p c q)
noncomputable def q_print (r e a p c q : Int) : Prop × V := (True, (.tuple [.str (printC (r, e, a, p, c, q)).1, .int .i64 (printC (r, e, a, p, c, q)).2]))
noncomputable def sp_print : FSpec Tryd.prog where
  f := 16
  run := fun args => match args with
    | [.agg [.int .i64 r, .int .i64 e, .int .i64 a, .int .i64 p, .int .i64 c, .int .i64 q]] => some (q_print r e a p c q)
    | _ => none
  ok := fun args pre r h hp => by
    try dsimp only at h
    split at h
    · rename_i r e a p c q
      have h := Option.some.inj h
      unfold q_print at h
      cases h
      exact (print_pure r e a p c q).weak (.cons (Weak.refl _) .nil)
    · cases h


end Go.Proofs.YtemgelifnjefoaaDoor
