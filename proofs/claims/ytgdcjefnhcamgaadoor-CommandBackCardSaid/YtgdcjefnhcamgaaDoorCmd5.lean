/-
  command: a text read. The walk.
-/
import Derived.Test.YtgdcjefnhcamgaaDoorCmd4
namespace Go.Proofs.YtgdcjefnhcamgaaDoor
open Go.Vm

/-- The kind whose word stands at the beginning. -/
def kindL (s : By) : List Int → Int → Int × Int × Int
  | [], w => (0, 0, w)
  | k :: r, w => if (litF s 0 (wordF k)).2 = 0 then (k, (litF s 0 (wordF k)).1, 0) else kindL s r (if (litF s 0 (wordF k)).2 = 4 then 4 else w)
def kinds : List Int := [1, 2, 3, 4, 5, 6, 7, 8]
def kindF (s : By) : Int × Int × Int := kindL s kinds 8
theorem kinds_at {i : Nat} (h : i < 8) : kinds.drop i = (i + 1 : Int) :: kinds.drop (i + 1) := by
  match i, h with
  | 0, _ | 1, _ | 2, _ | 3, _ | 4, _ | 5, _ | 6, _ | 7, _ => rfl
theorem litF_err (s : By) (a : Int) (w : By) : (litF s a w).2 = 0 ∨ (litF s a w).2 = 2 ∨ (litF s a w).2 = 4 ∨ (litF s a w).2 = 8 := by
  unfold litF
  repeat' split
  all_goals simp
noncomputable def env_word (s : By) : Env where
  P := Tryd.prog
  ty := tys0
  specs := specsOf [sp_lit]
  zspecs := zsOf [sp_forms]
  frz := fun | 10 => true | _ => false
  sym := fun | 15 => true | _ => false
  heads := fun
    | 3 => some { slots := [(5, .int .i64), (12, .int .i64)], boxes := [], keep := [], inv := fun _ (x : Int × Int × Unit) => 0 ≤ x.2.1 ∧ x.2.1 ≤ 8 ∧ kindF s = kindL s (kinds.drop x.2.1.toNat) x.1, measure := fun _ (x : Int × Int × Unit) => (8 - x.2.1).toNat }
    | _ => none
noncomputable def g_word (s : By) : Prop := vc (env_word s) (codeOf Tryd.f26) (start0 Tryd.f26 [.str s]) (exitK (tsOf Tryd.f26) [.int .i64, .int .i64, .int .i64] ((kindF s).1, (kindF s).2.1, (kindF s).2.2, ()))
def g_word_vc (s : By) : Prop :=
  True ∧ (True ∧ (0 : Int) ≤ (0 : Int) ∧ (0 : Int) ≤ (8 : Int) ∧ kindF s = kindL s (List.drop (Int.toNat (0 : Int)) kinds) (8 : Int)) ∧ ∀ (x : Int × Int × Unit), (0 : Int) ≤ x.snd.fst ∧ x.snd.fst ≤ (8 : Int) ∧ kindF s = kindL s (List.drop x.snd.fst.toNat kinds) x.fst → (decide (x.snd.fst < (↑(8 : Nat) : Int)) = true → ((0 : Int) ≤ x.snd.fst ∧ x.snd.fst < (↑(8 : Nat) : Int)) ∧ (List.length s ≤ (1000000 : Nat) ∧ ([[(101 : UInt8), (110 : UInt8), (116 : UInt8), (105 : UInt8), (116 : UInt8), (121 : UInt8)], [(97 : UInt8), (99 : UInt8), (99 : UInt8), (111 : UInt8), (117 : UInt8), (110 : UInt8), (116 : UInt8)], [(109 : UInt8), (111 : UInt8), (118 : UInt8), (101 : UInt8)], [(111 : UInt8), (119 : UInt8), (110 : UInt8)], [(114 : UInt8), (97 : UInt8), (116 : UInt8), (101 : UInt8)], [(108 : UInt8), (111 : UInt8), (99 : UInt8), (107 : UInt8)], [(112 : UInt8), (111 : UInt8), (115 : UInt8), (116 : UInt8)], [(114 : UInt8), (101 : UInt8), (118 : UInt8), (101 : UInt8), (114 : UInt8), (115 : UInt8), (101 : UInt8)]][x.snd.fst.toNat]?.getD []).length ≤ (1000000 : Nat)) ∧ (decide ((litF s (0 : Int) ([[(101 : UInt8), (110 : UInt8), (116 : UInt8), (105 : UInt8), (116 : UInt8), (121 : UInt8)], [(97 : UInt8), (99 : UInt8), (99 : UInt8), (111 : UInt8), (117 : UInt8), (110 : UInt8), (116 : UInt8)], [(109 : UInt8), (111 : UInt8), (118 : UInt8), (101 : UInt8)], [(111 : UInt8), (119 : UInt8), (110 : UInt8)], [(114 : UInt8), (97 : UInt8), (116 : UInt8), (101 : UInt8)], [(108 : UInt8), (111 : UInt8), (99 : UInt8), (107 : UInt8)], [(112 : UInt8), (111 : UInt8), (115 : UInt8), (116 : UInt8)], [(114 : UInt8), (101 : UInt8), (118 : UInt8), (101 : UInt8), (114 : UInt8), (115 : UInt8), (101 : UInt8)]][x.snd.fst.toNat]?.getD [])).snd = (0 : Int)) = true → ((-9223372036854775808 : Int) ≤ x.snd.fst + (1 : Int) ∧ x.snd.fst + (1 : Int) ≤ (9223372036854775807 : Int)) ∧ (x.snd.fst + (1 : Int), (litF s (0 : Int) ([[(101 : UInt8), (110 : UInt8), (116 : UInt8), (105 : UInt8), (116 : UInt8), (121 : UInt8)], [(97 : UInt8), (99 : UInt8), (99 : UInt8), (111 : UInt8), (117 : UInt8), (110 : UInt8), (116 : UInt8)], [(109 : UInt8), (111 : UInt8), (118 : UInt8), (101 : UInt8)], [(111 : UInt8), (119 : UInt8), (110 : UInt8)], [(114 : UInt8), (97 : UInt8), (116 : UInt8), (101 : UInt8)], [(108 : UInt8), (111 : UInt8), (99 : UInt8), (107 : UInt8)], [(112 : UInt8), (111 : UInt8), (115 : UInt8), (116 : UInt8)], [(114 : UInt8), (101 : UInt8), (118 : UInt8), (101 : UInt8), (114 : UInt8), (115 : UInt8), (101 : UInt8)]][x.snd.fst.toNat]?.getD [])).fst, (0 : Int), ()) = ((kindF s).fst, (kindF s).snd.fst, (kindF s).snd.snd, ())) ∧ (decide ((litF s (0 : Int) ([[(101 : UInt8), (110 : UInt8), (116 : UInt8), (105 : UInt8), (116 : UInt8), (121 : UInt8)], [(97 : UInt8), (99 : UInt8), (99 : UInt8), (111 : UInt8), (117 : UInt8), (110 : UInt8), (116 : UInt8)], [(109 : UInt8), (111 : UInt8), (118 : UInt8), (101 : UInt8)], [(111 : UInt8), (119 : UInt8), (110 : UInt8)], [(114 : UInt8), (97 : UInt8), (116 : UInt8), (101 : UInt8)], [(108 : UInt8), (111 : UInt8), (99 : UInt8), (107 : UInt8)], [(112 : UInt8), (111 : UInt8), (115 : UInt8), (116 : UInt8)], [(114 : UInt8), (101 : UInt8), (118 : UInt8), (101 : UInt8), (114 : UInt8), (115 : UInt8), (101 : UInt8)]][x.snd.fst.toNat]?.getD [])).snd = (0 : Int)) = false → (decide ((litF s (0 : Int) ([[(101 : UInt8), (110 : UInt8), (116 : UInt8), (105 : UInt8), (116 : UInt8), (121 : UInt8)], [(97 : UInt8), (99 : UInt8), (99 : UInt8), (111 : UInt8), (117 : UInt8), (110 : UInt8), (116 : UInt8)], [(109 : UInt8), (111 : UInt8), (118 : UInt8), (101 : UInt8)], [(111 : UInt8), (119 : UInt8), (110 : UInt8)], [(114 : UInt8), (97 : UInt8), (116 : UInt8), (101 : UInt8)], [(108 : UInt8), (111 : UInt8), (99 : UInt8), (107 : UInt8)], [(112 : UInt8), (111 : UInt8), (115 : UInt8), (116 : UInt8)], [(114 : UInt8), (101 : UInt8), (118 : UInt8), (101 : UInt8), (114 : UInt8), (115 : UInt8), (101 : UInt8)]][x.snd.fst.toNat]?.getD [])).snd = (4 : Int)) = true → ((-9223372036854775808 : Int) ≤ x.snd.fst + (1 : Int) ∧ x.snd.fst + (1 : Int) ≤ (9223372036854775807 : Int)) ∧ True ∧ ((0 : Int) ≤ x.snd.fst + (1 : Int) ∧ x.snd.fst + (1 : Int) ≤ (8 : Int) ∧ kindF s = kindL s (List.drop (x.snd.fst + (1 : Int)).toNat kinds) (litF s (0 : Int) ([[(101 : UInt8), (110 : UInt8), (116 : UInt8), (105 : UInt8), (116 : UInt8), (121 : UInt8)], [(97 : UInt8), (99 : UInt8), (99 : UInt8), (111 : UInt8), (117 : UInt8), (110 : UInt8), (116 : UInt8)], [(109 : UInt8), (111 : UInt8), (118 : UInt8), (101 : UInt8)], [(111 : UInt8), (119 : UInt8), (110 : UInt8)], [(114 : UInt8), (97 : UInt8), (116 : UInt8), (101 : UInt8)], [(108 : UInt8), (111 : UInt8), (99 : UInt8), (107 : UInt8)], [(112 : UInt8), (111 : UInt8), (115 : UInt8), (116 : UInt8)], [(114 : UInt8), (101 : UInt8), (118 : UInt8), (101 : UInt8), (114 : UInt8), (115 : UInt8), (101 : UInt8)]][x.snd.fst.toNat]?.getD [])).snd) ∧ ((8 : Int) - (x.snd.fst + (1 : Int))).toNat < ((8 : Int) - x.snd.fst).toNat) ∧ (decide ((litF s (0 : Int) ([[(101 : UInt8), (110 : UInt8), (116 : UInt8), (105 : UInt8), (116 : UInt8), (121 : UInt8)], [(97 : UInt8), (99 : UInt8), (99 : UInt8), (111 : UInt8), (117 : UInt8), (110 : UInt8), (116 : UInt8)], [(109 : UInt8), (111 : UInt8), (118 : UInt8), (101 : UInt8)], [(111 : UInt8), (119 : UInt8), (110 : UInt8)], [(114 : UInt8), (97 : UInt8), (116 : UInt8), (101 : UInt8)], [(108 : UInt8), (111 : UInt8), (99 : UInt8), (107 : UInt8)], [(112 : UInt8), (111 : UInt8), (115 : UInt8), (116 : UInt8)], [(114 : UInt8), (101 : UInt8), (118 : UInt8), (101 : UInt8), (114 : UInt8), (115 : UInt8), (101 : UInt8)]][x.snd.fst.toNat]?.getD [])).snd = (4 : Int)) = false → ((-9223372036854775808 : Int) ≤ x.snd.fst + (1 : Int) ∧ x.snd.fst + (1 : Int) ≤ (9223372036854775807 : Int)) ∧ True ∧ ((0 : Int) ≤ x.snd.fst + (1 : Int) ∧ x.snd.fst + (1 : Int) ≤ (8 : Int) ∧ kindF s = kindL s (List.drop (x.snd.fst + (1 : Int)).toNat kinds) x.fst) ∧ ((8 : Int) - (x.snd.fst + (1 : Int))).toNat < ((8 : Int) - x.snd.fst).toNat))) ∧ (decide (x.snd.fst < (↑(8 : Nat) : Int)) = false → ((0 : Int), (0 : Int), x.fst, ()) = ((kindF s).fst, (kindF s).snd.fst, (kindF s).snd.snd, ()))
theorem g_word_eq (s : By) : g_word s = g_word_vc s := by kernel_rfl
theorem g_word_ok (s : By) (h : s.length ≤ 10000) : g_word_vc s := by
  unfold g_word_vc
  have hw : ∀ j : Int, ([[(101 : UInt8), 110, 116, 105, 116, 121], [97, 99, 99, 111, 117, 110, 116], [109, 111, 118, 101], [111, 119, 110], [114, 97, 116, 101], [108, 111, 99, 107], [112, 111, 115, 116], [114, 101, 118, 101, 114, 115, 101]][j.toNat]?.getD []) = wordF (j + 1) := fun j => by
    unfold wordF
    rw [Int.add_sub_cancel]
    rfl
  simp only [decide_eq_true_eq, decide_eq_false_iff_not, Bool.not_eq_true', Bool.not_eq_false', Bool.not_true, Bool.not_false, hw]
  have step : ∀ x : Int × Int × Unit, 0 ≤ x.2.1 → x.2.1 < 8 → kindF s = kindL s (kinds.drop x.2.1.toNat) x.1 → kindF s = if (litF s 0 (wordF (x.2.1 + 1))).2 = 0 then (x.2.1 + 1, (litF s 0 (wordF (x.2.1 + 1))).1, 0) else kindL s (kinds.drop (x.2.1 + 1).toNat) (if (litF s 0 (wordF (x.2.1 + 1))).2 = 4 then 4 else x.1) := fun x h0 h1 hx => by
    rw [hx, kinds_at (by omega : x.2.1.toNat < 8), show (x.2.1 + 1).toNat = x.2.1.toNat + 1 by omega, show ((x.2.1.toNat : Nat) : Int) = x.2.1 by omega]
    rfl
  repeat' (first | with_reducible apply And.intro | intro _)
  all_goals try (first | trivial | rfl | omega)
  · rename_i x _ _
    have := wordF_len (x.2.1 + 1)
    omega
  · rename_i x hx h8 e
    rw [step x hx.1 h8 hx.2.2, if_pos e]
  · rename_i x hx h8 e e4
    rw [step x hx.1 h8 hx.2.2, if_neg e, if_pos e4, e4]
  · rename_i x hx h8 e e4
    rw [step x hx.1 h8 hx.2.2, if_neg e, if_neg e4]
  · rename_i x hx h8
    have h8 : ¬ x.2.1 < 8 := h8
    rw [hx.2.2, show x.2.1.toNat = 8 by omega]
    rfl
set_option maxRecDepth 20000 in
theorem word_pure (s : By) (h : s.length ≤ 10000) : Pure Tryd.prog 26 [.str s] (.tuple [.int .i64 (kindF s).1, .int .i64 (kindF s).2.1, .int .i64 (kindF s).2.2]) :=
  Pure.of_g (E := env_word s) (ts := tsOf Tryd.f26) (ps := [.int .i64, .int .i64, .int .i64]) (r := ((kindF s).1, (kindF s).2.1, (kindF s).2.2, ())) (fn := Tryd.f26) (c := codeOf Tryd.f26) (specs_okz (P := Tryd.prog) rfl [sp_lit] [] [] [sp_forms] rfl rfl rfl rfl) mixed Tryd.func26 rfl rfl (g := g_word s) (by delta g_word start0; first | with_reducible exact Eq.refl _ | exact Eq.refl _) (by rw [g_word_eq s]; exact g_word_ok s h)
noncomputable def q_word (s : By) : Prop × V := (s.length ≤ 10000, (.tuple [.int .i64 (kindF s).1, .int .i64 (kindF s).2.1, .int .i64 (kindF s).2.2]))
noncomputable def sp_word : FSpec Tryd.prog where
  f := 26
  run := fun args => match args with
    | [.str s] => some (q_word s)
    | _ => none
  ok := fun args pre r h hp => by
    try dsimp only at h
    split at h
    · rename_i s
      have h := Option.some.inj h
      unfold q_word at h
      cases h
      exact (word_pure s hp).weak (.cons (Weak.refl _) .nil)
    · cases h

/-- A blank and a numeral. -/
def withinF (s : By) (a e lo hi : Int) : Int × Int × Int :=
  if e = 0 then if (litF s a [32]).2 = 0 then numF s (litF s a [32]).1 lo hi else (0, (litF s a [32]).1, (litF s a [32]).2) else (0, a, e)
noncomputable def env_within (s : By) (a e lo hi : Int) : Env where
  P := Tryd.prog
  ty := tys0
  specs := specsOf [sp_lit, sp_num]
  frz := fun | 24 => true | 49 => true | _ => false
  pins := [9000]
abbrev ann_within : Ann := { slots := numP 0 [.int .i64], boxes := [(9000, [.str, .int .i64, .int .i64])], inv := fun _ _ => True }
noncomputable def g_within (s : By) (a e lo hi : Int) : Prop := vc (env_within s a e lo hi) (codeOf Tryd.f28) ⟨(start0 Tryd.f28 [.ptr 9000 0, .int .i64 lo, .int .i64 hi]).s, [(9000, .box [.str s, .int .i64 a, .int .i64 e])]⟩ (exitG (env_within s a e lo hi).P Tryd.f28.results.toList [none] (env_within s a e lo hi).pins ann_within ((withinF s a e lo hi).1, s, (withinF s a e lo hi).2.1, (withinF s a e lo hi).2.2, ()))
def g_within_vc (s : By) (a : Int) (e : Int) (lo : Int) (hi : Int) : Prop :=
  (decide (e = (0 : Int)) = true → (List.length s ≤ (1000000 : Nat) ∧ (1 : Nat) ≤ (1000000 : Nat)) ∧ (decide ((litF s a [(32 : UInt8)]).snd = (0 : Int)) = true → List.length s ≤ (10000 : Nat) ∧ True ∧ ((numF s (litF s a [(32 : UInt8)]).fst lo hi).fst, s, (numF s (litF s a [(32 : UInt8)]).fst lo hi).snd.fst, (numF s (litF s a [(32 : UInt8)]).fst lo hi).snd.snd, ()) = ((withinF s a e lo hi).fst, s, (withinF s a e lo hi).snd.fst, (withinF s a e lo hi).snd.snd, ())) ∧ (decide ((litF s a [(32 : UInt8)]).snd = (0 : Int)) = false → True ∧ ((0 : Int), s, (litF s a [(32 : UInt8)]).fst, (litF s a [(32 : UInt8)]).snd, ()) = ((withinF s a e lo hi).fst, s, (withinF s a e lo hi).snd.fst, (withinF s a e lo hi).snd.snd, ()))) ∧ (decide (e = (0 : Int)) = false → (decide (e = (0 : Int)) = true → List.length s ≤ (10000 : Nat) ∧ True ∧ ((numF s a lo hi).fst, s, (numF s a lo hi).snd.fst, (numF s a lo hi).snd.snd, ()) = ((withinF s a e lo hi).fst, s, (withinF s a e lo hi).snd.fst, (withinF s a e lo hi).snd.snd, ())) ∧ (decide (e = (0 : Int)) = false → True ∧ ((0 : Int), s, a, e, ()) = ((withinF s a e lo hi).fst, s, (withinF s a e lo hi).snd.fst, (withinF s a e lo hi).snd.snd, ())))
theorem g_within_eq (s : By) (a e lo hi : Int) : g_within s a e lo hi = g_within_vc s a e lo hi := by kernel_rfl
theorem g_within_ok (s : By) (a e lo hi : Int) (h : s.length ≤ 10000) : g_within_vc s a e lo hi := by
  unfold g_within_vc withinF
  simp only [decide_eq_true_eq, decide_eq_false_iff_not]
  repeat' (first | with_reducible apply And.intro | intro _)
  all_goals try (first | trivial | rfl | omega)
  · rename_i e e1
    rw [if_pos e, if_pos e1]
  · rename_i e e1
    rw [if_pos e, if_neg e1]
  · rename_i e _
    rw [if_neg e]
set_option maxRecDepth 20000 in
theorem within_upd (s : By) (a e lo hi : Int) (h : s.length ≤ 10000) : UpdC Tryd.prog 28 [.ptr 9000 0, .int .i64 lo, .int .i64 hi] [(9000, .box [.str s, .int .i64 a, .int .i64 e])] (.int .i64 (withinF s a e lo hi).1) [(9000, .box [.str s, .int .i64 (withinF s a e lo hi).2.1, .int .i64 (withinF s a e lo hi).2.2])] :=
  UpdC.of_vcG (E := env_within s a e lo hi) (sh := [none]) (ann := ann_within) (x := ((withinF s a e lo hi).1, s, (withinF s a e lo hi).2.1, (withinF s a e lo hi).2.2, ())) (fn := Tryd.f28) (c := codeOf Tryd.f28) (specs_ok (P := Tryd.prog) rfl [sp_lit, sp_num] [] rfl rfl) mixed Tryd.func28 rfl rfl rfl rfl (by
    have := g_within_ok s a e lo hi h
    rw [← g_within_eq] at this
    exact this)
noncomputable def q_within (s : By) (a e lo hi : Int) : Prop × V × Store := (s.length ≤ 10000, .int .i64 (withinF s a e lo hi).1, [(9000, .box [.str s, .int .i64 (withinF s a e lo hi).2.1, .int .i64 (withinF s a e lo hi).2.2])])
noncomputable def so_within : OSpec Tryd.prog where
  f := 28
  run := fun args σ => match args, σ with
    | [.ptr 9000 0, .int .i64 lo, .int .i64 hi], [(9000, .box [.str s, .int .i64 a, .int .i64 e])] => some (q_within s a e lo hi)
    | _, _ => none
  ok := fun args σ pre r σ' h hp => by
    try dsimp only at h
    split at h
    · rename_i lo hi s a e
      have h := Option.some.inj h
      unfold q_within at h
      cases h
      exact (within_upd s a e lo hi hp).weak (.cons (Weak.refl _) (.cons (Weak.refl _) (.cons (Weak.refl _) .nil)))
    · cases h

def anyF (s : By) (a e : Int) : Int × Int × Int := withinF s a e (-9223372036854775808) 9223372036854775807
noncomputable def env_any (s : By) (a e : Int) : Env where
  P := Tryd.prog
  ty := tys0
  upd := updsOf [so_within.upd]
  pins := [9000]
abbrev ann_any : Ann := { slots := numP 0 [.int .i64], boxes := [(9000, [.str, .int .i64, .int .i64])], inv := fun _ _ => True }
noncomputable def g_any (s : By) (a e : Int) : Prop := vc (env_any s a e) (codeOf Tryd.f27) ⟨(start0 Tryd.f27 [.ptr 9000 0]).s, [(9000, .box [.str s, .int .i64 a, .int .i64 e])]⟩ (exitG (env_any s a e).P Tryd.f27.results.toList [none] (env_any s a e).pins ann_any ((anyF s a e).1, s, (anyF s a e).2.1, (anyF s a e).2.2, ()))
def g_any_vc (s : By) (a : Int) (e : Int) : Prop :=
  List.length s ≤ (10000 : Nat) ∧ True ∧ ((withinF s a e (-9223372036854775808 : Int) (9223372036854775807 : Int)).fst, s, (withinF s a e (-9223372036854775808 : Int) (9223372036854775807 : Int)).snd.fst, (withinF s a e (-9223372036854775808 : Int) (9223372036854775807 : Int)).snd.snd, ()) = ((anyF s a e).fst, s, (anyF s a e).snd.fst, (anyF s a e).snd.snd, ())
theorem g_any_eq (s : By) (a e : Int) : g_any s a e = g_any_vc s a e := by kernel_rfl
theorem g_any_ok (s : By) (a e : Int) (h : s.length ≤ 10000) : g_any_vc s a e := by
  unfold g_any_vc
  exact ⟨h, trivial, rfl⟩
set_option maxRecDepth 20000 in
theorem any_upd (s : By) (a e : Int) (h : s.length ≤ 10000) : UpdC Tryd.prog 27 [.ptr 9000 0] [(9000, .box [.str s, .int .i64 a, .int .i64 e])] (.int .i64 (anyF s a e).1) [(9000, .box [.str s, .int .i64 (anyF s a e).2.1, .int .i64 (anyF s a e).2.2])] :=
  UpdC.of_vcG (E := env_any s a e) (sh := [none]) (ann := ann_any) (x := ((anyF s a e).1, s, (anyF s a e).2.1, (anyF s a e).2.2, ())) (fn := Tryd.f27) (c := codeOf Tryd.f27) (specs_ok (P := Tryd.prog) rfl [] [so_within.upd] rfl rfl) mixed Tryd.func27 rfl rfl rfl rfl (by
    have := g_any_ok s a e h
    rw [← g_any_eq] at this
    exact this)
noncomputable def q_any (s : By) (a e : Int) : Prop × V × Store := (s.length ≤ 10000, .int .i64 (anyF s a e).1, [(9000, .box [.str s, .int .i64 (anyF s a e).2.1, .int .i64 (anyF s a e).2.2])])
noncomputable def so_any : OSpec Tryd.prog where
  f := 27
  run := fun args σ => match args, σ with
    | [.ptr 9000 0], [(9000, .box [.str s, .int .i64 a, .int .i64 e])] => some (q_any s a e)
    | _, _ => none
  ok := fun args σ pre r σ' h hp => by
    try dsimp only at h
    split at h
    · rename_i s a e
      have h := Option.some.inj h
      unfold q_any at h
      cases h
      exact (any_upd s a e hp).weak (.cons (Weak.refl _) .nil)
    · cases h

end Go.Proofs.YtgdcjefnhcamgaaDoor
