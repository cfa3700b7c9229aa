/-
  cell: a key's text printed, and read: the walks.
-/
import Derived.Test.YtemgelifnjefoaaDoorCell3
namespace Go.Proofs.YtemgelifnjefoaaDoor
open Go.Vm

/-- What numbers are told as, a blank ahead of each. -/
def sayF (l : List Int) : List UInt8 := l.flatMap fun n => 32 :: Lib.itoa n
theorem sayF_next {l : List Int} {i : Nat} {n : Int} (h : l[i]? = some n) : sayF (l.take (i + 1)) = sayF (l.take i) ++ ([32] ++ Lib.itoa n) := by
  unfold sayF
  rw [List.take_add_one, h]
  simp
theorem sayF_app (l m : List Int) : sayF (l ++ m) = sayF l ++ sayF m := by simp [sayF]
theorem say_len {l : List Int} (h : ∀ n ∈ l, InI n) : (sayF l).length ≤ 50 * l.length := by
  induction l with
  | nil => simp [sayF]
  | cons a r ih =>
    have := ih (fun n hn => h n (by simp [hn]))
    have h2 := itoa_len (h a (by simp))
    have e : sayF (a :: r) = (32 :: Lib.itoa a) ++ sayF r := by simp [sayF]
    rw [e]
    simp only [List.length_append, List.length_cons]
    omega
def wordC (k : Int) : List UInt8 := (wordsL[(k - 1).toNat]?).getD []
theorem wordC_len (k : Int) : (wordC k).length ≤ 7 := by
  unfold wordC
  generalize (k - 1).toNat = i
  match i with
  | 0 | 1 | 2 | 3 | 4 | 5 | 6 => decide
  | i + 7 => simp [wordsL]
theorem wordC_pos {k : Int} (h1 : 1 ≤ k) (h2 : k ≤ 7) : 0 < (wordC k).length := by
  unfold wordC
  have h : (k - 1).toNat < 7 := by omega
  generalize (k - 1).toNat = i at h
  match i, h with
  | 0, _ | 1, _ | 2, _ | 3, _ | 4, _ | 5, _ | 6, _ => decide
def numsC (c : CeD) : List Int := [c.2.1, c.2.2.1, c.2.2.2.1, c.2.2.2.2.1, c.2.2.2.2.2]
def textC (c : CeD) : List UInt8 := wordC c.1 ++ sayF (numsC c)
def printC (c : CeD) : List UInt8 × Int := if okC c then (textC c, 0) else ([], 41)
theorem ck_ok {c : CeD} (h : ckF c = 0) : okC c := by
  unfold ckF at h
  split at h
  · assumption
  · omega
theorem ck_no {c : CeD} (h : ¬ ckF c = 0) : ¬ okC c ∧ ckF c = 41 := by
  unfold ckF at h ⊢
  split at h
  · omega
  · rename_i k
    exact ⟨k, if_neg k⟩
theorem nums_in {c : CeD} (h : okC c) : ∀ n ∈ numsC c, InI n := by
  obtain ⟨h1, h2, h3, h4, h5, h6, h7, h8, h9, h10, h11, h12, h13, h14⟩ := h
  intro n hn
  simp only [numsC, List.mem_cons, List.not_mem_nil, or_false] at hn
  unfold InI
  by_cases h : c.1 ≤ 2
  · have := h9 h
    omega
  · have := h10 (by omega)
    omega
theorem text_len {c : CeD} (h : okC c) : (textC c).length ≤ 300 := by
  have h1 := say_len (nums_in h)
  have h2 := wordC_len c.1
  have h3 : (numsC c).length = 5 := rfl
  unfold textC
  rw [List.length_append]
  omega

/-! A word read. -/
def wdL (s : By) (a : Int) : List (List UInt8) → Int → Bool → Int × Int × Int
  | [], _, sh => if sh then (0, 0, 4) else (0, 0, 8)
  | w :: r, i, sh => if (litF s a w).2 = 0 then (i + 1, (litF s a w).1, 0) else if (litF s a w).2 = 2 then (0, 0, 2) else wdL s a r (i + 1) (sh || decide ((litF s a w).2 = 4))
def wdF (s : By) (a : Int) : Int × Int × Int := wdL s a wordsL 0 false
theorem words_len {w : List UInt8} (h : w ∈ wordsL) : w.length ≤ 7 := by
  simp only [wordsL, List.mem_cons, List.not_mem_nil, or_false] at h
  rcases h with rfl | rfl | rfl | rfl | rfl | rfl | rfl <;> decide
theorem wd_at {s : By} {a : Int} {l : List (List UInt8)} {i : Nat} {x : List UInt8} {n : Int} {sh : Bool} (h : l[i]? = some x) : wdL s a (l.drop i) n sh = if (litF s a x).2 = 0 then (n + 1, (litF s a x).1, 0) else if (litF s a x).2 = 2 then (0, 0, 2) else wdL s a (l.drop (i + 1)) (n + 1) (sh || decide ((litF s a x).2 = 4)) := by
  obtain ⟨h1, h2⟩ := List.getElem?_eq_some_iff.1 h
  rw [List.drop_eq_getElem_cons h1, h2]
  rfl
noncomputable def env_word (s : By) (a : Int) : Env where
  P := Tryd.prog
  ty := tys1
  specs := specsOf [sp_words, sp_lit]
  heads := fun
    | 3 => some { slots := [(14, .int .i64), (7, .bool)], boxes := [], keep := [], inv := fun _ (x : Int × Bool × Unit) => 0 ≤ x.1 ∧ x.1 ≤ 7 ∧ wdF s a = wdL s a (wordsL.drop x.1.toNat) x.1 x.2.1, measure := fun _ (x : Int × Bool × Unit) => (7 - x.1).toNat }
    | _ => none
noncomputable def g_word (s : By) (a : Int) : Prop := vc (env_word s a) (codeOf Tryd.f31) (start0 Tryd.f31 [.str s, .int .i64 a]) (exitK (tsOf Tryd.f31) [.int .i64, .int .i64, .int .i64] ((wdF s a).1, (wdF s a).2.1, (wdF s a).2.2, ()))
def g_word_vc (s : By) (a : Int) : Prop :=
  True ∧ (True ∧ (0 : Int) ≤ (0 : Int) ∧ (0 : Int) ≤ (7 : Int) ∧ wdF s a = wdL s a (List.drop (Int.toNat (0 : Int)) wordsL) (0 : Int) false) ∧ ∀ (x : Int × Bool × Unit), (0 : Int) ≤ x.fst ∧ x.fst ≤ (7 : Int) ∧ wdF s a = wdL s a (List.drop x.fst.toNat wordsL) x.fst x.snd.fst → (decide (x.fst < (↑wordsL.length : Int)) = true → ((0 : Int) ≤ x.fst ∧ x.fst < (↑wordsL.length : Int)) ∧ ∀ (x_1 : List UInt8), wordsL[x.fst.toNat]? = some x_1 → (List.length s ≤ (1000000 : Nat) ∧ x_1.length ≤ (1000000 : Nat)) ∧ (decide ((litF s a x_1).snd = (0 : Int)) = true → ((-9223372036854775808 : Int) ≤ x.fst + (1 : Int) ∧ x.fst + (1 : Int) ≤ (9223372036854775807 : Int)) ∧ (x.fst + (1 : Int), (litF s a x_1).fst, (0 : Int), ()) = ((wdF s a).fst, (wdF s a).snd.fst, (wdF s a).snd.snd, ())) ∧ (decide ((litF s a x_1).snd = (0 : Int)) = false → (decide ((litF s a x_1).snd = (2 : Int)) = true → ((0 : Int), (0 : Int), (litF s a x_1).snd, ()) = ((wdF s a).fst, (wdF s a).snd.fst, (wdF s a).snd.snd, ())) ∧ (decide ((litF s a x_1).snd = (2 : Int)) = false → (decide ((litF s a x_1).snd = (4 : Int)) = true → ((-9223372036854775808 : Int) ≤ x.fst + (1 : Int) ∧ x.fst + (1 : Int) ≤ (9223372036854775807 : Int)) ∧ True ∧ ((0 : Int) ≤ x.fst + (1 : Int) ∧ x.fst + (1 : Int) ≤ (7 : Int) ∧ wdF s a = wdL s a (List.drop (x.fst + (1 : Int)).toNat wordsL) (x.fst + (1 : Int)) true) ∧ ((7 : Int) - (x.fst + (1 : Int))).toNat < ((7 : Int) - x.fst).toNat) ∧ (decide ((litF s a x_1).snd = (4 : Int)) = false → ((-9223372036854775808 : Int) ≤ x.fst + (1 : Int) ∧ x.fst + (1 : Int) ≤ (9223372036854775807 : Int)) ∧ True ∧ ((0 : Int) ≤ x.fst + (1 : Int) ∧ x.fst + (1 : Int) ≤ (7 : Int) ∧ wdF s a = wdL s a (List.drop (x.fst + (1 : Int)).toNat wordsL) (x.fst + (1 : Int)) x.snd.fst) ∧ ((7 : Int) - (x.fst + (1 : Int))).toNat < ((7 : Int) - x.fst).toNat)))) ∧ (decide (x.fst < (↑wordsL.length : Int)) = false → (x.snd.fst = true → ((0 : Int), (0 : Int), (4 : Int), ()) = ((wdF s a).fst, (wdF s a).snd.fst, (wdF s a).snd.snd, ())) ∧ (x.snd.fst = false → ((0 : Int), (0 : Int), (8 : Int), ()) = ((wdF s a).fst, (wdF s a).snd.fst, (wdF s a).snd.snd, ())))
theorem g_word_eq (s : By) (a : Int) : g_word s a = g_word_vc s a := by kernel_rfl
theorem g_word_ok (s : By) (a : Int) (h : s.length ≤ 10000) : g_word_vc s a := by
  unfold g_word_vc
  simp only [decide_eq_true_eq, decide_eq_false_iff_not, Bool.not_eq_true', Bool.not_eq_false', Bool.not_true, Bool.not_false]
  repeat' (first | with_reducible apply And.intro | (intro (x : Int × Bool × Unit); obtain ⟨i, sh, ⟨⟩⟩ := x; rintro ⟨h0, h1, h2⟩; dsimp only at h0 h1 h2 ⊢) | intro _)
  all_goals try (first | trivial | rfl | omega)
  · rename_i hi x hx
    have := words_len (List.mem_of_getElem? hx)
    omega
  · rename_i hi x hx e
    rw [h2, wd_at hx, if_pos e]
  · rename_i hi x hx e e2
    rw [h2, wd_at hx, if_neg e, if_pos e2, e2]
  · rename_i hi x hx e e2 e4
    rw [h2, wd_at hx, if_neg e, if_neg e2, show (i + 1).toNat = i.toNat + 1 by omega]
    simp [e4]
  · rename_i hi x hx e e2 e4
    have : wordsL.length = 7 := rfl
    omega
  · rename_i hi x hx e e2 e4
    rw [h2, wd_at hx, if_neg e, if_neg e2, show (i + 1).toNat = i.toNat + 1 by omega]
    simp [e4]
  · rename_i hi x hx e e2 e4
    have : wordsL.length = 7 := rfl
    omega
  · rename_i hi hs
    rw [h2, List.drop_of_length_le (by omega), hs]
    rfl
  · rename_i hi hs
    rw [h2, List.drop_of_length_le (by omega), hs]
    rfl
set_option maxRecDepth 20000 in
theorem word_pure (s : By) (a : Int) (h : s.length ≤ 10000) : Pure Tryd.prog 31 [.str s, .int .i64 a] (.tuple [.int .i64 (wdF s a).1, .int .i64 (wdF s a).2.1, .int .i64 (wdF s a).2.2]) :=
  Pure.of_g (E := env_word s a) (ts := tsOf Tryd.f31) (ps := [.int .i64, .int .i64, .int .i64]) (r := ((wdF s a).1, (wdF s a).2.1, (wdF s a).2.2, ())) (fn := Tryd.f31) (c := codeOf Tryd.f31) (specs_ok (P := Tryd.prog) rfl [sp_words, sp_lit] [] rfl rfl) mixed Tryd.func31 rfl rfl (g := g_word s a) (by delta g_word start0; first | with_reducible exact Eq.refl _ | exact Eq.refl _) (by rw [g_word_eq s a]; exact g_word_ok s a h)
noncomputable def q_word (s : By) (a : Int) : Prop × V := (s.length ≤ 10000, (.tuple [.int .i64 (wdF s a).1, .int .i64 (wdF s a).2.1, .int .i64 (wdF s a).2.2]))
noncomputable def sp_word : FSpec Tryd.prog where
  f := 31
  run := fun args => match args with
    | [.str s, .int .i64 a] => some (q_word s a)
    | _ => none
  ok := fun args pre r h hp => by
    try dsimp only at h
    split at h
    · rename_i s a
      have h := Option.some.inj h
      unfold q_word at h
      cases h
      exact (word_pure s a hp).weak (.cons (Weak.refl _) (.cons (Weak.refl _) .nil))
    · cases h

/-- A blank and a numeral. -/
def nmF (s : By) (a e : Int) : Int × Int × Int :=
  if e = 0 then if (litF s a [32]).2 = 0 then numF s (litF s a [32]).1 0 99 else (0, (litF s a [32]).1, (litF s a [32]).2) else (0, a, e)
noncomputable def env_number (s : By) (a e : Int) : Env where
  P := Tryd.prog
  ty := tys0
  specs := specsOf [sp_lit, sp_num]
  frz := fun | 20 => true | 43 => true | _ => false
  pins := [9000]
abbrev ann_number : Ann := { slots := numP 0 [.int .i64], boxes := [(9000, [.str, .int .i64, .int .i64])], inv := fun _ _ => True }
noncomputable def g_number (s : By) (a e : Int) : Prop := vc (env_number s a e) (codeOf Tryd.f32) ⟨(start0 Tryd.f32 [.ptr 9000 0]).s, [(9000, .box [.str s, .int .i64 a, .int .i64 e])]⟩ (exitG (env_number s a e).P Tryd.f32.results.toList [none] (env_number s a e).pins ann_number ((nmF s a e).1, s, (nmF s a e).2.1, (nmF s a e).2.2, ()))
def g_number_vc (s : By) (a : Int) (e : Int) : Prop :=
  (decide (e = (0 : Int)) = true → (List.length s ≤ (1000000 : Nat) ∧ (1 : Nat) ≤ (1000000 : Nat)) ∧ (decide ((litF s a [(32 : UInt8)]).snd = (0 : Int)) = true → List.length s ≤ (10000 : Nat) ∧ True ∧ ((numF s (litF s a [(32 : UInt8)]).fst (0 : Int) (99 : Int)).fst, s, (numF s (litF s a [(32 : UInt8)]).fst (0 : Int) (99 : Int)).snd.fst, (numF s (litF s a [(32 : UInt8)]).fst (0 : Int) (99 : Int)).snd.snd, ()) = ((nmF s a e).fst, s, (nmF s a e).snd.fst, (nmF s a e).snd.snd, ())) ∧ (decide ((litF s a [(32 : UInt8)]).snd = (0 : Int)) = false → True ∧ ((0 : Int), s, (litF s a [(32 : UInt8)]).fst, (litF s a [(32 : UInt8)]).snd, ()) = ((nmF s a e).fst, s, (nmF s a e).snd.fst, (nmF s a e).snd.snd, ()))) ∧ (decide (e = (0 : Int)) = false → (decide (e = (0 : Int)) = true → List.length s ≤ (10000 : Nat) ∧ True ∧ ((numF s a (0 : Int) (99 : Int)).fst, s, (numF s a (0 : Int) (99 : Int)).snd.fst, (numF s a (0 : Int) (99 : Int)).snd.snd, ()) = ((nmF s a e).fst, s, (nmF s a e).snd.fst, (nmF s a e).snd.snd, ())) ∧ (decide (e = (0 : Int)) = false → True ∧ ((0 : Int), s, a, e, ()) = ((nmF s a e).fst, s, (nmF s a e).snd.fst, (nmF s a e).snd.snd, ())))
theorem g_number_eq (s : By) (a e : Int) : g_number s a e = g_number_vc s a e := by kernel_rfl
theorem g_number_ok (s : By) (a e : Int) (h : s.length ≤ 10000) : g_number_vc s a e := by
  unfold g_number_vc nmF
  simp only [decide_eq_true_eq, decide_eq_false_iff_not]
  repeat' (first | with_reducible apply And.intro | intro _)
  all_goals try (first | trivial | rfl | omega)
  · rename_i e e1
    rw [if_pos e, if_pos e1]
  · rename_i e e1
    rw [if_pos e, if_neg e1]
  · rename_i e _
    rw [if_neg e]
set_option maxRecDepth 20000 in
theorem number_upd (s : By) (a e : Int) (h : s.length ≤ 10000) : UpdC Tryd.prog 32 [.ptr 9000 0] [(9000, .box [.str s, .int .i64 a, .int .i64 e])] (.int .i64 (nmF s a e).1) [(9000, .box [.str s, .int .i64 (nmF s a e).2.1, .int .i64 (nmF s a e).2.2])] :=
  UpdC.of_vcG (E := env_number s a e) (sh := [none]) (ann := ann_number) (x := ((nmF s a e).1, s, (nmF s a e).2.1, (nmF s a e).2.2, ())) (fn := Tryd.f32) (c := codeOf Tryd.f32) (specs_ok (P := Tryd.prog) rfl [sp_lit, sp_num] [] rfl rfl) mixed Tryd.func32 rfl rfl rfl rfl (by
    have := g_number_ok s a e h
    rw [← g_number_eq] at this
    exact this)
noncomputable def q_number (s : By) (a e : Int) : Prop × V × Store := (s.length ≤ 10000, .int .i64 (nmF s a e).1, [(9000, .box [.str s, .int .i64 (nmF s a e).2.1, .int .i64 (nmF s a e).2.2])])
noncomputable def so_number : OSpec Tryd.prog where
  f := 32
  run := fun args σ => match args, σ with
    | [.ptr 9000 0], [(9000, .box [.str s, .int .i64 a, .int .i64 e])] => some (q_number s a e)
    | _, _ => none
  ok := fun args σ pre r σ' h hp => by
    try dsimp only at h
    split at h
    · rename_i s a e
      have h := Option.some.inj h
      unfold q_number at h
      cases h
      exact (number_upd s a e hp).weak (.cons (Weak.refl _) .nil)
    · cases h

/-- A key read. -/
def nx (s : By) (x : Int × Int × Int) : Int × Int × Int := nmF s x.2.1 x.2.2
def n1F (s : By) (a : Int) : Int × Int × Int := nmF s (wdF s a).2.1 0
def keyF (s : By) (a : Int) : CeD := ((wdF s a).1, (n1F s a).1, (nx s (n1F s a)).1, (nx s (nx s (n1F s a))).1, (nx s (nx s (nx s (n1F s a)))).1, (nx s (nx s (nx s (nx s (n1F s a))))).1)
def endF (s : By) (a : Int) : Int × Int × Int := nx s (nx s (nx s (nx s (n1F s a))))
def nilK : CeD := (0, 0, 0, 0, 0, 0)
def takeF (s : By) (a : Int) : CeD × Int × Int :=
  if (wdF s a).2.2 = 0 then
    if (endF s a).2.2 = 0 then if okC (keyF s a) then (keyF s a, (endF s a).2.1, 0) else (nilK, 0, 41)
    else (nilK, 0, (endF s a).2.2)
  else (nilK, 0, (wdF s a).2.2)
noncomputable def env_take (s : By) (a : Int) : Env where
  P := Tryd.prog
  ty := tys0
  specs := specsOf [sp_word, sp_check]
  upd := updsOf [so_number.upd]
abbrev ann_take : Ann := { slots := numP 0 [.int .i64, .int .i64, .int .i64, .int .i64, .int .i64, .int .i64, .int .i64, .int .i64], boxes := [], inv := fun _ _ => True }
noncomputable def g_take (s : By) (a : Int) : Prop := vc (env_take s a) (codeOf Tryd.f17) (start0 Tryd.f17 [.str s, .int .i64 a]) (exitG (env_take s a).P Tryd.f17.results.toList [some 6, none, none] (env_take s a).pins ann_take ((takeF s a).1.1, (takeF s a).1.2.1, (takeF s a).1.2.2.1, (takeF s a).1.2.2.2.1, (takeF s a).1.2.2.2.2.1, (takeF s a).1.2.2.2.2.2, (takeF s a).2.1, (takeF s a).2.2, ()))
def g_take_vc (s : By) (a : Int) : Prop :=
  List.length s ≤ (10000 : Nat) ∧ ((!decide ((wdF s a).snd.snd = (0 : Int))) = true → True ∧ ((0 : Int), (0 : Int), (0 : Int), (0 : Int), (0 : Int), (0 : Int), (0 : Int), (wdF s a).snd.snd, ()) = ((takeF s a).fst.fst, (takeF s a).fst.snd.fst, (takeF s a).fst.snd.snd.fst, (takeF s a).fst.snd.snd.snd.fst, (takeF s a).fst.snd.snd.snd.snd.fst, (takeF s a).fst.snd.snd.snd.snd.snd, (takeF s a).snd.fst, (takeF s a).snd.snd, ())) ∧ ((!decide ((wdF s a).snd.snd = (0 : Int))) = false → List.length s ≤ (10000 : Nat) ∧ List.length s ≤ (10000 : Nat) ∧ List.length s ≤ (10000 : Nat) ∧ List.length s ≤ (10000 : Nat) ∧ List.length s ≤ (10000 : Nat) ∧ (decide ((nmF s (nmF s (nmF s (nmF s (nmF s (wdF s a).snd.fst (0 : Int)).snd.fst (nmF s (wdF s a).snd.fst (0 : Int)).snd.snd).snd.fst (nmF s (nmF s (wdF s a).snd.fst (0 : Int)).snd.fst (nmF s (wdF s a).snd.fst (0 : Int)).snd.snd).snd.snd).snd.fst (nmF s (nmF s (nmF s (wdF s a).snd.fst (0 : Int)).snd.fst (nmF s (wdF s a).snd.fst (0 : Int)).snd.snd).snd.fst (nmF s (nmF s (wdF s a).snd.fst (0 : Int)).snd.fst (nmF s (wdF s a).snd.fst (0 : Int)).snd.snd).snd.snd).snd.snd).snd.fst (nmF s (nmF s (nmF s (nmF s (wdF s a).snd.fst (0 : Int)).snd.fst (nmF s (wdF s a).snd.fst (0 : Int)).snd.snd).snd.fst (nmF s (nmF s (wdF s a).snd.fst (0 : Int)).snd.fst (nmF s (wdF s a).snd.fst (0 : Int)).snd.snd).snd.snd).snd.fst (nmF s (nmF s (nmF s (wdF s a).snd.fst (0 : Int)).snd.fst (nmF s (wdF s a).snd.fst (0 : Int)).snd.snd).snd.fst (nmF s (nmF s (wdF s a).snd.fst (0 : Int)).snd.fst (nmF s (wdF s a).snd.fst (0 : Int)).snd.snd).snd.snd).snd.snd).snd.snd).snd.snd = (0 : Int)) = true → True ∧ ((!decide (ckF ((wdF s a).fst, (nmF s (wdF s a).snd.fst (0 : Int)).fst, (nmF s (nmF s (wdF s a).snd.fst (0 : Int)).snd.fst (nmF s (wdF s a).snd.fst (0 : Int)).snd.snd).fst, (nmF s (nmF s (nmF s (wdF s a).snd.fst (0 : Int)).snd.fst (nmF s (wdF s a).snd.fst (0 : Int)).snd.snd).snd.fst (nmF s (nmF s (wdF s a).snd.fst (0 : Int)).snd.fst (nmF s (wdF s a).snd.fst (0 : Int)).snd.snd).snd.snd).fst, (nmF s (nmF s (nmF s (nmF s (wdF s a).snd.fst (0 : Int)).snd.fst (nmF s (wdF s a).snd.fst (0 : Int)).snd.snd).snd.fst (nmF s (nmF s (wdF s a).snd.fst (0 : Int)).snd.fst (nmF s (wdF s a).snd.fst (0 : Int)).snd.snd).snd.snd).snd.fst (nmF s (nmF s (nmF s (wdF s a).snd.fst (0 : Int)).snd.fst (nmF s (wdF s a).snd.fst (0 : Int)).snd.snd).snd.fst (nmF s (nmF s (wdF s a).snd.fst (0 : Int)).snd.fst (nmF s (wdF s a).snd.fst (0 : Int)).snd.snd).snd.snd).snd.snd).fst, (nmF s (nmF s (nmF s (nmF s (nmF s (wdF s a).snd.fst (0 : Int)).snd.fst (nmF s (wdF s a).snd.fst (0 : Int)).snd.snd).snd.fst (nmF s (nmF s (wdF s a).snd.fst (0 : Int)).snd.fst (nmF s (wdF s a).snd.fst (0 : Int)).snd.snd).snd.snd).snd.fst (nmF s (nmF s (nmF s (wdF s a).snd.fst (0 : Int)).snd.fst (nmF s (wdF s a).snd.fst (0 : Int)).snd.snd).snd.fst (nmF s (nmF s (wdF s a).snd.fst (0 : Int)).snd.fst (nmF s (wdF s a).snd.fst (0 : Int)).snd.snd).snd.snd).snd.snd).snd.fst (nmF s (nmF s (nmF s (nmF s (wdF s a).snd.fst (0 : Int)).snd.fst (nmF s (wdF s a).snd.fst (0 : Int)).snd.snd).snd.fst (nmF s (nmF s (wdF s a).snd.fst (0 : Int)).snd.fst (nmF s (wdF s a).snd.fst (0 : Int)).snd.snd).snd.snd).snd.fst (nmF s (nmF s (nmF s (wdF s a).snd.fst (0 : Int)).snd.fst (nmF s (wdF s a).snd.fst (0 : Int)).snd.snd).snd.fst (nmF s (nmF s (wdF s a).snd.fst (0 : Int)).snd.fst (nmF s (wdF s a).snd.fst (0 : Int)).snd.snd).snd.snd).snd.snd).snd.snd).fst) = (0 : Int))) = true → True ∧ ((0 : Int), (0 : Int), (0 : Int), (0 : Int), (0 : Int), (0 : Int), (0 : Int), ckF ((wdF s a).fst, (nmF s (wdF s a).snd.fst (0 : Int)).fst, (nmF s (nmF s (wdF s a).snd.fst (0 : Int)).snd.fst (nmF s (wdF s a).snd.fst (0 : Int)).snd.snd).fst, (nmF s (nmF s (nmF s (wdF s a).snd.fst (0 : Int)).snd.fst (nmF s (wdF s a).snd.fst (0 : Int)).snd.snd).snd.fst (nmF s (nmF s (wdF s a).snd.fst (0 : Int)).snd.fst (nmF s (wdF s a).snd.fst (0 : Int)).snd.snd).snd.snd).fst, (nmF s (nmF s (nmF s (nmF s (wdF s a).snd.fst (0 : Int)).snd.fst (nmF s (wdF s a).snd.fst (0 : Int)).snd.snd).snd.fst (nmF s (nmF s (wdF s a).snd.fst (0 : Int)).snd.fst (nmF s (wdF s a).snd.fst (0 : Int)).snd.snd).snd.snd).snd.fst (nmF s (nmF s (nmF s (wdF s a).snd.fst (0 : Int)).snd.fst (nmF s (wdF s a).snd.fst (0 : Int)).snd.snd).snd.fst (nmF s (nmF s (wdF s a).snd.fst (0 : Int)).snd.fst (nmF s (wdF s a).snd.fst (0 : Int)).snd.snd).snd.snd).snd.snd).fst, (nmF s (nmF s (nmF s (nmF s (nmF s (wdF s a).snd.fst (0 : Int)).snd.fst (nmF s (wdF s a).snd.fst (0 : Int)).snd.snd).snd.fst (nmF s (nmF s (wdF s a).snd.fst (0 : Int)).snd.fst (nmF s (wdF s a).snd.fst (0 : Int)).snd.snd).snd.snd).snd.fst (nmF s (nmF s (nmF s (wdF s a).snd.fst (0 : Int)).snd.fst (nmF s (wdF s a).snd.fst (0 : Int)).snd.snd).snd.fst (nmF s (nmF s (wdF s a).snd.fst (0 : Int)).snd.fst (nmF s (wdF s a).snd.fst (0 : Int)).snd.snd).snd.snd).snd.snd).snd.fst (nmF s (nmF s (nmF s (nmF s (wdF s a).snd.fst (0 : Int)).snd.fst (nmF s (wdF s a).snd.fst (0 : Int)).snd.snd).snd.fst (nmF s (nmF s (wdF s a).snd.fst (0 : Int)).snd.fst (nmF s (wdF s a).snd.fst (0 : Int)).snd.snd).snd.snd).snd.fst (nmF s (nmF s (nmF s (wdF s a).snd.fst (0 : Int)).snd.fst (nmF s (wdF s a).snd.fst (0 : Int)).snd.snd).snd.fst (nmF s (nmF s (wdF s a).snd.fst (0 : Int)).snd.fst (nmF s (wdF s a).snd.fst (0 : Int)).snd.snd).snd.snd).snd.snd).snd.snd).fst), ()) = ((takeF s a).fst.fst, (takeF s a).fst.snd.fst, (takeF s a).fst.snd.snd.fst, (takeF s a).fst.snd.snd.snd.fst, (takeF s a).fst.snd.snd.snd.snd.fst, (takeF s a).fst.snd.snd.snd.snd.snd, (takeF s a).snd.fst, (takeF s a).snd.snd, ())) ∧ ((!decide (ckF ((wdF s a).fst, (nmF s (wdF s a).snd.fst (0 : Int)).fst, (nmF s (nmF s (wdF s a).snd.fst (0 : Int)).snd.fst (nmF s (wdF s a).snd.fst (0 : Int)).snd.snd).fst, (nmF s (nmF s (nmF s (wdF s a).snd.fst (0 : Int)).snd.fst (nmF s (wdF s a).snd.fst (0 : Int)).snd.snd).snd.fst (nmF s (nmF s (wdF s a).snd.fst (0 : Int)).snd.fst (nmF s (wdF s a).snd.fst (0 : Int)).snd.snd).snd.snd).fst, (nmF s (nmF s (nmF s (nmF s (wdF s a).snd.fst (0 : Int)).snd.fst (nmF s (wdF s a).snd.fst (0 : Int)).snd.snd).snd.fst (nmF s (nmF s (wdF s a).snd.fst (0 : Int)).snd.fst (nmF s (wdF s a).snd.fst (0 : Int)).snd.snd).snd.snd).snd.fst (nmF s (nmF s (nmF s (wdF s a).snd.fst (0 : Int)).snd.fst (nmF s (wdF s a).snd.fst (0 : Int)).snd.snd).snd.fst (nmF s (nmF s (wdF s a).snd.fst (0 : Int)).snd.fst (nmF s (wdF s a).snd.fst (0 : Int)).snd.snd).snd.snd).snd.snd).fst, (nmF s (nmF s (nmF s (nmF s (nmF s (wdF s a).snd.fst (0 : Int)).snd.fst (nmF s (wdF s a).snd.fst (0 : Int)).snd.snd).snd.fst (nmF s (nmF s (wdF s a).snd.fst (0 : Int)).snd.fst (nmF s (wdF s a).snd.fst (0 : Int)).snd.snd).snd.snd).snd.fst (nmF s (nmF s (nmF s (wdF s a).snd.fst (0 : Int)).snd.fst (nmF s (wdF s a).snd.fst (0 : Int)).snd.snd).snd.fst (nmF s (nmF s (wdF s a).snd.fst (0 : Int)).snd.fst (nmF s (wdF s a).snd.fst (0 : Int)).snd.snd).snd.snd).snd.snd).snd.fst (nmF s (nmF s (nmF s (nmF s (wdF s a).snd.fst (0 : Int)).snd.fst (nmF s (wdF s a).snd.fst (0 : Int)).snd.snd).snd.fst (nmF s (nmF s (wdF s a).snd.fst (0 : Int)).snd.fst (nmF s (wdF s a).snd.fst (0 : Int)).snd.snd).snd.snd).snd.fst (nmF s (nmF s (nmF s (wdF s a).snd.fst (0 : Int)).snd.fst (nmF s (wdF s a).snd.fst (0 : Int)).snd.snd).snd.fst (nmF s (nmF s (wdF s a).snd.fst (0 : Int)).snd.fst (nmF s (wdF s a).snd.fst (0 : Int)).snd.snd).snd.snd).snd.snd).snd.snd).fst) = (0 : Int))) = false → True ∧ ((wdF s a).fst, (nmF s (wdF s a).snd.fst (0 : Int)).fst, (nmF s (nmF s (wdF s a).snd.fst (0 : Int)).snd.fst (nmF s (wdF s a).snd.fst (0 : Int)).snd.snd).fst, (nmF s (nmF s (nmF s (wdF s a).snd.fst (0 : Int)).snd.fst (nmF s (wdF s a).snd.fst (0 : Int)).snd.snd).snd.fst (nmF s (nmF s (wdF s a).snd.fst (0 : Int)).snd.fst (nmF s (wdF s a).snd.fst (0 : Int)).snd.snd).snd.snd).fst, (nmF s (nmF s (nmF s (nmF s (wdF s a).snd.fst (0 : Int)).snd.fst (nmF s (wdF s a).snd.fst (0 : Int)).snd.snd).snd.fst (nmF s (nmF s (wdF s a).snd.fst (0 : Int)).snd.fst (nmF s (wdF s a).snd.fst (0 : Int)).snd.snd).snd.snd).snd.fst (nmF s (nmF s (nmF s (wdF s a).snd.fst (0 : Int)).snd.fst (nmF s (wdF s a).snd.fst (0 : Int)).snd.snd).snd.fst (nmF s (nmF s (wdF s a).snd.fst (0 : Int)).snd.fst (nmF s (wdF s a).snd.fst (0 : Int)).snd.snd).snd.snd).snd.snd).fst, (nmF s (nmF s (nmF s (nmF s (nmF s (wdF s a).snd.fst (0 : Int)).snd.fst (nmF s (wdF s a).snd.fst (0 : Int)).snd.snd).snd.fst (nmF s (nmF s (wdF s a).snd.fst (0 : Int)).snd.fst (nmF s (wdF s a).snd.fst (0 : Int)).snd.snd).snd.snd).snd.fst (nmF s (nmF s (nmF s (wdF s a).snd.fst (0 : Int)).snd.fst (nmF s (wdF s a).snd.fst (0 : Int)).snd.snd).snd.fst (nmF s (nmF s (wdF s a).snd.fst (0 : Int)).snd.fst (nmF s (wdF s a).snd.fst (0 : Int)).snd.snd).snd.snd).snd.snd).snd.fst (nmF s (nmF s (nmF s (nmF s (wdF s a).snd.fst (0 : Int)).snd.fst (nmF s (wdF s a).snd.fst (0 : Int)).snd.snd).snd.fst (nmF s (nmF s (wdF s a).snd.fst (0 : Int)).snd.fst (nmF s (wdF s a).snd.fst (0 : Int)).snd.snd).snd.snd).snd.fst (nmF s (nmF s (nmF s (wdF s a).snd.fst (0 : Int)).snd.fst (nmF s (wdF s a).snd.fst (0 : Int)).snd.snd).snd.fst (nmF s (nmF s (wdF s a).snd.fst (0 : Int)).snd.fst (nmF s (wdF s a).snd.fst (0 : Int)).snd.snd).snd.snd).snd.snd).snd.snd).fst, (nmF s (nmF s (nmF s (nmF s (nmF s (wdF s a).snd.fst (0 : Int)).snd.fst (nmF s (wdF s a).snd.fst (0 : Int)).snd.snd).snd.fst (nmF s (nmF s (wdF s a).snd.fst (0 : Int)).snd.fst (nmF s (wdF s a).snd.fst (0 : Int)).snd.snd).snd.snd).snd.fst (nmF s (nmF s (nmF s (wdF s a).snd.fst (0 : Int)).snd.fst (nmF s (wdF s a).snd.fst (0 : Int)).snd.snd).snd.fst (nmF s (nmF s (wdF s a).snd.fst (0 : Int)).snd.fst (nmF s (wdF s a).snd.fst (0 : Int)).snd.snd).snd.snd).snd.snd).snd.fst (nmF s (nmF s (nmF s (nmF s (wdF s a).snd.fst (0 : Int)).snd.fst (nmF s (wdF s a).snd.fst (0 : Int)).snd.snd).snd.fst (nmF s (nmF s (wdF s a).snd.fst (0 : Int)).snd.fst (nmF s (wdF s a).snd.fst (0 : Int)).snd.snd).snd.snd).snd.fst (nmF s (nmF s (nmF s (wdF s a).snd.fst (0 : Int)).snd.fst (nmF s (wdF s a).snd.fst (0 : Int)).snd.snd).snd.fst (nmF s (nmF s (wdF s a).snd.fst (0 : Int)).snd.fst (nmF s (wdF s a).snd.fst (0 : Int)).snd.snd).snd.snd).snd.snd).snd.snd).snd.fst, (0 : Int), ()) = ((takeF s a).fst.fst, (takeF s a).fst.snd.fst, (takeF s a).fst.snd.snd.fst, (takeF s a).fst.snd.snd.snd.fst, (takeF s a).fst.snd.snd.snd.snd.fst, (takeF s a).fst.snd.snd.snd.snd.snd, (takeF s a).snd.fst, (takeF s a).snd.snd, ()))) ∧ (decide ((nmF s (nmF s (nmF s (nmF s (nmF s (wdF s a).snd.fst (0 : Int)).snd.fst (nmF s (wdF s a).snd.fst (0 : Int)).snd.snd).snd.fst (nmF s (nmF s (wdF s a).snd.fst (0 : Int)).snd.fst (nmF s (wdF s a).snd.fst (0 : Int)).snd.snd).snd.snd).snd.fst (nmF s (nmF s (nmF s (wdF s a).snd.fst (0 : Int)).snd.fst (nmF s (wdF s a).snd.fst (0 : Int)).snd.snd).snd.fst (nmF s (nmF s (wdF s a).snd.fst (0 : Int)).snd.fst (nmF s (wdF s a).snd.fst (0 : Int)).snd.snd).snd.snd).snd.snd).snd.fst (nmF s (nmF s (nmF s (nmF s (wdF s a).snd.fst (0 : Int)).snd.fst (nmF s (wdF s a).snd.fst (0 : Int)).snd.snd).snd.fst (nmF s (nmF s (wdF s a).snd.fst (0 : Int)).snd.fst (nmF s (wdF s a).snd.fst (0 : Int)).snd.snd).snd.snd).snd.fst (nmF s (nmF s (nmF s (wdF s a).snd.fst (0 : Int)).snd.fst (nmF s (wdF s a).snd.fst (0 : Int)).snd.snd).snd.fst (nmF s (nmF s (wdF s a).snd.fst (0 : Int)).snd.fst (nmF s (wdF s a).snd.fst (0 : Int)).snd.snd).snd.snd).snd.snd).snd.snd).snd.snd = (0 : Int)) = false → ((!decide ((nmF s (nmF s (nmF s (nmF s (nmF s (wdF s a).snd.fst (0 : Int)).snd.fst (nmF s (wdF s a).snd.fst (0 : Int)).snd.snd).snd.fst (nmF s (nmF s (wdF s a).snd.fst (0 : Int)).snd.fst (nmF s (wdF s a).snd.fst (0 : Int)).snd.snd).snd.snd).snd.fst (nmF s (nmF s (nmF s (wdF s a).snd.fst (0 : Int)).snd.fst (nmF s (wdF s a).snd.fst (0 : Int)).snd.snd).snd.fst (nmF s (nmF s (wdF s a).snd.fst (0 : Int)).snd.fst (nmF s (wdF s a).snd.fst (0 : Int)).snd.snd).snd.snd).snd.snd).snd.fst (nmF s (nmF s (nmF s (nmF s (wdF s a).snd.fst (0 : Int)).snd.fst (nmF s (wdF s a).snd.fst (0 : Int)).snd.snd).snd.fst (nmF s (nmF s (wdF s a).snd.fst (0 : Int)).snd.fst (nmF s (wdF s a).snd.fst (0 : Int)).snd.snd).snd.snd).snd.fst (nmF s (nmF s (nmF s (wdF s a).snd.fst (0 : Int)).snd.fst (nmF s (wdF s a).snd.fst (0 : Int)).snd.snd).snd.fst (nmF s (nmF s (wdF s a).snd.fst (0 : Int)).snd.fst (nmF s (wdF s a).snd.fst (0 : Int)).snd.snd).snd.snd).snd.snd).snd.snd).snd.snd = (0 : Int))) = true → True ∧ ((0 : Int), (0 : Int), (0 : Int), (0 : Int), (0 : Int), (0 : Int), (0 : Int), (nmF s (nmF s (nmF s (nmF s (nmF s (wdF s a).snd.fst (0 : Int)).snd.fst (nmF s (wdF s a).snd.fst (0 : Int)).snd.snd).snd.fst (nmF s (nmF s (wdF s a).snd.fst (0 : Int)).snd.fst (nmF s (wdF s a).snd.fst (0 : Int)).snd.snd).snd.snd).snd.fst (nmF s (nmF s (nmF s (wdF s a).snd.fst (0 : Int)).snd.fst (nmF s (wdF s a).snd.fst (0 : Int)).snd.snd).snd.fst (nmF s (nmF s (wdF s a).snd.fst (0 : Int)).snd.fst (nmF s (wdF s a).snd.fst (0 : Int)).snd.snd).snd.snd).snd.snd).snd.fst (nmF s (nmF s (nmF s (nmF s (wdF s a).snd.fst (0 : Int)).snd.fst (nmF s (wdF s a).snd.fst (0 : Int)).snd.snd).snd.fst (nmF s (nmF s (wdF s a).snd.fst (0 : Int)).snd.fst (nmF s (wdF s a).snd.fst (0 : Int)).snd.snd).snd.snd).snd.fst (nmF s (nmF s (nmF s (wdF s a).snd.fst (0 : Int)).snd.fst (nmF s (wdF s a).snd.fst (0 : Int)).snd.snd).snd.fst (nmF s (nmF s (wdF s a).snd.fst (0 : Int)).snd.fst (nmF s (wdF s a).snd.fst (0 : Int)).snd.snd).snd.snd).snd.snd).snd.snd).snd.snd, ()) = ((takeF s a).fst.fst, (takeF s a).fst.snd.fst, (takeF s a).fst.snd.snd.fst, (takeF s a).fst.snd.snd.snd.fst, (takeF s a).fst.snd.snd.snd.snd.fst, (takeF s a).fst.snd.snd.snd.snd.snd, (takeF s a).snd.fst, (takeF s a).snd.snd, ())) ∧ ((!decide ((nmF s (nmF s (nmF s (nmF s (nmF s (wdF s a).snd.fst (0 : Int)).snd.fst (nmF s (wdF s a).snd.fst (0 : Int)).snd.snd).snd.fst (nmF s (nmF s (wdF s a).snd.fst (0 : Int)).snd.fst (nmF s (wdF s a).snd.fst (0 : Int)).snd.snd).snd.snd).snd.fst (nmF s (nmF s (nmF s (wdF s a).snd.fst (0 : Int)).snd.fst (nmF s (wdF s a).snd.fst (0 : Int)).snd.snd).snd.fst (nmF s (nmF s (wdF s a).snd.fst (0 : Int)).snd.fst (nmF s (wdF s a).snd.fst (0 : Int)).snd.snd).snd.snd).snd.snd).snd.fst (nmF s (nmF s (nmF s (nmF s (wdF s a).snd.fst (0 : Int)).snd.fst (nmF s (wdF s a).snd.fst (0 : Int)).snd.snd).snd.fst (nmF s (nmF s (wdF s a).snd.fst (0 : Int)).snd.fst (nmF s (wdF s a).snd.fst (0 : Int)).snd.snd).snd.snd).snd.fst (nmF s (nmF s (nmF s (wdF s a).snd.fst (0 : Int)).snd.fst (nmF s (wdF s a).snd.fst (0 : Int)).snd.snd).snd.fst (nmF s (nmF s (wdF s a).snd.fst (0 : Int)).snd.fst (nmF s (wdF s a).snd.fst (0 : Int)).snd.snd).snd.snd).snd.snd).snd.snd).snd.snd = (0 : Int))) = false → True ∧ ((wdF s a).fst, (nmF s (wdF s a).snd.fst (0 : Int)).fst, (nmF s (nmF s (wdF s a).snd.fst (0 : Int)).snd.fst (nmF s (wdF s a).snd.fst (0 : Int)).snd.snd).fst, (nmF s (nmF s (nmF s (wdF s a).snd.fst (0 : Int)).snd.fst (nmF s (wdF s a).snd.fst (0 : Int)).snd.snd).snd.fst (nmF s (nmF s (wdF s a).snd.fst (0 : Int)).snd.fst (nmF s (wdF s a).snd.fst (0 : Int)).snd.snd).snd.snd).fst, (nmF s (nmF s (nmF s (nmF s (wdF s a).snd.fst (0 : Int)).snd.fst (nmF s (wdF s a).snd.fst (0 : Int)).snd.snd).snd.fst (nmF s (nmF s (wdF s a).snd.fst (0 : Int)).snd.fst (nmF s (wdF s a).snd.fst (0 : Int)).snd.snd).snd.snd).snd.fst (nmF s (nmF s (nmF s (wdF s a).snd.fst (0 : Int)).snd.fst (nmF s (wdF s a).snd.fst (0 : Int)).snd.snd).snd.fst (nmF s (nmF s (wdF s a).snd.fst (0 : Int)).snd.fst (nmF s (wdF s a).snd.fst (0 : Int)).snd.snd).snd.snd).snd.snd).fst, (nmF s (nmF s (nmF s (nmF s (nmF s (wdF s a).snd.fst (0 : Int)).snd.fst (nmF s (wdF s a).snd.fst (0 : Int)).snd.snd).snd.fst (nmF s (nmF s (wdF s a).snd.fst (0 : Int)).snd.fst (nmF s (wdF s a).snd.fst (0 : Int)).snd.snd).snd.snd).snd.fst (nmF s (nmF s (nmF s (wdF s a).snd.fst (0 : Int)).snd.fst (nmF s (wdF s a).snd.fst (0 : Int)).snd.snd).snd.fst (nmF s (nmF s (wdF s a).snd.fst (0 : Int)).snd.fst (nmF s (wdF s a).snd.fst (0 : Int)).snd.snd).snd.snd).snd.snd).snd.fst (nmF s (nmF s (nmF s (nmF s (wdF s a).snd.fst (0 : Int)).snd.fst (nmF s (wdF s a).snd.fst (0 : Int)).snd.snd).snd.fst (nmF s (nmF s (wdF s a).snd.fst (0 : Int)).snd.fst (nmF s (wdF s a).snd.fst (0 : Int)).snd.snd).snd.snd).snd.fst (nmF s (nmF s (nmF s (wdF s a).snd.fst (0 : Int)).snd.fst (nmF s (wdF s a).snd.fst (0 : Int)).snd.snd).snd.fst (nmF s (nmF s (wdF s a).snd.fst (0 : Int)).snd.fst (nmF s (wdF s a).snd.fst (0 : Int)).snd.snd).snd.snd).snd.snd).snd.snd).fst, (nmF s (nmF s (nmF s (nmF s (nmF s (wdF s a).snd.fst (0 : Int)).snd.fst (nmF s (wdF s a).snd.fst (0 : Int)).snd.snd).snd.fst (nmF s (nmF s (wdF s a).snd.fst (0 : Int)).snd.fst (nmF s (wdF s a).snd.fst (0 : Int)).snd.snd).snd.snd).snd.fst (nmF s (nmF s (nmF s (wdF s a).snd.fst (0 : Int)).snd.fst (nmF s (wdF s a).snd.fst (0 : Int)).snd.snd).snd.fst (nmF s (nmF s (wdF s a).snd.fst (0 : Int)).snd.fst (nmF s (wdF s a).snd.fst (0 : Int)).snd.snd).snd.snd).snd.snd).snd.fst (nmF s (nmF s (nmF s (nmF s (wdF s a).snd.fst (0 : Int)).snd.fst (nmF s (wdF s a).snd.fst (0 : Int)).snd.snd).snd.fst (nmF s (nmF s (wdF s a).snd.fst (0 : Int)).snd.fst (nmF s (wdF s a).snd.fst (0 : Int)).snd.snd).snd.snd).snd.fst (nmF s (nmF s (nmF s (wdF s a).snd.fst (0 : Int)).snd.fst (nmF s (wdF s a).snd.fst (0 : Int)).snd.snd).snd.fst (nmF s (nmF s (wdF s a).snd.fst (0 : Int)).snd.fst (nmF s (wdF s a).snd.fst (0 : Int)).snd.snd).snd.snd).snd.snd).snd.snd).snd.fst, (0 : Int), ()) = ((takeF s a).fst.fst, (takeF s a).fst.snd.fst, (takeF s a).fst.snd.snd.fst, (takeF s a).fst.snd.snd.snd.fst, (takeF s a).fst.snd.snd.snd.snd.fst, (takeF s a).fst.snd.snd.snd.snd.snd, (takeF s a).snd.fst, (takeF s a).snd.snd, ()))))
theorem g_take_eq (s : By) (a : Int) : g_take s a = g_take_vc s a := by kernel_rfl
theorem g_take_ok (s : By) (a : Int) (h : s.length ≤ 10000) : g_take_vc s a := by
  unfold g_take_vc
  simp only [decide_eq_true_eq, decide_eq_false_iff_not, Bool.not_eq_true', Bool.not_eq_false', Bool.not_true, Bool.not_false]
  have hk : ∀ P : Int × Int × Int → Prop, P (nmF s (wdF s a).2.1 0) → P (n1F s a) := fun P h => h
  have e1 : nmF s (wdF s a).2.1 0 = n1F s a := rfl
  have e2 : ∀ x : Int × Int × Int, nmF s x.2.1 x.2.2 = nx s x := fun _ => rfl
  simp only [e1, e2]
  have ek : ((wdF s a).1, (n1F s a).1, (nx s (n1F s a)).1, (nx s (nx s (n1F s a))).1, (nx s (nx s (nx s (n1F s a)))).1, (nx s (nx s (nx s (nx s (n1F s a))))).1) = keyF s a := rfl
  have ee : nx s (nx s (nx s (nx s (n1F s a)))) = endF s a := rfl
  have k1 : (n1F s a).1 = (keyF s a).2.1 := rfl
  have k2 : (nx s (n1F s a)).1 = (keyF s a).2.2.1 := rfl
  have k3 : (nx s (nx s (n1F s a))).1 = (keyF s a).2.2.2.1 := rfl
  have k4 : (nx s (nx s (nx s (n1F s a)))).1 = (keyF s a).2.2.2.2.1 := rfl
  have k5 : (endF s a).1 = (keyF s a).2.2.2.2.2 := rfl
  have ek2 : ((wdF s a).1, (n1F s a).1, (nx s (n1F s a)).1, (nx s (nx s (n1F s a))).1, (nx s (nx s (nx s (n1F s a)))).1, (endF s a).1) = keyF s a := rfl
  simp only [ee, ek2]
  repeat' (first | with_reducible apply And.intro | intro _)
  all_goals try (first | trivial | rfl | omega)
  · rename_i e
    have : takeF s a = (nilK, 0, (wdF s a).2.2) := if_neg e
    rw [this]
    rfl
  · rename_i e e2 e3
    have : takeF s a = (nilK, 0, 41) := by unfold takeF; rw [if_pos e, if_pos e2, if_neg (ck_no e3).1]
    rw [this, (ck_no e3).2]
    rfl
  · rename_i e e2 e3
    have : takeF s a = (keyF s a, (endF s a).2.1, 0) := by unfold takeF; rw [if_pos e, if_pos e2, if_pos (ck_ok e3)]
    rw [this]
    rfl
  · rename_i e _ e2
    have : takeF s a = (nilK, 0, (endF s a).2.2) := by unfold takeF; rw [if_pos e, if_neg e2]
    rw [this]
    rfl
set_option maxRecDepth 20000 in
theorem take_pure (s : By) (a : Int) (h : s.length ≤ 10000) : Pure Tryd.prog 17 [.str s, .int .i64 a] (.tuple [.agg [.int .i64 (takeF s a).1.1, .int .i64 (takeF s a).1.2.1, .int .i64 (takeF s a).1.2.2.1, .int .i64 (takeF s a).1.2.2.2.1, .int .i64 (takeF s a).1.2.2.2.2.1, .int .i64 (takeF s a).1.2.2.2.2.2], .int .i64 (takeF s a).2.1, .int .i64 (takeF s a).2.2]) :=
  Pure.of_gG (E := env_take s a) (sh := [some 6, none, none]) (ann := ann_take) (x := ((takeF s a).1.1, (takeF s a).1.2.1, (takeF s a).1.2.2.1, (takeF s a).1.2.2.2.1, (takeF s a).1.2.2.2.2.1, (takeF s a).1.2.2.2.2.2, (takeF s a).2.1, (takeF s a).2.2, ())) (fn := Tryd.f17) (c := codeOf Tryd.f17) (specs_ok (P := Tryd.prog) rfl [sp_word, sp_check] [so_number.upd] rfl rfl) mixed Tryd.func17 rfl rfl rfl rfl rfl (g := g_take s a) (by delta g_take start0; first | with_reducible exact Eq.refl _ | exact Eq.refl _) (by rw [g_take_eq s a]; exact g_take_ok s a h)
noncomputable def q_take (s : By) (a : Int) : Prop × V := (s.length ≤ 10000, (.tuple [.agg [.int .i64 (takeF s a).1.1, .int .i64 (takeF s a).1.2.1, .int .i64 (takeF s a).1.2.2.1, .int .i64 (takeF s a).1.2.2.2.1, .int .i64 (takeF s a).1.2.2.2.2.1, .int .i64 (takeF s a).1.2.2.2.2.2], .int .i64 (takeF s a).2.1, .int .i64 (takeF s a).2.2]))
noncomputable def sp_take : FSpec Tryd.prog where
  f := 17
  run := fun args => match args with
    | [.str s, .int .i64 a] => some (q_take s a)
    | _ => none
  ok := fun args pre r h hp => by
    try dsimp only at h
    split at h
    · rename_i s a
      have h := Option.some.inj h
      unfold q_take at h
      cases h
      exact (take_pure s a hp).weak (.cons (Weak.refl _) (.cons (Weak.refl _) .nil))
    · cases h

end Go.Proofs.YtemgelifnjefoaaDoor
