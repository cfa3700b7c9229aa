/-
  cell: the document's text of a key, and the key of a text: the walks.
-/
import Derived.Test.YtemgelifnjefoaaGreatDoorCell6
namespace Go.Proofs.YtemgelifnjefoaaGreatDoor
open Go.Vm

def wordR (k : Int) : List UInt8 := if 1 ≤ k ∧ k ≤ 7 then wordC k else []
noncomputable def env_rword (k : Int) : Env where
  P := Tryz.prog
  ty := tys1
noncomputable def g_rword (k : Int) : Prop := vc (env_rword k) (codeOf Tryz.f20) (start0 Tryz.f20 [.int .i64 k]) (exitK (tsOf Tryz.f20) [.str] (wordR k, ()))
def g_rword_vc (k : Int) : Prop :=
  (decide (k < (1 : Int)) = false → (decide ((7 : Int) < k) = true → ([], ()) = (wordR k, ())) ∧ (decide ((7 : Int) < k) = false → ((-9223372036854775808 : Int) ≤ k - (1 : Int) ∧ k - (1 : Int) ≤ (9223372036854775807 : Int)) ∧ ((0 : Int) ≤ k - (1 : Int) ∧ k - (1 : Int) < (↑(7 : Nat) : Int)) ∧ ∀ (x : List UInt8), [[(109 : UInt8), (111 : UInt8), (118 : UInt8), (101 : UInt8)], [(98 : UInt8), (97 : UInt8), (108 : UInt8), (97 : UInt8), (110 : UInt8), (99 : UInt8), (101 : UInt8)], [(116 : UInt8), (114 : UInt8), (97 : UInt8), (110 : UInt8), (115 : UInt8)], [(112 : UInt8), (97 : UInt8), (114 : UInt8), (101 : UInt8), (110 : UInt8), (116 : UInt8)], [(109 : UInt8), (105 : UInt8), (110 : UInt8), (111 : UInt8), (114 : UInt8)], [(101 : UInt8), (108 : UInt8), (105 : UInt8), (109 : UInt8)], [(99 : UInt8), (111 : UInt8), (110 : UInt8), (115 : UInt8)]][(k - (1 : Int)).toNat]? = some x → (x, ()) = (wordR k, ()))) ∧ (decide (k < (1 : Int)) = !false → ([], ()) = (wordR k, ()))
theorem g_rword_eq (k : Int) : g_rword k = g_rword_vc k := by kernel_rfl
theorem g_rword_ok (k : Int) : g_rword_vc k := by
  unfold g_rword_vc wordR
  simp only [decide_eq_true_eq, decide_eq_false_iff_not, Bool.not_eq_true', Bool.not_eq_false', Bool.not_true, Bool.not_false]
  repeat' (first | with_reducible apply And.intro | intro _)
  all_goals try (first | trivial | rfl | omega)
  · rw [if_neg (by omega)]
  · rename_i x hx
    rw [if_pos (by omega)]
    unfold wordC wordsL
    rw [hx]
    rfl
  · rw [if_neg (by omega)]
set_option maxRecDepth 20000 in
theorem rword_pure (k : Int) : Pure Tryz.prog 20 [.int .i64 k] (.str (wordR k)) :=
  Pure.of_g (E := env_rword k) (ts := tsOf Tryz.f20) (ps := [.str]) (r := (wordR k, ())) (fn := Tryz.f20) (c := codeOf Tryz.f20) (specs_ok (P := Tryz.prog) rfl [] [] rfl rfl) mixed Tryz.func20 rfl rfl (g := g_rword k) (by delta g_rword start0; first | with_reducible exact Eq.refl _ | exact Eq.refl _) (by rw [g_rword_eq k]; exact g_rword_ok k)
noncomputable def q_rword (k : Int) : Prop × V := (True, (.str (wordR k)))
noncomputable def sp_rword : FSpec Tryz.prog where
  f := 20
  run := fun args => match args with
    | [.int .i64 k] => some (q_rword k)
    | _ => none
  ok := fun args pre r h hp => by
    try dsimp only at h
    split at h
    · rename_i k
      have h := Option.some.inj h
      unfold q_rword at h
      cases h
      exact (rword_pure k).weak (.cons (Weak.refl _) .nil)
    · cases h

noncomputable def env_rprint (r e a p c q : Int) : Env where
  P := Tryz.prog
  ty := tys0
  specs := specsOf [sp_rcheck, sp_rword, sp_fields, sp_rdigitsOf]
  heads := fun
    | 6 => some { slots := [(6, .int .i64), (4, .str)], boxes := [], keep := [], drop := [1, 10], inv := fun _ (x : Int × List UInt8 × Unit) => 1 ≤ x.1 ∧ x.1 ≤ 6 ∧ x.2.1 = wordC r ++ sayF ((numsC (r, e, a, p, c, q)).take (x.1.toNat - 1)), measure := fun _ (x : Int × List UInt8 × Unit) => (6 - x.1).toNat }
    | _ => none
noncomputable def g_rprint (r e a p c q : Int) : Prop := vc (env_rprint r e a p c q) (codeOf Tryz.f6) (start0 Tryz.f6 [.agg [.int .i64 r, .int .i64 e, .int .i64 a, .int .i64 p, .int .i64 c, .int .i64 q]]) (exitK (tsOf Tryz.f6) [.str, .int .i64] ((printC (r, e, a, p, c, q)).1, (printC (r, e, a, p, c, q)).2, ()))
def g_rprint_vc (r : Int) (e : Int) (a : Int) (p : Int) (c : Int) (q : Int) : Prop :=
  True ∧ ((!decide (ckF (r, e, a, p, c, q) = (0 : Int))) = true → ([], (41 : Int), ()) = ((printC (r, e, a, p, c, q)).fst, (printC (r, e, a, p, c, q)).snd, ())) ∧ ((!decide (ckF (r, e, a, p, c, q) = (0 : Int))) = false → True ∧ True ∧ (True ∧ (1 : Int) ≤ (1 : Int) ∧ (1 : Int) ≤ (6 : Int) ∧ wordR r = wordC r ++ sayF (List.take (Int.toNat (1 : Int) - (1 : Nat)) (numsC (r, e, a, p, c, q)))) ∧ ∀ (x : Int × List UInt8 × Unit), (1 : Int) ≤ x.fst ∧ x.fst ≤ (6 : Int) ∧ x.snd.fst = wordC r ++ sayF (List.take (x.fst.toNat - (1 : Nat)) (numsC (r, e, a, p, c, q))) → (decide (x.fst < (↑(flds (r, e, a, p, c, q)).length : Int)) = true → x.snd.fst.length + (1 : Nat) ≤ (9223372036854775807 : Nat) ∧ ((0 : Int) ≤ x.fst ∧ x.fst < (↑(flds (r, e, a, p, c, q)).length : Int)) ∧ ∀ (x_1 : Int), (flds (r, e, a, p, c, q))[x.fst.toNat]? = some x_1 → InI x_1 ∧ (x.snd.fst ++ [(32 : UInt8)]).length + (Lib.itoa x_1).length ≤ (9223372036854775807 : Nat) ∧ ((-9223372036854775808 : Int) ≤ x.fst + (1 : Int) ∧ x.fst + (1 : Int) ≤ (9223372036854775807 : Int)) ∧ True ∧ ((1 : Int) ≤ x.fst + (1 : Int) ∧ x.fst + (1 : Int) ≤ (6 : Int) ∧ x.snd.fst ++ [(32 : UInt8)] ++ Lib.itoa x_1 = wordC r ++ sayF (List.take ((x.fst + (1 : Int)).toNat - (1 : Nat)) (numsC (r, e, a, p, c, q)))) ∧ ((6 : Int) - (x.fst + (1 : Int))).toNat < ((6 : Int) - x.fst).toNat) ∧ (decide (x.fst < (↑(flds (r, e, a, p, c, q)).length : Int)) = false → (x.snd.fst, (0 : Int), ()) = ((printC (r, e, a, p, c, q)).fst, (printC (r, e, a, p, c, q)).snd, ())))
theorem g_rprint_eq (r e a p c q : Int) : g_rprint r e a p c q = g_rprint_vc r e a p c q := by kernel_rfl
theorem g_rprint_ok (r e a p c q : Int) : g_rprint_vc r e a p c q := by
  unfold g_rprint_vc
  have lens : ∀ i : Int, ckF (r, e, a, p, c, q) = 0 → (wordC r ++ sayF ((numsC (r, e, a, p, c, q)).take (i.toNat - 1))).length ≤ 300 := fun i hk => by
    have h3 := say_len (l := (numsC (r, e, a, p, c, q)).take (i.toNat - 1)) fun m hm => nums_in (ck_ok hk) m (List.mem_of_mem_take hm)
    have h4 : ((numsC (r, e, a, p, c, q)).take (i.toNat - 1)).length ≤ 5 := List.length_take_le' _ _
    have h5 := wordC_len r
    rw [List.length_append]
    omega
  have at_ : ∀ {i n : Int}, (flds (r, e, a, p, c, q))[i.toNat]? = some n → 1 ≤ i → True ∧ (i + 1).toNat - 1 = (i.toNat - 1) + 1 ∧ (numsC (r, e, a, p, c, q))[i.toNat - 1]? = some n := fun {i n} hn h0 => by
    refine ⟨trivial, by omega, ?_⟩
    rw [← hn, show i.toNat = (i.toNat - 1) + 1 by omega]
    rfl
  simp only [decide_eq_true_eq, decide_eq_false_iff_not, Bool.not_eq_true', Bool.not_eq_false', Bool.not_true, Bool.not_false]
  repeat' (first | with_reducible apply And.intro | (intro (x : Int × List UInt8 × Unit); obtain ⟨i, d, ⟨⟩⟩ := x; rintro ⟨h0, h1, h2⟩; dsimp only at h0 h1 h2 ⊢) | intro _)
  all_goals try (first | trivial | rfl | omega)
  · rename_i hk
    unfold printC
    rw [if_neg (ck_no hk).1]
  · rename_i hk
    have k1 := (ck_ok hk).1
    have k2 := (ck_ok hk).2.1
    dsimp only at k1 k2
    unfold wordR
    rw [if_pos ⟨k1, k2⟩]
    simp [sayF]
  · have := lens i (by assumption)
    rw [h2]
    omega
  · rename_i hk hi n hn
    obtain ⟨_, _, hn⟩ := at_ hn h0
    exact nums_in (ck_ok hk) n (List.mem_of_getElem? hn)
  · rename_i hk hi n hn
    have := lens i hk
    obtain ⟨_, _, hn⟩ := at_ hn h0
    have := itoa_len (nums_in (ck_ok hk) n (List.mem_of_getElem? hn))
    rw [List.length_append, h2]
    simp only [List.length_singleton]
    omega
  · rename_i hk hi n hn
    obtain ⟨_, e2, hn⟩ := at_ hn h0
    rw [e2, sayF_next hn, h2]
    simp
  · have : (flds (r, e, a, p, c, q)).length = 6 := rfl
    omega
  · rename_i hk hi
    have : (flds (r, e, a, p, c, q)).length = 6 := rfl
    unfold printC
    rw [if_pos (ck_ok hk), h2, List.take_of_length_le (by show 5 ≤ i.toNat - 1; omega)]
    rfl
set_option maxRecDepth 20000 in
theorem rprint_pure (r e a p c q : Int) : Pure Tryz.prog 6 [.agg [.int .i64 r, .int .i64 e, .int .i64 a, .int .i64 p, .int .i64 c, .int .i64 q]] (.tuple [.str (printC (r, e, a, p, c, q)).1, .int .i64 (printC (r, e, a, p, c, q)).2]) :=
  Pure.of_g (E := env_rprint r e a p c q) (ts := tsOf Tryz.f6) (ps := [.str, .int .i64]) (r := ((printC (r, e, a, p, c, q)).1, (printC (r, e, a, p, c, q)).2, ())) (fn := Tryz.f6) (c := codeOf Tryz.f6) (specs_ok (P := Tryz.prog) rfl [sp_rcheck, sp_rword, sp_fields, sp_rdigitsOf] [] rfl rfl) mixed Tryz.func6 rfl rfl (g := g_rprint r e a p c q) (by delta g_rprint start0; first | with_reducible exact Eq.refl _ | exact Eq.refl _) (by rw [g_rprint_eq r e a p c q]; exact g_rprint_ok r e a p c q)
noncomputable def q_rprint (r e a p c q : Int) : Prop × V := (True, (.tuple [.str (printC (r, e, a, p, c, q)).1, .int .i64 (printC (r, e, a, p, c, q)).2]))
noncomputable def sp_rprint : FSpec Tryz.prog where
  f := 6
  run := fun args => match args with
    | [.agg [.int .i64 r, .int .i64 e, .int .i64 a, .int .i64 p, .int .i64 c, .int .i64 q]] => some (q_rprint r e a p c q)
    | _ => none
  ok := fun args pre r h hp => by
    try dsimp only at h
    split at h
    · rename_i r e a p c q
      have h := Option.some.inj h
      unfold q_rprint at h
      cases h
      exact (rprint_pure r e a p c q).weak (.cons (Weak.refl _) .nil)
    · cases h

/-! A key read, as the document has it. -/
/-- Of the words from one on: the last that stands there, the place behind it, whether one may stand there. -/
def lastW (s : By) (a : Int) : Nat → Int × Int × Bool → Int × Int × Bool
  | 0, st => st
  | n + 1, st =>
    let k : Int := 7 - n
    lastW s a n (if (litF s a (wordR k)).2 = 0 then k else st.1, if (litF s a (wordR k)).2 = 0 then (litF s a (wordR k)).1 else st.2.1, st.2.2 || decide ((litF s a (wordR k)).2 = 4))
def lw (s : By) (a : Int) : Int × Int × Bool := lastW s a 7 (0, 0, false)
/-- So many numbers, each behind a blank. -/
def numL (s : By) : Nat → Int → List Int → List Int × Int × Int
  | 0, a, l => (l, a, 0)
  | n + 1, a, l =>
    if (litF s a [32]).2 = 0 then
      if (numF s (litF s a [32]).1 0 99).2.2 = 0 then numL s n (numF s (litF s a [32]).1 0 99).2.1 (l ++ [(numF s (litF s a [32]).1 0 99).1])
      else (l, 0, (numF s (litF s a [32]).1 0 99).2.2)
    else (l, 0, (litF s a [32]).2)
def nl (s : By) (a : Int) : List Int × Int × Int := numL s 5 (lw s a).2.1 []
def keyR (k : Int) (l : List Int) : CeD := (k, (l[0]?).getD 0, (l[1]?).getD 0, (l[2]?).getD 0, (l[3]?).getD 0, (l[4]?).getD 0)
def rtakeF (s : By) (a : Int) : CeD × Int × Int :=
  if a < 0 ∨ (s.length : Int) < a then (nilK, 0, 2)
  else if (lw s a).1 = 0 then if (lw s a).2.2 = true then (nilK, 0, 4) else (nilK, 0, 8)
  else if (nl s a).2.2 = 0 then if okC (keyR (lw s a).1 (nl s a).1) then (keyR (lw s a).1 (nl s a).1, (nl s a).2.1, 0) else (nilK, 0, 41)
  else (nilK, 0, (nl s a).2.2)
theorem last_step {s : By} {a k : Int} {st : Int × Int × Bool} (h1 : 1 ≤ k) (h7 : k ≤ 7) : lastW s a (8 - k).toNat st = lastW s a (8 - (k + 1)).toNat (if (litF s a (wordR k)).2 = 0 then k else st.1, if (litF s a (wordR k)).2 = 0 then (litF s a (wordR k)).1 else st.2.1, st.2.2 || decide ((litF s a (wordR k)).2 = 4)) := by
  have e : (8 - k).toNat = (8 - (k + 1)).toNat + 1 := by omega
  have e2 : (7 : Int) - ((8 - (k + 1)).toNat : Nat) = k := by omega
  rw [e, lastW]
  simp only [e2]
theorem lw_end {s : By} {a k : Int} {st : Int × Int × Bool} (h : lw s a = lastW s a (8 - k).toNat st) (h8 : k ≤ 8) (hk : ¬ k ≤ 7) : lw s a = st := by
  rw [h, show (8 - k).toNat = 0 by omega]
  rfl
theorem key_at {l : List Int} {x1 x2 x3 x4 x5 : Int} (k : Int) (h1 : l[Int.toNat 0]? = some x1) (h2 : l[Int.toNat 1]? = some x2) (h3 : l[Int.toNat 2]? = some x3) (h4 : l[Int.toNat 3]? = some x4) (h5 : l[Int.toNat 4]? = some x5) : keyR k l = (k, x1, x2, x3, x4, x5) := by
  have h1 : l[0]? = some x1 := h1
  have h2 : l[1]? = some x2 := h2
  have h3 : l[2]? = some x3 := h3
  have h4 : l[3]? = some x4 := h4
  have h5 : l[4]? = some x5 := h5
  unfold keyR
  rw [h1, h2, h3, h4, h5]
  rfl
noncomputable def env_rtake (s : By) (a : Int) : Env where
  P := Tryz.prog
  ty := tys0
  specs := specsOf [sp_rword, sp_rlit, sp_rnum, sp_rcheck]
  heads := fun
    | 7 => some { slots := [(10, .int .i64), (8, .int .i64), (9, .bool)], boxes := [(7, [.int .i64, .any, .any, .any, .any, .any])], keep := [4], inv := fun _ (x : Int × Int × Bool × Int × Unit × Unit × Unit × Unit × Unit × Unit) => 1 ≤ x.1 ∧ x.1 ≤ 8 ∧ lw s a = lastW s a (8 - x.1).toNat (x.2.2.2.1, x.2.1, x.2.2.1), measure := fun _ (x : Int × Int × Bool × Int × Unit × Unit × Unit × Unit × Unit × Unit) => (8 - x.1).toNat }
    | 20 => some { slots := [(14, .int .i64), (8, .int .i64), (13, .slc 9000 I)], boxes := [], keep := [4, 7], inv := fun _ (x : Int × Int × List Int × Unit) => 0 ≤ x.1 ∧ x.1 ≤ 5 ∧ x.2.2.1.length = x.1 ∧ nl s a = numL s (5 - x.1).toNat x.2.1 x.2.2.1, measure := fun _ (x : Int × Int × List Int × Unit) => (5 - x.1).toNat }
    | _ => none
abbrev ann_rtake : Ann := { slots := numP 0 [.int .i64, .int .i64, .int .i64, .int .i64, .int .i64, .int .i64, .int .i64, .int .i64], boxes := [], inv := fun _ _ => True }
noncomputable def g_rtake (s : By) (a : Int) : Prop := vc (env_rtake s a) (codeOf Tryz.f8) (start0 Tryz.f8 [.str s, .int .i64 a]) (exitG (env_rtake s a).P Tryz.f8.results.toList [some 6, none, none] (env_rtake s a).pins ann_rtake ((rtakeF s a).1.1, (rtakeF s a).1.2.1, (rtakeF s a).1.2.2.1, (rtakeF s a).1.2.2.2.1, (rtakeF s a).1.2.2.2.2.1, (rtakeF s a).1.2.2.2.2.2, (rtakeF s a).2.1, (rtakeF s a).2.2, ()))
abbrev bx_rtake_1  : _root_.Go.Vm.Obj := Obj.box [V.int IntKind.i64 (0 : Int), V.int IntKind.i64 (0 : Int), V.int IntKind.i64 (0 : Int), V.int IntKind.i64 (0 : Int), V.int IntKind.i64 (0 : Int), V.int IntKind.i64 (0 : Int)]
def g_rtake_vc (s : By) (a : Int) : Prop :=
  (decide (a < (0 : Int)) = false → (decide ((↑(List.length s) : Int) < a) = true → True ∧ ((0 : Int), (0 : Int), (0 : Int), (0 : Int), (0 : Int), (0 : Int), (0 : Int), (2 : Int), ()) = ((rtakeF s a).fst.fst, (rtakeF s a).fst.snd.fst, (rtakeF s a).fst.snd.snd.fst, (rtakeF s a).fst.snd.snd.snd.fst, (rtakeF s a).fst.snd.snd.snd.snd.fst, (rtakeF s a).fst.snd.snd.snd.snd.snd, (rtakeF s a).snd.fst, (rtakeF s a).snd.snd, ())) ∧ (decide ((↑(List.length s) : Int) < a) = false → ((some bx_rtake_1 = some bx_rtake_1 ∧ True) ∧ (1 : Int) ≤ (1 : Int) ∧ (1 : Int) ≤ (8 : Int) ∧ lw s a = lastW s a ((8 : Int) - (1 : Int)).toNat ((0 : Int), (0 : Int), false)) ∧ ∀ (x : Int × Int × Bool × Int × Unit × Unit × Unit × Unit × Unit × Unit), (1 : Int) ≤ x.fst ∧ x.fst ≤ (8 : Int) ∧ lw s a = lastW s a ((8 : Int) - x.fst).toNat (x.snd.snd.snd.fst, x.snd.fst, x.snd.snd.fst) → (decide (x.fst ≤ (7 : Int)) = true → True ∧ (List.length s ≤ (1000000 : Nat) ∧ (wordR x.fst).length ≤ (1000000 : Nat)) ∧ (decide ((litF s a (wordR x.fst)).snd = (0 : Int)) = true → (x.snd.snd.fst = false → ((-9223372036854775808 : Int) ≤ x.fst + (1 : Int) ∧ x.fst + (1 : Int) ≤ (9223372036854775807 : Int)) ∧ (some bx_rtake_1 = some bx_rtake_1 ∧ True) ∧ ((1 : Int) ≤ x.fst + (1 : Int) ∧ x.fst + (1 : Int) ≤ (8 : Int) ∧ lw s a = lastW s a ((8 : Int) - (x.fst + (1 : Int))).toNat (x.fst, (litF s a (wordR x.fst)).fst, decide ((litF s a (wordR x.fst)).snd = (4 : Int)))) ∧ ((8 : Int) - (x.fst + (1 : Int))).toNat < ((8 : Int) - x.fst).toNat) ∧ (x.snd.snd.fst = !false → ((-9223372036854775808 : Int) ≤ x.fst + (1 : Int) ∧ x.fst + (1 : Int) ≤ (9223372036854775807 : Int)) ∧ (some bx_rtake_1 = some bx_rtake_1 ∧ True) ∧ ((1 : Int) ≤ x.fst + (1 : Int) ∧ x.fst + (1 : Int) ≤ (8 : Int) ∧ lw s a = lastW s a ((8 : Int) - (x.fst + (1 : Int))).toNat (x.fst, (litF s a (wordR x.fst)).fst, true)) ∧ ((8 : Int) - (x.fst + (1 : Int))).toNat < ((8 : Int) - x.fst).toNat)) ∧ (decide ((litF s a (wordR x.fst)).snd = (0 : Int)) = false → (x.snd.snd.fst = false → ((-9223372036854775808 : Int) ≤ x.fst + (1 : Int) ∧ x.fst + (1 : Int) ≤ (9223372036854775807 : Int)) ∧ (some bx_rtake_1 = some bx_rtake_1 ∧ True) ∧ ((1 : Int) ≤ x.fst + (1 : Int) ∧ x.fst + (1 : Int) ≤ (8 : Int) ∧ lw s a = lastW s a ((8 : Int) - (x.fst + (1 : Int))).toNat (x.snd.snd.snd.fst, x.snd.fst, decide ((litF s a (wordR x.fst)).snd = (4 : Int)))) ∧ ((8 : Int) - (x.fst + (1 : Int))).toNat < ((8 : Int) - x.fst).toNat) ∧ (x.snd.snd.fst = !false → ((-9223372036854775808 : Int) ≤ x.fst + (1 : Int) ∧ x.fst + (1 : Int) ≤ (9223372036854775807 : Int)) ∧ (some bx_rtake_1 = some bx_rtake_1 ∧ True) ∧ ((1 : Int) ≤ x.fst + (1 : Int) ∧ x.fst + (1 : Int) ≤ (8 : Int) ∧ lw s a = lastW s a ((8 : Int) - (x.fst + (1 : Int))).toNat (x.snd.snd.snd.fst, x.snd.fst, true)) ∧ ((8 : Int) - (x.fst + (1 : Int))).toNat < ((8 : Int) - x.fst).toNat))) ∧ (decide (x.fst ≤ (7 : Int)) = false → (decide (x.snd.snd.snd.fst = (0 : Int)) = true → (x.snd.snd.fst = true → True ∧ ((0 : Int), (0 : Int), (0 : Int), (0 : Int), (0 : Int), (0 : Int), (0 : Int), (4 : Int), ()) = ((rtakeF s a).fst.fst, (rtakeF s a).fst.snd.fst, (rtakeF s a).fst.snd.snd.fst, (rtakeF s a).fst.snd.snd.snd.fst, (rtakeF s a).fst.snd.snd.snd.snd.fst, (rtakeF s a).fst.snd.snd.snd.snd.snd, (rtakeF s a).snd.fst, (rtakeF s a).snd.snd, ())) ∧ (x.snd.snd.fst = false → (decide (x.snd.snd.snd.fst = (0 : Int)) = true → True ∧ ((0 : Int), (0 : Int), (0 : Int), (0 : Int), (0 : Int), (0 : Int), (0 : Int), (8 : Int), ()) = ((rtakeF s a).fst.fst, (rtakeF s a).fst.snd.fst, (rtakeF s a).fst.snd.snd.fst, (rtakeF s a).fst.snd.snd.snd.fst, (rtakeF s a).fst.snd.snd.snd.snd.fst, (rtakeF s a).fst.snd.snd.snd.snd.snd, (rtakeF s a).snd.fst, (rtakeF s a).snd.snd, ())) ∧ (decide (x.snd.snd.snd.fst = (0 : Int)) = false → ((some bx_rtake_1 = some bx_rtake_1 ∧ some (Obj.box [V.int IntKind.i64 x.snd.snd.snd.fst, V.any, V.any, V.any, V.any, V.any]) = some (Obj.box [V.int IntKind.i64 x.snd.snd.snd.fst, V.any, V.any, V.any, V.any, V.any]) ∧ True) ∧ (0 : Int) ≤ (0 : Int) ∧ (0 : Int) ≤ (5 : Int) ∧ (↑(0 : Nat) : Int) = (0 : Int) ∧ nl s a = numL s ((5 : Int) - (0 : Int)).toNat x.snd.fst []) ∧ ∀ (x_1 : Int × Int × List Int × Unit), (0 : Int) ≤ x_1.fst ∧ x_1.fst ≤ (5 : Int) ∧ (↑x_1.snd.snd.fst.length : Int) = x_1.fst ∧ nl s a = numL s ((5 : Int) - x_1.fst).toNat x_1.snd.fst x_1.snd.snd.fst → (decide (x_1.fst < (5 : Int)) = true → (List.length s ≤ (1000000 : Nat) ∧ (1 : Nat) ≤ (1000000 : Nat)) ∧ ((!decide ((litF s x_1.snd.fst [(32 : UInt8)]).snd = (0 : Int))) = true → True ∧ ((0 : Int), (0 : Int), (0 : Int), (0 : Int), (0 : Int), (0 : Int), (0 : Int), (litF s x_1.snd.fst [(32 : UInt8)]).snd, ()) = ((rtakeF s a).fst.fst, (rtakeF s a).fst.snd.fst, (rtakeF s a).fst.snd.snd.fst, (rtakeF s a).fst.snd.snd.snd.fst, (rtakeF s a).fst.snd.snd.snd.snd.fst, (rtakeF s a).fst.snd.snd.snd.snd.snd, (rtakeF s a).snd.fst, (rtakeF s a).snd.snd, ())) ∧ ((!decide ((litF s x_1.snd.fst [(32 : UInt8)]).snd = (0 : Int))) = false → List.length s ≤ (10000 : Nat) ∧ ((!decide ((numF s (litF s x_1.snd.fst [(32 : UInt8)]).fst (0 : Int) (99 : Int)).snd.snd = (0 : Int))) = true → True ∧ ((0 : Int), (0 : Int), (0 : Int), (0 : Int), (0 : Int), (0 : Int), (0 : Int), (numF s (litF s x_1.snd.fst [(32 : UInt8)]).fst (0 : Int) (99 : Int)).snd.snd, ()) = ((rtakeF s a).fst.fst, (rtakeF s a).fst.snd.fst, (rtakeF s a).fst.snd.snd.fst, (rtakeF s a).fst.snd.snd.snd.fst, (rtakeF s a).fst.snd.snd.snd.snd.fst, (rtakeF s a).fst.snd.snd.snd.snd.snd, (rtakeF s a).snd.fst, (rtakeF s a).snd.snd, ())) ∧ ((!decide ((numF s (litF s x_1.snd.fst [(32 : UInt8)]).fst (0 : Int) (99 : Int)).snd.snd = (0 : Int))) = false → ((x_1.snd.snd.fst.length + (1 : Nat)) * (8 : Nat) ≤ (140737488355328 : Nat) ∧ x_1.snd.snd.fst.length + (1 : Nat) ≤ (4611686018427387904 : Nat)) ∧ ((-9223372036854775808 : Int) ≤ x_1.fst + (1 : Int) ∧ x_1.fst + (1 : Int) ≤ (9223372036854775807 : Int)) ∧ (some bx_rtake_1 = some bx_rtake_1 ∧ some (Obj.box [V.int IntKind.i64 x.snd.snd.snd.fst, V.any, V.any, V.any, V.any, V.any]) = some (Obj.box [V.int IntKind.i64 x.snd.snd.snd.fst, V.any, V.any, V.any, V.any, V.any]) ∧ True) ∧ ((0 : Int) ≤ x_1.fst + (1 : Int) ∧ x_1.fst + (1 : Int) ≤ (5 : Int) ∧ (↑(x_1.snd.snd.fst ++ [(numF s (litF s x_1.snd.fst [(32 : UInt8)]).fst (0 : Int) (99 : Int)).fst]).length : Int) = x_1.fst + (1 : Int) ∧ nl s a = numL s ((5 : Int) - (x_1.fst + (1 : Int))).toNat (numF s (litF s x_1.snd.fst [(32 : UInt8)]).fst (0 : Int) (99 : Int)).snd.fst (x_1.snd.snd.fst ++ [(numF s (litF s x_1.snd.fst [(32 : UInt8)]).fst (0 : Int) (99 : Int)).fst])) ∧ ((5 : Int) - (x_1.fst + (1 : Int))).toNat < ((5 : Int) - x_1.fst).toNat))) ∧ (decide (x_1.fst < (5 : Int)) = false → ((0 : Int) ≤ (0 : Int) ∧ (0 : Int) < (↑x_1.snd.snd.fst.length : Int)) ∧ Int.toNat (0 : Int) < x_1.snd.snd.fst.length ∧ ∀ (x_2 : Int), x_1.snd.snd.fst[Int.toNat (0 : Int)]? = some x_2 → ((0 : Int) ≤ (1 : Int) ∧ (1 : Int) < (↑x_1.snd.snd.fst.length : Int)) ∧ Int.toNat (1 : Int) < x_1.snd.snd.fst.length ∧ ∀ (x_3 : Int), x_1.snd.snd.fst[Int.toNat (1 : Int)]? = some x_3 → ((0 : Int) ≤ (2 : Int) ∧ (2 : Int) < (↑x_1.snd.snd.fst.length : Int)) ∧ Int.toNat (2 : Int) < x_1.snd.snd.fst.length ∧ ∀ (x_4 : Int), x_1.snd.snd.fst[Int.toNat (2 : Int)]? = some x_4 → ((0 : Int) ≤ (3 : Int) ∧ (3 : Int) < (↑x_1.snd.snd.fst.length : Int)) ∧ Int.toNat (3 : Int) < x_1.snd.snd.fst.length ∧ ∀ (x_5 : Int), x_1.snd.snd.fst[Int.toNat (3 : Int)]? = some x_5 → ((0 : Int) ≤ (4 : Int) ∧ (4 : Int) < (↑x_1.snd.snd.fst.length : Int)) ∧ Int.toNat (4 : Int) < x_1.snd.snd.fst.length ∧ ∀ (x_6 : Int), x_1.snd.snd.fst[Int.toNat (4 : Int)]? = some x_6 → True ∧ ((!decide (ckF (x.snd.snd.snd.fst, x_2, x_3, x_4, x_5, x_6) = (0 : Int))) = true → True ∧ ((0 : Int), (0 : Int), (0 : Int), (0 : Int), (0 : Int), (0 : Int), (0 : Int), (41 : Int), ()) = ((rtakeF s a).fst.fst, (rtakeF s a).fst.snd.fst, (rtakeF s a).fst.snd.snd.fst, (rtakeF s a).fst.snd.snd.snd.fst, (rtakeF s a).fst.snd.snd.snd.snd.fst, (rtakeF s a).fst.snd.snd.snd.snd.snd, (rtakeF s a).snd.fst, (rtakeF s a).snd.snd, ())) ∧ ((!decide (ckF (x.snd.snd.snd.fst, x_2, x_3, x_4, x_5, x_6) = (0 : Int))) = false → True ∧ (x.snd.snd.snd.fst, x_2, x_3, x_4, x_5, x_6, x_1.snd.fst, (0 : Int), ()) = ((rtakeF s a).fst.fst, (rtakeF s a).fst.snd.fst, (rtakeF s a).fst.snd.snd.fst, (rtakeF s a).fst.snd.snd.snd.fst, (rtakeF s a).fst.snd.snd.snd.snd.fst, (rtakeF s a).fst.snd.snd.snd.snd.snd, (rtakeF s a).snd.fst, (rtakeF s a).snd.snd, ())))))) ∧ (decide (x.snd.snd.snd.fst = (0 : Int)) = !true → (decide (x.snd.snd.snd.fst = (0 : Int)) = true → True ∧ ((0 : Int), (0 : Int), (0 : Int), (0 : Int), (0 : Int), (0 : Int), (0 : Int), (8 : Int), ()) = ((rtakeF s a).fst.fst, (rtakeF s a).fst.snd.fst, (rtakeF s a).fst.snd.snd.fst, (rtakeF s a).fst.snd.snd.snd.fst, (rtakeF s a).fst.snd.snd.snd.snd.fst, (rtakeF s a).fst.snd.snd.snd.snd.snd, (rtakeF s a).snd.fst, (rtakeF s a).snd.snd, ())) ∧ (decide (x.snd.snd.snd.fst = (0 : Int)) = false → ((some bx_rtake_1 = some bx_rtake_1 ∧ some (Obj.box [V.int IntKind.i64 x.snd.snd.snd.fst, V.any, V.any, V.any, V.any, V.any]) = some (Obj.box [V.int IntKind.i64 x.snd.snd.snd.fst, V.any, V.any, V.any, V.any, V.any]) ∧ True) ∧ (0 : Int) ≤ (0 : Int) ∧ (0 : Int) ≤ (5 : Int) ∧ (↑(0 : Nat) : Int) = (0 : Int) ∧ nl s a = numL s ((5 : Int) - (0 : Int)).toNat x.snd.fst []) ∧ ∀ (x_1 : Int × Int × List Int × Unit), (0 : Int) ≤ x_1.fst ∧ x_1.fst ≤ (5 : Int) ∧ (↑x_1.snd.snd.fst.length : Int) = x_1.fst ∧ nl s a = numL s ((5 : Int) - x_1.fst).toNat x_1.snd.fst x_1.snd.snd.fst → (decide (x_1.fst < (5 : Int)) = true → (List.length s ≤ (1000000 : Nat) ∧ (1 : Nat) ≤ (1000000 : Nat)) ∧ ((!decide ((litF s x_1.snd.fst [(32 : UInt8)]).snd = (0 : Int))) = true → True ∧ ((0 : Int), (0 : Int), (0 : Int), (0 : Int), (0 : Int), (0 : Int), (0 : Int), (litF s x_1.snd.fst [(32 : UInt8)]).snd, ()) = ((rtakeF s a).fst.fst, (rtakeF s a).fst.snd.fst, (rtakeF s a).fst.snd.snd.fst, (rtakeF s a).fst.snd.snd.snd.fst, (rtakeF s a).fst.snd.snd.snd.snd.fst, (rtakeF s a).fst.snd.snd.snd.snd.snd, (rtakeF s a).snd.fst, (rtakeF s a).snd.snd, ())) ∧ ((!decide ((litF s x_1.snd.fst [(32 : UInt8)]).snd = (0 : Int))) = false → List.length s ≤ (10000 : Nat) ∧ ((!decide ((numF s (litF s x_1.snd.fst [(32 : UInt8)]).fst (0 : Int) (99 : Int)).snd.snd = (0 : Int))) = true → True ∧ ((0 : Int), (0 : Int), (0 : Int), (0 : Int), (0 : Int), (0 : Int), (0 : Int), (numF s (litF s x_1.snd.fst [(32 : UInt8)]).fst (0 : Int) (99 : Int)).snd.snd, ()) = ((rtakeF s a).fst.fst, (rtakeF s a).fst.snd.fst, (rtakeF s a).fst.snd.snd.fst, (rtakeF s a).fst.snd.snd.snd.fst, (rtakeF s a).fst.snd.snd.snd.snd.fst, (rtakeF s a).fst.snd.snd.snd.snd.snd, (rtakeF s a).snd.fst, (rtakeF s a).snd.snd, ())) ∧ ((!decide ((numF s (litF s x_1.snd.fst [(32 : UInt8)]).fst (0 : Int) (99 : Int)).snd.snd = (0 : Int))) = false → ((x_1.snd.snd.fst.length + (1 : Nat)) * (8 : Nat) ≤ (140737488355328 : Nat) ∧ x_1.snd.snd.fst.length + (1 : Nat) ≤ (4611686018427387904 : Nat)) ∧ ((-9223372036854775808 : Int) ≤ x_1.fst + (1 : Int) ∧ x_1.fst + (1 : Int) ≤ (9223372036854775807 : Int)) ∧ (some bx_rtake_1 = some bx_rtake_1 ∧ some (Obj.box [V.int IntKind.i64 x.snd.snd.snd.fst, V.any, V.any, V.any, V.any, V.any]) = some (Obj.box [V.int IntKind.i64 x.snd.snd.snd.fst, V.any, V.any, V.any, V.any, V.any]) ∧ True) ∧ ((0 : Int) ≤ x_1.fst + (1 : Int) ∧ x_1.fst + (1 : Int) ≤ (5 : Int) ∧ (↑(x_1.snd.snd.fst ++ [(numF s (litF s x_1.snd.fst [(32 : UInt8)]).fst (0 : Int) (99 : Int)).fst]).length : Int) = x_1.fst + (1 : Int) ∧ nl s a = numL s ((5 : Int) - (x_1.fst + (1 : Int))).toNat (numF s (litF s x_1.snd.fst [(32 : UInt8)]).fst (0 : Int) (99 : Int)).snd.fst (x_1.snd.snd.fst ++ [(numF s (litF s x_1.snd.fst [(32 : UInt8)]).fst (0 : Int) (99 : Int)).fst])) ∧ ((5 : Int) - (x_1.fst + (1 : Int))).toNat < ((5 : Int) - x_1.fst).toNat))) ∧ (decide (x_1.fst < (5 : Int)) = false → ((0 : Int) ≤ (0 : Int) ∧ (0 : Int) < (↑x_1.snd.snd.fst.length : Int)) ∧ Int.toNat (0 : Int) < x_1.snd.snd.fst.length ∧ ∀ (x_2 : Int), x_1.snd.snd.fst[Int.toNat (0 : Int)]? = some x_2 → ((0 : Int) ≤ (1 : Int) ∧ (1 : Int) < (↑x_1.snd.snd.fst.length : Int)) ∧ Int.toNat (1 : Int) < x_1.snd.snd.fst.length ∧ ∀ (x_3 : Int), x_1.snd.snd.fst[Int.toNat (1 : Int)]? = some x_3 → ((0 : Int) ≤ (2 : Int) ∧ (2 : Int) < (↑x_1.snd.snd.fst.length : Int)) ∧ Int.toNat (2 : Int) < x_1.snd.snd.fst.length ∧ ∀ (x_4 : Int), x_1.snd.snd.fst[Int.toNat (2 : Int)]? = some x_4 → ((0 : Int) ≤ (3 : Int) ∧ (3 : Int) < (↑x_1.snd.snd.fst.length : Int)) ∧ Int.toNat (3 : Int) < x_1.snd.snd.fst.length ∧ ∀ (x_5 : Int), x_1.snd.snd.fst[Int.toNat (3 : Int)]? = some x_5 → ((0 : Int) ≤ (4 : Int) ∧ (4 : Int) < (↑x_1.snd.snd.fst.length : Int)) ∧ Int.toNat (4 : Int) < x_1.snd.snd.fst.length ∧ ∀ (x_6 : Int), x_1.snd.snd.fst[Int.toNat (4 : Int)]? = some x_6 → True ∧ ((!decide (ckF (x.snd.snd.snd.fst, x_2, x_3, x_4, x_5, x_6) = (0 : Int))) = true → True ∧ ((0 : Int), (0 : Int), (0 : Int), (0 : Int), (0 : Int), (0 : Int), (0 : Int), (41 : Int), ()) = ((rtakeF s a).fst.fst, (rtakeF s a).fst.snd.fst, (rtakeF s a).fst.snd.snd.fst, (rtakeF s a).fst.snd.snd.snd.fst, (rtakeF s a).fst.snd.snd.snd.snd.fst, (rtakeF s a).fst.snd.snd.snd.snd.snd, (rtakeF s a).snd.fst, (rtakeF s a).snd.snd, ())) ∧ ((!decide (ckF (x.snd.snd.snd.fst, x_2, x_3, x_4, x_5, x_6) = (0 : Int))) = false → True ∧ (x.snd.snd.snd.fst, x_2, x_3, x_4, x_5, x_6, x_1.snd.fst, (0 : Int), ()) = ((rtakeF s a).fst.fst, (rtakeF s a).fst.snd.fst, (rtakeF s a).fst.snd.snd.fst, (rtakeF s a).fst.snd.snd.snd.fst, (rtakeF s a).fst.snd.snd.snd.snd.fst, (rtakeF s a).fst.snd.snd.snd.snd.snd, (rtakeF s a).snd.fst, (rtakeF s a).snd.snd, ())))))))) ∧ (decide (a < (0 : Int)) = !false → True ∧ ((0 : Int), (0 : Int), (0 : Int), (0 : Int), (0 : Int), (0 : Int), (0 : Int), (2 : Int), ()) = ((rtakeF s a).fst.fst, (rtakeF s a).fst.snd.fst, (rtakeF s a).fst.snd.snd.fst, (rtakeF s a).fst.snd.snd.snd.fst, (rtakeF s a).fst.snd.snd.snd.snd.fst, (rtakeF s a).fst.snd.snd.snd.snd.snd, (rtakeF s a).snd.fst, (rtakeF s a).snd.snd, ()))
theorem g_rtake_eq (s : By) (a : Int) : g_rtake s a = g_rtake_vc s a := by kernel_rfl
theorem g_rtake_ok (s : By) (a : Int) (h : s.length ≤ 10000) : g_rtake_vc s a := by
  unfold g_rtake_vc
  simp only [decide_eq_true_eq, decide_eq_false_iff_not, Bool.not_eq_true', Bool.not_eq_false', Bool.not_true, Bool.not_false]
  repeat' (first | with_reducible apply And.intro | (intro (x : Int × Int × Bool × Int × Unit × Unit × Unit × Unit × Unit × Unit); obtain ⟨k, nx, sh, rl, ⟨⟩, ⟨⟩, ⟨⟩, ⟨⟩, ⟨⟩, ⟨⟩⟩ := x; rintro ⟨h0, h1, h2⟩; dsimp only at h0 h1 h2 ⊢) | (intro (x : Int × Int × List Int × Unit); obtain ⟨i, nx2, l, ⟨⟩⟩ := x; rintro ⟨g0, g1, g2, g3⟩; dsimp only at g0 g1 g2 g3 ⊢) | intro _)
  all_goals try (first | trivial | rfl | omega)
  · rename_i b1 b2
    rw [show rtakeF s a = (nilK, 0, 2) from if_pos (.inr b2)]
    rfl
  · have : (wordR k).length ≤ 7 := by
      unfold wordR
      split
      · exact wordC_len k
      · simp
    omega
  · rename_i b1 b2 k7 e sf
    rw [h2, last_step h0 k7, if_pos e, if_pos e, sf, Bool.false_or]
  · rename_i b1 b2 k7 e sf
    rw [h2, last_step h0 k7, if_pos e, if_pos e, sf, Bool.true_or]
  · rename_i b1 b2 k7 e sf
    rw [h2, last_step h0 k7, if_neg e, if_neg e, sf, Bool.false_or]
  · rename_i b1 b2 k7 e sf
    rw [h2, last_step h0 k7, if_neg e, if_neg e, sf, Bool.true_or]
  · rename_i b1 b2 k7 e sf
    have hl := lw_end h2 h1 k7
    rw [show rtakeF s a = (nilK, 0, 4) by unfold rtakeF; rw [if_neg (by omega), hl, if_pos e, if_pos sf]]
    rfl
  · rename_i b1 b2 k7 e sf e2
    have hl := lw_end h2 h1 k7
    rw [show rtakeF s a = (nilK, 0, 8) by unfold rtakeF; rw [if_neg (by omega), hl, if_pos e, if_neg (by rw [sf]; simp)]]
    rfl
  · rename_i b1 b2 k7 e e2
    have hl := lw_end h2 h1 k7
    unfold nl
    rw [hl]
    rfl
  · rename_i b1 b2 k7 e e2 i5 n
    have hl := lw_end h2 h1 k7
    have hn : (nl s a).2.2 = (litF s nx2 [32]).2 := by
      rw [g3, show (5 - i).toNat = (5 - (i + 1)).toNat + 1 by omega, numL, if_neg n]
    rw [show rtakeF s a = (nilK, 0, (litF s nx2 [32]).2) by unfold rtakeF; rw [if_neg (by omega), hl, if_neg e, hn, if_neg n]]
    rfl
  · rename_i b1 b2 k7 e e2 i5 l0 n
    have hl := lw_end h2 h1 k7
    have hn : (nl s a).2.2 = (numF s (litF s nx2 [32]).1 0 99).2.2 := by
      rw [g3, show (5 - i).toNat = (5 - (i + 1)).toNat + 1 by omega, numL, if_pos l0, if_neg n]
    rw [show rtakeF s a = (nilK, 0, (numF s (litF s nx2 [32]).1 0 99).2.2) by unfold rtakeF; rw [if_neg (by omega), hl, if_neg e, hn, if_neg n]]
    rfl
  · rw [List.length_append, List.length_singleton]
    omega
  · rename_i b1 b2 k7 e e2 i5 l0 n
    rw [g3, show (5 - i).toNat = (5 - (i + 1)).toNat + 1 by omega, numL, if_pos l0, if_pos n]
  · rename_i b1 b2 k7 e e2 i5 y1 z1 y2 z2 y3 z3 y4 z4 y5 z5 hk
    have hl := lw_end h2 h1 k7
    have hn : nl s a = (l, nx2, 0) := by
      rw [g3, show (5 - i).toNat = 0 by omega]
      rfl
    have hkey := key_at rl z1 z2 z3 z4 z5
    rw [show rtakeF s a = (nilK, 0, 41) by unfold rtakeF; rw [if_neg (by omega), hl, if_neg e, hn, if_pos rfl, hkey, if_neg (ck_no hk).1]]
    rfl
  · rename_i b1 b2 k7 e e2 i5 y1 z1 y2 z2 y3 z3 y4 z4 y5 z5 hk
    have hl := lw_end h2 h1 k7
    have hn : nl s a = (l, nx2, 0) := by
      rw [g3, show (5 - i).toNat = 0 by omega]
      rfl
    have hkey := key_at rl z1 z2 z3 z4 z5
    rw [show rtakeF s a = ((rl, y1, y2, y3, y4, y5), nx2, 0) by unfold rtakeF; rw [if_neg (by omega), hl, if_neg e, hn, if_pos rfl, hkey, if_pos (ck_ok hk)]]
  · rename_i b1
    rw [show rtakeF s a = (nilK, 0, 2) from if_pos (.inl b1)]
    rfl
set_option maxRecDepth 20000 in
theorem rtake_pure (s : By) (a : Int) (h : s.length ≤ 10000) : Pure Tryz.prog 8 [.str s, .int .i64 a] (.tuple [.agg [.int .i64 (rtakeF s a).1.1, .int .i64 (rtakeF s a).1.2.1, .int .i64 (rtakeF s a).1.2.2.1, .int .i64 (rtakeF s a).1.2.2.2.1, .int .i64 (rtakeF s a).1.2.2.2.2.1, .int .i64 (rtakeF s a).1.2.2.2.2.2], .int .i64 (rtakeF s a).2.1, .int .i64 (rtakeF s a).2.2]) :=
  Pure.of_gG (E := env_rtake s a) (sh := [some 6, none, none]) (ann := ann_rtake) (x := ((rtakeF s a).1.1, (rtakeF s a).1.2.1, (rtakeF s a).1.2.2.1, (rtakeF s a).1.2.2.2.1, (rtakeF s a).1.2.2.2.2.1, (rtakeF s a).1.2.2.2.2.2, (rtakeF s a).2.1, (rtakeF s a).2.2, ())) (fn := Tryz.f8) (c := codeOf Tryz.f8) (specs_ok (P := Tryz.prog) rfl [sp_rword, sp_rlit, sp_rnum, sp_rcheck] [] rfl rfl) mixed Tryz.func8 rfl rfl rfl rfl rfl (g := g_rtake s a) (by delta g_rtake start0; first | with_reducible exact Eq.refl _ | exact Eq.refl _) (by rw [g_rtake_eq s a]; exact g_rtake_ok s a h)
noncomputable def q_rtake (s : By) (a : Int) : Prop × V := (s.length ≤ 10000, (.tuple [.agg [.int .i64 (rtakeF s a).1.1, .int .i64 (rtakeF s a).1.2.1, .int .i64 (rtakeF s a).1.2.2.1, .int .i64 (rtakeF s a).1.2.2.2.1, .int .i64 (rtakeF s a).1.2.2.2.2.1, .int .i64 (rtakeF s a).1.2.2.2.2.2], .int .i64 (rtakeF s a).2.1, .int .i64 (rtakeF s a).2.2]))
noncomputable def sp_rtake : FSpec Tryz.prog where
  f := 8
  run := fun args => match args with
    | [.str s, .int .i64 a] => some (q_rtake s a)
    | _ => none
  ok := fun args pre r h hp => by
    try dsimp only at h
    split at h
    · rename_i s a
      have h := Option.some.inj h
      unfold q_rtake at h
      cases h
      exact (rtake_pure s a hp).weak (.cons (Weak.refl _) (.cons (Weak.refl _) .nil))
    · cases h

end Go.Proofs.YtemgelifnjefoaaGreatDoor
