/-
  command: what a command says, the forms, what is put behind a text.
-/
import Derived.Test.YtgdcjefnhcamgaaDoorBuild2
namespace Go.Proofs.YtgdcjefnhcamgaaDoor
open Go.Vm

abbrev CmD : Type := Int × Int × Int × Int × Int × Bool × Bool × (Int × Int) × List (Int × Int × Int × Int)
abbrev LnD : Type := Int × Int × Int × Int
def bitF (b : Bool) : Int := if b then 1 else 0
noncomputable def env_bit (b : Bool) : Env where
  P := Tryd.prog
  ty := tys0
noncomputable def g_bit (b : Bool) : Prop := vc (env_bit b) (codeOf Tryd.f34) (start0 Tryd.f34 [.bool b]) (exitK (tsOf Tryd.f34) [.int .i64] (bitF b, ()))
def g_bit_vc (b : Bool) : Prop :=
  (b = true → ((1 : Int), ()) = (bitF b, ())) ∧ (b = false → ((0 : Int), ()) = (bitF b, ()))
theorem g_bit_eq (b : Bool) : g_bit b = g_bit_vc b := by kernel_rfl
theorem g_bit_ok (b : Bool) : g_bit_vc b := by
  unfold g_bit_vc bitF
  cases b <;> simp
set_option maxRecDepth 20000 in
theorem bit_pure (b : Bool) : Pure Tryd.prog 34 [.bool b] (.int .i64 (bitF b)) :=
  Pure.of_g (E := env_bit b) (ts := tsOf Tryd.f34) (ps := [.int .i64]) (r := (bitF b, ())) (fn := Tryd.f34) (c := codeOf Tryd.f34) (specs_ok (P := Tryd.prog) rfl [] [] rfl rfl) mixed Tryd.func34 rfl rfl (g := g_bit b) (by delta g_bit start0; first | with_reducible exact Eq.refl _ | exact Eq.refl _) (by rw [g_bit_eq b]; exact g_bit_ok b)
noncomputable def q_bit (b : Bool) : Prop × V := (True, (.int .i64 (bitF b)))
noncomputable def sp_bit : FSpec Tryd.prog where
  f := 34
  run := fun args => match args with
    | [v0] => (match boolOf v0 with | some b => some (q_bit b) | none => none)
    | _ => none
  ok := fun args pre r h hp => by
    try dsimp only at h
    split at h
    · rename_i v0
      cases h0 : boolOf v0 with
      | none => rw [h0] at h; cases h
      | some b =>
      rw [h0] at h
      try dsimp only at h
      have h := Option.some.inj h
      unfold q_bit at h
      cases h
      exact (bit_pure b).weak (.cons (boolOf_weak h0) .nil)
    · cases h

/-- What numbers are told as, a blank ahead of each. -/
def sayF (l : List Int) : List UInt8 := l.flatMap fun n => 32 :: Lib.itoa n
theorem sayF_next {l : List Int} {i : Nat} {n : Int} (h : l[i]? = some n) : sayF (l.take (i + 1)) = sayF (l.take i) ++ ([32] ++ Lib.itoa n) := by
  unfold sayF
  rw [List.take_add_one, h]
  simp
theorem say_len {l : List Int} (h : ∀ n ∈ l, InI n) : (sayF l).length ≤ 50 * l.length := by
  induction l with
  | nil => simp [sayF]
  | cons a r ih =>
    have := ih (fun n hn => h n (by simp [hn]))
    have h2 := itoa_len (h a (by simp))
    have e : sayF (a :: r) = (32 :: Lib.itoa a) ++ sayF r := by simp [sayF]
    rw [e]
    simp only [List.length_append, List.length_cons]
    omega
noncomputable def env_put (l d : List Int) : Env where
  P := Tryd.prog
  ty := tys0
  specs := specsOf [sp_digitsOf]
  upd := updsOf [so_write.upd]
  pins := [9000]
  heads := fun
    | 1 => some { slots := [(7, .int .i64)], boxes := [(9000, [.own 9000 54, .slc 9001 B8])], keep := [], inv := fun _ (x : Int × Unit × List Int × Unit) => 0 ≤ x.1 ∧ x.1 ≤ l.length ∧ x.2.2.1 = d ++ byD (sayF (l.take x.1.toNat)), measure := fun _ (x : Int × Unit × List Int × Unit) => (l.length - x.1).toNat }
    | _ => none
abbrev ann_put : Ann := { slots := numP 0 [], boxes := [(9000, [.own 9000 54, .slc 9001 B8])], inv := fun _ _ => True }
noncomputable def g_put (l d : List Int) : Prop := vc (env_put l d) (codeOf Tryd.f18) ⟨(start0 Tryd.f18 [.list .tmp I l, .ptr 9000 0]).s, [(9000, .box [.own 9000 54, .slc 9001 0 none]), (9001, .arr 0 (.int .u8) d)]⟩ (exitG (env_put l d).P Tryd.f18.results.toList [] (env_put l d).pins ann_put ((), d ++ byD (sayF l), ()))
def g_put_vc (l : List Int) (d : List Int) : Prop :=
  (True ∧ (0 : Int) ≤ (0 : Int) ∧ (0 : Int) ≤ (↑l.length : Int) ∧ d = d ++ byD (sayF (List.take (Int.toNat (0 : Int)) l))) ∧ ∀ (x : Int × Unit × List Int × Unit), (0 : Int) ≤ x.fst ∧ x.fst ≤ (↑l.length : Int) ∧ x.snd.snd.fst = d ++ byD (sayF (List.take x.fst.toNat l)) → (decide (x.fst < (↑l.length : Int)) = true → ((0 : Int) ≤ x.fst ∧ x.fst < (↑l.length : Int)) ∧ ∀ (x_1 : Int), l[x.fst.toNat]? = some x_1 → InI x_1 ∧ (1 : Nat) + (Lib.itoa x_1).length ≤ (9223372036854775807 : Nat) ∧ ([(32 : UInt8)] ++ Lib.itoa x_1).length + x.snd.snd.fst.length ≤ (100000000 : Nat) ∧ ((-9223372036854775808 : Int) ≤ x.fst + (1 : Int) ∧ x.fst + (1 : Int) ≤ (9223372036854775807 : Int)) ∧ True ∧ ((0 : Int) ≤ x.fst + (1 : Int) ∧ x.fst + (1 : Int) ≤ (↑l.length : Int) ∧ x.snd.snd.fst ++ byD ([(32 : UInt8)] ++ Lib.itoa x_1) = d ++ byD (sayF (List.take (x.fst + (1 : Int)).toNat l))) ∧ ((↑l.length : Int) - (x.fst + (1 : Int))).toNat < ((↑l.length : Int) - x.fst).toNat) ∧ (decide (x.fst < (↑l.length : Int)) = false → True ∧ ((), x.snd.snd.fst, ()) = ((), d ++ byD (sayF l), ()))
theorem g_put_eq (l d : List Int) : g_put l d = g_put_vc l d := by kernel_rfl
theorem g_put_ok (l d : List Int) (h : (∀ n ∈ l, InI n) ∧ l.length ≤ 1000 ∧ d.length ≤ 1000000) : g_put_vc l d := by
  unfold g_put_vc
  obtain ⟨hl, hn, hd⟩ := h
  simp only [decide_eq_true_eq, decide_eq_false_iff_not]
  refine ⟨⟨trivial, by omega, by omega, by simp [sayF]⟩, ?_⟩
  rintro ⟨i, ⟨⟩, e, ⟨⟩⟩ ⟨h0, h1, he⟩
  dsimp only at h0 h1 he ⊢
  refine ⟨fun c => ⟨⟨h0, c⟩, fun n hx => ?_⟩, fun c => ⟨trivial, ?_⟩⟩
  · have hI := hl n (List.mem_of_getElem? hx)
    have h2 := itoa_len hI
    have h3 : (sayF (l.take i.toNat)).length ≤ 50 * (l.take i.toNat).length := say_len fun m hm => hl m (List.mem_of_mem_take hm)
    have h4 : (l.take i.toNat).length ≤ l.length := List.length_take_le' _ _
    have h5 : e.length = d.length + (sayF (l.take i.toNat)).length := by rw [he, List.length_append, byD_len]
    have h6 : ([(32 : UInt8)] ++ Lib.itoa n).length = 1 + (Lib.itoa n).length := by rw [List.length_append]; rfl
    refine ⟨hI, by omega, by omega, by omega, trivial, ⟨by omega, by omega, ?_⟩, by omega⟩
    rw [show (i + 1).toNat = i.toNat + 1 by omega, sayF_next hx, he, byD_app (sayF _), List.append_assoc]
  · rw [he, List.take_of_length_le (by omega)]
set_option maxRecDepth 20000 in
theorem put_upd (l d : List Int) (h : (∀ n ∈ l, InI n) ∧ l.length ≤ 1000 ∧ d.length ≤ 1000000) : UpdC Tryd.prog 18 [.list .tmp I l, .ptr 9000 0] [(9000, .box [.own 9000 54, .slc 9001 0 none]), (9001, .arr 0 (.int .u8) d)] (.tuple []) [(9001, .arr 0 (.int .u8) (d ++ byD (sayF l))), (9000, .box [.own 9000 54, .slc 9001 0 none])] :=
  UpdC.of_vcG (E := env_put l d) (sh := []) (ann := ann_put) (x := ((), d ++ byD (sayF l), ())) (fn := Tryd.f18) (c := codeOf Tryd.f18) (specs_ok (P := Tryd.prog) rfl [sp_digitsOf] [so_write.upd] rfl rfl) mixed Tryd.func18 rfl rfl rfl rfl (by
    have := g_put_ok l d h
    rw [← g_put_eq] at this
    exact this)
noncomputable def q_put (l d : List Int) : Prop × V × Store := ((∀ n ∈ l, InI n) ∧ l.length ≤ 1000 ∧ d.length ≤ 1000000, .tuple [], [(9001, .arr 0 (.int .u8) (d ++ byD (sayF l))), (9000, .box [.own 9000 54, .slc 9001 0 none])])
noncomputable def so_put : OSpec Tryd.prog where
  f := 18
  run := fun args σ => match args, σ with
    | [v0, .ptr 9000 0], [(9000, .box [.own 9000 54, .slc 9001 0 none]), (9001, .arr 0 (.int .u8) d)] => (match (asL I v0 : Option (List Int)) with | some l => some (q_put l d) | none => none)
    | _, _ => none
  ok := fun args σ pre r σ' h hp => by
    try dsimp only at h
    split at h
    · rename_i v0 d
      cases h0 : (asL I v0 : Option (List Int)) with
      | none => rw [h0] at h; cases h
      | some l =>
      rw [h0] at h
      try dsimp only at h
      have h := Option.some.inj h
      unfold q_put at h
      cases h
      exact (put_upd l d hp).weak (.cons (asL_weak h0) (.cons (Weak.refl _) .nil))
    · cases h

def wordL : List (List UInt8) := [[101, 110, 116, 105, 116, 121], [97, 99, 99, 111, 117, 110, 116], [109, 111, 118, 101], [111, 119, 110], [114, 97, 116, 101], [108, 111, 99, 107], [112, 111, 115, 116], [114, 101, 118, 101, 114, 115, 101]]
def partL : List (List Int) := [[0], [0, 1, 4, 5], [0, 1], [0, 1, 2, 3], [0, 1, 2, 3, 6, 7], [0, 1], [0], [0, 1]]
/-- A kind's word, and what it says. -/
def wordF (k : Int) : List UInt8 := (wordL[(k - 1).toNat]?).getD []
def partF (k : Int) : List Int := (partL[(k - 1).toNat]?).getD []
abbrev fl (l : List Int) : V := .list .full I l
abbrev formsV : List V := [.str [101, 110, 116, 105, 116, 121], fl [0], .str [97, 99, 99, 111, 117, 110, 116], fl [0, 1, 4, 5], .str [109, 111, 118, 101], fl [0, 1], .str [111, 119, 110], fl [0, 1, 2, 3], .str [114, 97, 116, 101], fl [0, 1, 2, 3, 6, 7], .str [108, 111, 99, 107], fl [0, 1], .str [112, 111, 115, 116], fl [0], .str [114, 101, 118, 101, 114, 115, 101], fl [0, 1]]
noncomputable def env_forms : Env where
  P := Tryd.prog
  ty := tys0
  asRows := fun | 17 => true | _ => false
noncomputable def g_forms  : Prop := vc (env_forms ) (codeOf Tryd.f15) (start0 Tryd.f15 []) (exitZ (tsOf Tryd.f15) (.rows 2 formsV))
def g_forms_vc : Prop :=
  some (V.rows (2 : Nat) [V.str [(101 : UInt8), (110 : UInt8), (116 : UInt8), (105 : UInt8), (116 : UInt8), (121 : UInt8)], V.list LK.full I [(0 : Int)], V.str [(97 : UInt8), (99 : UInt8), (99 : UInt8), (111 : UInt8), (117 : UInt8), (110 : UInt8), (116 : UInt8)], V.list LK.full I [(0 : Int), (1 : Int), (4 : Int), (5 : Int)], V.str [(109 : UInt8), (111 : UInt8), (118 : UInt8), (101 : UInt8)], V.list LK.full I [(0 : Int), (1 : Int)], V.str [(111 : UInt8), (119 : UInt8), (110 : UInt8)], V.list LK.full I [(0 : Int), (1 : Int), (2 : Int), (3 : Int)], V.str [(114 : UInt8), (97 : UInt8), (116 : UInt8), (101 : UInt8)], V.list LK.full I [(0 : Int), (1 : Int), (2 : Int), (3 : Int), (6 : Int), (7 : Int)], V.str [(108 : UInt8), (111 : UInt8), (99 : UInt8), (107 : UInt8)], V.list LK.full I [(0 : Int), (1 : Int)], V.str [(112 : UInt8), (111 : UInt8), (115 : UInt8), (116 : UInt8)], V.list LK.full I [(0 : Int)], V.str [(114 : UInt8), (101 : UInt8), (118 : UInt8), (101 : UInt8), (114 : UInt8), (115 : UInt8), (101 : UInt8)], V.list LK.full I [(0 : Int), (1 : Int)]]) = some (V.rows (2 : Nat) [V.str [(101 : UInt8), (110 : UInt8), (116 : UInt8), (105 : UInt8), (116 : UInt8), (121 : UInt8)], V.list LK.full I [(0 : Int)], V.str [(97 : UInt8), (99 : UInt8), (99 : UInt8), (111 : UInt8), (117 : UInt8), (110 : UInt8), (116 : UInt8)], V.list LK.full I [(0 : Int), (1 : Int), (4 : Int), (5 : Int)], V.str [(109 : UInt8), (111 : UInt8), (118 : UInt8), (101 : UInt8)], V.list LK.full I [(0 : Int), (1 : Int)], V.str [(111 : UInt8), (119 : UInt8), (110 : UInt8)], V.list LK.full I [(0 : Int), (1 : Int), (2 : Int), (3 : Int)], V.str [(114 : UInt8), (97 : UInt8), (116 : UInt8), (101 : UInt8)], V.list LK.full I [(0 : Int), (1 : Int), (2 : Int), (3 : Int), (6 : Int), (7 : Int)], V.str [(108 : UInt8), (111 : UInt8), (99 : UInt8), (107 : UInt8)], V.list LK.full I [(0 : Int), (1 : Int)], V.str [(112 : UInt8), (111 : UInt8), (115 : UInt8), (116 : UInt8)], V.list LK.full I [(0 : Int)], V.str [(114 : UInt8), (101 : UInt8), (118 : UInt8), (101 : UInt8), (114 : UInt8), (115 : UInt8), (101 : UInt8)], V.list LK.full I [(0 : Int), (1 : Int)]])
theorem g_forms_eq  : g_forms  = g_forms_vc  := by kernel_rfl
theorem g_forms_ok : g_forms_vc := by
  exact rfl
set_option maxRecDepth 20000 in
theorem forms_pure  : PureZ Tryd.prog 15 [] (.rows 2 formsV) :=
  PureZ.of_g (E := env_forms ) (ts := tsOf Tryd.f15) (fn := Tryd.f15) (c := codeOf Tryd.f15) (specs_ok (P := Tryd.prog) rfl [] [] rfl rfl) mixed Tryd.func15 rfl rfl (g := g_forms ) (by delta g_forms start0; first | with_reducible exact Eq.refl _ | exact Eq.refl _) (by rw [g_forms_eq ]; exact g_forms_ok )
noncomputable def q_forms  : Prop × V := (True, (.rows 2 formsV))
noncomputable def sp_forms : ZSpec Tryd.prog where
  f := 15
  run := fun args => match args with
    | [] => some (q_forms )
    | _ => none
  ok := fun args pre r h hp => by
    try dsimp only at h
    split at h
    ·
      have h := Option.some.inj h
      unfold q_forms at h
      cases h
      exact (forms_pure ).weak .nil
    · cases h

/-- All that a command says besides its lines. -/
def allF (c : CmD) : List Int := [c.2.1, c.2.2.1, c.2.2.2.1, c.2.2.2.2.1, bitF c.2.2.2.2.2.1, bitF c.2.2.2.2.2.2.1, c.2.2.2.2.2.2.2.1.1, c.2.2.2.2.2.2.2.1.2]
noncomputable def env_said (k a b c d : Int) (s p : Bool) (n m : Int) (l : List LnD) : Env where
  P := Tryd.prog
  ty := tys0
  specs := specsOf [sp_bit]
  frz := fun | 13 => true | 16 => true | _ => false
abbrev ann_said : Ann := { slots := numP 0 [.int .i64, .int .i64, .int .i64, .int .i64, .int .i64, .int .i64, .int .i64, .int .i64], boxes := [], inv := fun _ _ => True }
noncomputable def g_said (k a b c d : Int) (s p : Bool) (n m : Int) (l : List LnD) : Prop := vc (env_said k a b c d s p n m l) (codeOf Tryd.f16) (start0 Tryd.f16 [.agg [.int .i64 k, .int .i64 a, .int .i64 b, .int .i64 c, .int .i64 d, .bool s, .bool p, .int .i64 n, .int .i64 m, .list .tmp Ln l]]) (exitG (env_said k a b c d s p n m l).P Tryd.f16.results.toList [some 8] (env_said k a b c d s p n m l).pins ann_said (a, b, c, d, bitF s, bitF p, n, m, ()))
def g_said_vc (k : Int) (a : Int) (b : Int) (c : Int) (d : Int) (s : Bool) (p : Bool) (n : Int) (m : Int) (l : List LnD) : Prop :=
  True ∧ True ∧ True ∧ (a, b, c, d, bitF s, bitF p, n, m, ()) = (a, b, c, d, bitF s, bitF p, n, m, ())
theorem g_said_eq (k a b c d : Int) (s p : Bool) (n m : Int) (l : List LnD) : g_said k a b c d s p n m l = g_said_vc k a b c d s p n m l := by kernel_rfl
theorem g_said_ok (k a b c d : Int) (s p : Bool) (n m : Int) (l : List LnD) (h : True) : g_said_vc k a b c d s p n m l := ⟨trivial, trivial, trivial, rfl⟩
set_option maxRecDepth 20000 in
theorem said_pure (k a b c d : Int) (s p : Bool) (n m : Int) (l : List LnD) (h : True) : Pure Tryd.prog 16 [.agg [.int .i64 k, .int .i64 a, .int .i64 b, .int .i64 c, .int .i64 d, .bool s, .bool p, .int .i64 n, .int .i64 m, .list .tmp Ln l]] (.agg [.int .i64 a, .int .i64 b, .int .i64 c, .int .i64 d, .int .i64 (bitF s), .int .i64 (bitF p), .int .i64 n, .int .i64 m]) :=
  Pure.of_gG (E := env_said k a b c d s p n m l) (sh := [some 8]) (ann := ann_said) (x := (a, b, c, d, bitF s, bitF p, n, m, ())) (fn := Tryd.f16) (c := codeOf Tryd.f16) (specs_ok (P := Tryd.prog) rfl [sp_bit] [] rfl rfl) mixed Tryd.func16 rfl rfl rfl rfl rfl (g := g_said k a b c d s p n m l) (by delta g_said start0; first | with_reducible exact Eq.refl _ | exact Eq.refl _) (by rw [g_said_eq k a b c d s p n m l]; exact g_said_ok k a b c d s p n m l h)
noncomputable def q_said (k a b c d : Int) (s p : Bool) (n m : Int) (l : List LnD) : Prop × V := (True, (.agg [.int .i64 a, .int .i64 b, .int .i64 c, .int .i64 d, .int .i64 (bitF s), .int .i64 (bitF p), .int .i64 n, .int .i64 m]))
noncomputable def sp_said : FSpec Tryd.prog where
  f := 16
  run := fun args => match args with
    | [.agg [.int .i64 k, .int .i64 a, .int .i64 b, .int .i64 c, .int .i64 d, v0_5, v0_6, .int .i64 n, .int .i64 m, v0_9]] => (match boolOf v0_5 with | some s => (match boolOf v0_6 with | some p => (match (asL Ln v0_9 : Option (List LnD)) with | some l => some (q_said k a b c d s p n m l) | none => none) | none => none) | none => none)
    | _ => none
  ok := fun args pre r h hp => by
    try dsimp only at h
    split at h
    · rename_i k a b c d v0_5 v0_6 n m v0_9
      cases h0_5 : boolOf v0_5 with
      | none => rw [h0_5] at h; cases h
      | some s =>
      rw [h0_5] at h
      try dsimp only at h
      cases h0_6 : boolOf v0_6 with
      | none => rw [h0_6] at h; cases h
      | some p =>
      rw [h0_6] at h
      try dsimp only at h
      cases h0_9 : (asL Ln v0_9 : Option (List LnD)) with
      | none => rw [h0_9] at h; cases h
      | some l =>
      rw [h0_9] at h
      try dsimp only at h
      have h := Option.some.inj h
      unfold q_said at h
      cases h
      exact (said_pure k a b c d s p n m l hp).weak (.cons (Weak.agg (.cons (Weak.refl _) (.cons (Weak.refl _) (.cons (Weak.refl _) (.cons (Weak.refl _) (.cons (Weak.refl _) (.cons (boolOf_weak h0_5) (.cons (boolOf_weak h0_6) (.cons (Weak.refl _) (.cons (Weak.refl _) (.cons (asL_weak h0_9) .nil))))))))))) .nil)
    · cases h

end Go.Proofs.YtgdcjefnhcamgaaDoor
