/-
  command: the document's check and text. The walk.
-/
import Derived.Test.YtgdcjefnhcamgaaDoorCmd6
namespace Go.Proofs.YtgdcjefnhcamgaaDoor
open Go.Vm

noncomputable def tys1 : TypeId → Option Ty := fun t => if t = 9 then some .str else tys0 t
noncomputable def env_rbit (b : Bool) : Env where
  P := Tryd.prog
  ty := tys0
noncomputable def g_rbit (b : Bool) : Prop := vc (env_rbit b) (codeOf Tryd.f37) (start0 Tryd.f37 [.bool b]) (exitK (tsOf Tryd.f37) [.int .i64] (bitF b, ()))
def g_rbit_vc (b : Bool) : Prop :=
  (b = true → ((1 : Int), ()) = (bitF b, ())) ∧ (b = false → ((0 : Int), ()) = (bitF b, ()))
theorem g_rbit_eq (b : Bool) : g_rbit b = g_rbit_vc b := by kernel_rfl
theorem g_rbit_ok (b : Bool) : g_rbit_vc b := by
  unfold g_rbit_vc bitF
  cases b <;> simp
set_option maxRecDepth 20000 in
theorem rbit_pure (b : Bool) : Pure Tryd.prog 37 [.bool b] (.int .i64 (bitF b)) :=
  Pure.of_g (E := env_rbit b) (ts := tsOf Tryd.f37) (ps := [.int .i64]) (r := (bitF b, ())) (fn := Tryd.f37) (c := codeOf Tryd.f37) (specs_ok (P := Tryd.prog) rfl [] [] rfl rfl) mixed Tryd.func37 rfl rfl (g := g_rbit b) (by delta g_rbit start0; first | with_reducible exact Eq.refl _ | exact Eq.refl _) (by rw [g_rbit_eq b]; exact g_rbit_ok b)
noncomputable def q_rbit (b : Bool) : Prop × V := (True, (.int .i64 (bitF b)))
noncomputable def sp_rbit : FSpec Tryd.prog where
  f := 37
  run := fun args => match args with
    | [v0] => (match boolOf v0 with | some b => some (q_rbit b) | none => none)
    | _ => none
  ok := fun args pre r h hp => by
    try dsimp only at h
    split at h
    · rename_i v0
      cases h0 : boolOf v0 with
      | none => rw [h0] at h; cases h
      | some b =>
      rw [h0] at h
      try dsimp only at h
      have h := Option.some.inj h
      unfold q_rbit at h
      cases h
      exact (rbit_pure b).weak (.cons (boolOf_weak h0) .nil)
    · cases h

noncomputable def env_rword (k : Int) : Env where
  P := Tryd.prog
  ty := tys1
noncomputable def g_rword (k : Int) : Prop := vc (env_rword k) (codeOf Tryd.f21) (start0 Tryd.f21 [.int .i64 k]) (exitK (tsOf Tryd.f21) [.str] (wordF k, ()))
def g_rword_vc (k : Int) : Prop :=
  ((-9223372036854775808 : Int) ≤ k - (1 : Int) ∧ k - (1 : Int) ≤ (9223372036854775807 : Int)) ∧ ((0 : Int) ≤ k - (1 : Int) ∧ k - (1 : Int) < (↑(8 : Nat) : Int)) ∧ ∀ (x : List UInt8), [[(101 : UInt8), (110 : UInt8), (116 : UInt8), (105 : UInt8), (116 : UInt8), (121 : UInt8)], [(97 : UInt8), (99 : UInt8), (99 : UInt8), (111 : UInt8), (117 : UInt8), (110 : UInt8), (116 : UInt8)], [(109 : UInt8), (111 : UInt8), (118 : UInt8), (101 : UInt8)], [(111 : UInt8), (119 : UInt8), (110 : UInt8)], [(114 : UInt8), (97 : UInt8), (116 : UInt8), (101 : UInt8)], [(108 : UInt8), (111 : UInt8), (99 : UInt8), (107 : UInt8)], [(112 : UInt8), (111 : UInt8), (115 : UInt8), (116 : UInt8)], [(114 : UInt8), (101 : UInt8), (118 : UInt8), (101 : UInt8), (114 : UInt8), (115 : UInt8), (101 : UInt8)]][(k - (1 : Int)).toNat]? = some x → (x, ()) = (wordF k, ())
theorem g_rword_eq (k : Int) : g_rword k = g_rword_vc k := by kernel_rfl
theorem g_rword_ok (k : Int) (h : 1 ≤ k ∧ k ≤ 8) : g_rword_vc k := by
  unfold g_rword_vc
  repeat' (first | with_reducible apply And.intro | intro _)
  all_goals try (first | trivial | omega)
  rename_i x hx
  have : wordL[(k - 1).toNat]? = some x := hx
  unfold wordF
  rw [this]
  rfl
set_option maxRecDepth 20000 in
theorem rword_pure (k : Int) (h : 1 ≤ k ∧ k ≤ 8) : Pure Tryd.prog 21 [.int .i64 k] (.str (wordF k)) :=
  Pure.of_g (E := env_rword k) (ts := tsOf Tryd.f21) (ps := [.str]) (r := (wordF k, ())) (fn := Tryd.f21) (c := codeOf Tryd.f21) (specs_ok (P := Tryd.prog) rfl [] [] rfl rfl) mixed Tryd.func21 rfl rfl (g := g_rword k) (by delta g_rword start0; first | with_reducible exact Eq.refl _ | exact Eq.refl _) (by rw [g_rword_eq k]; exact g_rword_ok k h)
noncomputable def q_rword (k : Int) : Prop × V := (1 ≤ k ∧ k ≤ 8, (.str (wordF k)))
noncomputable def sp_rword : FSpec Tryd.prog where
  f := 21
  run := fun args => match args with
    | [.int .i64 k] => some (q_rword k)
    | _ => none
  ok := fun args pre r h hp => by
    try dsimp only at h
    split at h
    · rename_i k
      have h := Option.some.inj h
      unfold q_rword at h
      cases h
      exact (rword_pure k hp).weak (.cons (Weak.refl _) .nil)
    · cases h

def numN (k : Int) : Int := (([1, 2, 2, 4, 4, 2, 1, 2] : List Int)[(k - 1).toNat]?).getD 0
noncomputable def env_rnums (k : Int) : Env where
  P := Tryd.prog
  ty := tys0
noncomputable def g_rnums (k : Int) : Prop := vc (env_rnums k) (codeOf Tryd.f25) (start0 Tryd.f25 [.int .i64 k]) (exitK (tsOf Tryd.f25) [.int .i64] (numN k, ()))
def g_rnums_vc (k : Int) : Prop :=
  ((-9223372036854775808 : Int) ≤ k - (1 : Int) ∧ k - (1 : Int) ≤ (9223372036854775807 : Int)) ∧ ((0 : Int) ≤ k - (1 : Int) ∧ k - (1 : Int) < (↑(8 : Nat) : Int)) ∧ ∀ (x : Int), [(1 : Int), (2 : Int), (2 : Int), (4 : Int), (4 : Int), (2 : Int), (1 : Int), (2 : Int)][(k - (1 : Int)).toNat]? = some x → (x, ()) = (numN k, ())
theorem g_rnums_eq (k : Int) : g_rnums k = g_rnums_vc k := by kernel_rfl
theorem g_rnums_ok (k : Int) (h : 1 ≤ k ∧ k ≤ 8) : g_rnums_vc k := by
  unfold g_rnums_vc
  repeat' (first | with_reducible apply And.intro | intro _)
  all_goals try (first | trivial | omega)
  rename_i x hx
  unfold numN
  rw [hx]
  rfl
set_option maxRecDepth 20000 in
theorem rnums_pure (k : Int) (h : 1 ≤ k ∧ k ≤ 8) : Pure Tryd.prog 25 [.int .i64 k] (.int .i64 (numN k)) :=
  Pure.of_g (E := env_rnums k) (ts := tsOf Tryd.f25) (ps := [.int .i64]) (r := (numN k, ())) (fn := Tryd.f25) (c := codeOf Tryd.f25) (specs_ok (P := Tryd.prog) rfl [] [] rfl rfl) mixed Tryd.func25 rfl rfl (g := g_rnums k) (by delta g_rnums start0; first | with_reducible exact Eq.refl _ | exact Eq.refl _) (by rw [g_rnums_eq k]; exact g_rnums_ok k h)
noncomputable def q_rnums (k : Int) : Prop × V := (1 ≤ k ∧ k ≤ 8, (.int .i64 (numN k)))
noncomputable def sp_rnums : FSpec Tryd.prog where
  f := 25
  run := fun args => match args with
    | [.int .i64 k] => some (q_rnums k)
    | _ => none
  ok := fun args pre r h hp => by
    try dsimp only at h
    split at h
    · rename_i k
      have h := Option.some.inj h
      unfold q_rnums at h
      cases h
      exact (rnums_pure k hp).weak (.cons (Weak.refl _) .nil)
    · cases h
theorem kinds_of {k : Int} (h1 : 1 ≤ k) (h8 : k ≤ 8) : k = 1 ∨ k = 2 ∨ k = 3 ∨ k = 4 ∨ k = 5 ∨ k = 6 ∨ k = 7 ∨ k = 8 := by omega
theorem numN_in {k : Int} (h1 : 1 ≤ k) (h8 : k ≤ 8) : 1 ≤ numN k ∧ numN k ≤ 4 := by
  rcases kinds_of h1 h8 with rfl | rfl | rfl | rfl | rfl | rfl | rfl | rfl <;> decide

/-- What the document says, by kinds. -/
def rhead (c : CmD) : List Int := [c.2.1, c.2.2.1, c.2.2.2.1, c.2.2.2.2.1].take (numN c.1).toNat
theorem nums_head {c : CmD} (h1 : 1 ≤ c.1) (h8 : c.1 ≤ 8) : numsF c = rhead c ++ if c.1 = 2 then [bitF c.2.2.2.2.2.1, bitF c.2.2.2.2.2.2.1] else if c.1 = 5 then [c.2.2.2.2.2.2.2.1.1, c.2.2.2.2.2.2.2.1.2] else if c.1 = 7 then ((linesF c).length : Int) :: (linesF c).flatMap lnL else [] := by
  obtain ⟨k, a, b, c, d, s, p, ⟨n, m⟩, l⟩ := c
  dsimp only at h1 h8
  rcases kinds_of h1 h8 with rfl | rfl | rfl | rfl | rfl | rfl | rfl | rfl <;> rfl
noncomputable def env_rsaid (k a b c d : Int) (s p : Bool) (n m : Int) (l : List LnD) : Env where
  P := Tryd.prog
  ty := tys0
  specs := specsOf [sp_rbit, sp_rnums]
  asArr := fun | 16 => true | _ => false
  frz := fun | 29 => true | 32 => true | _ => false
  heads := fun
    | 10 => some { slots := [(4, .slc 9000 I), (5, .int .i64), (16, .any), (22, .any), (50, .any), (55, .any)], boxes := [], keep := [1], inv := fun _ (x : List Int × Int × Unit × Unit × Unit × Unit × Unit) => k = 7 ∧ 0 ≤ x.2.1 ∧ x.2.1 ≤ l.length ∧ x.1 = a :: (l.length : Int) :: (l.take x.2.1.toNat).flatMap lnL, measure := fun _ (x : List Int × Int × Unit × Unit × Unit × Unit × Unit) => (l.length - x.2.1).toNat }
    | _ => none
noncomputable def g_rsaid (k a b c d : Int) (s p : Bool) (n m : Int) (l : List LnD) : Prop := vc (env_rsaid k a b c d s p n m l) (codeOf Tryd.f22) (start0 Tryd.f22 [.agg [.int .i64 k, .int .i64 a, .int .i64 b, .int .i64 c, .int .i64 d, .bool s, .bool p, .int .i64 n, .int .i64 m, .list .tmp Ln l]]) (exitK (tsOf Tryd.f22) [.slc 9001 I] (numsF (k, a, b, c, d, s, p, (n, m), l), ()))
def g_rsaid_vc (k : Int) (a : Int) (b : Int) (c : Int) (d : Int) (s : Bool) (p : Bool) (n : Int) (m : Int) (l : List LnD) : Prop :=
  ((1 : Int) ≤ k ∧ k ≤ (8 : Int)) ∧ ((0 : Int) ≤ numN k ∧ numN k ≤ (↑(4 : Nat) : Int)) ∧ (((0 : Nat) + (List.take (numN k).toNat [a, b, c, d]).length) * (8 : Nat) ≤ (140737488355328 : Nat) ∧ (0 : Nat) + (List.take (numN k).toNat [a, b, c, d]).length ≤ (4611686018427387904 : Nat)) ∧ (decide (k = (2 : Int)) = true → True ∧ True ∧ (((List.take (numN k).toNat [a, b, c, d]).length + (2 : Nat)) * (8 : Nat) ≤ (140737488355328 : Nat) ∧ (List.take (numN k).toNat [a, b, c, d]).length + (2 : Nat) ≤ (4611686018427387904 : Nat)) ∧ (decide (k = (5 : Int)) = true → (((List.take (numN k).toNat [a, b, c, d] ++ [bitF s, bitF p]).length + (2 : Nat)) * (8 : Nat) ≤ (140737488355328 : Nat) ∧ (List.take (numN k).toNat [a, b, c, d] ++ [bitF s, bitF p]).length + (2 : Nat) ≤ (4611686018427387904 : Nat)) ∧ (decide (k = (7 : Int)) = true → (((List.take (numN k).toNat [a, b, c, d] ++ [bitF s, bitF p] ++ [n, m]).length + (1 : Nat)) * (8 : Nat) ≤ (140737488355328 : Nat) ∧ (List.take (numN k).toNat [a, b, c, d] ++ [bitF s, bitF p] ++ [n, m]).length + (1 : Nat) ≤ (4611686018427387904 : Nat)) ∧ False ∧ ∀ (x : List Int × Int × Unit × Unit × Unit × Unit × Unit), k = (7 : Int) ∧ (0 : Int) ≤ x.snd.fst ∧ x.snd.fst ≤ (↑l.length : Int) ∧ x.fst = a :: (↑l.length : Int) :: List.flatMap lnL (List.take x.snd.fst.toNat l) → (decide (x.snd.fst < (↑l.length : Int)) = true → ((0 : Int) ≤ x.snd.fst ∧ x.snd.fst < (↑l.length : Int)) ∧ ∀ (x_1 : Int × Int × Int × Int), l[x.snd.fst.toNat]? = some x_1 → ((x.fst.length + (4 : Nat)) * (8 : Nat) ≤ (140737488355328 : Nat) ∧ x.fst.length + (4 : Nat) ≤ (4611686018427387904 : Nat)) ∧ ((-9223372036854775808 : Int) ≤ x.snd.fst + (1 : Int) ∧ x.snd.fst + (1 : Int) ≤ (9223372036854775807 : Int)) ∧ False) ∧ (decide (x.snd.fst < (↑l.length : Int)) = false → (x.fst, ()) = (numsF (k, a, b, c, d, s, p, (n, m), l), ()))) ∧ (decide (k = (7 : Int)) = false → (List.take (numN k).toNat [a, b, c, d] ++ [bitF s, bitF p] ++ [n, m], ()) = (numsF (k, a, b, c, d, s, p, (n, m), l), ()))) ∧ (decide (k = (5 : Int)) = false → (decide (k = (7 : Int)) = true → (((List.take (numN k).toNat [a, b, c, d] ++ [bitF s, bitF p]).length + (1 : Nat)) * (8 : Nat) ≤ (140737488355328 : Nat) ∧ (List.take (numN k).toNat [a, b, c, d] ++ [bitF s, bitF p]).length + (1 : Nat) ≤ (4611686018427387904 : Nat)) ∧ False ∧ ∀ (x : List Int × Int × Unit × Unit × Unit × Unit × Unit), k = (7 : Int) ∧ (0 : Int) ≤ x.snd.fst ∧ x.snd.fst ≤ (↑l.length : Int) ∧ x.fst = a :: (↑l.length : Int) :: List.flatMap lnL (List.take x.snd.fst.toNat l) → (decide (x.snd.fst < (↑l.length : Int)) = true → ((0 : Int) ≤ x.snd.fst ∧ x.snd.fst < (↑l.length : Int)) ∧ ∀ (x_1 : Int × Int × Int × Int), l[x.snd.fst.toNat]? = some x_1 → ((x.fst.length + (4 : Nat)) * (8 : Nat) ≤ (140737488355328 : Nat) ∧ x.fst.length + (4 : Nat) ≤ (4611686018427387904 : Nat)) ∧ ((-9223372036854775808 : Int) ≤ x.snd.fst + (1 : Int) ∧ x.snd.fst + (1 : Int) ≤ (9223372036854775807 : Int)) ∧ False) ∧ (decide (x.snd.fst < (↑l.length : Int)) = false → (x.fst, ()) = (numsF (k, a, b, c, d, s, p, (n, m), l), ()))) ∧ (decide (k = (7 : Int)) = false → (List.take (numN k).toNat [a, b, c, d] ++ [bitF s, bitF p], ()) = (numsF (k, a, b, c, d, s, p, (n, m), l), ())))) ∧ (decide (k = (2 : Int)) = false → (decide (k = (5 : Int)) = true → (((List.take (numN k).toNat [a, b, c, d]).length + (2 : Nat)) * (8 : Nat) ≤ (140737488355328 : Nat) ∧ (List.take (numN k).toNat [a, b, c, d]).length + (2 : Nat) ≤ (4611686018427387904 : Nat)) ∧ (decide (k = (7 : Int)) = true → (((List.take (numN k).toNat [a, b, c, d] ++ [n, m]).length + (1 : Nat)) * (8 : Nat) ≤ (140737488355328 : Nat) ∧ (List.take (numN k).toNat [a, b, c, d] ++ [n, m]).length + (1 : Nat) ≤ (4611686018427387904 : Nat)) ∧ False ∧ ∀ (x : List Int × Int × Unit × Unit × Unit × Unit × Unit), k = (7 : Int) ∧ (0 : Int) ≤ x.snd.fst ∧ x.snd.fst ≤ (↑l.length : Int) ∧ x.fst = a :: (↑l.length : Int) :: List.flatMap lnL (List.take x.snd.fst.toNat l) → (decide (x.snd.fst < (↑l.length : Int)) = true → ((0 : Int) ≤ x.snd.fst ∧ x.snd.fst < (↑l.length : Int)) ∧ ∀ (x_1 : Int × Int × Int × Int), l[x.snd.fst.toNat]? = some x_1 → ((x.fst.length + (4 : Nat)) * (8 : Nat) ≤ (140737488355328 : Nat) ∧ x.fst.length + (4 : Nat) ≤ (4611686018427387904 : Nat)) ∧ ((-9223372036854775808 : Int) ≤ x.snd.fst + (1 : Int) ∧ x.snd.fst + (1 : Int) ≤ (9223372036854775807 : Int)) ∧ False) ∧ (decide (x.snd.fst < (↑l.length : Int)) = false → (x.fst, ()) = (numsF (k, a, b, c, d, s, p, (n, m), l), ()))) ∧ (decide (k = (7 : Int)) = false → (List.take (numN k).toNat [a, b, c, d] ++ [n, m], ()) = (numsF (k, a, b, c, d, s, p, (n, m), l), ()))) ∧ (decide (k = (5 : Int)) = false → (decide (k = (7 : Int)) = true → (((List.take (numN k).toNat [a, b, c, d]).length + (1 : Nat)) * (8 : Nat) ≤ (140737488355328 : Nat) ∧ (List.take (numN k).toNat [a, b, c, d]).length + (1 : Nat) ≤ (4611686018427387904 : Nat)) ∧ ((some (Obj.box [V.int IntKind.i64 k, V.int IntKind.i64 a, V.int IntKind.i64 b, V.int IntKind.i64 c, V.int IntKind.i64 d, V.bool s, V.bool p, V.int IntKind.i64 n, V.int IntKind.i64 m, V.list LK.tmp Ln l]) = some (Obj.box [V.int IntKind.i64 k, V.int IntKind.i64 a, V.int IntKind.i64 b, V.int IntKind.i64 c, V.int IntKind.i64 d, V.bool s, V.bool p, V.int IntKind.i64 n, V.int IntKind.i64 m, V.list LK.tmp Ln l]) ∧ True) ∧ k = (7 : Int) ∧ (0 : Int) ≤ (0 : Int) ∧ (0 : Int) ≤ (↑l.length : Int) ∧ List.take (numN k).toNat [a, b, c, d] ++ [(↑l.length : Int)] = a :: (↑l.length : Int) :: List.flatMap lnL (List.take (Int.toNat (0 : Int)) l)) ∧ ∀ (x : List Int × Int × Unit × Unit × Unit × Unit × Unit), k = (7 : Int) ∧ (0 : Int) ≤ x.snd.fst ∧ x.snd.fst ≤ (↑l.length : Int) ∧ x.fst = a :: (↑l.length : Int) :: List.flatMap lnL (List.take x.snd.fst.toNat l) → (decide (x.snd.fst < (↑l.length : Int)) = true → ((0 : Int) ≤ x.snd.fst ∧ x.snd.fst < (↑l.length : Int)) ∧ ∀ (x_1 : Int × Int × Int × Int), l[x.snd.fst.toNat]? = some x_1 → ((x.fst.length + (4 : Nat)) * (8 : Nat) ≤ (140737488355328 : Nat) ∧ x.fst.length + (4 : Nat) ≤ (4611686018427387904 : Nat)) ∧ ((-9223372036854775808 : Int) ≤ x.snd.fst + (1 : Int) ∧ x.snd.fst + (1 : Int) ≤ (9223372036854775807 : Int)) ∧ (some (Obj.box [V.int IntKind.i64 k, V.int IntKind.i64 a, V.int IntKind.i64 b, V.int IntKind.i64 c, V.int IntKind.i64 d, V.bool s, V.bool p, V.int IntKind.i64 n, V.int IntKind.i64 m, V.list LK.tmp Ln l]) = some (Obj.box [V.int IntKind.i64 k, V.int IntKind.i64 a, V.int IntKind.i64 b, V.int IntKind.i64 c, V.int IntKind.i64 d, V.bool s, V.bool p, V.int IntKind.i64 n, V.int IntKind.i64 m, V.list LK.tmp Ln l]) ∧ True) ∧ (k = (7 : Int) ∧ (0 : Int) ≤ x.snd.fst + (1 : Int) ∧ x.snd.fst + (1 : Int) ≤ (↑l.length : Int) ∧ x.fst ++ [x_1.fst, x_1.snd.fst, x_1.snd.snd.fst, x_1.snd.snd.snd] = a :: (↑l.length : Int) :: List.flatMap lnL (List.take (x.snd.fst + (1 : Int)).toNat l)) ∧ ((↑l.length : Int) - (x.snd.fst + (1 : Int))).toNat < ((↑l.length : Int) - x.snd.fst).toNat) ∧ (decide (x.snd.fst < (↑l.length : Int)) = false → (x.fst, ()) = (numsF (k, a, b, c, d, s, p, (n, m), l), ()))) ∧ (decide (k = (7 : Int)) = false → (List.take (numN k).toNat [a, b, c, d], ()) = (numsF (k, a, b, c, d, s, p, (n, m), l), ()))))
theorem g_rsaid_eq (k a b c d : Int) (s p : Bool) (n m : Int) (l : List LnD) : g_rsaid k a b c d s p n m l = g_rsaid_vc k a b c d s p n m l := by kernel_rfl
theorem nums_two {c : CmD} (h : c.1 = 2) : numsF c = rhead c ++ [bitF c.2.2.2.2.2.1, bitF c.2.2.2.2.2.2.1] := by
  rw [nums_head (by omega) (by omega), if_pos h]
theorem nums_five {c : CmD} (h : c.1 = 5) : numsF c = rhead c ++ [c.2.2.2.2.2.2.2.1.1, c.2.2.2.2.2.2.2.1.2] := by
  rw [nums_head (by omega) (by omega), if_neg (by omega), if_pos h]
theorem nums_else {c : CmD} (h1 : 1 ≤ c.1) (h8 : c.1 ≤ 8) (h2 : c.1 ≠ 2) (h5 : c.1 ≠ 5) (h7 : c.1 ≠ 7) : numsF c = rhead c := by
  rw [nums_head h1 h8, if_neg h2, if_neg h5, if_neg h7, List.append_nil]
theorem nums_seven {c : CmD} (h : c.1 = 7) : numsF c = rhead c ++ ((linesF c).length : Int) :: (linesF c).flatMap lnL := by
  rw [nums_head (by omega) (by omega), if_neg (by omega), if_neg (by omega), if_pos h]
theorem g_rsaid_ok (k a b c d : Int) (s p : Bool) (n m : Int) (l : List LnD) (h : 1 ≤ k ∧ k ≤ 8 ∧ l.length ≤ 50) : g_rsaid_vc k a b c d s p n m l := by
  unfold g_rsaid_vc
  have hn := numN_in h.1 h.2.1
  have hh : ([a, b, c, d].take (numN k).toNat).length ≤ 4 := by rw [List.length_take]; simp; omega
  have hlen : ∀ j : Nat, (a :: (l.length : Int) :: (l.take j).flatMap lnL).length ≤ 210 := fun j => by
    have := lines_len (l := l) (i := j)
    simp only [List.length_cons]
    omega
  simp only [decide_eq_true_eq, decide_eq_false_iff_not, Bool.not_eq_true', Bool.not_eq_false', Bool.not_true, Bool.not_false]
  repeat' (first
    | with_reducible apply And.intro
    | (intro (x : List Int × Int × Unit × Unit × Unit × Unit × Unit); obtain ⟨o, i, ⟨⟩, ⟨⟩, ⟨⟩, ⟨⟩, ⟨⟩⟩ := x; rintro ⟨h7, h0, h1, ho⟩; dsimp only at h0 h1 ho ⊢; have hol := hlen i.toNat; rw [← ho] at hol)
    | intro _)
  all_goals try (first | trivial | rfl | omega)
  · rename_i h2 _ _
    rw [nums_two h2]
    rfl
  · rename_i h5 _
    rw [nums_five h5]
    rfl
  · rename_i h7
    subst h7
    rfl
  · rename_i hx
    rw [ho, show (i + 1).toNat = i.toNat + 1 by omega, List.take_add_one, hx]
    simp [lnL]
  · rename_i h7 hi
    subst h7
    rw [nums_seven rfl, ho, List.take_of_length_le (by omega)]
    rfl
  · rename_i h2 h5 h7
    rw [nums_else h.1 h.2.1 h2 h5 h7]
    rfl
set_option maxRecDepth 20000 in
theorem rsaid_pure (k a b c d : Int) (s p : Bool) (n m : Int) (l : List LnD) (h : 1 ≤ k ∧ k ≤ 8 ∧ l.length ≤ 50) : Pure Tryd.prog 22 [.agg [.int .i64 k, .int .i64 a, .int .i64 b, .int .i64 c, .int .i64 d, .bool s, .bool p, .int .i64 n, .int .i64 m, .list .tmp Ln l]] (.olist I (numsF (k, a, b, c, d, s, p, (n, m), l))) :=
  Pure.of_g (E := env_rsaid k a b c d s p n m l) (ts := tsOf Tryd.f22) (ps := [.slc 9001 I]) (r := (numsF (k, a, b, c, d, s, p, (n, m), l), ())) (fn := Tryd.f22) (c := codeOf Tryd.f22) (specs_ok (P := Tryd.prog) rfl [sp_rbit, sp_rnums] [] rfl rfl) mixed Tryd.func22 rfl rfl (g := g_rsaid k a b c d s p n m l) (by delta g_rsaid start0; first | with_reducible exact Eq.refl _ | exact Eq.refl _) (by rw [g_rsaid_eq k a b c d s p n m l]; exact g_rsaid_ok k a b c d s p n m l h)
noncomputable def q_rsaid (k a b c d : Int) (s p : Bool) (n m : Int) (l : List LnD) : Prop × V := (1 ≤ k ∧ k ≤ 8 ∧ l.length ≤ 50, (.olist I (numsF (k, a, b, c, d, s, p, (n, m), l))))
noncomputable def sp_rsaid : FSpec Tryd.prog where
  f := 22
  run := fun args => match args with
    | [.agg [.int .i64 k, .int .i64 a, .int .i64 b, .int .i64 c, .int .i64 d, v0_5, v0_6, .int .i64 n, .int .i64 m, v0_9]] => (match boolOf v0_5 with | some s => (match boolOf v0_6 with | some p => (match (asL Ln v0_9 : Option (List LnD)) with | some l => some (q_rsaid k a b c d s p n m l) | none => none) | none => none) | none => none)
    | _ => none
  ok := fun args pre r h hp => by
    try dsimp only at h
    split at h
    · rename_i k a b c d v0_5 v0_6 n m v0_9
      cases h0_5 : boolOf v0_5 with
      | none => rw [h0_5] at h; cases h
      | some s =>
      rw [h0_5] at h
      try dsimp only at h
      cases h0_6 : boolOf v0_6 with
      | none => rw [h0_6] at h; cases h
      | some p =>
      rw [h0_6] at h
      try dsimp only at h
      cases h0_9 : (asL Ln v0_9 : Option (List LnD)) with
      | none => rw [h0_9] at h; cases h
      | some l =>
      rw [h0_9] at h
      try dsimp only at h
      have h := Option.some.inj h
      unfold q_rsaid at h
      cases h
      exact (rsaid_pure k a b c d s p n m l hp).weak (.cons (Weak.agg (.cons (Weak.refl _) (.cons (Weak.refl _) (.cons (Weak.refl _) (.cons (Weak.refl _) (.cons (Weak.refl _) (.cons (boolOf_weak h0_5) (.cons (boolOf_weak h0_6) (.cons (Weak.refl _) (.cons (Weak.refl _) (.cons (asL_weak h0_9) .nil))))))))))) .nil)
    · cases h

/-- Something is said that a kind does not say. -/
def rbad (c : CmD) : Prop := (∃ i : Int, numN c.1 ≤ i ∧ i < 4 ∧ nthI [c.2.1, c.2.2.1, c.2.2.2.1, c.2.2.2.2.1] i ≠ 0) ∨ (c.1 ≠ 2 ∧ (c.2.2.2.2.2.1 = true ∨ c.2.2.2.2.2.2.1 = true)) ∨ (c.1 ≠ 5 ∧ (c.2.2.2.2.2.2.2.1.1 ≠ 0 ∨ c.2.2.2.2.2.2.2.1.2 ≠ 0))
theorem bit_zero (b : Bool) : bitF b = 0 ↔ b = false := by cases b <;> simp [bitF]
theorem ex_four {n : Int} {P : Int → Prop} (h : 1 ≤ n) (h4 : n ≤ 4) : (∃ i : Int, n ≤ i ∧ i < 4 ∧ P i) ↔ (n ≤ 1 ∧ P 1) ∨ (n ≤ 2 ∧ P 2) ∨ (n ≤ 3 ∧ P 3) := by
  constructor
  · rintro ⟨i, h1, h2, h3⟩
    have : i = 1 ∨ i = 2 ∨ i = 3 := by omega
    rcases this with rfl | rfl | rfl
    · exact .inl ⟨h1, h3⟩
    · exact .inr (.inl ⟨h1, h3⟩)
    · exact .inr (.inr ⟨h1, h3⟩)
  · rintro (⟨h1, h3⟩ | ⟨h1, h3⟩ | ⟨h1, h3⟩)
    · exact ⟨1, h1, by decide, h3⟩
    · exact ⟨2, h1, by decide, h3⟩
    · exact ⟨3, h1, by decide, h3⟩
theorem bad_iff {c : CmD} (h1 : 1 ≤ c.1) (h8 : c.1 ≤ 8) : badF c = true ↔ rbad c := by
  unfold rbad
  have hn := numN_in h1 h8
  rw [ex_four hn.1 hn.2]
  obtain ⟨k, a, b, c, d, s, p, ⟨n, m⟩, l⟩ := c
  dsimp only at h1 h8
  have e : badF (k, a, b, c, d, s, p, (n, m), l) = true ↔ ∃ j : Nat, j < 8 ∧ badAt (k, a, b, c, d, s, p, (n, m), l) j := by
    unfold badF
    rw [List.any_eq_true]
    constructor
    · rintro ⟨j, hj, hb⟩
      exact ⟨j, List.mem_range.1 hj, of_decide_eq_true hb⟩
    · rintro ⟨j, hj, hb⟩
      exact ⟨j, List.mem_range.2 hj, decide_eq_true hb⟩
  have e8 : (∃ j : Nat, j < 8 ∧ badAt (k, a, b, c, d, s, p, (n, m), l) j) ↔ badAt (k, a, b, c, d, s, p, (n, m), l) 0 ∨ badAt (k, a, b, c, d, s, p, (n, m), l) 1 ∨ badAt (k, a, b, c, d, s, p, (n, m), l) 2 ∨ badAt (k, a, b, c, d, s, p, (n, m), l) 3 ∨ badAt (k, a, b, c, d, s, p, (n, m), l) 4 ∨ badAt (k, a, b, c, d, s, p, (n, m), l) 5 ∨ badAt (k, a, b, c, d, s, p, (n, m), l) 6 ∨ badAt (k, a, b, c, d, s, p, (n, m), l) 7 := by
    constructor
    · rintro ⟨j, hj, hb⟩
      have : j = 0 ∨ j = 1 ∨ j = 2 ∨ j = 3 ∨ j = 4 ∨ j = 5 ∨ j = 6 ∨ j = 7 := by omega
      rcases this with rfl | rfl | rfl | rfl | rfl | rfl | rfl | rfl
      · exact .inl hb
      · exact .inr (.inl hb)
      · exact .inr (.inr (.inl hb))
      · exact .inr (.inr (.inr (.inl hb)))
      · exact .inr (.inr (.inr (.inr (.inl hb))))
      · exact .inr (.inr (.inr (.inr (.inr (.inl hb)))))
      · exact .inr (.inr (.inr (.inr (.inr (.inr (.inl hb))))))
      · exact .inr (.inr (.inr (.inr (.inr (.inr (.inr hb))))))
    · rintro (h | h | h | h | h | h | h | h)
      · exact ⟨0, by decide, h⟩
      · exact ⟨1, by decide, h⟩
      · exact ⟨2, by decide, h⟩
      · exact ⟨3, by decide, h⟩
      · exact ⟨4, by decide, h⟩
      · exact ⟨5, by decide, h⟩
      · exact ⟨6, by decide, h⟩
      · exact ⟨7, by decide, h⟩
  rw [e, e8]
  rcases kinds_of h1 h8 with rfl | rfl | rfl | rfl | rfl | rfl | rfl | rfl <;> cases s <;> cases p <;> simp [badAt, nthI, allF, partF, partL, numN, bit_zero, bitF] <;> omega
theorem chk_two {c : CmD} (h1 : 1 ≤ c.1) (h8 : c.1 ≤ 8) (hl : (linesF c).length ≤ 50) (h : rbad c ∨ (c.1 ≠ 7 ∧ 0 < (linesF c).length)) : checkF c = 2 := by
  unfold checkF
  rw [if_neg (by omega), if_neg (by omega)]
  by_cases h7 : c.1 ≠ 7 ∧ 0 < (linesF c).length
  · rw [if_pos h7]
  · rw [if_neg h7, if_pos ((bad_iff h1 h8).2 (h.resolve_right h7))]
theorem chk_zero {c : CmD} (h1 : 1 ≤ c.1) (h8 : c.1 ≤ 8) (hl : (linesF c).length ≤ 50) (h : ¬ rbad c) (h7 : ¬ (c.1 ≠ 7 ∧ 0 < (linesF c).length)) : checkF c = 0 := by
  unfold checkF
  rw [if_neg (by omega), if_neg (by omega), if_neg h7, if_neg (fun e => h ((bad_iff h1 h8).1 e))]
noncomputable def env_rcheck (k a b c d : Int) (s p : Bool) (n m : Int) (l : List LnD) : Env where
  P := Tryd.prog
  ty := tys0
  specs := specsOf [sp_rnums]
  heads := fun
    | 7 => some { slots := [(4, .int .i64)], boxes := [], keep := [1], inv := fun _ (x : Int × Unit) => numN k ≤ x.1 ∧ x.1 ≤ 4 ∧ ∀ i, numN k ≤ i → i < x.1 → nthI [a, b, c, d] i = 0, measure := fun _ (x : Int × Unit) => (4 - x.1).toNat }
    | _ => none
noncomputable def g_rcheck (k a b c d : Int) (s p : Bool) (n m : Int) (l : List LnD) : Prop := vc (env_rcheck k a b c d s p n m l) (codeOf Tryd.f10) (start0 Tryd.f10 [.agg [.int .i64 k, .int .i64 a, .int .i64 b, .int .i64 c, .int .i64 d, .bool s, .bool p, .int .i64 n, .int .i64 m, .list .tmp Ln l]]) (exitK (tsOf Tryd.f10) [.int .i64] (checkF (k, a, b, c, d, s, p, (n, m), l), ()))
def g_rcheck_vc (k : Int) (a : Int) (b : Int) (c : Int) (d : Int) (s : Bool) (p : Bool) (n : Int) (m : Int) (l : List LnD) : Prop :=
  (decide (k < (1 : Int)) = false → (decide ((8 : Int) < k) = true → ((25 : Int), ()) = (checkF (k, a, b, c, d, s, p, (n, m), l), ())) ∧ (decide ((8 : Int) < k) = false → (decide ((50 : Int) < (↑l.length : Int)) = true → ((30 : Int), ()) = (checkF (k, a, b, c, d, s, p, (n, m), l), ())) ∧ (decide ((50 : Int) < (↑l.length : Int)) = false → ((1 : Int) ≤ k ∧ k ≤ (8 : Int)) ∧ ((some (Obj.box [V.int IntKind.i64 k, V.int IntKind.i64 a, V.int IntKind.i64 b, V.int IntKind.i64 c, V.int IntKind.i64 d, V.bool s, V.bool p, V.int IntKind.i64 n, V.int IntKind.i64 m, V.list LK.tmp Ln l]) = some (Obj.box [V.int IntKind.i64 k, V.int IntKind.i64 a, V.int IntKind.i64 b, V.int IntKind.i64 c, V.int IntKind.i64 d, V.bool s, V.bool p, V.int IntKind.i64 n, V.int IntKind.i64 m, V.list LK.tmp Ln l]) ∧ True) ∧ numN k ≤ numN k ∧ numN k ≤ (4 : Int) ∧ ∀ (i : Int), numN k ≤ i → i < numN k → nthI [a, b, c, d] i = (0 : Int)) ∧ ∀ (x : Int × Unit), (numN k ≤ x.fst ∧ x.fst ≤ (4 : Int) ∧ ∀ (i : Int), numN k ≤ i → i < x.fst → nthI [a, b, c, d] i = (0 : Int)) → (decide (x.fst < (4 : Int)) = true → ((0 : Int) ≤ x.fst ∧ x.fst < (↑(4 : Nat) : Int)) ∧ ∀ (x_1 : Int), [a, b, c, d][x.fst.toNat]? = some x_1 → ((!decide (x_1 = (0 : Int))) = true → ((2 : Int), ()) = (checkF (k, a, b, c, d, s, p, (n, m), l), ())) ∧ ((!decide (x_1 = (0 : Int))) = false → ((-9223372036854775808 : Int) ≤ x.fst + (1 : Int) ∧ x.fst + (1 : Int) ≤ (9223372036854775807 : Int)) ∧ (some (Obj.box [V.int IntKind.i64 k, V.int IntKind.i64 a, V.int IntKind.i64 b, V.int IntKind.i64 c, V.int IntKind.i64 d, V.bool s, V.bool p, V.int IntKind.i64 n, V.int IntKind.i64 m, V.list LK.tmp Ln l]) = some (Obj.box [V.int IntKind.i64 k, V.int IntKind.i64 a, V.int IntKind.i64 b, V.int IntKind.i64 c, V.int IntKind.i64 d, V.bool s, V.bool p, V.int IntKind.i64 n, V.int IntKind.i64 m, V.list LK.tmp Ln l]) ∧ True) ∧ (numN k ≤ x.fst + (1 : Int) ∧ x.fst + (1 : Int) ≤ (4 : Int) ∧ ∀ (i : Int), numN k ≤ i → i < x.fst + (1 : Int) → nthI [a, b, c, d] i = (0 : Int)) ∧ ((4 : Int) - (x.fst + (1 : Int))).toNat < ((4 : Int) - x.fst).toNat)) ∧ (decide (x.fst < (4 : Int)) = false → ((!decide (k = (2 : Int))) = true → (s = false → (p = false → ((!decide (k = (5 : Int))) = true → ((!decide (n = (0 : Int))) = false → ((!decide (m = (0 : Int))) = false → ((!decide (k = (7 : Int))) = true → (decide ((0 : Int) < (↑l.length : Int)) = true → ((2 : Int), ()) = (checkF (k, a, b, c, d, s, p, (n, m), l), ())) ∧ (decide ((0 : Int) < (↑l.length : Int)) = false → ((0 : Int), ()) = (checkF (k, a, b, c, d, s, p, (n, m), l), ()))) ∧ ((!decide (k = (7 : Int))) = !true → ((0 : Int), ()) = (checkF (k, a, b, c, d, s, p, (n, m), l), ()))) ∧ ((!decide (m = (0 : Int))) = !false → ((2 : Int), ()) = (checkF (k, a, b, c, d, s, p, (n, m), l), ()))) ∧ ((!decide (n = (0 : Int))) = !false → ((2 : Int), ()) = (checkF (k, a, b, c, d, s, p, (n, m), l), ()))) ∧ ((!decide (k = (5 : Int))) = !true → ((!decide (k = (7 : Int))) = true → (decide ((0 : Int) < (↑l.length : Int)) = true → ((2 : Int), ()) = (checkF (k, a, b, c, d, s, p, (n, m), l), ())) ∧ (decide ((0 : Int) < (↑l.length : Int)) = false → ((0 : Int), ()) = (checkF (k, a, b, c, d, s, p, (n, m), l), ()))) ∧ ((!decide (k = (7 : Int))) = !true → ((0 : Int), ()) = (checkF (k, a, b, c, d, s, p, (n, m), l), ())))) ∧ (p = !false → ((2 : Int), ()) = (checkF (k, a, b, c, d, s, p, (n, m), l), ()))) ∧ (s = !false → ((2 : Int), ()) = (checkF (k, a, b, c, d, s, p, (n, m), l), ()))) ∧ ((!decide (k = (2 : Int))) = !true → ((!decide (k = (5 : Int))) = true → ((!decide (n = (0 : Int))) = false → ((!decide (m = (0 : Int))) = false → ((!decide (k = (7 : Int))) = true → (decide ((0 : Int) < (↑l.length : Int)) = true → ((2 : Int), ()) = (checkF (k, a, b, c, d, s, p, (n, m), l), ())) ∧ (decide ((0 : Int) < (↑l.length : Int)) = false → ((0 : Int), ()) = (checkF (k, a, b, c, d, s, p, (n, m), l), ()))) ∧ ((!decide (k = (7 : Int))) = !true → ((0 : Int), ()) = (checkF (k, a, b, c, d, s, p, (n, m), l), ()))) ∧ ((!decide (m = (0 : Int))) = !false → ((2 : Int), ()) = (checkF (k, a, b, c, d, s, p, (n, m), l), ()))) ∧ ((!decide (n = (0 : Int))) = !false → ((2 : Int), ()) = (checkF (k, a, b, c, d, s, p, (n, m), l), ()))) ∧ ((!decide (k = (5 : Int))) = !true → ((!decide (k = (7 : Int))) = true → (decide ((0 : Int) < (↑l.length : Int)) = true → ((2 : Int), ()) = (checkF (k, a, b, c, d, s, p, (n, m), l), ())) ∧ (decide ((0 : Int) < (↑l.length : Int)) = false → ((0 : Int), ()) = (checkF (k, a, b, c, d, s, p, (n, m), l), ()))) ∧ ((!decide (k = (7 : Int))) = !true → ((0 : Int), ()) = (checkF (k, a, b, c, d, s, p, (n, m), l), ())))))))) ∧ (decide (k < (1 : Int)) = !false → ((25 : Int), ()) = (checkF (k, a, b, c, d, s, p, (n, m), l), ()))
theorem g_rcheck_eq (k a b c d : Int) (s p : Bool) (n m : Int) (l : List LnD) : g_rcheck k a b c d s p n m l = g_rcheck_vc k a b c d s p n m l := by kernel_rfl
theorem g_rcheck_ok (k a b c d : Int) (s p : Bool) (n m : Int) (l : List LnD) : g_rcheck_vc k a b c d s p n m l := by
  unfold g_rcheck_vc
  simp only [decide_eq_true_eq, decide_eq_false_iff_not, Bool.not_eq_true', Bool.not_eq_false', Bool.not_true, Bool.not_false]
  repeat' (first | with_reducible apply And.intro | intro _)
  all_goals try (first | trivial | rfl | omega)
  · rw [show checkF (k, a, b, c, d, s, p, (n, m), l) = 25 from if_pos (by omega)]
  · rw [show checkF (k, a, b, c, d, s, p, (n, m), l) = 30 from (if_neg (by simp only; omega)).trans (if_pos (by simp only [linesF]; omega))]
  · exact (numN_in (by omega) (by omega)).2
  · rename_i x hx _
    have := (numN_in (k := k) (by omega) (by omega)).1
    omega
  · rename_i x hx _ y hy hy0
    have h1 := (numN_in (k := k) (by omega) (by omega)).1
    rw [chk_two (c := (k, a, b, c, d, s, p, (n, m), l)) (by dsimp only; omega) (by dsimp only; omega) (by simp only [linesF]; omega) (.inl (.inl ⟨x.1, hx.1, by assumption, by unfold nthI; simp only; rw [hy]; exact hy0⟩))]
  · rename_i x hx _ _ _ _
    have := (numN_in (k := k) (by omega) (by omega)).1
    omega
  · rename_i x hx _ y hy hy0 i i0 i1
    have h1 := (numN_in (k := k) (by omega) (by omega)).1
    by_cases hi : i < x.1
    · exact hx.2.2 i i0 hi
    · have : i = x.1 := by omega
      subst this
      unfold nthI
      rw [hy]
      exact hy0
  all_goals try (
    rw [chk_two (c := (k, a, b, c, d, s, p, (n, m), l)) (by dsimp only; omega) (by dsimp only; omega) (by simp only [linesF]; omega) (by
      first
        | exact .inr ⟨by assumption, by simp only [linesF]; omega⟩
        | exact .inl (.inr (.inl ⟨by assumption, .inl (by assumption)⟩))
        | exact .inl (.inr (.inl ⟨by assumption, .inr (by assumption)⟩))
        | exact .inl (.inr (.inr ⟨by assumption, .inl (by assumption)⟩))
        | exact .inl (.inr (.inr ⟨by assumption, .inr (by assumption)⟩)))])
  iterate 4 (
    rw [chk_zero (c := (k, a, b, c, d, s, p, (n, m), l)) (by dsimp only; omega) (by dsimp only; omega) (by simp only [linesF]; omega) (by
      obtain ⟨_, _, hz⟩ := ‹numN k ≤ _ ∧ (_ : Int) ≤ 4 ∧ _›
      rintro (⟨i, i0, i1, i2⟩ | ⟨q1, q2⟩ | ⟨q1, q2⟩)
      · exact i2 (hz i i0 (by omega))
      · simp_all
      · simp_all) (by simp only [linesF]; omega)])
  · rw [show checkF (k, a, b, c, d, s, p, (n, m), l) = 25 from if_pos (by simp only; omega)]
set_option maxRecDepth 20000 in
theorem rcheck_pure (k a b c d : Int) (s p : Bool) (n m : Int) (l : List LnD) : Pure Tryd.prog 10 [.agg [.int .i64 k, .int .i64 a, .int .i64 b, .int .i64 c, .int .i64 d, .bool s, .bool p, .int .i64 n, .int .i64 m, .list .tmp Ln l]] (.int .i64 (checkF (k, a, b, c, d, s, p, (n, m), l))) :=
  Pure.of_g (E := env_rcheck k a b c d s p n m l) (ts := tsOf Tryd.f10) (ps := [.int .i64]) (r := (checkF (k, a, b, c, d, s, p, (n, m), l), ())) (fn := Tryd.f10) (c := codeOf Tryd.f10) (specs_ok (P := Tryd.prog) rfl [sp_rnums] [] rfl rfl) mixed Tryd.func10 rfl rfl (g := g_rcheck k a b c d s p n m l) (by delta g_rcheck start0; first | with_reducible exact Eq.refl _ | exact Eq.refl _) (by rw [g_rcheck_eq k a b c d s p n m l]; exact g_rcheck_ok k a b c d s p n m l)
noncomputable def q_rcheck (k a b c d : Int) (s p : Bool) (n m : Int) (l : List LnD) : Prop × V := (True, (.int .i64 (checkF (k, a, b, c, d, s, p, (n, m), l))))
noncomputable def sp_rcheck : FSpec Tryd.prog where
  f := 10
  run := fun args => match args with
    | [.agg [.int .i64 k, .int .i64 a, .int .i64 b, .int .i64 c, .int .i64 d, v0_5, v0_6, .int .i64 n, .int .i64 m, v0_9]] => (match boolOf v0_5 with | some s => (match boolOf v0_6 with | some p => (match (asL Ln v0_9 : Option (List LnD)) with | some l => some (q_rcheck k a b c d s p n m l) | none => none) | none => none) | none => none)
    | _ => none
  ok := fun args pre r h hp => by
    try dsimp only at h
    split at h
    · rename_i k a b c d v0_5 v0_6 n m v0_9
      cases h0_5 : boolOf v0_5 with
      | none => rw [h0_5] at h; cases h
      | some s =>
      rw [h0_5] at h
      try dsimp only at h
      cases h0_6 : boolOf v0_6 with
      | none => rw [h0_6] at h; cases h
      | some p =>
      rw [h0_6] at h
      try dsimp only at h
      cases h0_9 : (asL Ln v0_9 : Option (List LnD)) with
      | none => rw [h0_9] at h; cases h
      | some l =>
      rw [h0_9] at h
      try dsimp only at h
      have h := Option.some.inj h
      unfold q_rcheck at h
      cases h
      exact (rcheck_pure k a b c d s p n m l).weak (.cons (Weak.agg (.cons (Weak.refl _) (.cons (Weak.refl _) (.cons (Weak.refl _) (.cons (Weak.refl _) (.cons (Weak.refl _) (.cons (boolOf_weak h0_5) (.cons (boolOf_weak h0_6) (.cons (Weak.refl _) (.cons (Weak.refl _) (.cons (asL_weak h0_9) .nil))))))))))) .nil)
    · cases h

end Go.Proofs.YtgdcjefnhcamgaaDoor
