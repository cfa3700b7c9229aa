/-
  num.Add, num.Sum; those, Ids, Total, Len.
-/
import Derived.Test.YteaajihmfacinaaTa9
import Derived.Test.YteaajihmfacinaaBig3
import Derived.Test.YteaajihmfacinaaNum2
namespace Go.Proofs.Yteaajihmfacinaa.Ta
open Go.Vm
noncomputable def env_sum (l : List Int) : Env where
  P := Try.prog
  ty := tys0
  specs := specsOf [sp_net]
def g_sum_vc (l : List Int) : Prop :=
  (l.length ≤ (1000000000 : Nat) ∧ (0 : Nat) ≤ (1000000000 : Nat)) ∧ ((netF l []).1, (netF l []).2, ()) = ((netF l []).1, (netF l []).2, ())
theorem g_sum_eq (l : List Int) : Cond (env_sum l) Try.f40 [.list .tmp I l] [.int .i64, .int .i64] ((netF l []).1, (netF l []).2, ()) = g_sum_vc l := by kernel_rfl
theorem g_sum_ok (l : List Int) (h : l.length ≤ 1000000000) : g_sum_vc l := by
  exact ⟨⟨h, Nat.zero_le _⟩, rfl⟩
set_option maxRecDepth 20000
theorem sum_pure (l : List Int) (h : l.length ≤ 1000000000) : Pure Try.prog 40 [.list .tmp I l] (.tuple [.int .i64 (netF l []).1, .int .i64 (netF l []).2]) :=
  by have k := Pure.of_cond (g_sum_eq l) (g_sum_ok l h) (specs_ok rfl [sp_net] [] rfl rfl) mixed Try.func40; exact k
noncomputable def q_sum (l : List Int) : Prop × V := (l.length ≤ 1000000000, (.tuple [.int .i64 (netF l []).1, .int .i64 (netF l []).2]))
noncomputable def sp_sum : FSpec Try.prog where
 f := 40
 run := fun
  | [v0] => (asL I v0 : Option (List Int)).bind fun l => some (q_sum l)
  | _ => none
 ok := fun args pre r h hp => by
  split at h
  · rename_i v0
    obtain ⟨l, h0, h⟩ := Option.bind_eq_some_iff.1 h
    exact of_q h hp fun h => (sum_pure l h).weak (.cons (asL_weak h0) .nil)
  · cases h
def addF (a b : Int) : Int × Int := if -9223372036854775808 ≤ a + b ∧ a + b ≤ 9223372036854775807 then (a + b, 0) else (0, 10)
noncomputable def env_nadd (a b : Int) : Env where
  P := Try.prog
  ty := tys0
  wrap := fun | 9 => true | _ => false
def g_nadd_vc (a : Int) (b : Int) : Prop :=
  ((!decide (a < IntKind.i64.wrap (a + b)) == decide ((0 : Int) < b)) = true → ((!decide (b = (0 : Int))) = true → ((0 : Int), (10 : Int), ()) = ((addF a b).1, (addF a b).2, ())) ∧ ((!decide (b = (0 : Int))) = false → (IntKind.i64.wrap (a + b), (0 : Int), ()) = ((addF a b).1, (addF a b).2, ()))) ∧ ((!decide (a < IntKind.i64.wrap (a + b)) == decide ((0 : Int) < b)) = !true → (IntKind.i64.wrap (a + b), (0 : Int), ()) = ((addF a b).1, (addF a b).2, ()))
theorem g_nadd_eq (a b : Int) : Cond (env_nadd a b) Try.f36 [.int .i64 a, .int .i64 b] [.int .i64, .int .i64] ((addF a b).1, (addF a b).2, ()) = g_nadd_vc a b := by kernel_rfl
theorem g_nadd_ok (a b : Int) (h : InI a ∧ InI b) : g_nadd_vc a b := by
  obtain ⟨⟨h1, h2⟩, h3, h4⟩ := h
  have hw := IntKind.wrap_i64 (a + b)
  unfold g_nadd_vc addF
  generalize IntKind.i64.wrap (a + b) = w at hw
  by_cases hin : -9223372036854775808 ≤ a + b ∧ a + b ≤ 9223372036854775807
  · have ew : w = a + b := by omega
    have e1 : decide (a < w) = decide (0 < b) := decide_eq_decide.2 (by omega)
    rw [if_pos hin, e1, ew]
    refine ⟨fun c => ?_, fun _ => rfl⟩
    simp at c
  · have e1 : decide (a < w) ≠ decide (0 < b) := fun e => by
      have := decide_eq_decide.1 e
      omega
    rw [if_neg hin]
    refine ⟨fun _ => ⟨fun _ => rfl, fun d => ?_⟩, fun c => ?_⟩
    · have : b = 0 := by simpa using d
      omega
    · exact absurd (by simpa using c) e1
theorem nadd_pure (a b : Int) (h : InI a ∧ InI b) : Pure Try.prog 36 [.int .i64 a, .int .i64 b] (.tuple [.int .i64 (addF a b).1, .int .i64 (addF a b).2]) :=
  by have k := Pure.of_cond (g_nadd_eq a b) (g_nadd_ok a b h) (specs_ok rfl [] [] rfl rfl) mixed Try.func36; exact k
noncomputable def q_nadd (a b : Int) : Prop × V := (InI a ∧ InI b, (.tuple [.int .i64 (addF a b).1, .int .i64 (addF a b).2]))
noncomputable def sp_nadd : FSpec Try.prog where
 f := 36
 run := fun
  | [.int .i64 a, .int .i64 b] => some (q_nadd a b)
  | _ => none
 ok := fun args pre r h hp => by
  split at h
  · rename_i a b
    exact of_q h hp fun h => (nadd_pure a b h).weak (.cons (.refl _) (.cons (.refl _) .nil))
  · cases h
def TRd (d : TD) : Prop := (∃ L, Tells d L ∧ ∀ u ∈ L, WordI u.1 ∧ WL u.2) ∧ d.n ≤ 20000
theorem TRd.len {d : TD} (h : TRd d) (k : Sp) : (gGet d.G k).length ≤ 20000 := by
  obtain ⟨⟨L, hT, _⟩, hn⟩ := h
  have h1 : d.n = L.length := hT.n
  rw [hT.rows]
  have := rowsG_len L 0 k
  omega
theorem TRd.plen {d : TD} (h : TRd d) (e a : Int) : (gGet d.H (e, a, 0)).length ≤ 20000 := by
  obtain ⟨⟨L, hT, _⟩, hn⟩ := h
  have h1 : d.n = L.length := hT.n
  rw [hT.per]
  have := perF_len L e a
  omega
def byP (p : Int) (r : Rw) : Bool := decide (p = 0 ∨ r.2.1 = p)
def thoseF (l : List Rw) (p : Int) : List Rw := l.filter (byP p)
theorem those_len (l : List Rw) (p : Int) : (thoseF l p).length ≤ l.length := List.length_filter_le ..
theorem take_next {α : Type} {l : List α} {i : Int} {x : α} (h0 : 0 ≤ i) (hx : l[i.toNat]? = some x) : l.take (i + 1).toNat = l.take i.toNat ++ [x] := by
  rw [show (i + 1).toNat = i.toNat + 1 by omega, List.take_add_one, hx]
  rfl
theorem take_all {α : Type} {l : List α} {i : Int} (h : ¬ i < (l.length : Int)) : l.take i.toNat = l := List.take_of_length_le (by omega)
noncomputable def env_those (G : List (Sp × List Rw)) (H : List (Sp × List Int)) (e n a b c p : Int) : Env where
  P := Try.prog
  ty := tys0
  specs := specsOf [sp_tmade]
  heads := fun | 5 => some { slots := [(20, .int .i64), (7, .slc 9000 RwT)], boxes := [], keep := [4], inv := fun _ (x : Int × List Rw × Unit) => 0 ≤ x.1 ∧ x.1 ≤ (gGet G (a, b, c)).length ∧ x.2.1 = thoseF ((gGet G (a, b, c)).take x.1.toNat) p, measure := fun _ (x : Int × List Rw × Unit) => ((gGet G (a, b, c)).length - x.1).toNat } | _ => none
abbrev bx_those_1 (a : Int) (b : Int) (c : Int) : _root_.Go.Vm.Obj := Obj.box [V.int IntKind.i64 a, V.int IntKind.i64 b, V.int IntKind.i64 c]
def g_those_vc (G : List (Sp × List Rw)) (H : List (Sp × List Int)) (e : Int) (n : Int) (a : Int) (b : Int) (c : Int) (p : Int) : Prop :=
  True ∧ ((!true) = true → ([], ()) = (thoseF (gGet G (a, b, c)) p, ())) ∧ ((!true) = false → SpOk (a, b, c) ∧ ((some (bx_those_1 a b c) = some (bx_those_1 a b c) ∧ True) ∧ (0 : Int) ≤ (0 : Int) ∧ (0 : Int) ≤ (↑(gGet G (a, b, c)).length : Int) ∧ [] = thoseF (List.take (Int.toNat (0 : Int)) (gGet G (a, b, c))) p) ∧ ∀ (x : Int × List (Int × Int × Int) × Unit), (0 : Int) ≤ x.1 ∧ x.1 ≤ (↑(gGet G (a, b, c)).length : Int) ∧ x.2.1 = thoseF (List.take x.1.toNat (gGet G (a, b, c))) p → (decide (x.1 < (↑(gGet G (a, b, c)).length : Int)) = true → ((0 : Int) ≤ x.1 ∧ x.1 < (↑(gGet G (a, b, c)).length : Int)) ∧ ∀ (x_1 : Int × Int × Int), (gGet G (a, b, c))[x.1.toNat]? = some x_1 → (decide (p = (0 : Int)) = false → (decide (x_1.2.1 = p) = true → ((x.2.1.length + (1 : Nat)) * (24 : Nat) ≤ (140737488355328 : Nat) ∧ x.2.1.length + (1 : Nat) ≤ (4611686018427387904 : Nat)) ∧ ((-9223372036854775808 : Int) ≤ x.1 + (1 : Int) ∧ x.1 + (1 : Int) ≤ (9223372036854775807 : Int)) ∧ (some (bx_those_1 a b c) = some (bx_those_1 a b c) ∧ True) ∧ ((0 : Int) ≤ x.1 + (1 : Int) ∧ x.1 + (1 : Int) ≤ (↑(gGet G (a, b, c)).length : Int) ∧ x.2.1 ++ [(x_1.1, x_1.2.1, x_1.2.2)] = thoseF (List.take (x.1 + (1 : Int)).toNat (gGet G (a, b, c))) p) ∧ ((↑(gGet G (a, b, c)).length : Int) - (x.1 + (1 : Int))).toNat < ((↑(gGet G (a, b, c)).length : Int) - x.1).toNat) ∧ (decide (x_1.2.1 = p) = false → ((-9223372036854775808 : Int) ≤ x.1 + (1 : Int) ∧ x.1 + (1 : Int) ≤ (9223372036854775807 : Int)) ∧ (some (bx_those_1 a b c) = some (bx_those_1 a b c) ∧ True) ∧ ((0 : Int) ≤ x.1 + (1 : Int) ∧ x.1 + (1 : Int) ≤ (↑(gGet G (a, b, c)).length : Int) ∧ x.2.1 = thoseF (List.take (x.1 + (1 : Int)).toNat (gGet G (a, b, c))) p) ∧ ((↑(gGet G (a, b, c)).length : Int) - (x.1 + (1 : Int))).toNat < ((↑(gGet G (a, b, c)).length : Int) - x.1).toNat)) ∧ (decide (p = (0 : Int)) = !false → ((x.2.1.length + (1 : Nat)) * (24 : Nat) ≤ (140737488355328 : Nat) ∧ x.2.1.length + (1 : Nat) ≤ (4611686018427387904 : Nat)) ∧ ((-9223372036854775808 : Int) ≤ x.1 + (1 : Int) ∧ x.1 + (1 : Int) ≤ (9223372036854775807 : Int)) ∧ (some (bx_those_1 a b c) = some (bx_those_1 a b c) ∧ True) ∧ ((0 : Int) ≤ x.1 + (1 : Int) ∧ x.1 + (1 : Int) ≤ (↑(gGet G (a, b, c)).length : Int) ∧ x.2.1 ++ [(x_1.1, x_1.2.1, x_1.2.2)] = thoseF (List.take (x.1 + (1 : Int)).toNat (gGet G (a, b, c))) p) ∧ ((↑(gGet G (a, b, c)).length : Int) - (x.1 + (1 : Int))).toNat < ((↑(gGet G (a, b, c)).length : Int) - x.1).toNat)) ∧ (decide (x.1 < (↑(gGet G (a, b, c)).length : Int)) = false → (x.2.1, ()) = (thoseF (gGet G (a, b, c)) p, ())))
theorem g_those_eq (G : List (Sp × List Rw)) (H : List (Sp × List Int)) (e n a b c p : Int) : Cond (env_those G H e n a b c p) Try.f31 [.fptr [.fopq .grw (G, none), .fopq .gpe (H, none), .int .i64 e, .int .i64 n], .agg [.int .i64 a, .int .i64 b, .int .i64 c], .int .i64 p] [.slc 0 RwT] (thoseF (gGet G (a, b, c)) p, ()) = g_those_vc G H e n a b c p := by kernel_rfl
theorem g_those_ok (G : List (Sp × List Rw)) (H : List (Sp × List Int)) (e n a b c p : Int) (h : TRd ⟨G, H, e, n⟩ ∧ SpOk (a, b, c)) : g_those_vc G H e n a b c p := by
  obtain ⟨hT, hk⟩ := h
  have hlen := hT.len (a, b, c)
  dsimp only at hlen
  unfold g_those_vc
  simp only [decide_eq_true_eq, decide_eq_false_iff_not, Bool.not_eq_true', Bool.not_eq_false', Bool.not_true, Bool.not_false]
  generalize gGet G (a, b, c) = R at hlen ⊢
  refine ⟨trivial, (fun h => by cases h), fun _ => ⟨hk, ⟨⟨trivial, trivial⟩, by omega, by omega, rfl⟩, ?_⟩⟩
  rintro ⟨i, out, ⟨⟩⟩ ⟨h0, h1, h2⟩
  dsimp only at h0 h1 h2 ⊢
  have hol : out.length ≤ 20000 := by
    rw [h2]
    exact Nat.le_trans (those_len _ _) (Nat.le_trans (List.length_take_le _ _) (by omega))
  refine ⟨fun c => ⟨⟨h0, c⟩, fun y hy => ⟨fun hp => ⟨fun hq => ⟨by omega, by omega, ⟨trivial, trivial⟩, ⟨by omega, by omega, ?_⟩, by omega⟩, fun hq => ⟨by omega, ⟨trivial, trivial⟩, ⟨by omega, by omega, ?_⟩, by omega⟩⟩, fun hp => ⟨by omega, by omega, ⟨trivial, trivial⟩, ⟨by omega, by omega, ?_⟩, by omega⟩⟩⟩, fun c => ?_⟩
  · rw [take_next h0 hy, thoseF, List.filter_append, h2, List.filter_cons_of_pos (by simp [byP, hq])]
    rfl
  · rw [take_next h0 hy, thoseF, List.filter_append, h2, List.filter_cons_of_neg (by simp [byP, hq, hp])]
    simp [thoseF]
  · rw [take_next h0 hy, thoseF, List.filter_append, h2, List.filter_cons_of_pos (by simp [byP, hp])]
    rfl
  · rw [h2, take_all c]
theorem those_pure (G : List (Sp × List Rw)) (H : List (Sp × List Int)) (e n a b c p : Int) (h : TRd ⟨G, H, e, n⟩ ∧ SpOk (a, b, c)) : Pure Try.prog 31 [.fptr [.fopq .grw (G, none), .fopq .gpe (H, none), .int .i64 e, .int .i64 n], .agg [.int .i64 a, .int .i64 b, .int .i64 c], .int .i64 p] (.olist RwT (thoseF (gGet G (a, b, c)) p)) :=
  by have k := Pure.of_cond (g_those_eq G H e n a b c p) (g_those_ok G H e n a b c p h) (specs_ok rfl [sp_tmade] [] rfl rfl) mixed Try.func31; exact k
noncomputable def q_those (G : List (Sp × List Rw)) (H : List (Sp × List Int)) (e n a b c p : Int) : Prop × V := (TRd ⟨G, H, e, n⟩ ∧ SpOk (a, b, c), (.olist RwT (thoseF (gGet G (a, b, c)) p)))
noncomputable def sp_those : FSpec Try.prog where
 f := 31
 run := fun
  | [.fptr [.fopq .grw (G, none), .fopq .gpe (H, none), .int .i64 e, .int .i64 n], .agg [.int .i64 a, .int .i64 b, .int .i64 c], .int .i64 p] => some (q_those G H e n a b c p)
  | _ => none
 ok := fun args pre r h hp => by
  split at h
  · rename_i G H e n a b c p
    exact of_q h hp fun h => (those_pure G H e n a b c p h).weak (.cons (.refl _) (.cons (.refl _) (.cons (.refl _) .nil)))
  · cases h
def idsF (G : List (Sp × List Rw)) (k : Sp) (q : Int) : List Int := (thoseF (gGet G k) q).map (·.1)
def amsF (G : List (Sp × List Rw)) (k : Sp) (q : Int) : List Int := (thoseF (gGet G k) q).map (·.2.2)
theorem TRd.tlen {d : TD} (h : TRd d) (k : Sp) (q : Int) : (thoseF (gGet d.G k) q).length ≤ 20000 := Nat.le_trans (those_len _ _) (h.len k)
noncomputable def env_ids (G : List (Sp × List Rw)) (H : List (Sp × List Int)) (e n a b c p : Int) : Env where
  P := Try.prog
  ty := tys0
  specs := specsOf [sp_those]
  frz := fun | 20 => true | _ => false
  heads := fun | 3 => some { slots := [(22, .int .i64), (11, .slc 9000 I)], boxes := [], inv := fun _ (x : Int × List Int × Unit) => 0 ≤ x.1 ∧ x.1 ≤ (thoseF (gGet G (a, b, c)) p).length ∧ x.2.1 = ((thoseF (gGet G (a, b, c)) p).take x.1.toNat).map (·.1), measure := fun _ (x : Int × List Int × Unit) => ((thoseF (gGet G (a, b, c)) p).length - x.1).toNat } | _ => none
def g_ids_vc (G : List (Sp × List Rw)) (H : List (Sp × List Int)) (e : Int) (n : Int) (a : Int) (b : Int) (c : Int) (p : Int) : Prop :=
  (TRd { G := G, H := H, e := e, n := n } ∧ SpOk (a, b, c)) ∧ (True ∧ (0 : Int) ≤ (0 : Int) ∧ (0 : Int) ≤ (↑(thoseF (gGet G (a, b, c)) p).length : Int) ∧ [] = List.map (fun x => x.1) (List.take (Int.toNat (0 : Int)) (thoseF (gGet G (a, b, c)) p))) ∧ ∀ (x : Int × List Int × Unit), (0 : Int) ≤ x.1 ∧ x.1 ≤ (↑(thoseF (gGet G (a, b, c)) p).length : Int) ∧ x.2.1 = List.map (fun x => x.1) (List.take x.1.toNat (thoseF (gGet G (a, b, c)) p)) → (decide (x.1 < (↑(thoseF (gGet G (a, b, c)) p).length : Int)) = true → ((0 : Int) ≤ x.1 ∧ x.1 < (↑(thoseF (gGet G (a, b, c)) p).length : Int)) ∧ ∀ (x_1 : Int × Int × Int), (thoseF (gGet G (a, b, c)) p)[x.1.toNat]? = some x_1 → ((x.2.1.length + (1 : Nat)) * (8 : Nat) ≤ (140737488355328 : Nat) ∧ x.2.1.length + (1 : Nat) ≤ (4611686018427387904 : Nat)) ∧ ((-9223372036854775808 : Int) ≤ x.1 + (1 : Int) ∧ x.1 + (1 : Int) ≤ (9223372036854775807 : Int)) ∧ True ∧ ((0 : Int) ≤ x.1 + (1 : Int) ∧ x.1 + (1 : Int) ≤ (↑(thoseF (gGet G (a, b, c)) p).length : Int) ∧ x.2.1 ++ [x_1.1] = List.map (fun x => x.1) (List.take (x.1 + (1 : Int)).toNat (thoseF (gGet G (a, b, c)) p))) ∧ ((↑(thoseF (gGet G (a, b, c)) p).length : Int) - (x.1 + (1 : Int))).toNat < ((↑(thoseF (gGet G (a, b, c)) p).length : Int) - x.1).toNat) ∧ (decide (x.1 < (↑(thoseF (gGet G (a, b, c)) p).length : Int)) = false → (x.2.1, ()) = (idsF G (a, b, c) p, ()))
theorem g_ids_eq (G : List (Sp × List Rw)) (H : List (Sp × List Int)) (e n a b c p : Int) : Cond (env_ids G H e n a b c p) Try.f11 [.fptr [.fopq .grw (G, none), .fopq .gpe (H, none), .int .i64 e, .int .i64 n], .int .i64 a, .int .i64 b, .int .i64 c, .int .i64 p] [.slc 0 I] (idsF G (a, b, c) p, ()) = g_ids_vc G H e n a b c p := by kernel_rfl
theorem g_ids_ok (G : List (Sp × List Rw)) (H : List (Sp × List Int)) (e n a b c p : Int) (h : TRd ⟨G, H, e, n⟩ ∧ SpOk (a, b, c)) : g_ids_vc G H e n a b c p := by
  have hlen := h.1.tlen (a, b, c) p
  dsimp only at hlen
  unfold g_ids_vc idsF
  simp only [decide_eq_true_eq, decide_eq_false_iff_not, Bool.not_eq_true', Bool.not_eq_false', Bool.not_true, Bool.not_false]
  refine ⟨h, ?_⟩
  generalize thoseF (gGet G (a, b, c)) p = R at hlen ⊢
  refine ⟨⟨trivial, by omega, by omega, rfl⟩, ?_⟩
  rintro ⟨i, out, ⟨⟩⟩ ⟨h0, h1, h2⟩
  dsimp only at h0 h1 h2 ⊢
  have hol : out.length ≤ 20000 := by
    rw [h2, List.length_map]
    exact Nat.le_trans (List.length_take_le _ _) (by omega)
  refine ⟨fun c => ⟨⟨h0, c⟩, fun y hy => ⟨by omega, by omega, trivial, ⟨by omega, by omega, ?_⟩, by omega⟩⟩, fun c => ?_⟩
  · rw [take_next h0 hy, List.map_append, h2]
    rfl
  · rw [h2, take_all c]
theorem ids_pure (G : List (Sp × List Rw)) (H : List (Sp × List Int)) (e n a b c p : Int) (h : TRd ⟨G, H, e, n⟩ ∧ SpOk (a, b, c)) : Pure Try.prog 11 [.fptr [.fopq .grw (G, none), .fopq .gpe (H, none), .int .i64 e, .int .i64 n], .int .i64 a, .int .i64 b, .int .i64 c, .int .i64 p] (.olist I (idsF G (a, b, c) p)) :=
  by have k := Pure.of_cond (g_ids_eq G H e n a b c p) (g_ids_ok G H e n a b c p h) (specs_ok rfl [sp_those] [] rfl rfl) mixed Try.func11; exact k
noncomputable def q_ids (G : List (Sp × List Rw)) (H : List (Sp × List Int)) (e n a b c p : Int) : Prop × V := (TRd ⟨G, H, e, n⟩ ∧ SpOk (a, b, c), (.olist I (idsF G (a, b, c) p)))
noncomputable def sp_ids : FSpec Try.prog where
 f := 11
 run := fun
  | [.fptr [.fopq .grw (G, none), .fopq .gpe (H, none), .int .i64 e, .int .i64 n], .int .i64 a, .int .i64 b, .int .i64 c, .int .i64 p] => some (q_ids G H e n a b c p)
  | _ => none
 ok := fun args pre r h hp => by
  split at h
  · rename_i G H e n a b c p
    exact of_q h hp fun h => (ids_pure G H e n a b c p h).weak (.cons (.refl _) (.cons (.refl _) (.cons (.refl _) (.cons (.refl _) (.cons (.refl _) .nil)))))
  · cases h
noncomputable def env_total (G : List (Sp × List Rw)) (H : List (Sp × List Int)) (e n a b c p : Int) : Env where
  P := Try.prog
  ty := tys0
  specs := specsOf [sp_those, sp_sum, sp_tmade]
  frz := fun | 24 => true | _ => false
  heads := fun | 5 => some { slots := [(26, .int .i64), (12, .slc 9000 I)], boxes := [], inv := fun _ (x : Int × List Int × Unit) => 0 ≤ x.1 ∧ x.1 ≤ (thoseF (gGet G (a, b, c)) p).length ∧ x.2.1 = ((thoseF (gGet G (a, b, c)) p).take x.1.toNat).map (·.2.2), measure := fun _ (x : Int × List Int × Unit) => ((thoseF (gGet G (a, b, c)) p).length - x.1).toNat } | _ => none
def g_total_vc (G : List (Sp × List Rw)) (H : List (Sp × List Int)) (e : Int) (n : Int) (a : Int) (b : Int) (c : Int) (p : Int) : Prop :=
  True ∧ ((!true) = true → ((0 : Int), (1 : Int), ()) = ((netF (amsF G (a, b, c) p) []).1, (netF (amsF G (a, b, c) p) []).2, ())) ∧ ((!true) = false → (TRd { G := G, H := H, e := e, n := n } ∧ SpOk (a, b, c)) ∧ (True ∧ (0 : Int) ≤ (0 : Int) ∧ (0 : Int) ≤ (↑(thoseF (gGet G (a, b, c)) p).length : Int) ∧ [] = List.map (fun x => x.2.2) (List.take (Int.toNat (0 : Int)) (thoseF (gGet G (a, b, c)) p))) ∧ ∀ (x : Int × List Int × Unit), (0 : Int) ≤ x.1 ∧ x.1 ≤ (↑(thoseF (gGet G (a, b, c)) p).length : Int) ∧ x.2.1 = List.map (fun x => x.2.2) (List.take x.1.toNat (thoseF (gGet G (a, b, c)) p)) → (decide (x.1 < (↑(thoseF (gGet G (a, b, c)) p).length : Int)) = true → ((0 : Int) ≤ x.1 ∧ x.1 < (↑(thoseF (gGet G (a, b, c)) p).length : Int)) ∧ ∀ (x_1 : Int × Int × Int), (thoseF (gGet G (a, b, c)) p)[x.1.toNat]? = some x_1 → ((x.2.1.length + (1 : Nat)) * (8 : Nat) ≤ (140737488355328 : Nat) ∧ x.2.1.length + (1 : Nat) ≤ (4611686018427387904 : Nat)) ∧ ((-9223372036854775808 : Int) ≤ x.1 + (1 : Int) ∧ x.1 + (1 : Int) ≤ (9223372036854775807 : Int)) ∧ True ∧ ((0 : Int) ≤ x.1 + (1 : Int) ∧ x.1 + (1 : Int) ≤ (↑(thoseF (gGet G (a, b, c)) p).length : Int) ∧ x.2.1 ++ [x_1.2.2] = List.map (fun x => x.2.2) (List.take (x.1 + (1 : Int)).toNat (thoseF (gGet G (a, b, c)) p))) ∧ ((↑(thoseF (gGet G (a, b, c)) p).length : Int) - (x.1 + (1 : Int))).toNat < ((↑(thoseF (gGet G (a, b, c)) p).length : Int) - x.1).toNat) ∧ (decide (x.1 < (↑(thoseF (gGet G (a, b, c)) p).length : Int)) = false → x.2.1.length ≤ (1000000000 : Nat) ∧ ((netF x.2.1 []).1, (netF x.2.1 []).2, ()) = ((netF (amsF G (a, b, c) p) []).1, (netF (amsF G (a, b, c) p) []).2, ())))
theorem g_total_eq (G : List (Sp × List Rw)) (H : List (Sp × List Int)) (e n a b c p : Int) : Cond (env_total G H e n a b c p) Try.f17 [.fptr [.fopq .grw (G, none), .fopq .gpe (H, none), .int .i64 e, .int .i64 n], .int .i64 a, .int .i64 b, .int .i64 c, .int .i64 p] [.int .i64, .int .i64] ((netF (amsF G (a, b, c) p) []).1, (netF (amsF G (a, b, c) p) []).2, ()) = g_total_vc G H e n a b c p := by kernel_rfl
theorem g_total_ok (G : List (Sp × List Rw)) (H : List (Sp × List Int)) (e n a b c p : Int) (h : TRd ⟨G, H, e, n⟩ ∧ SpOk (a, b, c)) : g_total_vc G H e n a b c p := by
  have hlen := h.1.tlen (a, b, c) p
  dsimp only at hlen
  unfold g_total_vc amsF
  simp only [decide_eq_true_eq, decide_eq_false_iff_not, Bool.not_eq_true', Bool.not_eq_false', Bool.not_true, Bool.not_false]
  refine ⟨trivial, (fun h => by cases h), fun _ => ⟨h, ?_⟩⟩
  generalize thoseF (gGet G (a, b, c)) p = R at hlen ⊢
  refine ⟨⟨trivial, by omega, by omega, rfl⟩, ?_⟩
  rintro ⟨i, out, ⟨⟩⟩ ⟨h0, h1, h2⟩
  dsimp only at h0 h1 h2 ⊢
  have hol : out.length ≤ 20000 := by
    rw [h2, List.length_map]
    exact Nat.le_trans (List.length_take_le _ _) (by omega)
  refine ⟨fun c => ⟨⟨h0, c⟩, fun y hy => ⟨by omega, by omega, trivial, ⟨by omega, by omega, ?_⟩, by omega⟩⟩, fun c => ⟨by omega, ?_⟩⟩
  · rw [take_next h0 hy, List.map_append, h2]
    rfl
  · rw [h2, take_all c]
theorem total_pure (G : List (Sp × List Rw)) (H : List (Sp × List Int)) (e n a b c p : Int) (h : TRd ⟨G, H, e, n⟩ ∧ SpOk (a, b, c)) : Pure Try.prog 17 [.fptr [.fopq .grw (G, none), .fopq .gpe (H, none), .int .i64 e, .int .i64 n], .int .i64 a, .int .i64 b, .int .i64 c, .int .i64 p] (.tuple [.int .i64 (netF (amsF G (a, b, c) p) []).1, .int .i64 (netF (amsF G (a, b, c) p) []).2]) :=
  by have k := Pure.of_cond (g_total_eq G H e n a b c p) (g_total_ok G H e n a b c p h) (specs_ok rfl [sp_those, sp_sum, sp_tmade] [] rfl rfl) mixed Try.func17; exact k
noncomputable def q_total (G : List (Sp × List Rw)) (H : List (Sp × List Int)) (e n a b c p : Int) : Prop × V := (TRd ⟨G, H, e, n⟩ ∧ SpOk (a, b, c), (.tuple [.int .i64 (netF (amsF G (a, b, c) p) []).1, .int .i64 (netF (amsF G (a, b, c) p) []).2]))
noncomputable def sp_total : FSpec Try.prog where
 f := 17
 run := fun
  | [.fptr [.fopq .grw (G, none), .fopq .gpe (H, none), .int .i64 e, .int .i64 n], .int .i64 a, .int .i64 b, .int .i64 c, .int .i64 p] => some (q_total G H e n a b c p)
  | _ => none
 ok := fun args pre r h hp => by
  split at h
  · rename_i G H e n a b c p
    exact of_q h hp fun h => (total_pure G H e n a b c p h).weak (.cons (.refl _) (.cons (.refl _) (.cons (.refl _) (.cons (.refl _) (.cons (.refl _) .nil)))))
  · cases h
noncomputable def env_total0 (a b c p : Int) : Env where
  P := Try.prog
  ty := tys0
  specs := specsOf [sp_tmade0]
def g_total0_vc (a : Int) (b : Int) (c : Int) (p : Int) : Prop :=
  True ∧ ((!false) = true → ((0 : Int), (1 : Int), ()) = ((0 : Int), (1 : Int), ())) ∧ ((!false) = false → False)
theorem g_total0_eq (a b c p : Int) : Cond (env_total0 a b c p) Try.f17 [.nilp, .int .i64 a, .int .i64 b, .int .i64 c, .int .i64 p] [.int .i64, .int .i64] ((0 : Int), (1 : Int), ()) = g_total0_vc a b c p := by kernel_rfl
theorem g_total0_ok (a b c p : Int) : g_total0_vc a b c p := by
  exact ⟨trivial, fun _ => rfl, fun h => by cases h⟩
theorem total0_pure (a b c p : Int) : Pure Try.prog 17 [.nilp, .int .i64 a, .int .i64 b, .int .i64 c, .int .i64 p] (.tuple [.int .i64 (0 : Int), .int .i64 (1 : Int)]) :=
  by have k := Pure.of_cond (g_total0_eq a b c p) (g_total0_ok a b c p) (specs_ok rfl [sp_tmade0] [] rfl rfl) mixed Try.func17; exact k
noncomputable def q_total0 (a b c p : Int) : Prop × V := (True, (.tuple [.int .i64 (0 : Int), .int .i64 (1 : Int)]))
noncomputable def sp_total0 : FSpec Try.prog where
 f := 17
 run := fun
  | [.nilp, .int .i64 a, .int .i64 b, .int .i64 c, .int .i64 p] => some (q_total0 a b c p)
  | _ => none
 ok := fun args pre r h hp => by
  split at h
  · rename_i a b c p
    exact of_q h hp fun h => (total0_pure a b c p).weak (.cons (.refl _) (.cons (.refl _) (.cons (.refl _) (.cons (.refl _) (.cons (.refl _) .nil)))))
  · cases h
noncomputable def env_len (G : List (Sp × List Rw)) (H : List (Sp × List Int)) (e n : Int) : Env where
  P := Try.prog
  ty := tys0
  specs := specsOf [sp_tmade]
def g_len_vc (G : List (Sp × List Rw)) (H : List (Sp × List Int)) (e : Int) (n : Int) : Prop :=
  True ∧ ((!true) = true → ((0 : Int), ()) = (n, ())) ∧ ((!true) = false → (n, ()) = (n, ()))
theorem g_len_eq (G : List (Sp × List Rw)) (H : List (Sp × List Int)) (e n : Int) : Cond (env_len G H e n) Try.f12 [.fptr [.fopq .grw (G, none), .fopq .gpe (H, none), .int .i64 e, .int .i64 n]] [.int .i64] (n, ()) = g_len_vc G H e n := by kernel_rfl
theorem g_len_ok (G : List (Sp × List Rw)) (H : List (Sp × List Int)) (e n : Int) : g_len_vc G H e n := by
  unfold g_len_vc
  exact ⟨trivial, (fun h => by cases h), fun _ => rfl⟩
theorem len_pure (G : List (Sp × List Rw)) (H : List (Sp × List Int)) (e n : Int) : Pure Try.prog 12 [.fptr [.fopq .grw (G, none), .fopq .gpe (H, none), .int .i64 e, .int .i64 n]] (.int .i64 n) :=
  by have k := Pure.of_cond (g_len_eq G H e n) (g_len_ok G H e n) (specs_ok rfl [sp_tmade] [] rfl rfl) mixed Try.func12; exact k
noncomputable def q_len (G : List (Sp × List Rw)) (H : List (Sp × List Int)) (e n : Int) : Prop × V := (True, (.int .i64 n))
noncomputable def sp_len : FSpec Try.prog where
 f := 12
 run := fun
  | [.fptr [.fopq .grw (G, none), .fopq .gpe (H, none), .int .i64 e, .int .i64 n]] => some (q_len G H e n)
  | _ => none
 ok := fun args pre r h hp => by
  split at h
  · rename_i G H e n
    exact of_q h hp fun h => (len_pure G H e n).weak (.cons (.refl _) .nil)
  · cases h
end Go.Proofs.Yteaajihmfacinaa.Ta
