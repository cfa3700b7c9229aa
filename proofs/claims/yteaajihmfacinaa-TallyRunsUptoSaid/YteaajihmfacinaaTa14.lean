/-
  The document's Sheet.
-/
import Derived.Test.YteaajihmfacinaaTa9
import Derived.Test.YteaajihmfacinaaBig3
import Derived.Test.YteaajihmfacinaaNum3
section
namespace Go.Proofs.Yteaajihmfacinaa.Ta
open Go.Vm
noncomputable def env_sum (l : List Int) : Env where
  P := Try.prog
  ty := tys0
  specs := specsOf [sp_net]
def g_sum_vc (l : List Int) : Prop :=
  (l.length ≤ (1000000000 : Nat) ∧ (0 : Nat) ≤ (1000000000 : Nat)) ∧ ((netF l []).1, (netF l []).2, ()) = ((netF l []).1, (netF l []).2, ())
theorem g_sum_eq (l : List Int) : Cond (env_sum l) Try.f40 [.list .tmp I l] [.int .i64, .int .i64] ((netF l []).1, (netF l []).2, ()) = g_sum_vc l := by kernel_rfl
theorem g_sum_ok (l : List Int) (h : l.length ≤ 1000000000) : g_sum_vc l := by
  exact ⟨⟨h, Nat.zero_le _⟩, rfl⟩
set_option maxRecDepth 20000
theorem sum_pure (l : List Int) (h : l.length ≤ 1000000000) : Pure Try.prog 40 [.list .tmp I l] (.tuple [.int .i64 (netF l []).1, .int .i64 (netF l []).2]) :=
  by have k := Pure.of_cond (g_sum_eq l) (g_sum_ok l h) (specs_ok rfl [sp_net] [] rfl rfl) mixed Try.func40; exact k
noncomputable def q_sum (l : List Int) : Prop × V := (l.length ≤ 1000000000, (.tuple [.int .i64 (netF l []).1, .int .i64 (netF l []).2]))
noncomputable def sp_sum : FSpec Try.prog where
 f := 40
 run := fun
  | [v0] => (asL I v0 : Option (List Int)).bind fun l => some (q_sum l)
  | _ => none
 ok := fun args pre r h hp => by
  split at h
  · rename_i v0
    obtain ⟨l, h0, h⟩ := Option.bind_eq_some_iff.1 h
    exact of_q h hp fun h => (sum_pure l h).weak (.cons (asL_weak h0) .nil)
  · cases h
def addF (a b : Int) : Int × Int := if -9223372036854775808 ≤ a + b ∧ a + b ≤ 9223372036854775807 then (a + b, 0) else (0, 10)
noncomputable def env_nadd (a b : Int) : Env where
  P := Try.prog
  ty := tys0
  wrap := fun | 9 => true | _ => false
def g_nadd_vc (a : Int) (b : Int) : Prop :=
  ((!decide (a < IntKind.i64.wrap (a + b)) == decide ((0 : Int) < b)) = true → ((!decide (b = (0 : Int))) = true → ((0 : Int), (10 : Int), ()) = ((addF a b).1, (addF a b).2, ())) ∧ ((!decide (b = (0 : Int))) = false → (IntKind.i64.wrap (a + b), (0 : Int), ()) = ((addF a b).1, (addF a b).2, ()))) ∧ ((!decide (a < IntKind.i64.wrap (a + b)) == decide ((0 : Int) < b)) = !true → (IntKind.i64.wrap (a + b), (0 : Int), ()) = ((addF a b).1, (addF a b).2, ()))
theorem g_nadd_eq (a b : Int) : Cond (env_nadd a b) Try.f36 [.int .i64 a, .int .i64 b] [.int .i64, .int .i64] ((addF a b).1, (addF a b).2, ()) = g_nadd_vc a b := by kernel_rfl
theorem g_nadd_ok (a b : Int) (h : InI a ∧ InI b) : g_nadd_vc a b := by
  obtain ⟨⟨h1, h2⟩, h3, h4⟩ := h
  have hw := IntKind.wrap_i64 (a + b)
  unfold g_nadd_vc addF
  generalize IntKind.i64.wrap (a + b) = w at hw
  by_cases hin : -9223372036854775808 ≤ a + b ∧ a + b ≤ 9223372036854775807
  · have ew : w = a + b := by omega
    have e1 : decide (a < w) = decide (0 < b) := decide_eq_decide.2 (by omega)
    rw [if_pos hin, e1, ew]
    refine ⟨fun c => ?_, fun _ => rfl⟩
    simp at c
  · have e1 : decide (a < w) ≠ decide (0 < b) := fun e => by
      have := decide_eq_decide.1 e
      omega
    rw [if_neg hin]
    refine ⟨fun _ => ⟨fun _ => rfl, fun d => ?_⟩, fun c => ?_⟩
    · have : b = 0 := by simpa using d
      omega
    · exact absurd (by simpa using c) e1
theorem nadd_pure (a b : Int) (h : InI a ∧ InI b) : Pure Try.prog 36 [.int .i64 a, .int .i64 b] (.tuple [.int .i64 (addF a b).1, .int .i64 (addF a b).2]) :=
  by have k := Pure.of_cond (g_nadd_eq a b) (g_nadd_ok a b h) (specs_ok rfl [] [] rfl rfl) mixed Try.func36; exact k
noncomputable def q_nadd (a b : Int) : Prop × V := (InI a ∧ InI b, (.tuple [.int .i64 (addF a b).1, .int .i64 (addF a b).2]))
noncomputable def sp_nadd : FSpec Try.prog where
 f := 36
 run := fun
  | [.int .i64 a, .int .i64 b] => some (q_nadd a b)
  | _ => none
 ok := fun args pre r h hp => by
  split at h
  · rename_i a b
    exact of_q h hp fun h => (nadd_pure a b h).weak (.cons (.refl _) (.cons (.refl _) .nil))
  · cases h
def TRd (d : TD) : Prop := (∃ L, Tells d L ∧ ∀ u ∈ L, WordI u.1 ∧ WL u.2) ∧ d.n ≤ 20000
theorem TRd.len {d : TD} (h : TRd d) (k : Sp) : (gGet d.G k).length ≤ 20000 := by
  obtain ⟨⟨L, hT, _⟩, hn⟩ := h
  have h1 : d.n = L.length := hT.n
  rw [hT.rows]
  have := rowsG_len L 0 k
  omega
theorem TRd.plen {d : TD} (h : TRd d) (e a : Int) : (gGet d.H (e, a, 0)).length ≤ 20000 := by
  obtain ⟨⟨L, hT, _⟩, hn⟩ := h
  have h1 : d.n = L.length := hT.n
  rw [hT.per]
  have := perF_len L e a
  omega
def byP (p : Int) (r : Rw) : Bool := decide (p = 0 ∨ r.2.1 = p)
def thoseF (l : List Rw) (p : Int) : List Rw := l.filter (byP p)
theorem those_len (l : List Rw) (p : Int) : (thoseF l p).length ≤ l.length := List.length_filter_le ..
theorem take_next {α : Type} {l : List α} {i : Int} {x : α} (h0 : 0 ≤ i) (hx : l[i.toNat]? = some x) : l.take (i + 1).toNat = l.take i.toNat ++ [x] := by
  rw [show (i + 1).toNat = i.toNat + 1 by omega, List.take_add_one, hx]
  rfl
theorem take_all {α : Type} {l : List α} {i : Int} (h : ¬ i < (l.length : Int)) : l.take i.toNat = l := List.take_of_length_le (by omega)
noncomputable def env_those (G : List (Sp × List Rw)) (H : List (Sp × List Int)) (e n a b c p : Int) : Env where
  P := Try.prog
  ty := tys0
  specs := specsOf [sp_tmade]
  heads := fun | 5 => some { slots := [(20, .int .i64), (7, .slc 9000 RwT)], boxes := [], keep := [4], inv := fun _ (x : Int × List Rw × Unit) => 0 ≤ x.1 ∧ x.1 ≤ (gGet G (a, b, c)).length ∧ x.2.1 = thoseF ((gGet G (a, b, c)).take x.1.toNat) p, measure := fun _ (x : Int × List Rw × Unit) => ((gGet G (a, b, c)).length - x.1).toNat } | _ => none
abbrev bx_those_1 (a : Int) (b : Int) (c : Int) : _root_.Go.Vm.Obj := Obj.box [V.int IntKind.i64 a, V.int IntKind.i64 b, V.int IntKind.i64 c]
def g_those_vc (G : List (Sp × List Rw)) (H : List (Sp × List Int)) (e : Int) (n : Int) (a : Int) (b : Int) (c : Int) (p : Int) : Prop :=
  True ∧ ((!true) = true → ([], ()) = (thoseF (gGet G (a, b, c)) p, ())) ∧ ((!true) = false → SpOk (a, b, c) ∧ ((some (bx_those_1 a b c) = some (bx_those_1 a b c) ∧ True) ∧ (0 : Int) ≤ (0 : Int) ∧ (0 : Int) ≤ (↑(gGet G (a, b, c)).length : Int) ∧ [] = thoseF (List.take (Int.toNat (0 : Int)) (gGet G (a, b, c))) p) ∧ ∀ (x : Int × List (Int × Int × Int) × Unit), (0 : Int) ≤ x.1 ∧ x.1 ≤ (↑(gGet G (a, b, c)).length : Int) ∧ x.2.1 = thoseF (List.take x.1.toNat (gGet G (a, b, c))) p → (decide (x.1 < (↑(gGet G (a, b, c)).length : Int)) = true → ((0 : Int) ≤ x.1 ∧ x.1 < (↑(gGet G (a, b, c)).length : Int)) ∧ ∀ (x_1 : Int × Int × Int), (gGet G (a, b, c))[x.1.toNat]? = some x_1 → (decide (p = (0 : Int)) = false → (decide (x_1.2.1 = p) = true → ((x.2.1.length + (1 : Nat)) * (24 : Nat) ≤ (140737488355328 : Nat) ∧ x.2.1.length + (1 : Nat) ≤ (4611686018427387904 : Nat)) ∧ ((-9223372036854775808 : Int) ≤ x.1 + (1 : Int) ∧ x.1 + (1 : Int) ≤ (9223372036854775807 : Int)) ∧ (some (bx_those_1 a b c) = some (bx_those_1 a b c) ∧ True) ∧ ((0 : Int) ≤ x.1 + (1 : Int) ∧ x.1 + (1 : Int) ≤ (↑(gGet G (a, b, c)).length : Int) ∧ x.2.1 ++ [(x_1.1, x_1.2.1, x_1.2.2)] = thoseF (List.take (x.1 + (1 : Int)).toNat (gGet G (a, b, c))) p) ∧ ((↑(gGet G (a, b, c)).length : Int) - (x.1 + (1 : Int))).toNat < ((↑(gGet G (a, b, c)).length : Int) - x.1).toNat) ∧ (decide (x_1.2.1 = p) = false → ((-9223372036854775808 : Int) ≤ x.1 + (1 : Int) ∧ x.1 + (1 : Int) ≤ (9223372036854775807 : Int)) ∧ (some (bx_those_1 a b c) = some (bx_those_1 a b c) ∧ True) ∧ ((0 : Int) ≤ x.1 + (1 : Int) ∧ x.1 + (1 : Int) ≤ (↑(gGet G (a, b, c)).length : Int) ∧ x.2.1 = thoseF (List.take (x.1 + (1 : Int)).toNat (gGet G (a, b, c))) p) ∧ ((↑(gGet G (a, b, c)).length : Int) - (x.1 + (1 : Int))).toNat < ((↑(gGet G (a, b, c)).length : Int) - x.1).toNat)) ∧ (decide (p = (0 : Int)) = !false → ((x.2.1.length + (1 : Nat)) * (24 : Nat) ≤ (140737488355328 : Nat) ∧ x.2.1.length + (1 : Nat) ≤ (4611686018427387904 : Nat)) ∧ ((-9223372036854775808 : Int) ≤ x.1 + (1 : Int) ∧ x.1 + (1 : Int) ≤ (9223372036854775807 : Int)) ∧ (some (bx_those_1 a b c) = some (bx_those_1 a b c) ∧ True) ∧ ((0 : Int) ≤ x.1 + (1 : Int) ∧ x.1 + (1 : Int) ≤ (↑(gGet G (a, b, c)).length : Int) ∧ x.2.1 ++ [(x_1.1, x_1.2.1, x_1.2.2)] = thoseF (List.take (x.1 + (1 : Int)).toNat (gGet G (a, b, c))) p) ∧ ((↑(gGet G (a, b, c)).length : Int) - (x.1 + (1 : Int))).toNat < ((↑(gGet G (a, b, c)).length : Int) - x.1).toNat)) ∧ (decide (x.1 < (↑(gGet G (a, b, c)).length : Int)) = false → (x.2.1, ()) = (thoseF (gGet G (a, b, c)) p, ())))
theorem g_those_eq (G : List (Sp × List Rw)) (H : List (Sp × List Int)) (e n a b c p : Int) : Cond (env_those G H e n a b c p) Try.f31 [.fptr [.fopq .grw (G, none), .fopq .gpe (H, none), .int .i64 e, .int .i64 n], .agg [.int .i64 a, .int .i64 b, .int .i64 c], .int .i64 p] [.slc 0 RwT] (thoseF (gGet G (a, b, c)) p, ()) = g_those_vc G H e n a b c p := by kernel_rfl
theorem g_those_ok (G : List (Sp × List Rw)) (H : List (Sp × List Int)) (e n a b c p : Int) (h : TRd ⟨G, H, e, n⟩ ∧ SpOk (a, b, c)) : g_those_vc G H e n a b c p := by
  obtain ⟨hT, hk⟩ := h
  have hlen := hT.len (a, b, c)
  dsimp only at hlen
  unfold g_those_vc
  simp only [decide_eq_true_eq, decide_eq_false_iff_not, Bool.not_eq_true', Bool.not_eq_false', Bool.not_true, Bool.not_false]
  generalize gGet G (a, b, c) = R at hlen ⊢
  refine ⟨trivial, (fun h => by cases h), fun _ => ⟨hk, ⟨⟨trivial, trivial⟩, by omega, by omega, rfl⟩, ?_⟩⟩
  rintro ⟨i, out, ⟨⟩⟩ ⟨h0, h1, h2⟩
  dsimp only at h0 h1 h2 ⊢
  have hol : out.length ≤ 20000 := by
    rw [h2]
    exact Nat.le_trans (those_len _ _) (Nat.le_trans (List.length_take_le _ _) (by omega))
  refine ⟨fun c => ⟨⟨h0, c⟩, fun y hy => ⟨fun hp => ⟨fun hq => ⟨by omega, by omega, ⟨trivial, trivial⟩, ⟨by omega, by omega, ?_⟩, by omega⟩, fun hq => ⟨by omega, ⟨trivial, trivial⟩, ⟨by omega, by omega, ?_⟩, by omega⟩⟩, fun hp => ⟨by omega, by omega, ⟨trivial, trivial⟩, ⟨by omega, by omega, ?_⟩, by omega⟩⟩⟩, fun c => ?_⟩
  · rw [take_next h0 hy, thoseF, List.filter_append, h2, List.filter_cons_of_pos (by simp [byP, hq])]
    rfl
  · rw [take_next h0 hy, thoseF, List.filter_append, h2, List.filter_cons_of_neg (by simp [byP, hq, hp])]
    simp [thoseF]
  · rw [take_next h0 hy, thoseF, List.filter_append, h2, List.filter_cons_of_pos (by simp [byP, hp])]
    rfl
  · rw [h2, take_all c]
theorem those_pure (G : List (Sp × List Rw)) (H : List (Sp × List Int)) (e n a b c p : Int) (h : TRd ⟨G, H, e, n⟩ ∧ SpOk (a, b, c)) : Pure Try.prog 31 [.fptr [.fopq .grw (G, none), .fopq .gpe (H, none), .int .i64 e, .int .i64 n], .agg [.int .i64 a, .int .i64 b, .int .i64 c], .int .i64 p] (.olist RwT (thoseF (gGet G (a, b, c)) p)) :=
  by have k := Pure.of_cond (g_those_eq G H e n a b c p) (g_those_ok G H e n a b c p h) (specs_ok rfl [sp_tmade] [] rfl rfl) mixed Try.func31; exact k
noncomputable def q_those (G : List (Sp × List Rw)) (H : List (Sp × List Int)) (e n a b c p : Int) : Prop × V := (TRd ⟨G, H, e, n⟩ ∧ SpOk (a, b, c), (.olist RwT (thoseF (gGet G (a, b, c)) p)))
noncomputable def sp_those : FSpec Try.prog where
 f := 31
 run := fun
  | [.fptr [.fopq .grw (G, none), .fopq .gpe (H, none), .int .i64 e, .int .i64 n], .agg [.int .i64 a, .int .i64 b, .int .i64 c], .int .i64 p] => some (q_those G H e n a b c p)
  | _ => none
 ok := fun args pre r h hp => by
  split at h
  · rename_i G H e n a b c p
    exact of_q h hp fun h => (those_pure G H e n a b c p h).weak (.cons (.refl _) (.cons (.refl _) (.cons (.refl _) .nil)))
  · cases h
def idsF (G : List (Sp × List Rw)) (k : Sp) (q : Int) : List Int := (thoseF (gGet G k) q).map (·.1)
def amsF (G : List (Sp × List Rw)) (k : Sp) (q : Int) : List Int := (thoseF (gGet G k) q).map (·.2.2)
theorem TRd.tlen {d : TD} (h : TRd d) (k : Sp) (q : Int) : (thoseF (gGet d.G k) q).length ≤ 20000 := Nat.le_trans (those_len _ _) (h.len k)
noncomputable def env_ids (G : List (Sp × List Rw)) (H : List (Sp × List Int)) (e n a b c p : Int) : Env where
  P := Try.prog
  ty := tys0
  specs := specsOf [sp_those]
  frz := fun | 20 => true | _ => false
  heads := fun | 3 => some { slots := [(22, .int .i64), (11, .slc 9000 I)], boxes := [], inv := fun _ (x : Int × List Int × Unit) => 0 ≤ x.1 ∧ x.1 ≤ (thoseF (gGet G (a, b, c)) p).length ∧ x.2.1 = ((thoseF (gGet G (a, b, c)) p).take x.1.toNat).map (·.1), measure := fun _ (x : Int × List Int × Unit) => ((thoseF (gGet G (a, b, c)) p).length - x.1).toNat } | _ => none
def g_ids_vc (G : List (Sp × List Rw)) (H : List (Sp × List Int)) (e : Int) (n : Int) (a : Int) (b : Int) (c : Int) (p : Int) : Prop :=
  (TRd { G := G, H := H, e := e, n := n } ∧ SpOk (a, b, c)) ∧ (True ∧ (0 : Int) ≤ (0 : Int) ∧ (0 : Int) ≤ (↑(thoseF (gGet G (a, b, c)) p).length : Int) ∧ [] = List.map (fun x => x.1) (List.take (Int.toNat (0 : Int)) (thoseF (gGet G (a, b, c)) p))) ∧ ∀ (x : Int × List Int × Unit), (0 : Int) ≤ x.1 ∧ x.1 ≤ (↑(thoseF (gGet G (a, b, c)) p).length : Int) ∧ x.2.1 = List.map (fun x => x.1) (List.take x.1.toNat (thoseF (gGet G (a, b, c)) p)) → (decide (x.1 < (↑(thoseF (gGet G (a, b, c)) p).length : Int)) = true → ((0 : Int) ≤ x.1 ∧ x.1 < (↑(thoseF (gGet G (a, b, c)) p).length : Int)) ∧ ∀ (x_1 : Int × Int × Int), (thoseF (gGet G (a, b, c)) p)[x.1.toNat]? = some x_1 → ((x.2.1.length + (1 : Nat)) * (8 : Nat) ≤ (140737488355328 : Nat) ∧ x.2.1.length + (1 : Nat) ≤ (4611686018427387904 : Nat)) ∧ ((-9223372036854775808 : Int) ≤ x.1 + (1 : Int) ∧ x.1 + (1 : Int) ≤ (9223372036854775807 : Int)) ∧ True ∧ ((0 : Int) ≤ x.1 + (1 : Int) ∧ x.1 + (1 : Int) ≤ (↑(thoseF (gGet G (a, b, c)) p).length : Int) ∧ x.2.1 ++ [x_1.1] = List.map (fun x => x.1) (List.take (x.1 + (1 : Int)).toNat (thoseF (gGet G (a, b, c)) p))) ∧ ((↑(thoseF (gGet G (a, b, c)) p).length : Int) - (x.1 + (1 : Int))).toNat < ((↑(thoseF (gGet G (a, b, c)) p).length : Int) - x.1).toNat) ∧ (decide (x.1 < (↑(thoseF (gGet G (a, b, c)) p).length : Int)) = false → (x.2.1, ()) = (idsF G (a, b, c) p, ()))
theorem g_ids_eq (G : List (Sp × List Rw)) (H : List (Sp × List Int)) (e n a b c p : Int) : Cond (env_ids G H e n a b c p) Try.f11 [.fptr [.fopq .grw (G, none), .fopq .gpe (H, none), .int .i64 e, .int .i64 n], .int .i64 a, .int .i64 b, .int .i64 c, .int .i64 p] [.slc 0 I] (idsF G (a, b, c) p, ()) = g_ids_vc G H e n a b c p := by kernel_rfl
theorem g_ids_ok (G : List (Sp × List Rw)) (H : List (Sp × List Int)) (e n a b c p : Int) (h : TRd ⟨G, H, e, n⟩ ∧ SpOk (a, b, c)) : g_ids_vc G H e n a b c p := by
  have hlen := h.1.tlen (a, b, c) p
  dsimp only at hlen
  unfold g_ids_vc idsF
  simp only [decide_eq_true_eq, decide_eq_false_iff_not, Bool.not_eq_true', Bool.not_eq_false', Bool.not_true, Bool.not_false]
  refine ⟨h, ?_⟩
  generalize thoseF (gGet G (a, b, c)) p = R at hlen ⊢
  refine ⟨⟨trivial, by omega, by omega, rfl⟩, ?_⟩
  rintro ⟨i, out, ⟨⟩⟩ ⟨h0, h1, h2⟩
  dsimp only at h0 h1 h2 ⊢
  have hol : out.length ≤ 20000 := by
    rw [h2, List.length_map]
    exact Nat.le_trans (List.length_take_le _ _) (by omega)
  refine ⟨fun c => ⟨⟨h0, c⟩, fun y hy => ⟨by omega, by omega, trivial, ⟨by omega, by omega, ?_⟩, by omega⟩⟩, fun c => ?_⟩
  · rw [take_next h0 hy, List.map_append, h2]
    rfl
  · rw [h2, take_all c]
theorem ids_pure (G : List (Sp × List Rw)) (H : List (Sp × List Int)) (e n a b c p : Int) (h : TRd ⟨G, H, e, n⟩ ∧ SpOk (a, b, c)) : Pure Try.prog 11 [.fptr [.fopq .grw (G, none), .fopq .gpe (H, none), .int .i64 e, .int .i64 n], .int .i64 a, .int .i64 b, .int .i64 c, .int .i64 p] (.olist I (idsF G (a, b, c) p)) :=
  by have k := Pure.of_cond (g_ids_eq G H e n a b c p) (g_ids_ok G H e n a b c p h) (specs_ok rfl [sp_those] [] rfl rfl) mixed Try.func11; exact k
noncomputable def q_ids (G : List (Sp × List Rw)) (H : List (Sp × List Int)) (e n a b c p : Int) : Prop × V := (TRd ⟨G, H, e, n⟩ ∧ SpOk (a, b, c), (.olist I (idsF G (a, b, c) p)))
noncomputable def sp_ids : FSpec Try.prog where
 f := 11
 run := fun
  | [.fptr [.fopq .grw (G, none), .fopq .gpe (H, none), .int .i64 e, .int .i64 n], .int .i64 a, .int .i64 b, .int .i64 c, .int .i64 p] => some (q_ids G H e n a b c p)
  | _ => none
 ok := fun args pre r h hp => by
  split at h
  · rename_i G H e n a b c p
    exact of_q h hp fun h => (ids_pure G H e n a b c p h).weak (.cons (.refl _) (.cons (.refl _) (.cons (.refl _) (.cons (.refl _) (.cons (.refl _) .nil)))))
  · cases h
noncomputable def env_total (G : List (Sp × List Rw)) (H : List (Sp × List Int)) (e n a b c p : Int) : Env where
  P := Try.prog
  ty := tys0
  specs := specsOf [sp_those, sp_sum, sp_tmade]
  frz := fun | 24 => true | _ => false
  heads := fun | 5 => some { slots := [(26, .int .i64), (12, .slc 9000 I)], boxes := [], inv := fun _ (x : Int × List Int × Unit) => 0 ≤ x.1 ∧ x.1 ≤ (thoseF (gGet G (a, b, c)) p).length ∧ x.2.1 = ((thoseF (gGet G (a, b, c)) p).take x.1.toNat).map (·.2.2), measure := fun _ (x : Int × List Int × Unit) => ((thoseF (gGet G (a, b, c)) p).length - x.1).toNat } | _ => none
def g_total_vc (G : List (Sp × List Rw)) (H : List (Sp × List Int)) (e : Int) (n : Int) (a : Int) (b : Int) (c : Int) (p : Int) : Prop :=
  True ∧ ((!true) = true → ((0 : Int), (1 : Int), ()) = ((netF (amsF G (a, b, c) p) []).1, (netF (amsF G (a, b, c) p) []).2, ())) ∧ ((!true) = false → (TRd { G := G, H := H, e := e, n := n } ∧ SpOk (a, b, c)) ∧ (True ∧ (0 : Int) ≤ (0 : Int) ∧ (0 : Int) ≤ (↑(thoseF (gGet G (a, b, c)) p).length : Int) ∧ [] = List.map (fun x => x.2.2) (List.take (Int.toNat (0 : Int)) (thoseF (gGet G (a, b, c)) p))) ∧ ∀ (x : Int × List Int × Unit), (0 : Int) ≤ x.1 ∧ x.1 ≤ (↑(thoseF (gGet G (a, b, c)) p).length : Int) ∧ x.2.1 = List.map (fun x => x.2.2) (List.take x.1.toNat (thoseF (gGet G (a, b, c)) p)) → (decide (x.1 < (↑(thoseF (gGet G (a, b, c)) p).length : Int)) = true → ((0 : Int) ≤ x.1 ∧ x.1 < (↑(thoseF (gGet G (a, b, c)) p).length : Int)) ∧ ∀ (x_1 : Int × Int × Int), (thoseF (gGet G (a, b, c)) p)[x.1.toNat]? = some x_1 → ((x.2.1.length + (1 : Nat)) * (8 : Nat) ≤ (140737488355328 : Nat) ∧ x.2.1.length + (1 : Nat) ≤ (4611686018427387904 : Nat)) ∧ ((-9223372036854775808 : Int) ≤ x.1 + (1 : Int) ∧ x.1 + (1 : Int) ≤ (9223372036854775807 : Int)) ∧ True ∧ ((0 : Int) ≤ x.1 + (1 : Int) ∧ x.1 + (1 : Int) ≤ (↑(thoseF (gGet G (a, b, c)) p).length : Int) ∧ x.2.1 ++ [x_1.2.2] = List.map (fun x => x.2.2) (List.take (x.1 + (1 : Int)).toNat (thoseF (gGet G (a, b, c)) p))) ∧ ((↑(thoseF (gGet G (a, b, c)) p).length : Int) - (x.1 + (1 : Int))).toNat < ((↑(thoseF (gGet G (a, b, c)) p).length : Int) - x.1).toNat) ∧ (decide (x.1 < (↑(thoseF (gGet G (a, b, c)) p).length : Int)) = false → x.2.1.length ≤ (1000000000 : Nat) ∧ ((netF x.2.1 []).1, (netF x.2.1 []).2, ()) = ((netF (amsF G (a, b, c) p) []).1, (netF (amsF G (a, b, c) p) []).2, ())))
theorem g_total_eq (G : List (Sp × List Rw)) (H : List (Sp × List Int)) (e n a b c p : Int) : Cond (env_total G H e n a b c p) Try.f17 [.fptr [.fopq .grw (G, none), .fopq .gpe (H, none), .int .i64 e, .int .i64 n], .int .i64 a, .int .i64 b, .int .i64 c, .int .i64 p] [.int .i64, .int .i64] ((netF (amsF G (a, b, c) p) []).1, (netF (amsF G (a, b, c) p) []).2, ()) = g_total_vc G H e n a b c p := by kernel_rfl
theorem g_total_ok (G : List (Sp × List Rw)) (H : List (Sp × List Int)) (e n a b c p : Int) (h : TRd ⟨G, H, e, n⟩ ∧ SpOk (a, b, c)) : g_total_vc G H e n a b c p := by
  have hlen := h.1.tlen (a, b, c) p
  dsimp only at hlen
  unfold g_total_vc amsF
  simp only [decide_eq_true_eq, decide_eq_false_iff_not, Bool.not_eq_true', Bool.not_eq_false', Bool.not_true, Bool.not_false]
  refine ⟨trivial, (fun h => by cases h), fun _ => ⟨h, ?_⟩⟩
  generalize thoseF (gGet G (a, b, c)) p = R at hlen ⊢
  refine ⟨⟨trivial, by omega, by omega, rfl⟩, ?_⟩
  rintro ⟨i, out, ⟨⟩⟩ ⟨h0, h1, h2⟩
  dsimp only at h0 h1 h2 ⊢
  have hol : out.length ≤ 20000 := by
    rw [h2, List.length_map]
    exact Nat.le_trans (List.length_take_le _ _) (by omega)
  refine ⟨fun c => ⟨⟨h0, c⟩, fun y hy => ⟨by omega, by omega, trivial, ⟨by omega, by omega, ?_⟩, by omega⟩⟩, fun c => ⟨by omega, ?_⟩⟩
  · rw [take_next h0 hy, List.map_append, h2]
    rfl
  · rw [h2, take_all c]
theorem total_pure (G : List (Sp × List Rw)) (H : List (Sp × List Int)) (e n a b c p : Int) (h : TRd ⟨G, H, e, n⟩ ∧ SpOk (a, b, c)) : Pure Try.prog 17 [.fptr [.fopq .grw (G, none), .fopq .gpe (H, none), .int .i64 e, .int .i64 n], .int .i64 a, .int .i64 b, .int .i64 c, .int .i64 p] (.tuple [.int .i64 (netF (amsF G (a, b, c) p) []).1, .int .i64 (netF (amsF G (a, b, c) p) []).2]) :=
  by have k := Pure.of_cond (g_total_eq G H e n a b c p) (g_total_ok G H e n a b c p h) (specs_ok rfl [sp_those, sp_sum, sp_tmade] [] rfl rfl) mixed Try.func17; exact k
noncomputable def q_total (G : List (Sp × List Rw)) (H : List (Sp × List Int)) (e n a b c p : Int) : Prop × V := (TRd ⟨G, H, e, n⟩ ∧ SpOk (a, b, c), (.tuple [.int .i64 (netF (amsF G (a, b, c) p) []).1, .int .i64 (netF (amsF G (a, b, c) p) []).2]))
noncomputable def sp_total : FSpec Try.prog where
 f := 17
 run := fun
  | [.fptr [.fopq .grw (G, none), .fopq .gpe (H, none), .int .i64 e, .int .i64 n], .int .i64 a, .int .i64 b, .int .i64 c, .int .i64 p] => some (q_total G H e n a b c p)
  | _ => none
 ok := fun args pre r h hp => by
  split at h
  · rename_i G H e n a b c p
    exact of_q h hp fun h => (total_pure G H e n a b c p h).weak (.cons (.refl _) (.cons (.refl _) (.cons (.refl _) (.cons (.refl _) (.cons (.refl _) .nil)))))
  · cases h
noncomputable def env_total0 (a b c p : Int) : Env where
  P := Try.prog
  ty := tys0
  specs := specsOf [sp_tmade0]
def g_total0_vc (a : Int) (b : Int) (c : Int) (p : Int) : Prop :=
  True ∧ ((!false) = true → ((0 : Int), (1 : Int), ()) = ((0 : Int), (1 : Int), ())) ∧ ((!false) = false → False)
theorem g_total0_eq (a b c p : Int) : Cond (env_total0 a b c p) Try.f17 [.nilp, .int .i64 a, .int .i64 b, .int .i64 c, .int .i64 p] [.int .i64, .int .i64] ((0 : Int), (1 : Int), ()) = g_total0_vc a b c p := by kernel_rfl
theorem g_total0_ok (a b c p : Int) : g_total0_vc a b c p := by
  exact ⟨trivial, fun _ => rfl, fun h => by cases h⟩
theorem total0_pure (a b c p : Int) : Pure Try.prog 17 [.nilp, .int .i64 a, .int .i64 b, .int .i64 c, .int .i64 p] (.tuple [.int .i64 (0 : Int), .int .i64 (1 : Int)]) :=
  by have k := Pure.of_cond (g_total0_eq a b c p) (g_total0_ok a b c p) (specs_ok rfl [sp_tmade0] [] rfl rfl) mixed Try.func17; exact k
noncomputable def q_total0 (a b c p : Int) : Prop × V := (True, (.tuple [.int .i64 (0 : Int), .int .i64 (1 : Int)]))
noncomputable def sp_total0 : FSpec Try.prog where
 f := 17
 run := fun
  | [.nilp, .int .i64 a, .int .i64 b, .int .i64 c, .int .i64 p] => some (q_total0 a b c p)
  | _ => none
 ok := fun args pre r h hp => by
  split at h
  · rename_i a b c p
    exact of_q h hp fun h => (total0_pure a b c p).weak (.cons (.refl _) (.cons (.refl _) (.cons (.refl _) (.cons (.refl _) (.cons (.refl _) .nil)))))
  · cases h
noncomputable def env_len (G : List (Sp × List Rw)) (H : List (Sp × List Int)) (e n : Int) : Env where
  P := Try.prog
  ty := tys0
  specs := specsOf [sp_tmade]
def g_len_vc (G : List (Sp × List Rw)) (H : List (Sp × List Int)) (e : Int) (n : Int) : Prop :=
  True ∧ ((!true) = true → ((0 : Int), ()) = (n, ())) ∧ ((!true) = false → (n, ()) = (n, ()))
theorem g_len_eq (G : List (Sp × List Rw)) (H : List (Sp × List Int)) (e n : Int) : Cond (env_len G H e n) Try.f12 [.fptr [.fopq .grw (G, none), .fopq .gpe (H, none), .int .i64 e, .int .i64 n]] [.int .i64] (n, ()) = g_len_vc G H e n := by kernel_rfl
theorem g_len_ok (G : List (Sp × List Rw)) (H : List (Sp × List Int)) (e n : Int) : g_len_vc G H e n := by
  unfold g_len_vc
  exact ⟨trivial, (fun h => by cases h), fun _ => rfl⟩
theorem len_pure (G : List (Sp × List Rw)) (H : List (Sp × List Int)) (e n : Int) : Pure Try.prog 12 [.fptr [.fopq .grw (G, none), .fopq .gpe (H, none), .int .i64 e, .int .i64 n]] (.int .i64 n) :=
  by have k := Pure.of_cond (g_len_eq G H e n) (g_len_ok G H e n) (specs_ok rfl [sp_tmade] [] rfl rfl) mixed Try.func12; exact k
noncomputable def q_len (G : List (Sp × List Rw)) (H : List (Sp × List Int)) (e n : Int) : Prop × V := (True, (.int .i64 n))
noncomputable def sp_len : FSpec Try.prog where
 f := 12
 run := fun
  | [.fptr [.fopq .grw (G, none), .fopq .gpe (H, none), .int .i64 e, .int .i64 n]] => some (q_len G H e n)
  | _ => none
 ok := fun args pre r h hp => by
  split at h
  · rename_i G H e n
    exact of_q h hp fun h => (len_pure G H e n).weak (.cons (.refl _) .nil)
  · cases h
end Go.Proofs.Yteaajihmfacinaa.Ta
end
section
namespace Go.Proofs.Yteaajihmfacinaa.Ta
open Go.Vm
def prtP (G : List (Sp × List Rw)) (e a c p : Int) : List Int := ((gGet G (e, a, p)).filter fun r => decide (p ≤ c ∧ r.2.1 ≠ 0)).map (·.2.1)
def prtG (G : List (Sp × List Rw)) (e a c : Int) (ps : List Int) : List Int := ps.flatMap fun p => prtP G e a c p
theorem TRd.per {d : TD} (h : TRd d) (e a : Int) {p : Int} (hp : p ∈ gGet d.H (e, a, 0)) : WordI p := by
  obtain ⟨⟨L, hT, hw⟩, _⟩ := h
  rw [hT.per, hT.mem] at hp
  obtain ⟨u, hu, he⟩ := hp
  have := (hw u hu).1
  simp only [atP, Prod.mk.injEq] at he
  rwa [← he.2.2]
theorem prtG_next (G : List (Sp × List Rw)) (e a c : Int) {ps : List Int} {i p : Int} (h0 : 0 ≤ i) (hp : ps[i.toNat]? = some p) : prtG G e a c (ps.take (i + 1).toNat) = prtG G e a c (ps.take i.toNat) ++ prtP G e a c p := by
  rw [take_next h0 hp, prtG, List.flatMap_append]
  simp [prtG]
def prtK (G : List (Sp × List Rw)) (e a c p k : Int) : List Int := (((gGet G (e, a, p)).take k.toNat).filter fun r => decide (p ≤ c ∧ r.2.1 ≠ 0)).map (·.2.1)
theorem sortF_eq (l : List Int) : (l.mergeSort fun x y => decide (x ≤ y)) = sortF l := rfl
def prtR (G : List (Sp × List Rw)) (H : List (Sp × List Int)) (e a c : Int) : List Int := (prtG G e a c (gGet H (e, a, 0))).foldl withF []
noncomputable def env_partners (G : List (Sp × List Rw)) (H : List (Sp × List Int)) (e n a b c : Int) : Env where
  P := Try.prog
  ty := tys0
  specs := specsOf [sp_tmade]
  upd := updsOf [sp_sort, sp_compact]
  heads := fun
    | 5 => some { slots := [(26, .int .i64), (9, .slc 9000 I)], boxes := [], inv := fun _ (x : Int × List Int × Unit) => 0 ≤ x.1 ∧ x.1 ≤ (gGet H (a, b, 0)).length ∧ (x.2.1.length : Int) ≤ 20000 * x.1 ∧ x.2.1 = prtG G a b c ((gGet H (a, b, 0)).take x.1.toNat), measure := fun _ (x : Int × List Int × Unit) => ((gGet H (a, b, 0)).length - x.1).toNat }
    | 8 => some { slots := [(40, .int .i64), (9, .slc 9000 I)], boxes := [], inv := fun st (x : Int × List Int × Unit) => (gGet H (a, b, 0))[(st.int 26).toNat]? = some (st.int 11) ∧ 0 ≤ st.int 26 ∧ st.int 26 < (gGet H (a, b, 0)).length ∧ 0 ≤ x.1 ∧ x.1 ≤ (gGet G (a, b, st.int 11)).length ∧ (x.2.1.length : Int) ≤ 20000 * st.int 26 + x.1 ∧ x.2.1 = prtG G a b c ((gGet H (a, b, 0)).take (st.int 26).toNat) ++ prtK G a b c (st.int 11) x.1, measure := fun st (x : Int × List Int × Unit) => ((gGet G (a, b, st.int 11)).length - x.1).toNat }
    | _ => none
def g_partners_vc (G : List (Sp × List Rw)) (H : List (Sp × List Int)) (e : Int) (n : Int) (a : Int) (b : Int) (c : Int) : Prop :=
  True ∧ ((!true) = true → ([], ()) = (prtR G H a b c, ())) ∧ ((!true) = false → SpOk (a, b, (0 : Int)) ∧ (True ∧ (0 : Int) ≤ (0 : Int) ∧ (0 : Int) ≤ (↑(gGet H (a, b, (0 : Int))).length : Int) ∧ (↑(0 : Nat) : Int) ≤ (20000 : Int) * (0 : Int) ∧ [] = prtG G a b c (List.take (Int.toNat (0 : Int)) (gGet H (a, b, (0 : Int))))) ∧ ∀ (x : Int × List Int × Unit), (0 : Int) ≤ x.1 ∧ x.1 ≤ (↑(gGet H (a, b, (0 : Int))).length : Int) ∧ (↑x.2.1.length : Int) ≤ (20000 : Int) * x.1 ∧ x.2.1 = prtG G a b c (List.take x.1.toNat (gGet H (a, b, (0 : Int)))) → (decide (x.1 < (↑(gGet H (a, b, (0 : Int))).length : Int)) = true → ((0 : Int) ≤ x.1 ∧ x.1 < (↑(gGet H (a, b, (0 : Int))).length : Int)) ∧ ∀ (x_1 : Int), (gGet H (a, b, (0 : Int)))[x.1.toNat]? = some x_1 → SpOk (a, b, x_1) ∧ (True ∧ (gGet H (a, b, (0 : Int)))[x.1.toNat]? = some x_1 ∧ (0 : Int) ≤ x.1 ∧ x.1 < (↑(gGet H (a, b, (0 : Int))).length : Int) ∧ (0 : Int) ≤ (0 : Int) ∧ (0 : Int) ≤ (↑(gGet G (a, b, x_1)).length : Int) ∧ (↑x.2.1.length : Int) ≤ (20000 : Int) * x.1 + (0 : Int) ∧ x.2.1 = prtG G a b c (List.take x.1.toNat (gGet H (a, b, (0 : Int)))) ++ prtK G a b c x_1 (0 : Int)) ∧ ∀ (x_2 : Int × List Int × Unit), (gGet H (a, b, (0 : Int)))[x.1.toNat]? = some x_1 ∧ (0 : Int) ≤ x.1 ∧ x.1 < (↑(gGet H (a, b, (0 : Int))).length : Int) ∧ (0 : Int) ≤ x_2.1 ∧ x_2.1 ≤ (↑(gGet G (a, b, x_1)).length : Int) ∧ (↑x_2.2.1.length : Int) ≤ (20000 : Int) * x.1 + x_2.1 ∧ x_2.2.1 = prtG G a b c (List.take x.1.toNat (gGet H (a, b, (0 : Int)))) ++ prtK G a b c x_1 x_2.1 → (decide (x_2.1 < (↑(gGet G (a, b, x_1)).length : Int)) = true → ((0 : Int) ≤ x_2.1 ∧ x_2.1 < (↑(gGet G (a, b, x_1)).length : Int)) ∧ ∀ (x_3 : Int × Int × Int), (gGet G (a, b, x_1))[x_2.1.toNat]? = some x_3 → (decide (x_1 ≤ c) = true → ((!decide (x_3.2.1 = (0 : Int))) = true → ((x_2.2.1.length + (1 : Nat)) * (8 : Nat) ≤ (140737488355328 : Nat) ∧ x_2.2.1.length + (1 : Nat) ≤ (4611686018427387904 : Nat)) ∧ ((-9223372036854775808 : Int) ≤ x_2.1 + (1 : Int) ∧ x_2.1 + (1 : Int) ≤ (9223372036854775807 : Int)) ∧ True ∧ ((gGet H (a, b, (0 : Int)))[x.1.toNat]? = some x_1 ∧ (0 : Int) ≤ x.1 ∧ x.1 < (↑(gGet H (a, b, (0 : Int))).length : Int) ∧ (0 : Int) ≤ x_2.1 + (1 : Int) ∧ x_2.1 + (1 : Int) ≤ (↑(gGet G (a, b, x_1)).length : Int) ∧ (↑(x_2.2.1 ++ [x_3.2.1]).length : Int) ≤ (20000 : Int) * x.1 + (x_2.1 + (1 : Int)) ∧ x_2.2.1 ++ [x_3.2.1] = prtG G a b c (List.take x.1.toNat (gGet H (a, b, (0 : Int)))) ++ prtK G a b c x_1 (x_2.1 + (1 : Int))) ∧ ((↑(gGet G (a, b, x_1)).length : Int) - (x_2.1 + (1 : Int))).toNat < ((↑(gGet G (a, b, x_1)).length : Int) - x_2.1).toNat) ∧ ((!decide (x_3.2.1 = (0 : Int))) = false → ((-9223372036854775808 : Int) ≤ x_2.1 + (1 : Int) ∧ x_2.1 + (1 : Int) ≤ (9223372036854775807 : Int)) ∧ True ∧ ((gGet H (a, b, (0 : Int)))[x.1.toNat]? = some x_1 ∧ (0 : Int) ≤ x.1 ∧ x.1 < (↑(gGet H (a, b, (0 : Int))).length : Int) ∧ (0 : Int) ≤ x_2.1 + (1 : Int) ∧ x_2.1 + (1 : Int) ≤ (↑(gGet G (a, b, x_1)).length : Int) ∧ (↑x_2.2.1.length : Int) ≤ (20000 : Int) * x.1 + (x_2.1 + (1 : Int)) ∧ x_2.2.1 = prtG G a b c (List.take x.1.toNat (gGet H (a, b, (0 : Int)))) ++ prtK G a b c x_1 (x_2.1 + (1 : Int))) ∧ ((↑(gGet G (a, b, x_1)).length : Int) - (x_2.1 + (1 : Int))).toNat < ((↑(gGet G (a, b, x_1)).length : Int) - x_2.1).toNat)) ∧ (decide (x_1 ≤ c) = !true → ((-9223372036854775808 : Int) ≤ x_2.1 + (1 : Int) ∧ x_2.1 + (1 : Int) ≤ (9223372036854775807 : Int)) ∧ True ∧ ((gGet H (a, b, (0 : Int)))[x.1.toNat]? = some x_1 ∧ (0 : Int) ≤ x.1 ∧ x.1 < (↑(gGet H (a, b, (0 : Int))).length : Int) ∧ (0 : Int) ≤ x_2.1 + (1 : Int) ∧ x_2.1 + (1 : Int) ≤ (↑(gGet G (a, b, x_1)).length : Int) ∧ (↑x_2.2.1.length : Int) ≤ (20000 : Int) * x.1 + (x_2.1 + (1 : Int)) ∧ x_2.2.1 = prtG G a b c (List.take x.1.toNat (gGet H (a, b, (0 : Int)))) ++ prtK G a b c x_1 (x_2.1 + (1 : Int))) ∧ ((↑(gGet G (a, b, x_1)).length : Int) - (x_2.1 + (1 : Int))).toNat < ((↑(gGet G (a, b, x_1)).length : Int) - x_2.1).toNat)) ∧ (decide (x_2.1 < (↑(gGet G (a, b, x_1)).length : Int)) = false → ((-9223372036854775808 : Int) ≤ x.1 + (1 : Int) ∧ x.1 + (1 : Int) ≤ (9223372036854775807 : Int)) ∧ True ∧ ((0 : Int) ≤ x.1 + (1 : Int) ∧ x.1 + (1 : Int) ≤ (↑(gGet H (a, b, (0 : Int))).length : Int) ∧ (↑x_2.2.1.length : Int) ≤ (20000 : Int) * (x.1 + (1 : Int)) ∧ x_2.2.1 = prtG G a b c (List.take (x.1 + (1 : Int)).toNat (gGet H (a, b, (0 : Int))))) ∧ ((↑(gGet H (a, b, (0 : Int))).length : Int) - (x.1 + (1 : Int))).toNat < ((↑(gGet H (a, b, (0 : Int))).length : Int) - x.1).toNat)) ∧ (decide (x.1 < (↑(gGet H (a, b, (0 : Int))).length : Int)) = false → x.2.1.length ≤ (1000000000 : Nat) ∧ (x.2.1.mergeSort fun x y => decide (x ≤ y)).length ≤ (1000000000 : Nat) ∧ (List.take (Lib.compact (x.2.1.mergeSort fun x y => decide (x ≤ y))).length (List.drop (0 : Nat) (Lib.compact (x.2.1.mergeSort fun x y => decide (x ≤ y)) ++ List.replicate ((x.2.1.mergeSort fun x y => decide (x ≤ y)).length - (Lib.compact (x.2.1.mergeSort fun x y => decide (x ≤ y))).length) (0 : Int))), ()) = (prtR G H a b c, ())))
theorem g_partners_eq (G : List (Sp × List Rw)) (H : List (Sp × List Int)) (e n a b c : Int) : Cond (env_partners G H e n a b c) Try.f20 [.fptr [.fopq .grw (G, none), .fopq .gpe (H, none), .int .i64 e, .int .i64 n], .int .i64 a, .int .i64 b, .int .i64 c] [.list .part I] (prtR G H a b c, ()) = g_partners_vc G H e n a b c := by kernel_rfl
theorem g_partners_ok (G : List (Sp × List Rw)) (H : List (Sp × List Int)) (e n a b c : Int) (h : TRd ⟨G, H, e, n⟩ ∧ WordI a ∧ WordI b) : g_partners_vc G H e n a b c := by
  obtain ⟨hT, ha, hb⟩ := h
  have hz : WordI 0 := ⟨by decide, by decide⟩
  have hps := fun p hp => hT.per a b (p := p) hp
  have hpl := hT.plen a b
  have hrl := fun p => hT.len (a, b, p)
  dsimp only at hps hpl hrl
  unfold g_partners_vc prtR
  simp only [decide_eq_true_eq, decide_eq_false_iff_not, Bool.not_eq_true', Bool.not_eq_false', Bool.not_true, Bool.not_false]
  generalize gGet H (a, b, 0) = ps at hps hpl ⊢
  refine ⟨trivial, (fun h => by cases h), fun _ => ⟨⟨ha, hb, hz⟩, ⟨trivial, by omega, by omega, by simp, rfl⟩, ?_⟩⟩
  rintro ⟨i, out, ⟨⟩⟩ ⟨h0, h1, h2, h3⟩
  dsimp only at h0 h1 h2 h3 ⊢
  refine ⟨fun c1 => ⟨⟨h0, c1⟩, fun p hp => ⟨⟨ha, hb, hps p (List.mem_of_getElem? hp)⟩, ⟨trivial, hp, h0, c1, by omega, by omega, by omega, by rw [h3]; simp [prtK]⟩, ?_⟩⟩, fun c1 => ?_⟩
  · have hrp := hrl p
    rintro ⟨k, ou, ⟨⟩⟩ ⟨_, _, _, k0, k1, k2, k3⟩
    dsimp only at k0 k1 k2 k3 ⊢
    refine ⟨fun c2 => ⟨⟨k0, c2⟩, fun y hy => ?_⟩, fun c2 => ?_⟩
    · have hn : prtK G a b c p (k + 1) = prtK G a b c p k ++ if p ≤ c ∧ y.2.1 ≠ 0 then [y.2.1] else [] := by
        unfold prtK
        rw [take_next k0 hy, List.filter_append, List.map_append]
        by_cases hq : p ≤ c ∧ y.2.1 ≠ 0
        · rw [List.filter_cons_of_pos (by simpa using hq), if_pos hq]
          rfl
        · rw [List.filter_cons_of_neg (by simpa using hq), if_neg hq]
          rfl
      refine ⟨fun d1 => ⟨fun d2 => ⟨by omega, by omega, trivial, ⟨hp, h0, c1, by omega, by omega, by simp only [List.length_append, List.length_singleton]; omega, ?_⟩, by omega⟩, fun d2 => ⟨by omega, trivial, ⟨hp, h0, c1, by omega, by omega, by omega, ?_⟩, by omega⟩⟩, fun d1 => ⟨by omega, trivial, ⟨hp, h0, c1, by omega, by omega, by omega, ?_⟩, by omega⟩⟩
      · rw [hn, if_pos ⟨d1, d2⟩, k3, List.append_assoc]
      · rw [hn, if_neg (fun q => q.2 d2), k3, List.append_nil]
      · rw [hn, if_neg (fun q => d1 q.1), k3, List.append_nil]
    · refine ⟨by omega, trivial, ⟨by omega, by omega, by omega, ?_⟩, by omega⟩
      rw [prtG_next G a b c h0 hp, k3, prtK, take_all c2]
      rfl
  · have e : ps.take i.toNat = ps := take_all c1
    rw [e] at h3
    refine ⟨by omega, by rw [List.length_mergeSort]; omega, ?_⟩
    rw [sortF_eq, compact_sort, List.drop_zero, List.take_left' rfl, h3]
set_option maxRecDepth 20000
theorem partners_pure (G : List (Sp × List Rw)) (H : List (Sp × List Int)) (e n a b c : Int) (h : TRd ⟨G, H, e, n⟩ ∧ WordI a ∧ WordI b) : Pure Try.prog 20 [.fptr [.fopq .grw (G, none), .fopq .gpe (H, none), .int .i64 e, .int .i64 n], .int .i64 a, .int .i64 b, .int .i64 c] (.list .part I (prtR G H a b c)) :=
  by have k := Pure.of_cond (g_partners_eq G H e n a b c) (g_partners_ok G H e n a b c h) (specs_ok rfl [sp_tmade] [sp_sort, sp_compact] rfl rfl) mixed Try.func20; exact k
noncomputable def q_partners (G : List (Sp × List Rw)) (H : List (Sp × List Int)) (e n a b c : Int) : Prop × V := (TRd ⟨G, H, e, n⟩ ∧ WordI a ∧ WordI b, (.list .part I (prtR G H a b c)))
noncomputable def sp_partners : FSpec Try.prog where
 f := 20
 run := fun
  | [.fptr [.fopq .grw (G, none), .fopq .gpe (H, none), .int .i64 e, .int .i64 n], .int .i64 a, .int .i64 b, .int .i64 c] => some (q_partners G H e n a b c)
  | _ => none
 ok := fun args pre r h hp => by
  split at h
  · rename_i G H e n a b c
    exact of_q h hp fun h => (partners_pure G H e n a b c h).weak (.cons (.refl _) (.cons (.refl _) (.cons (.refl _) (.cons (.refl _) .nil))))
  · cases h
abbrev Ro := Int × Int × Int × Int
def shGo : List (Int × Rw) → Int → Option (List Ro)
  | [], _ => some []
  | (p, r) :: t, s => if -9223372036854775808 ≤ s + r.2.2 ∧ s + r.2.2 ≤ 9223372036854775807 then (shGo t (s + r.2.2)).map fun l => (r.1, p, r.2.2, s + r.2.2) :: l else none
def shP (G : List (Sp × List Rw)) (e a q p : Int) : List (Int × Rw) := (thoseF (gGet G (e, a, p)) q).map fun r => (p, r)
def shZ (G : List (Sp × List Rw)) (e a q : Int) (ps : List Int) : List (Int × Rw) := ps.flatMap fun p => shP G e a q p
def shR : Option (List Ro) → List Ro × Int
  | some l => (l, 0)
  | none => ([], 10)
def psF (H : List (Sp × List Int)) (e a : Int) : List Int := sortF (gGet H (e, a, 0))
def shF (G : List (Sp × List Rw)) (H : List (Sp × List Int)) (e a q : Int) : Option (List Ro) := shGo (shZ G e a q (psF H e a)) 0
def ShI (G : List (Sp × List Rw)) (H : List (Sp × List Int)) (e a q : Int) (rest : List (Int × Rw)) (s : Int) (out : List Ro) : Prop := shF G H e a q = (shGo rest s).map fun l => out ++ l
theorem drop_next {α : Type} {l : List α} {i : Int} {x : α} (h0 : 0 ≤ i) (hx : l[i.toNat]? = some x) : l.drop i.toNat = x :: l.drop (i + 1).toNat := by
  obtain ⟨h1, h2⟩ := List.getElem?_eq_some_iff.1 hx
  rw [List.drop_eq_getElem_cons h1, h2, show (i + 1).toNat = i.toNat + 1 by omega]
theorem rowsG_of : ∀ (L : List Pu) (n : Int) (k : Sp) (r : Rw), r ∈ rowsG L n k → ∃ u ∈ L, r.2 = (u.2.2.2.1, u.2.2.2.2)
  | [], n, k, r, h => by cases h
  | u :: t, n, k, r, h => by
    rw [rowsG] at h
    split at h
    · rcases List.mem_cons.1 h with rfl | h
      · exact ⟨u, by simp, rfl⟩
      · obtain ⟨v, hv, e⟩ := rowsG_of t _ k r h
        exact ⟨v, List.mem_cons_of_mem _ hv, e⟩
    · obtain ⟨v, hv, e⟩ := rowsG_of t _ k r h
      exact ⟨v, List.mem_cons_of_mem _ hv, e⟩
theorem TRd.ams {d : TD} (h : TRd d) (k : Sp) (q : Int) : ∀ r ∈ thoseF (gGet d.G k) q, InI r.2.2 := fun r hr => by
  obtain ⟨⟨L, hT, hw⟩, _⟩ := h
  have hr := (List.mem_filter.1 hr).1
  rw [hT.rows] at hr
  obtain ⟨u, hu, e⟩ := rowsG_of L 0 k r hr
  rw [e]
  exact (hw u hu).2.2.2.2
noncomputable def env_sheet (G : List (Sp × List Rw)) (H : List (Sp × List Int)) (e n a b q : Int) : Env where
  P := Try.prog
  ty := tys0
  specs := specsOf [sp_tmade, sp_those, sp_nadd]
  upd := updsOf [so_values.upd, so_sorted.upd]
  frz := fun | 44 => true | _ => false
  heads := fun
    | 7 => some { slots := [(34, .int .i64), (12, .int .i64), (11, .slc 9000 RoT), (32, .slc 9001 I)], boxes := [], drop := [10, 30, 31], inv := fun _ (x : Int × Int × List Ro × List Int × Unit) => x.2.2.2.1 = psF H a b ∧ 0 ≤ x.1 ∧ x.1 ≤ (psF H a b).length ∧ InI x.2.1 ∧ (x.2.2.1.length : Int) ≤ 20000 * x.1 ∧ ShI G H a b q (shZ G a b q ((psF H a b).drop x.1.toNat)) x.2.1 x.2.2.1, measure := fun _ (x : Int × Int × List Ro × List Int × Unit) => ((psF H a b).length - x.1).toNat }
    | 10 => some { slots := [(46, .int .i64), (12, .int .i64), (11, .slc 9000 RoT)], boxes := [], keep := [9001], inv := fun st (x : Int × Int × List Ro × Unit) => (psF H a b)[(st.int 34).toNat]? = some (st.int 14) ∧ 0 ≤ st.int 34 ∧ st.int 34 < (psF H a b).length ∧ 0 ≤ x.1 ∧ x.1 ≤ (thoseF (gGet G (a, b, st.int 14)) q).length ∧ InI x.2.1 ∧ (x.2.2.1.length : Int) ≤ 20000 * st.int 34 + x.1 ∧ ShI G H a b q ((shP G a b q (st.int 14)).drop x.1.toNat ++ shZ G a b q ((psF H a b).drop (st.int 34 + 1).toNat)) x.2.1 x.2.2.1, measure := fun st (x : Int × Int × List Ro × Unit) => ((thoseF (gGet G (a, b, st.int 14)) q).length - x.1).toNat }
    | _ => none
def g_sheet_vc (G : List (Sp × List Rw)) (H : List (Sp × List Int)) (e : Int) (n : Int) (a : Int) (b : Int) (q : Int) : Prop :=
  True ∧ ((!true) = true → ([], (1 : Int), ()) = ((shR (shF G H a b q)).1, (shR (shF G H a b q)).2, ())) ∧ ((!true) = false → SpOk (a, b, (0 : Int)) ∧ True ∧ (gGet H (a, b, (0 : Int))).length ≤ (1000000000 : Nat) ∧ (True ∧ ((gGet H (a, b, (0 : Int))).mergeSort fun x y => decide (x ≤ y)) = psF H a b ∧ (0 : Int) ≤ (0 : Int) ∧ (0 : Int) ≤ (↑(psF H a b).length : Int) ∧ InI (0 : Int) ∧ (↑(0 : Nat) : Int) ≤ (20000 : Int) * (0 : Int) ∧ ShI G H a b q (shZ G a b q (List.drop (Int.toNat (0 : Int)) (psF H a b))) (0 : Int) []) ∧ ∀ (x : Int × Int × List (Int × Int × Int × Int) × List Int × Unit), x.2.2.2.1 = psF H a b ∧ (0 : Int) ≤ x.1 ∧ x.1 ≤ (↑(psF H a b).length : Int) ∧ InI x.2.1 ∧ (↑x.2.2.1.length : Int) ≤ (20000 : Int) * x.1 ∧ ShI G H a b q (shZ G a b q (List.drop x.1.toNat (psF H a b))) x.2.1 x.2.2.1 → (decide (x.1 < (↑((gGet H (a, b, (0 : Int))).mergeSort fun x y => decide (x ≤ y)).length : Int)) = true → ((0 : Int) ≤ x.1 ∧ x.1 < (↑x.2.2.2.1.length : Int)) ∧ x.1.toNat < x.2.2.2.1.length ∧ ∀ (x_1 : Int), x.2.2.2.1[x.1.toNat]? = some x_1 → (TRd { G := G, H := H, e := e, n := n } ∧ SpOk (a, b, x_1)) ∧ ((some (Obj.arr (0 : Nat) I x.2.2.2.1) = some (Obj.arr (0 : Nat) I x.2.2.2.1) ∧ True) ∧ (psF H a b)[x.1.toNat]? = some x_1 ∧ (0 : Int) ≤ x.1 ∧ x.1 < (↑(psF H a b).length : Int) ∧ (0 : Int) ≤ (0 : Int) ∧ (0 : Int) ≤ (↑(thoseF (gGet G (a, b, x_1)) q).length : Int) ∧ InI x.2.1 ∧ (↑x.2.2.1.length : Int) ≤ (20000 : Int) * x.1 + (0 : Int) ∧ ShI G H a b q (List.drop (Int.toNat (0 : Int)) (shP G a b q x_1) ++ shZ G a b q (List.drop (x.1 + (1 : Int)).toNat (psF H a b))) x.2.1 x.2.2.1) ∧ ∀ (x_2 : Int × Int × List (Int × Int × Int × Int) × Unit), (psF H a b)[x.1.toNat]? = some x_1 ∧ (0 : Int) ≤ x.1 ∧ x.1 < (↑(psF H a b).length : Int) ∧ (0 : Int) ≤ x_2.1 ∧ x_2.1 ≤ (↑(thoseF (gGet G (a, b, x_1)) q).length : Int) ∧ InI x_2.2.1 ∧ (↑x_2.2.2.1.length : Int) ≤ (20000 : Int) * x.1 + x_2.1 ∧ ShI G H a b q (List.drop x_2.1.toNat (shP G a b q x_1) ++ shZ G a b q (List.drop (x.1 + (1 : Int)).toNat (psF H a b))) x_2.2.1 x_2.2.2.1 → (decide (x_2.1 < (↑(thoseF (gGet G (a, b, x_1)) q).length : Int)) = true → ((0 : Int) ≤ x_2.1 ∧ x_2.1 < (↑(thoseF (gGet G (a, b, x_1)) q).length : Int)) ∧ ∀ (x_3 : Int × Int × Int), (thoseF (gGet G (a, b, x_1)) q)[x_2.1.toNat]? = some x_3 → (InI x_2.2.1 ∧ InI x_3.2.2) ∧ ((!decide ((addF x_2.2.1 x_3.2.2).2 = (0 : Int))) = true → ([], (addF x_2.2.1 x_3.2.2).2, ()) = ((shR (shF G H a b q)).1, (shR (shF G H a b q)).2, ())) ∧ ((!decide ((addF x_2.2.1 x_3.2.2).2 = (0 : Int))) = false → ((x_2.2.2.1.length + (1 : Nat)) * (32 : Nat) ≤ (140737488355328 : Nat) ∧ x_2.2.2.1.length + (1 : Nat) ≤ (4611686018427387904 : Nat)) ∧ ((-9223372036854775808 : Int) ≤ x_2.1 + (1 : Int) ∧ x_2.1 + (1 : Int) ≤ (9223372036854775807 : Int)) ∧ (some (Obj.arr (0 : Nat) I x.2.2.2.1) = some (Obj.arr (0 : Nat) I x.2.2.2.1) ∧ True) ∧ ((psF H a b)[x.1.toNat]? = some x_1 ∧ (0 : Int) ≤ x.1 ∧ x.1 < (↑(psF H a b).length : Int) ∧ (0 : Int) ≤ x_2.1 + (1 : Int) ∧ x_2.1 + (1 : Int) ≤ (↑(thoseF (gGet G (a, b, x_1)) q).length : Int) ∧ InI (addF x_2.2.1 x_3.2.2).1 ∧ (↑(x_2.2.2.1 ++ [(x_3.1, x_1, x_3.2.2, (addF x_2.2.1 x_3.2.2).1)]).length : Int) ≤ (20000 : Int) * x.1 + (x_2.1 + (1 : Int)) ∧ ShI G H a b q (List.drop (x_2.1 + (1 : Int)).toNat (shP G a b q x_1) ++ shZ G a b q (List.drop (x.1 + (1 : Int)).toNat (psF H a b))) (addF x_2.2.1 x_3.2.2).1 (x_2.2.2.1 ++ [(x_3.1, x_1, x_3.2.2, (addF x_2.2.1 x_3.2.2).1)])) ∧ ((↑(thoseF (gGet G (a, b, x_1)) q).length : Int) - (x_2.1 + (1 : Int))).toNat < ((↑(thoseF (gGet G (a, b, x_1)) q).length : Int) - x_2.1).toNat)) ∧ (decide (x_2.1 < (↑(thoseF (gGet G (a, b, x_1)) q).length : Int)) = false → ((-9223372036854775808 : Int) ≤ x.1 + (1 : Int) ∧ x.1 + (1 : Int) ≤ (9223372036854775807 : Int)) ∧ True ∧ (x.2.2.2.1 = psF H a b ∧ (0 : Int) ≤ x.1 + (1 : Int) ∧ x.1 + (1 : Int) ≤ (↑(psF H a b).length : Int) ∧ InI x_2.2.1 ∧ (↑x_2.2.2.1.length : Int) ≤ (20000 : Int) * (x.1 + (1 : Int)) ∧ ShI G H a b q (shZ G a b q (List.drop (x.1 + (1 : Int)).toNat (psF H a b))) x_2.2.1 x_2.2.2.1) ∧ ((↑(psF H a b).length : Int) - (x.1 + (1 : Int))).toNat < ((↑(psF H a b).length : Int) - x.1).toNat)) ∧ (decide (x.1 < (↑((gGet H (a, b, (0 : Int))).mergeSort fun x y => decide (x ≤ y)).length : Int)) = false → (x.2.2.1, (0 : Int), ()) = ((shR (shF G H a b q)).1, (shR (shF G H a b q)).2, ())))
theorem g_sheet_eq (G : List (Sp × List Rw)) (H : List (Sp × List Int)) (e n a b q : Int) : Cond (env_sheet G H e n a b q) Try.f15 [.fptr [.fopq .grw (G, none), .fopq .gpe (H, none), .int .i64 e, .int .i64 n], .int .i64 a, .int .i64 b, .int .i64 q] [.slc 0 RoT, .int .i64] ((shR (shF G H a b q)).1, (shR (shF G H a b q)).2, ()) = g_sheet_vc G H e n a b q := by kernel_rfl
theorem g_sheet_ok (G : List (Sp × List Rw)) (H : List (Sp × List Int)) (e n a b q : Int) (h : TRd ⟨G, H, e, n⟩ ∧ WordI a ∧ WordI b) : g_sheet_vc G H e n a b q := by
  obtain ⟨hT, ha, hb⟩ := h
  have hz : WordI 0 := ⟨by decide, by decide⟩
  have hps : ∀ p ∈ psF H a b, WordI p := fun p hp => hT.per a b (p := p) ((List.mergeSort_perm _ _).mem_iff.1 hp)
  have hpe : ((gGet H (a, b, 0)).mergeSort fun x y => decide (x ≤ y)) = psF H a b := rfl
  have hpl : (psF H a b).length ≤ 20000 := by
    have := hT.plen a b
    rw [psF, sortF, List.length_mergeSort]
    exact this
  have hpl0 := hT.plen a b
  have hrl := fun p => hT.tlen (a, b, p) q
  have ham := fun p => hT.ams (a, b, p) q
  dsimp only at hps hpl hpl0 hrl ham
  unfold g_sheet_vc
  simp only [decide_eq_true_eq, decide_eq_false_iff_not, Bool.not_eq_true', Bool.not_eq_false', Bool.not_true, Bool.not_false, hpe]
  have hI0 : InI 0 := ⟨by decide, by decide⟩
  have h00 : ShI G H a b q (shZ G a b q (psF H a b)) 0 [] := by simp [ShI, shF]
  obtain ⟨ps, hpsE⟩ : ∃ ps, psF H a b = ps := ⟨_, rfl⟩
  rw [hpsE] at hps hpl h00 ⊢
  refine ⟨trivial, (fun h => by cases h), fun _ => ⟨⟨ha, hb, hz⟩, trivial, by omega, ⟨trivial, trivial, by omega, by omega, hI0, by simp, h00⟩, ?_⟩⟩
  rintro ⟨i, s, out, pp, ⟨⟩⟩ ⟨rfl, h0, h1, h2, h3, h4⟩
  dsimp only at h0 h1 h2 h3 h4 hps hpl h00 ⊢
  refine ⟨fun c1 => ⟨⟨h0, c1⟩, by omega, fun p hp => ⟨⟨hT, ha, hb, hps p (List.mem_of_getElem? hp)⟩, ⟨⟨trivial, trivial⟩, hp, h0, c1, by omega, by omega, h2, by omega, ?_⟩, ?_⟩⟩, fun c1 => ?_⟩
  · rw [drop_next h0 hp] at h4
    exact h4
  · have hrp := hrl p
    rintro ⟨k, t, ou, ⟨⟩⟩ ⟨_, _, _, k0, k1, k2, k3, k4⟩
    dsimp only at k0 k1 k2 k3 k4 ⊢
    refine ⟨fun c2 => ⟨⟨k0, c2⟩, fun y hy => ?_⟩, fun c2 => ?_⟩
    · have hy2 : (shP G a b q p)[k.toNat]? = some (p, y) := by
        rw [shP, List.getElem?_map, hy]
        rfl
      have hyI := ham p y (List.mem_of_getElem? hy)
      rw [drop_next k0 hy2] at k4
      unfold ShI at k4
      rw [List.cons_append, shGo] at k4
      refine ⟨⟨k2, hyI⟩, ?_⟩
      by_cases hin : -9223372036854775808 ≤ t + y.2.2 ∧ t + y.2.2 ≤ 9223372036854775807
      · rw [if_pos hin] at k4
        have e : addF t y.2.2 = (t + y.2.2, 0) := if_pos hin
        rw [e]
        refine ⟨fun d => absurd rfl d, fun _ => ⟨by omega, by omega, ⟨trivial, trivial⟩, ⟨hp, h0, c1, by omega, by omega, hin, by simp only [List.length_append, List.length_singleton]; omega, ?_⟩, by omega⟩⟩
        unfold ShI
        rw [k4, Option.map_map]
        congr 1
        funext l
        simp
      · rw [if_neg hin] at k4
        have e : addF t y.2.2 = (0, 10) := if_neg hin
        rw [e, k4]
        exact ⟨fun _ => rfl, fun d => absurd d (by decide)⟩
    · have e : (shP G a b q p).drop k.toNat = [] := List.drop_of_length_le (by rw [shP, List.length_map]; omega)
      rw [e, List.nil_append] at k4
      exact ⟨by omega, trivial, ⟨rfl, by omega, by omega, k2, by omega, k4⟩, by omega⟩
  · have e : List.drop i.toNat pp = [] := List.drop_of_length_le (by omega)
    rw [e] at h4
    have h4 : shF G H a b q = some (out ++ []) := h4
    rw [h4, List.append_nil]
    rfl
theorem sheet_pure (G : List (Sp × List Rw)) (H : List (Sp × List Int)) (e n a b q : Int) (h : TRd ⟨G, H, e, n⟩ ∧ WordI a ∧ WordI b) : Pure Try.prog 15 [.fptr [.fopq .grw (G, none), .fopq .gpe (H, none), .int .i64 e, .int .i64 n], .int .i64 a, .int .i64 b, .int .i64 q] (.tuple [.olist RoT (shR (shF G H a b q)).1, .int .i64 (shR (shF G H a b q)).2]) :=
  by have k := Pure.of_cond (g_sheet_eq G H e n a b q) (g_sheet_ok G H e n a b q h) (specs_ok rfl [sp_tmade, sp_those, sp_nadd] [so_values.upd, so_sorted.upd] rfl rfl) mixed Try.func15; exact k
noncomputable def q_sheet (G : List (Sp × List Rw)) (H : List (Sp × List Int)) (e n a b q : Int) : Prop × V := (TRd ⟨G, H, e, n⟩ ∧ WordI a ∧ WordI b, (.tuple [.olist RoT (shR (shF G H a b q)).1, .int .i64 (shR (shF G H a b q)).2]))
noncomputable def sp_sheet : FSpec Try.prog where
 f := 15
 run := fun
  | [.fptr [.fopq .grw (G, none), .fopq .gpe (H, none), .int .i64 e, .int .i64 n], .int .i64 a, .int .i64 b, .int .i64 q] => some (q_sheet G H e n a b q)
  | _ => none
 ok := fun args pre r h hp => by
  split at h
  · rename_i G H e n a b q
    exact of_q h hp fun h => (sheet_pure G H e n a b q h).weak (.cons (.refl _) (.cons (.refl _) (.cons (.refl _) (.cons (.refl _) .nil))))
  · cases h
end Go.Proofs.Yteaajihmfacinaa.Ta
end
section
namespace Go.Proofs.Yteaajihmfacinaa.Ta
open Go.Vm
set_option maxRecDepth 20000
theorem toNat_next {i : Int} (h : 0 ≤ i) : (i + 1).toNat = i.toNat + 1 := by omega
def FwE (N : List En) : Prop := N.length ≤ 100 ∧ ∀ x ∈ N, x.2.2.length ≤ 100 ∧ WordI x.1 ∧ ∀ y ∈ x.2.2, WL y
abbrev sumI (l : List Int) : Int := l.foldl (· + ·) 0
theorem sum_bound : ∀ (l : List Int), (∀ n ∈ l, InI n) → -((l.length : Int) * 9223372036854775808) ≤ sumI l ∧ sumI l ≤ (l.length : Int) * 9223372036854775808
  | [], _ => ⟨by simp, by simp⟩
  | a :: r, h => by
    obtain ⟨h1, h2⟩ := h a (by simp)
    obtain ⟨k1, k2⟩ := sum_bound r (fun n hn => h n (by simp [hn]))
    have e : sumI (a :: r) = a + sumI r := by
      unfold sumI
      rw [List.foldl_cons, fold_sum r (0 + a), Int.zero_add]
    rw [e, List.length_cons]
    refine ⟨by omega, by omega⟩
theorem sum_snoc (l : List Int) (a : Int) : sumI (l ++ [a]) = sumI l + a := by
  unfold sumI
  rw [List.foldl_append]
  rfl
noncomputable def env_rtotal (l : List Int) : Env where
  P := Try.prog
  ty := tys0
  specs := specsOf [sp_of, sp_bplus]
  frz := fun | 16 => true | 17 => true | _ => false
  heads := fun
    | 3 => some { slots := [(4, .int .i64)], boxes := [(3, [.bool, .list .part I])], keep := [2], inv := fun _ (x : Int × Bool × List Int × Unit) => 0 ≤ x.1 ∧ x.1 ≤ l.length ∧ x.2.1 = decide (sumI (l.take x.1.toNat) < 0) ∧ x.2.2.1 = digs (sumI (l.take x.1.toNat)).natAbs, measure := fun _ (x : Int × Bool × List Int × Unit) => (l.length - x.1).toNat }
    | _ => none
abbrev ann_rtotal : Ann := { slots := numP 0 [.bool, .list .part I], boxes := [], inv := fun _ _ => True }
def g_rtotal_vc (l : List Int) : Prop :=
  ((some (Obj.box [V.kb false, V.nils]) = some (Obj.box [V.kb false, V.nils]) ∧ True) ∧ (0 : Int) ≤ (0 : Int) ∧ (0 : Int) ≤ (↑l.length : Int) ∧ false = decide (sumI (List.take (Int.toNat (0 : Int)) l) < (0 : Int)) ∧ [] = digs (sumI (List.take (Int.toNat (0 : Int)) l)).natAbs) ∧ ∀ (x : Int × Bool × List Int × Unit), (0 : Int) ≤ x.1 ∧ x.1 ≤ (↑l.length : Int) ∧ x.2.1 = decide (sumI (List.take x.1.toNat l) < (0 : Int)) ∧ x.2.2.1 = digs (sumI (List.take x.1.toNat l)).natAbs → (decide (x.1 < (↑l.length : Int)) = true → ((0 : Int) ≤ x.1 ∧ x.1 < (↑l.length : Int)) ∧ ∀ (x_1 : Int), l[x.1.toNat]? = some x_1 → InI x_1 ∧ (Big x.2.1 x.2.2.1 ∧ Big (decide (x_1 < (0 : Int))) (digs x_1.natAbs) ∧ x.2.2.1.length ≤ (1000000 : Nat) ∧ (digs x_1.natAbs).length ≤ (1000000 : Nat)) ∧ ((-9223372036854775808 : Int) ≤ x.1 + (1 : Int) ∧ x.1 + (1 : Int) ≤ (9223372036854775807 : Int)) ∧ (some (Obj.box [V.kb false, V.nils]) = some (Obj.box [V.kb false, V.nils]) ∧ True) ∧ ((0 : Int) ≤ x.1 + (1 : Int) ∧ x.1 + (1 : Int) ≤ (↑l.length : Int) ∧ decide (Yteaajihmfacinaa.big x.2.1 x.2.2.1 + Yteaajihmfacinaa.big (decide (x_1 < (0 : Int))) (digs x_1.natAbs) < (0 : Int)) = decide (sumI (List.take (x.1 + (1 : Int)).toNat l) < (0 : Int)) ∧ digs (Yteaajihmfacinaa.big x.2.1 x.2.2.1 + Yteaajihmfacinaa.big (decide (x_1 < (0 : Int))) (digs x_1.natAbs)).natAbs = digs (sumI (List.take (x.1 + (1 : Int)).toNat l)).natAbs) ∧ ((↑l.length : Int) - (x.1 + (1 : Int))).toNat < ((↑l.length : Int) - x.1).toNat) ∧ (decide (x.1 < (↑l.length : Int)) = false → True ∧ (x.2.1, x.2.2.1, ()) = (decide (sumI l < (0 : Int)), digs (sumI l).natAbs, ()))
theorem g_rtotal_eq (l : List Int) : CondG (env_rtotal l) Try.f48 [.list .tmp I l] [some 2] ann_rtotal (decide (sumI l < 0), digs (sumI l).natAbs, ()) = g_rtotal_vc l := by kernel_rfl
theorem digI_len {n : Int} (h : InI n) : (digs n.natAbs).length ≤ 30 := by
  obtain ⟨h1, h2⟩ := h
  exact digs_len (k := 30) (by omega)
theorem sum_len {l : List Int} (h : ∀ n ∈ l, InI n) (hl : l.length ≤ 100000) (i : Nat) : (digs (sumI (l.take i)).natAbs).length ≤ 30 := by
  obtain ⟨a1, a2⟩ := sum_bound (l.take i) (fun n hn => h n (List.mem_of_mem_take hn))
  have : (l.take i).length ≤ 100000 := by rw [List.length_take]; omega
  exact digs_len (by omega)
theorem sum_next {l : List Int} {i : Nat} {y : Int} (hy : l[i]? = some y) : sumI (l.take (i + 1)) = sumI (l.take i) + y := by
  rw [List.take_add_one, hy]
  exact sum_snoc _ _
theorem g_rtotal_ok (l : List Int) (h : l.length ≤ 100000 ∧ ∀ n ∈ l, InI n) : g_rtotal_vc l := by
  obtain ⟨hl, hi⟩ := h
  unfold g_rtotal_vc
  simp only [decide_eq_true_eq, decide_eq_false_iff_not]
  refine ⟨⟨⟨trivial, trivial⟩, by omega, by omega, by simp [sumI], by simp [sumI, digs_zero]⟩, ?_⟩
  rintro ⟨i, b, d, ⟨⟩⟩ ⟨h0, h1, hb, hd⟩
  dsimp only at h0 h1 hb hd ⊢
  have hB : Big b d := by rw [hb, hd]; exact Big_digs _
  have hv : Go.Proofs.Yteaajihmfacinaa.big b d = sumI (l.take i.toNat) := by rw [hb, hd]; exact big_digs _
  have dl : d.length ≤ 30 := by rw [hd]; exact sum_len hi hl _
  rw [hv]
  refine ⟨fun c => ⟨⟨h0, c⟩, fun y hy => ?_⟩, fun c => ⟨trivial, ?_⟩⟩
  · have hy' := hi y (List.mem_of_getElem? hy)
    rw [big_digs, toNat_next h0, sum_next hy]
    exact ⟨hy', ⟨hB, Big_digs _, by omega, Nat.le_trans (digI_len hy') (by decide)⟩, by omega, ⟨trivial, trivial⟩, ⟨by omega, by omega, rfl, rfl⟩, by omega⟩
  · rw [hb, hd, List.take_of_length_le (by omega)]
theorem rtotal_pure (l : List Int) (h : l.length ≤ 100000 ∧ ∀ n ∈ l, InI n) : Pure Try.prog 48 [.list .tmp I l] (.agg [.bool (decide (sumI l < 0)), .list .part I (digs (sumI l).natAbs)]) :=
  by have k := Pure.of_condG (r := (.agg [.bool (decide (sumI l < 0)), .list .part I (digs (sumI l).natAbs)])) (g_rtotal_eq l) (g_rtotal_ok l h) rfl (specs_ok rfl [sp_of, sp_bplus] [] rfl rfl) mixed Try.func48; exact k
noncomputable def q_rtotal (l : List Int) : Prop × V := (l.length ≤ 100000 ∧ ∀ n ∈ l, InI n, (.agg [.bool (decide (sumI l < 0)), .list .part I (digs (sumI l).natAbs)]))
noncomputable def sp_rtotal : FSpec Try.prog where
 f := 48
 run := fun
  | [v0] => (asL I v0 : Option (List Int)).bind fun l => some (q_rtotal l)
  | _ => none
 ok := fun args pre r h hp => by
  split at h
  · rename_i v0
    obtain ⟨l, h0, h⟩ := Option.bind_eq_some_iff.1 h
    exact of_q h hp fun h => (rtotal_pure l h).weak (.cons (asL_weak h0) .nil)
  · cases h
noncomputable def env_rnet (l m : List Int) : Env where
  P := Try.prog
  ty := tys0
  specs := specsOf [sp_rtotal, sp_bminus, sp_told]
  frz := fun | 7 => true | 9 => true | 10 => true | 11 => true | _ => false
def g_rnet_vc (l : List Int) (m : List Int) : Prop :=
  (l.length ≤ (100000 : Nat) ∧ ∀ (n : Int), n ∈ l → InI n) ∧ (m.length ≤ (100000 : Nat) ∧ ∀ (n : Int), n ∈ m → InI n) ∧ (Big (decide (sumI l < (0 : Int))) (digs (sumI l).natAbs) ∧ Big (decide (sumI m < (0 : Int))) (digs (sumI m).natAbs) ∧ (digs (sumI l).natAbs).length ≤ (1000000 : Nat) ∧ (digs (sumI m).natAbs).length ≤ (1000000 : Nat)) ∧ (Big (decide (Yteaajihmfacinaa.big (decide (sumI l < (0 : Int))) (digs (sumI l).natAbs) - Yteaajihmfacinaa.big (decide (sumI m < (0 : Int))) (digs (sumI m).natAbs) < (0 : Int))) (digs (Yteaajihmfacinaa.big (decide (sumI l < (0 : Int))) (digs (sumI l).natAbs) - Yteaajihmfacinaa.big (decide (sumI m < (0 : Int))) (digs (sumI m).natAbs)).natAbs) ∧ (digs (Yteaajihmfacinaa.big (decide (sumI l < (0 : Int))) (digs (sumI l).natAbs) - Yteaajihmfacinaa.big (decide (sumI m < (0 : Int))) (digs (sumI m).natAbs)).natAbs).length ≤ (1000000 : Nat)) ∧ (intB (Yteaajihmfacinaa.big (decide (Yteaajihmfacinaa.big (decide (sumI l < (0 : Int))) (digs (sumI l).natAbs) - Yteaajihmfacinaa.big (decide (sumI m < (0 : Int))) (digs (sumI m).natAbs) < (0 : Int))) (digs (Yteaajihmfacinaa.big (decide (sumI l < (0 : Int))) (digs (sumI l).natAbs) - Yteaajihmfacinaa.big (decide (sumI m < (0 : Int))) (digs (sumI m).natAbs)).natAbs)), faultB (Yteaajihmfacinaa.big (decide (Yteaajihmfacinaa.big (decide (sumI l < (0 : Int))) (digs (sumI l).natAbs) - Yteaajihmfacinaa.big (decide (sumI m < (0 : Int))) (digs (sumI m).natAbs) < (0 : Int))) (digs (Yteaajihmfacinaa.big (decide (sumI l < (0 : Int))) (digs (sumI l).natAbs) - Yteaajihmfacinaa.big (decide (sumI m < (0 : Int))) (digs (sumI m).natAbs)).natAbs)), ()) = ((netF l m).1, (netF l m).2, ())
theorem g_rnet_eq (l m : List Int) : Cond (env_rnet l m) Try.f25 [.list .tmp I l, .list .tmp I m] [.int .i64, .int .i64] ((netF l m).1, (netF l m).2, ()) = g_rnet_vc l m := by kernel_rfl
theorem g_rnet_ok (l m : List Int) (h : l.length ≤ 100000 ∧ m.length ≤ 100000 ∧ (∀ n ∈ l, InI n) ∧ ∀ n ∈ m, InI n) : g_rnet_vc l m := by
  obtain ⟨h1, h2, hl, hm⟩ := h
  obtain ⟨a1, a2⟩ := sum_bound l hl
  obtain ⟨b1, b2⟩ := sum_bound m hm
  have s1 := sum_len hl h1 l.length
  have s2 := sum_len hm h2 m.length
  rw [List.take_length] at s1 s2
  unfold g_rnet_vc
  rw [netF_law hl hm (sumI l - sumI m) rfl (by omega)]
  simp only [big_digs]
  refine ⟨⟨h1, hl⟩, ⟨h2, hm⟩, ⟨Big_digs _, Big_digs _, by omega, by omega⟩, ⟨Big_digs _, Nat.le_trans (digs_len (k := 40) (by omega)) (by decide)⟩, ?_⟩
  trivial
theorem rnet_pure (l m : List Int) (h : l.length ≤ 100000 ∧ m.length ≤ 100000 ∧ (∀ n ∈ l, InI n) ∧ ∀ n ∈ m, InI n) : Pure Try.prog 25 [.list .tmp I l, .list .tmp I m] (.tuple [.int .i64 (netF l m).1, .int .i64 (netF l m).2]) :=
  by have k := Pure.of_cond (g_rnet_eq l m) (g_rnet_ok l m h) (specs_ok rfl [sp_rtotal, sp_bminus, sp_told] [] rfl rfl) mixed Try.func25; exact k
noncomputable def q_rnet (l m : List Int) : Prop × V := (l.length ≤ 100000 ∧ m.length ≤ 100000 ∧ (∀ n ∈ l, InI n) ∧ ∀ n ∈ m, InI n, (.tuple [.int .i64 (netF l m).1, .int .i64 (netF l m).2]))
noncomputable def sp_rnet : FSpec Try.prog where
 f := 25
 run := fun
  | [v0, v1] => (asL I v0 : Option (List Int)).bind fun l => (asL I v1 : Option (List Int)).bind fun m => some (q_rnet l m)
  | _ => none
 ok := fun args pre r h hp => by
  split at h
  · rename_i v0 v1
    obtain ⟨l, h0, h⟩ := Option.bind_eq_some_iff.1 h
    obtain ⟨m, h1, h⟩ := Option.bind_eq_some_iff.1 h
    exact of_q h hp fun h => (rnet_pure l m h).weak (.cons (asL_weak h0) (.cons (asL_weak h1) .nil))
  · cases h
end Go.Proofs.Yteaajihmfacinaa.Ta
end
section
namespace Go.Proofs.Yteaajihmfacinaa.Ta
open Go.Vm
theorem FwE.lines {N : List En} (h : FwE N) : (linesF N).length ≤ 10000 := by
  rw [lines_len]
  obtain ⟨h1, h2⟩ := h
  have : ∀ M : List En, (∀ x ∈ M, x.2.2.length ≤ 100) → (putsL M).length ≤ 100 * M.length := by
    intro M
    induction M with
    | nil => intro _; simp [putsL]
    | cons x r ih =>
      intro hM
      have a := ih fun y hy => hM y (List.mem_cons_of_mem _ hy)
      have b := hM x (by simp)
      have e : putsL (x :: r) = lnP x.1 x.2.2 ++ putsL r := rfl
      rw [e, List.length_append, lnP, List.length_map, List.length_cons]
      omega
  have := this N fun x hx => (h2 x hx).1
  omega
def atB (e a p q : Int) (x : Po) : Bool := decide (x.2.2.2.1 = e ∧ x.2.2.2.2.1 = a ∧ x.2.2.1 = p ∧ (q = 0 ∨ x.2.2.2.2.2.1 = q))
def rthF (N : List En) (e a p q : Int) : List Po := (linesF N).filter (atB e a p q)
set_option maxRecDepth 20000
theorem FwE.those {N : List En} (h : FwE N) (e a p q : Int) : (rthF N e a p q).length ≤ 10000 := Nat.le_trans (List.length_filter_le ..) h.lines
theorem FwE.ams {N : List En} (h : FwE N) (e a p q : Int) : ∀ x ∈ rthF N e a p q, InI x.2.2.2.2.2.2 := fun x hx => by
  have hx := (List.mem_filter.1 hx).1
  have hpu : puP x ∈ putsL N := by
    rw [← lines_put]
    exact List.mem_map_of_mem hx
  obtain ⟨en, he, q1, q2⟩ := puts_mem hpu
  exact ((h.2 en he).2.2 _ q2).2.2.2
def ridF (N : List En) (e a p q : Int) : List Int := (rthF N e a p q).map (·.1)
def ramF (N : List En) (e a p q : Int) : List Int := (rthF N e a p q).map (·.2.2.2.2.2.2)
def upB (e a p : Int) (x : Po) : Bool := decide (x.2.2.2.1 = e ∧ x.2.2.2.2.1 = a ∧ x.2.2.1 ≤ p ∧ x.2.2.2.2.2.1 ≠ 0)
def rprF (L : List Po) (e a p : Int) : List Int := ((L.filter (upB e a p)).map (·.2.2.2.2.2.1)).foldl withF []
theorem rpr_len (L : List Po) (e a p : Int) : (rprF L e a p).length ≤ L.length := by
  have h1 := len_fold (m := (L.filter (upB e a p)).map (·.2.2.2.2.2.1)) (l := [])
  rw [List.length_map] at h1
  have h2 := List.length_filter_le (upB e a p) L
  unfold rprF
  simp only [List.length_nil] at h1
  omega
end Go.Proofs.Yteaajihmfacinaa.Ta
end
section
namespace Go.Proofs.Yteaajihmfacinaa.Ta
open Go.Vm
def perN (N : List En) : List Int := (N.map (·.1)).foldl withF []
def rzP (N : List En) (e a q p : Int) : List (Int × Rw) := (rthF N e a p q).map fun x => (p, (x.1, x.2.2.2.2.2.1, x.2.2.2.2.2.2))
def rZ (N : List En) (e a q : Int) (ps : List Int) : List (Int × Rw) := ps.flatMap fun p => rzP N e a q p
def rsF (N : List En) (e a q : Int) : Option (List Ro) := shGo (rZ N e a q (perN N)) 0
set_option maxRecDepth 20000
end Go.Proofs.Yteaajihmfacinaa.Ta
end
