/-
  Lists of lines: sums, entities, what is the same.
-/
import Derived.Test.YtgmcfgegldmieaaEntry5
import Derived.Test.YtgmcfgegldmieaaVm24
import Derived.Test.YtgmcfgegldmieaaShelf
namespace Go.Proofs.Ytgmcfgegldmieaa
open Go.Vm

abbrev LTy : Ty := .pair I (.pair I (.pair I I))
/-- A line: entity, account, partner, amount. -/
abbrev Ln := Int × Int × Int × Int
abbrev ETy : Ty := .pair I (.pair I (.slice LTy))
noncomputable def tys : TypeId → Option Ty := fun | 3 => some I | 45 => some LTy | 24 => some ETy | 79 => some (.int .u64) | _ => none
theorem toNat_next {i : Int} (h : 0 ≤ i) : (i + 1).toNat = i.toNat + 1 := by omega

def sp_sort : UFSpec Try.prog := sortSpec 30 ⟨fun blk off cap zs w h1 h2 h3 => Try.slices_Sort_int blk off cap zs w h1 h2 h3, Try.slices_Sort_int_none⟩
def sp_compact : UFSpec Try.prog := compactSpec 31 ⟨fun blk off cap zs w h1 h2 h3 => Try.slices_Compact_int blk off cap zs w h1 h2 h3, Try.slices_Compact_int_empty⟩

/-! slices.BinarySearch -/
/-- A function that leaves memory as it is, but for what is above it. -/
theorem pure_calls {P : Program} {f : FuncId} {args : List V} {r : V} (h : ∀ (F : Fr) (w : World) (vs : List Value), Vm.Ground F w → RepL ⟨w, [], fun _ => none, F⟩ args vs →
    Calls P f vs.toArray w fun e w' => ∃ u, e = .returned u ∧ RowKit.Below w.heap.size w w' ∧ ∀ X, Rep X r u) (ho : own [] 60 r = some r) (hi : ids [] 60 r = []) : Pure P f args r := by
  intro F w vs hF hr
  refine (h F w vs hF hr).mono fun e w' ⟨u, he, hb, hru⟩ => ⟨u, he, hb, [], fun _ => none, r, ⟨fun id o h => by simp [Store.get] at h, fun i j o o' b h => by simp [Store.get] at h, fun id o b h => by simp [Store.get] at h, fun b hb' => hF.out b (Nat.le_trans hb.size hb'), fun b hb' => hF.out b hb', ⟨fun e he => by simp [hF.pin] at he, fun e he => ⟨(hb.block _ (hF.lt he)).trans (hF.gnd e he), fun h => absurd (hF.lt he) (Nat.not_lt.2 h)⟩⟩⟩, hru _, ho, by rw [hi]; exact .nil⟩
def cntLt (l : List Int) (x : Int) : Int := ((l.countP fun y => decide (y < x) : Nat) : Int)
def isIn (l : List Int) (x : Int) : Bool := l.contains x
def Sorted (l : List Int) : Prop := l.Pairwise (· ≤ ·)
theorem search_pure (l : List Int) (x : Int) (h : Sorted l ∧ l.length ≤ 1000000000) : Pure Try.prog 33 [.list .tmp I l, .int .i64 x] (.tuple [.int .i64 (cntLt l x), .bool (isIn l x)]) := by
  refine pure_calls (fun F w vs hF hr => ?_) rfl rfl
  obtain ⟨u1, r1, rfl, a1, hr⟩ := hr.cons_inv
  obtain ⟨u2, r2, rfl, a2, hr⟩ := hr.cons_inv
  rw [hr.nil_inv, a2.int_inv]
  obtain ⟨A, cap, rfl, ⟨_, _, hc⟩, _⟩ := a1.list_inv
  have hrep : ∀ (a : Int) (b : Bool), a = cntLt l x → b = isIn l x → ∀ X, Rep X (.tuple [.int .i64 (cntLt l x), .bool (isIn l x)]) (.tuple #[.int .i64 a, .bool b]) := by
    rintro a b rfl rfl X
    exact RepL.tuple2 (.cons .int (.cons .bool .nil))
  rcases Nat.eq_zero_or_pos l.length with h0 | h0
  · have hl : l = [] := List.eq_nil_of_length_eq_zero h0
    subst hl
    refine (Try.slices_BinarySearch_int_empty A cap x w).mono fun e w' ⟨he, hw⟩ => ⟨_, he, by rw [hw]; exact .refl _ _, hrep _ _ rfl rfl⟩
  · obtain ⟨b, o, rfl, _, hcell⟩ := hc h0
    refine (Try.slices_BinarySearch_int b o l.length cap l x w (Nat.le_refl _) (by omega) (fun j hj => ?_) (by rw [List.take_length]; exact h.1)).mono fun e w' ⟨he, q, hw⟩ => ⟨_, he, by rw [hw]; exact ⟨rfl, rfl, rfl, Nat.le_refl _, fun _ _ => rfl⟩, hrep _ _ ?_ ?_⟩
    · obtain ⟨row, q1, q2⟩ := hcell j l[j] (List.getElem?_eq_getElem hj)
      have q1 : row = [.int .i64 l[j]] := q1
      subst q1
      have := q2 0 _ rfl
      rw [show l.getD j 0 = l[j] by simp [List.getD_eq_getElem?_getD, hj]]
      simpa [Ty.cells] using this
    · rw [List.take_length]; rfl
    · rw [List.take_length]; rfl
noncomputable def sp_search : FSpec Try.prog where
  f := 33
  run := fun args => match args with
    | [v, .int .i64 x] => match (asL I v : Option (List Int)) with
      | some l => some (Sorted l ∧ l.length ≤ 1000000000, .tuple [.int .i64 (cntLt l x), .bool (isIn l x)])
      | none => none
    | _ => none
  ok := fun args pre r h hp => by
    split at h
    · split at h
      · rename_i hl
        cases h
        exact (search_pure _ _ hp).weak (.cons (asL_weak hl) (.cons (Weak.refl _) .nil))
      · cases h
    · cases h

/-! ref11.With -/
def InvW (l : List Int) (n : Int) (k : Int) : Prop := 0 ≤ k ∧ k ≤ l.length ∧ ∀ j : Nat, j < k.toNat → ∀ x, l[j]? = some x → x < n
noncomputable def env_with (l : List Int) (n : Int) : Env where
  P := Try.prog
  ty := tys
  heads := fun
    | 2 => some { slots := [(5, .int .i64)], boxes := [], inv := fun _ (x : Int × Unit) => InvW l n x.1, measure := fun _ (x : Int × Unit) => (l.length - x.1).toNat }
    | _ => none
noncomputable def g_with (l : List Int) (n : Int) : Prop := vc (env_with l n) (codeOf Try.f32) (start0 Try.f32 [.list .part I l, .int .i64 n]) (exitK (tsOf Try.f32) [.list .part I] (withF l n, ()))
def g_with_vc (l : List Int) (n : Int) : Prop :=
  (True ∧ InvW l n (0 : Int)) ∧
  ∀ (x : Int × Unit),
    InvW l n x.fst →
      (decide (x.fst < (↑l.length : Int)) = true →
          ((0 : Int) ≤ x.fst ∧ x.fst < (↑l.length : Int)) ∧
            ∀ (x_1 : Int),
              l[x.fst.toNat]? = some x_1 →
                (decide (x_1 < n) = true →
                    ((-9223372036854775808 : Int) ≤ x.fst + (1 : Int) ∧ x.fst + (1 : Int) ≤ (9223372036854775807 : Int)) ∧
                      True ∧ InvW l n (x.fst + (1 : Int)) ∧ ((↑l.length : Int) - (x.fst + (1 : Int))).toNat < ((↑l.length : Int) - x.fst).toNat) ∧
                  (decide (x_1 < n) = false →
                    (decide (x.fst < (↑l.length : Int)) = true →
                        ((0 : Int) ≤ x.fst ∧ x.fst < (↑l.length : Int)) ∧
                          ∀ (x_2 : Int),
                            l[x.fst.toNat]? = some x_2 →
                              (decide (x_2 = n) = true → (l, ()) = (withF l n, ())) ∧
                                (decide (x_2 = n) = false →
                                  ((0 : Int) ≤ x.fst ∧ x.fst ≤ (↑l.length : Int)) ∧
                                    (((0 : Nat) + (List.take x.fst.toNat l).length) * (8 : Nat) ≤ (140737488355328 : Nat) ∧
                                        (0 : Nat) + (List.take x.fst.toNat l).length ≤ (4611686018427387904 : Nat) ∧ ((0 : Nat) < (List.take x.fst.toNat l).length ∨ (0 : Nat) = (0 : Nat))) ∧
                                      (((List.take x.fst.toNat l).length + (1 : Nat)) * (8 : Nat) ≤ (140737488355328 : Nat) ∧
                                          (List.take x.fst.toNat l).length + (1 : Nat) ≤ (4611686018427387904 : Nat)) ∧
                                        ((0 : Int) ≤ x.fst ∧ x.fst ≤ (↑l.length : Int)) ∧
                                          (((List.take x.fst.toNat l ++ [n]).length + (List.drop x.fst.toNat l).length) * (8 : Nat) ≤ (140737488355328 : Nat) ∧
                                              (List.take x.fst.toNat l ++ [n]).length + (List.drop x.fst.toNat l).length ≤ (4611686018427387904 : Nat)) ∧
                                            (List.take x.fst.toNat l ++ [n] ++ List.drop x.fst.toNat l, ()) = (withF l n, ()))) ∧
                      (decide (x.fst < (↑l.length : Int)) = !true →
                        ((0 : Int) ≤ x.fst ∧ x.fst ≤ (↑l.length : Int)) ∧
                          (((0 : Nat) + (List.take x.fst.toNat l).length) * (8 : Nat) ≤ (140737488355328 : Nat) ∧
                              (0 : Nat) + (List.take x.fst.toNat l).length ≤ (4611686018427387904 : Nat) ∧ ((0 : Nat) < (List.take x.fst.toNat l).length ∨ (0 : Nat) = (0 : Nat))) ∧
                            (((List.take x.fst.toNat l).length + (1 : Nat)) * (8 : Nat) ≤ (140737488355328 : Nat) ∧ (List.take x.fst.toNat l).length + (1 : Nat) ≤ (4611686018427387904 : Nat)) ∧
                              ((0 : Int) ≤ x.fst ∧ x.fst ≤ (↑l.length : Int)) ∧
                                (((List.take x.fst.toNat l ++ [n]).length + (List.drop x.fst.toNat l).length) * (8 : Nat) ≤ (140737488355328 : Nat) ∧
                                    (List.take x.fst.toNat l ++ [n]).length + (List.drop x.fst.toNat l).length ≤ (4611686018427387904 : Nat)) ∧
                                  (List.take x.fst.toNat l ++ [n] ++ List.drop x.fst.toNat l, ()) = (withF l n, ())))) ∧
        (decide (x.fst < (↑l.length : Int)) = !true →
          (decide (x.fst < (↑l.length : Int)) = true →
              ((0 : Int) ≤ x.fst ∧ x.fst < (↑l.length : Int)) ∧
                ∀ (x_1 : Int),
                  l[x.fst.toNat]? = some x_1 →
                    (decide (x_1 = n) = true → (l, ()) = (withF l n, ())) ∧
                      (decide (x_1 = n) = false →
                        ((0 : Int) ≤ x.fst ∧ x.fst ≤ (↑l.length : Int)) ∧
                          (((0 : Nat) + (List.take x.fst.toNat l).length) * (8 : Nat) ≤ (140737488355328 : Nat) ∧
                              (0 : Nat) + (List.take x.fst.toNat l).length ≤ (4611686018427387904 : Nat) ∧ ((0 : Nat) < (List.take x.fst.toNat l).length ∨ (0 : Nat) = (0 : Nat))) ∧
                            (((List.take x.fst.toNat l).length + (1 : Nat)) * (8 : Nat) ≤ (140737488355328 : Nat) ∧ (List.take x.fst.toNat l).length + (1 : Nat) ≤ (4611686018427387904 : Nat)) ∧
                              ((0 : Int) ≤ x.fst ∧ x.fst ≤ (↑l.length : Int)) ∧
                                (((List.take x.fst.toNat l ++ [n]).length + (List.drop x.fst.toNat l).length) * (8 : Nat) ≤ (140737488355328 : Nat) ∧
                                    (List.take x.fst.toNat l ++ [n]).length + (List.drop x.fst.toNat l).length ≤ (4611686018427387904 : Nat)) ∧
                                  (List.take x.fst.toNat l ++ [n] ++ List.drop x.fst.toNat l, ()) = (withF l n, ()))) ∧
            (decide (x.fst < (↑l.length : Int)) = !true →
              ((0 : Int) ≤ x.fst ∧ x.fst ≤ (↑l.length : Int)) ∧
                (((0 : Nat) + (List.take x.fst.toNat l).length) * (8 : Nat) ≤ (140737488355328 : Nat) ∧
                    (0 : Nat) + (List.take x.fst.toNat l).length ≤ (4611686018427387904 : Nat) ∧ ((0 : Nat) < (List.take x.fst.toNat l).length ∨ (0 : Nat) = (0 : Nat))) ∧
                  (((List.take x.fst.toNat l).length + (1 : Nat)) * (8 : Nat) ≤ (140737488355328 : Nat) ∧ (List.take x.fst.toNat l).length + (1 : Nat) ≤ (4611686018427387904 : Nat)) ∧
                    ((0 : Int) ≤ x.fst ∧ x.fst ≤ (↑l.length : Int)) ∧
                      (((List.take x.fst.toNat l ++ [n]).length + (List.drop x.fst.toNat l).length) * (8 : Nat) ≤ (140737488355328 : Nat) ∧
                          (List.take x.fst.toNat l ++ [n]).length + (List.drop x.fst.toNat l).length ≤ (4611686018427387904 : Nat)) ∧
                        (List.take x.fst.toNat l ++ [n] ++ List.drop x.fst.toNat l, ()) = (withF l n, ())))

theorem g_with_eq (l : List Int) (n : Int) : g_with l n = g_with_vc l n := by kernel_rfl
theorem withF_at : ∀ (l : List Int) (n : Int) (k : Nat), k ≤ l.length → (∀ j, j < k → ∀ x, l[j]? = some x → x < n) → (∀ x, l[k]? = some x → ¬ x < n) →
    withF l n = if l[k]? = some n then l else l.take k ++ [n] ++ l.drop k
  | [], n, k, hk, _, _ => by
    have : k = 0 := by simpa using hk
    subst this; simp [withF]
  | x :: r, n, 0, _, _, h => by
    have := h x (by simp)
    simp only [withF, if_neg this]
    by_cases e : x = n <;> simp [e]
  | x :: r, n, k + 1, hk, hj, h => by
    have h0 := hj 0 (by omega) x (by simp)
    have ih := withF_at r n k (by simpa using hk) (fun j hjk y hy => hj (j + 1) (by omega) y (by simpa using hy)) (fun y hy => h y (by simpa using hy))
    simp only [withF, if_pos h0, ih]
    by_cases e : r[k]? = some n <;> simp [e]
theorem g_with_ok (l : List Int) (n : Int) (h : l.length ≤ 1000000000) : g_with_vc l n := by
  unfold g_with_vc
  refine ⟨⟨trivial, by omega, by omega, fun j hj => by simp at hj⟩, ?_⟩
  rintro ⟨k, _⟩ ⟨h1, h2, h3⟩
  have fin : (∀ x, l[k.toNat]? = some x → ¬ x < n) → l[k.toNat]? ≠ some n → l.take k.toNat ++ [n] ++ l.drop k.toNat = withF l n := by
    intro a b
    rw [withF_at l n k.toNat (by omega) h3 a, if_neg b]
  have fin2 : l[k.toNat]? = some n → l = withF l n := by
    intro b
    rw [withF_at l n k.toNat (by omega) h3 (fun x hx => by rw [b] at hx; cases hx; omega), if_pos b]
  have lens : (l.take k.toNat).length ≤ l.length ∧ (l.drop k.toNat).length ≤ l.length := by simp; omega
  simp only [decide_eq_true_eq, decide_eq_false_iff_not, Bool.not_true, List.length_append, List.length_singleton] at *
  refine ⟨fun c => ⟨⟨h1, c⟩, fun x hx => ⟨fun hlt => ⟨by omega, trivial, ⟨by omega, by omega, fun j hj y hy => ?_⟩, by omega⟩, fun hge => ⟨fun _ => ⟨⟨h1, c⟩, fun y hy => ⟨fun e => ?_, fun e => ?_⟩⟩, fun hn => absurd c hn⟩⟩⟩, fun c => ⟨fun hn => absurd hn c, fun _ => ?_⟩⟩
  · by_cases hji : j < k.toNat
    · exact h3 j hji y hy
    · have : j = k.toNat := by omega
      subst this
      rw [hx] at hy; cases hy; exact hlt
  · subst e
    rw [← fin2 hy]
  · refine ⟨by omega, ⟨by omega, by omega, .inr trivial⟩, by omega, by omega, by omega, ?_⟩
    rw [fin (fun z hz => by rw [hx] at hz; cases hz; exact hge) (by rw [hy]; simpa using e)]
  · refine ⟨by omega, ⟨by omega, by omega, .inr trivial⟩, by omega, by omega, by omega, ?_⟩
    have e0 : l[k.toNat]? = none := List.getElem?_eq_none (by omega)
    rw [fin (fun z hz => by rw [e0] at hz; cases hz) (by rw [e0]; simp)]
set_option maxRecDepth 20000 in
theorem with_pure (l : List Int) (n : Int) (h : l.length ≤ 1000000000) : Pure Try.prog 32 [.list .part I l, .int .i64 n] (.list .part I (withF l n)) :=
  Pure.of_g (E := env_with l n) (ts := tsOf Try.f32) (ps := [.list .part I]) (r := (withF l n, ())) (fn := Try.f32) (c := codeOf Try.f32) (specs_ok (P := Try.prog) rfl [] [] rfl rfl) mixed Try.func32 rfl rfl (g := g_with l n) (by delta g_with start0; first | with_reducible exact Eq.refl _ | exact Eq.refl _) (by rw [g_with_eq l n]; exact g_with_ok l n h)
def q_with (l : List Int) (n : Int) : Prop × V := (l.length ≤ 1000000000, (.list .part I (withF l n)))
noncomputable def sp_with : FSpec Try.prog where
  f := 32
  run := fun args => match args with
    | [v0, .int .i64 n] => (match (asP I v0 : Option (List Int)) with | some l => some (q_with l n) | none => none)
    | _ => none
  ok := fun args pre r h hp => by
    try dsimp only at h
    split at h
    · rename_i v0 n
      cases h0 : (asP I v0 : Option (List Int)) with
      | none => rw [h0] at h; cases h
      | some l =>
      rw [h0] at h
      try dsimp only at h
      have h := Option.some.inj h
      unfold q_with at h
      cases h
      exact (with_pure l n hp).weak (.cons (asP_weak h0) (.cons (Weak.refl _) .nil))
    · cases h

/-! slices.Clone -/
noncomputable def env_clone (l : List Ln) : Env where
  P := Try.prog
  ty := tys
noncomputable def g_clone (l : List Ln) : Prop := vc (env_clone l) (codeOf Try.f28) (start0 Try.f28 [.list .tmp LTy l]) (exitK (tsOf Try.f28) [.slc 0 LTy] (l, ()))
def g_clone_vc (l : List Ln) : Prop :=
  ((true = true → l.length = (0 : Nat)) → ([], ()) = (l, ())) ∧
  ((false = true → l.length = (0 : Nat)) →
    (((0 : Nat) + l.length) * (32 : Nat) ≤ (140737488355328 : Nat) ∧ (0 : Nat) + l.length ≤ (4611686018427387904 : Nat) ∧ ((0 : Nat) < l.length ∨ (0 : Nat) = (0 : Nat))) ∧ (l, ()) = (l, ()))

theorem g_clone_eq (l : List Ln) : g_clone l = g_clone_vc l := by kernel_rfl
theorem g_clone_ok (l : List Ln) (h : l.length ≤ 1000000000) : g_clone_vc l := by
  unfold g_clone_vc
  refine ⟨fun e => ?_, fun _ => ⟨⟨by omega, by omega, .inr rfl⟩, rfl⟩⟩
  have := List.eq_nil_of_length_eq_zero (e rfl)
  rw [this]
set_option maxRecDepth 20000 in
theorem clone_pure (l : List Ln) (h : l.length ≤ 1000000000) : Pure Try.prog 28 [.list .tmp LTy l] (.olist LTy l) :=
  Pure.of_g (E := env_clone l) (ts := tsOf Try.f28) (ps := [.slc 0 LTy]) (r := (l, ())) (fn := Try.f28) (c := codeOf Try.f28) (specs_ok (P := Try.prog) rfl [] [] rfl rfl) mixed Try.func28 rfl rfl (g := g_clone l) (by delta g_clone start0; first | with_reducible exact Eq.refl _ | exact Eq.refl _) (by rw [g_clone_eq l]; exact g_clone_ok l h)
def q_clone (l : List Ln) : Prop × V := (l.length ≤ 1000000000, (.olist LTy l))
noncomputable def sp_clone : FSpec Try.prog where
  f := 28
  run := fun args => match args with
    | [v0] => (match (asL LTy v0 : Option (List Ln)) with | some l => some (q_clone l) | none => none)
    | _ => none
  ok := fun args pre r h hp => by
    try dsimp only at h
    split at h
    · rename_i v0
      cases h0 : (asL LTy v0 : Option (List Ln)) with
      | none => rw [h0] at h; cases h
      | some l =>
      rw [h0] at h
      try dsimp only at h
      have h := Option.some.inj h
      unfold q_clone at h
      cases h
      exact (clone_pure l hp).weak (.cons (asL_weak h0) .nil)
    · cases h

/-! num.Sum, Sub, Neg -/
noncomputable def env_sum (l : List Int) : Env where
  P := Try.prog
  ty := tys
  specs := specsOf [sp_net]
noncomputable def g_sum (l : List Int) : Prop := vc (env_sum l) (codeOf Try.f26) (start0 Try.f26 [.list .tmp I l]) (exitK (tsOf Try.f26) [.int .i64, .int .i64] ((netF l []).1, (netF l []).2, ()))
def g_sum_vc (l : List Int) : Prop :=
  (l.length ≤ (1000000000 : Nat) ∧ (0 : Nat) ≤ (1000000000 : Nat)) ∧ ((netF l []).fst, (netF l []).snd, ()) = ((netF l []).fst, (netF l []).snd, ())

theorem g_sum_eq (l : List Int) : g_sum l = g_sum_vc l := by kernel_rfl
theorem g_sum_ok (l : List Int) (h : l.length ≤ 1000000000) : g_sum_vc l := by
  exact ⟨⟨h, Nat.zero_le _⟩, rfl⟩
set_option maxRecDepth 20000 in
theorem sum_pure (l : List Int) (h : l.length ≤ 1000000000) : Pure Try.prog 26 [.list .tmp I l] (.tuple [.int .i64 (netF l []).1, .int .i64 (netF l []).2]) :=
  Pure.of_g (E := env_sum l) (ts := tsOf Try.f26) (ps := [.int .i64, .int .i64]) (r := ((netF l []).1, (netF l []).2, ())) (fn := Try.f26) (c := codeOf Try.f26) (specs_ok (P := Try.prog) rfl [sp_net] [] rfl rfl) mixed Try.func26 rfl rfl (g := g_sum l) (by delta g_sum start0; first | with_reducible exact Eq.refl _ | exact Eq.refl _) (by rw [g_sum_eq l]; exact g_sum_ok l h)
def q_sum (l : List Int) : Prop × V := (l.length ≤ 1000000000, (.tuple [.int .i64 (netF l []).1, .int .i64 (netF l []).2]))
noncomputable def sp_sum : FSpec Try.prog where
  f := 26
  run := fun args => match args with
    | [v0] => (match (asL I v0 : Option (List Int)) with | some l => some (q_sum l) | none => none)
    | _ => none
  ok := fun args pre r h hp => by
    try dsimp only at h
    split at h
    · rename_i v0
      cases h0 : (asL I v0 : Option (List Int)) with
      | none => rw [h0] at h; cases h
      | some l =>
      rw [h0] at h
      try dsimp only at h
      have h := Option.some.inj h
      unfold q_sum at h
      cases h
      exact (sum_pure l hp).weak (.cons (asL_weak h0) .nil)
    · cases h

def subF (a b : Int) : Int × Int := if -9223372036854775808 ≤ a - b ∧ a - b ≤ 9223372036854775807 then (a - b, 0) else (0, 10)
noncomputable def env_sub (a b : Int) : Env where
  P := Try.prog
  ty := tys
  wrap := fun | 9 => true | _ => false
noncomputable def g_sub (a b : Int) : Prop := vc (env_sub a b) (codeOf Try.f42) (start0 Try.f42 [.int .i64 a, .int .i64 b]) (exitK (tsOf Try.f42) [.int .i64, .int .i64] ((subF a b).1, (subF a b).2, ()))
def g_sub_vc (a : Int) (b : Int) : Prop :=
  ((!decide (IntKind.i64.wrap (a - b) < a) == decide ((0 : Int) < b)) = true →
    ((!decide (b = (0 : Int))) = true → ((0 : Int), (10 : Int), ()) = ((subF a b).fst, (subF a b).snd, ())) ∧
      ((!decide (b = (0 : Int))) = false → (IntKind.i64.wrap (a - b), (0 : Int), ()) = ((subF a b).fst, (subF a b).snd, ()))) ∧
  ((!decide (IntKind.i64.wrap (a - b) < a) == decide ((0 : Int) < b)) = !true → (IntKind.i64.wrap (a - b), (0 : Int), ()) = ((subF a b).fst, (subF a b).snd, ()))

theorem g_sub_eq (a b : Int) : g_sub a b = g_sub_vc a b := by kernel_rfl
theorem g_sub_ok (a b : Int) (h : InI a ∧ InI b) : g_sub_vc a b := by
  obtain ⟨⟨h1, h2⟩, h3, h4⟩ := h
  have hw := IntKind.wrap_i64 (a - b)
  unfold g_sub_vc subF
  generalize IntKind.i64.wrap (a - b) = w at hw
  by_cases hin : -9223372036854775808 ≤ a - b ∧ a - b ≤ 9223372036854775807
  · have ew : w = a - b := by omega
    have e1 : decide (w < a) = decide (0 < b) := decide_eq_decide.2 (by omega)
    rw [if_pos hin, e1, ew]
    refine ⟨fun c => ?_, fun _ => rfl⟩
    simp at c
  · have e1 : decide (w < a) ≠ decide (0 < b) := fun e => by
      have := decide_eq_decide.1 e
      omega
    rw [if_neg hin]
    refine ⟨fun _ => ⟨fun _ => rfl, fun d => ?_⟩, fun c => ?_⟩
    · have : b = 0 := by simpa using d
      omega
    · exact absurd (by simpa using c) e1
set_option maxRecDepth 20000 in
theorem sub_pure (a b : Int) (h : InI a ∧ InI b) : Pure Try.prog 42 [.int .i64 a, .int .i64 b] (.tuple [.int .i64 (subF a b).1, .int .i64 (subF a b).2]) :=
  Pure.of_g (E := env_sub a b) (ts := tsOf Try.f42) (ps := [.int .i64, .int .i64]) (r := ((subF a b).1, (subF a b).2, ())) (fn := Try.f42) (c := codeOf Try.f42) (specs_ok (P := Try.prog) rfl [] [] rfl rfl) mixed Try.func42 rfl rfl (g := g_sub a b) (by delta g_sub start0; first | with_reducible exact Eq.refl _ | exact Eq.refl _) (by rw [g_sub_eq a b]; exact g_sub_ok a b h)
def q_sub (a b : Int) : Prop × V := (InI a ∧ InI b, (.tuple [.int .i64 (subF a b).1, .int .i64 (subF a b).2]))
noncomputable def sp_sub : FSpec Try.prog where
  f := 42
  run := fun args => match args with
    | [.int .i64 a, .int .i64 b] => some (q_sub a b)
    | _ => none
  ok := fun args pre r h hp => by
    try dsimp only at h
    split at h
    · rename_i a b
      have h := Option.some.inj h
      unfold q_sub at h
      cases h
      exact (sub_pure a b hp).weak (.cons (Weak.refl _) (.cons (Weak.refl _) .nil))
    · cases h

noncomputable def env_neg (a : Int) : Env where
  P := Try.prog
  ty := tys
  specs := specsOf [sp_sub]
noncomputable def g_neg (a : Int) : Prop := vc (env_neg a) (codeOf Try.f29) (start0 Try.f29 [.int .i64 a]) (exitK (tsOf Try.f29) [.int .i64, .int .i64] ((subF 0 a).1, (subF 0 a).2, ()))
def g_neg_vc (a : Int) : Prop :=
  (InI (0 : Int) ∧ InI a) ∧ ((subF (0 : Int) a).fst, (subF (0 : Int) a).snd, ()) = ((subF (0 : Int) a).fst, (subF (0 : Int) a).snd, ())

theorem g_neg_eq (a : Int) : g_neg a = g_neg_vc a := by kernel_rfl
theorem g_neg_ok (a : Int) (h : InI a) : g_neg_vc a := by
  exact ⟨⟨⟨by decide, by decide⟩, h⟩, rfl⟩
set_option maxRecDepth 20000 in
theorem neg_pure (a : Int) (h : InI a) : Pure Try.prog 29 [.int .i64 a] (.tuple [.int .i64 (subF 0 a).1, .int .i64 (subF 0 a).2]) :=
  Pure.of_g (E := env_neg a) (ts := tsOf Try.f29) (ps := [.int .i64, .int .i64]) (r := ((subF 0 a).1, (subF 0 a).2, ())) (fn := Try.f29) (c := codeOf Try.f29) (specs_ok (P := Try.prog) rfl [sp_sub] [] rfl rfl) mixed Try.func29 rfl rfl (g := g_neg a) (by delta g_neg start0; first | with_reducible exact Eq.refl _ | exact Eq.refl _) (by rw [g_neg_eq a]; exact g_neg_ok a h)
def q_neg (a : Int) : Prop × V := (InI a, (.tuple [.int .i64 (subF 0 a).1, .int .i64 (subF 0 a).2]))
noncomputable def sp_neg : FSpec Try.prog where
  f := 29
  run := fun args => match args with
    | [.int .i64 a] => some (q_neg a)
    | _ => none
  ok := fun args pre r h hp => by
    try dsimp only at h
    split at h
    · rename_i a
      have h := Option.some.inj h
      unfold q_neg at h
      cases h
      exact (neg_pure a hp).weak (.cons (Weak.refl _) .nil)
    · cases h

/-! Has, SameInts, Same -/
noncomputable def env_has (l : List Int) (n : Int) : Env where
  P := Try.prog
  ty := tys
  heads := fun
    | 2 => some { slots := [(5, .int .i64)], boxes := [], inv := fun _ (x : Int × Unit) => 0 ≤ x.1 ∧ x.1 ≤ l.length ∧ n ∉ l.take x.1.toNat, measure := fun _ (x : Int × Unit) => (l.length - x.1).toNat }
    | _ => none
noncomputable def g_has (l : List Int) (n : Int) : Prop := vc (env_has l n) (codeOf Try.f19) (start0 Try.f19 [.list .tmp I l, .int .i64 n]) (exitK (tsOf Try.f19) [.bool] (decide (n ∈ l), ()))
def g_has_vc (l : List Int) (n : Int) : Prop :=
  (True ∧ (0 : Int) ≤ (0 : Int) ∧ (0 : Int) ≤ (↑l.length : Int) ∧ ¬n ∈ List.take (Int.toNat (0 : Int)) l) ∧
  ∀ (x : Int × Unit),
    (0 : Int) ≤ x.fst ∧ x.fst ≤ (↑l.length : Int) ∧ ¬n ∈ List.take x.fst.toNat l →
      (decide (x.fst < (↑l.length : Int)) = true →
          ((0 : Int) ≤ x.fst ∧ x.fst < (↑l.length : Int)) ∧
            ∀ (x_1 : Int),
              l[x.fst.toNat]? = some x_1 →
                (decide (x_1 = n) = true → (true, ()) = (decide (n ∈ l), ())) ∧
                  (decide (x_1 = n) = false →
                    ((-9223372036854775808 : Int) ≤ x.fst + (1 : Int) ∧ x.fst + (1 : Int) ≤ (9223372036854775807 : Int)) ∧
                      True ∧
                        ((0 : Int) ≤ x.fst + (1 : Int) ∧ x.fst + (1 : Int) ≤ (↑l.length : Int) ∧ ¬n ∈ List.take (x.fst + (1 : Int)).toNat l) ∧
                          ((↑l.length : Int) - (x.fst + (1 : Int))).toNat < ((↑l.length : Int) - x.fst).toNat)) ∧
        (decide (x.fst < (↑l.length : Int)) = false → (false, ()) = (decide (n ∈ l), ()))

theorem g_has_eq (l : List Int) (n : Int) : g_has l n = g_has_vc l n := by kernel_rfl
theorem g_has_ok (l : List Int) (n : Int) (h : l.length ≤ 1000000000) : g_has_vc l n := by
  refine ⟨⟨trivial, by omega, by omega, by simp⟩, ?_⟩
  rintro ⟨i, ⟨⟩⟩ ⟨h1, h2, h3⟩
  dsimp only at h1 h2 h3 ⊢
  simp only [decide_eq_true_eq, decide_eq_false_iff_not]
  refine ⟨fun c => ⟨⟨h1, c⟩, fun x hx => ⟨fun e => ?_, fun e => ⟨⟨by omega, by omega⟩, trivial, ⟨by omega, by omega, ?_⟩, by omega⟩⟩⟩, fun c => ?_⟩
  · subst e
    rw [decide_eq_true (List.mem_of_getElem? hx)]
  · rw [toNat_next h1, List.take_add_one, hx]
    simp only [Option.toList, List.mem_append, List.mem_singleton, not_or]
    exact ⟨h3, fun h => e h.symm⟩
  · rw [List.take_of_length_le (by omega)] at h3
    rw [decide_eq_false h3]
set_option maxRecDepth 20000 in
theorem has_pure (l : List Int) (n : Int) (h : l.length ≤ 1000000000) : Pure Try.prog 19 [.list .tmp I l, .int .i64 n] (.bool (decide (n ∈ l))) :=
  Pure.of_g (E := env_has l n) (ts := tsOf Try.f19) (ps := [.bool]) (r := (decide (n ∈ l), ())) (fn := Try.f19) (c := codeOf Try.f19) (specs_ok (P := Try.prog) rfl [] [] rfl rfl) mixed Try.func19 rfl rfl (g := g_has l n) (by delta g_has start0; first | with_reducible exact Eq.refl _ | exact Eq.refl _) (by rw [g_has_eq l n]; exact g_has_ok l n h)
def q_has (l : List Int) (n : Int) : Prop × V := (l.length ≤ 1000000000, (.bool (decide (n ∈ l))))
noncomputable def sp_has : FSpec Try.prog where
  f := 19
  run := fun args => match args with
    | [v0, .int .i64 n] => (match (asL I v0 : Option (List Int)) with | some l => some (q_has l n) | none => none)
    | _ => none
  ok := fun args pre r h hp => by
    try dsimp only at h
    split at h
    · rename_i v0 n
      cases h0 : (asL I v0 : Option (List Int)) with
      | none => rw [h0] at h; cases h
      | some l =>
      rw [h0] at h
      try dsimp only at h
      have h := Option.some.inj h
      unfold q_has at h
      cases h
      exact (has_pure l n hp).weak (.cons (asL_weak h0) (.cons (Weak.refl _) .nil))
    · cases h

noncomputable def env_sameInts (l m : List Int) : Env where
  P := Try.prog
  ty := tys
  heads := fun
    | 4 => some { slots := [(5, .int .i64)], boxes := [], inv := fun _ (x : Int × Unit) => 0 ≤ x.1 ∧ x.1 ≤ l.length ∧ l.length = m.length ∧ l.take x.1.toNat = m.take x.1.toNat, measure := fun _ (x : Int × Unit) => (l.length - x.1).toNat }
    | _ => none
noncomputable def g_sameInts (l m : List Int) : Prop := vc (env_sameInts l m) (codeOf Try.f16) (start0 Try.f16 [.list .tmp I l, .list .tmp I m]) (exitK (tsOf Try.f16) [.bool] (decide (l = m), ()))
def g_sameInts_vc (l : List Int) (m : List Int) : Prop :=
  ((!decide ((↑l.length : Int) = (↑m.length : Int))) = true → (false, ()) = (decide (l = m), ())) ∧
  ((!decide ((↑l.length : Int) = (↑m.length : Int))) = false →
    (True ∧ (0 : Int) ≤ (0 : Int) ∧ (0 : Int) ≤ (↑l.length : Int) ∧ l.length = m.length ∧ List.take (Int.toNat (0 : Int)) l = List.take (Int.toNat (0 : Int)) m) ∧
      ∀ (x : Int × Unit),
        (0 : Int) ≤ x.fst ∧ x.fst ≤ (↑l.length : Int) ∧ l.length = m.length ∧ List.take x.fst.toNat l = List.take x.fst.toNat m →
          (decide (x.fst < (↑l.length : Int)) = true →
              ((0 : Int) ≤ x.fst ∧ x.fst < (↑l.length : Int)) ∧
                ∀ (x_1 : Int),
                  l[x.fst.toNat]? = some x_1 →
                    ((0 : Int) ≤ x.fst ∧ x.fst < (↑m.length : Int)) ∧
                      ∀ (x_2 : Int),
                        m[x.fst.toNat]? = some x_2 →
                          ((!decide (x_1 = x_2)) = true → (false, ()) = (decide (l = m), ())) ∧
                            ((!decide (x_1 = x_2)) = false →
                              ((-9223372036854775808 : Int) ≤ x.fst + (1 : Int) ∧ x.fst + (1 : Int) ≤ (9223372036854775807 : Int)) ∧
                                True ∧
                                  ((0 : Int) ≤ x.fst + (1 : Int) ∧
                                      x.fst + (1 : Int) ≤ (↑l.length : Int) ∧ l.length = m.length ∧ List.take (x.fst + (1 : Int)).toNat l = List.take (x.fst + (1 : Int)).toNat m) ∧
                                    ((↑l.length : Int) - (x.fst + (1 : Int))).toNat < ((↑l.length : Int) - x.fst).toNat)) ∧
            (decide (x.fst < (↑l.length : Int)) = false → (true, ()) = (decide (l = m), ())))

theorem g_sameInts_eq (l m : List Int) : g_sameInts l m = g_sameInts_vc l m := by kernel_rfl
theorem g_sameInts_ok (l m : List Int) (h : l.length ≤ 1000000000) : g_sameInts_vc l m := by
  unfold g_sameInts_vc
  simp only [decide_eq_true_eq, decide_eq_false_iff_not, Bool.not_eq_true', Bool.not_eq_false']
  refine ⟨fun c => ?_, fun c => ⟨⟨trivial, by omega, by omega, by omega, by simp⟩, ?_⟩⟩
  · rw [decide_eq_false (fun e => c (by rw [e]))]
  · rintro ⟨i, ⟨⟩⟩ ⟨h1, h2, h3, h4⟩
    dsimp only at h1 h2 h3 h4 ⊢
    refine ⟨fun c2 => ⟨⟨h1, c2⟩, fun x hx => ⟨⟨h1, by omega⟩, fun y hy => ⟨fun e => ?_, fun e => ⟨⟨by omega, by omega⟩, trivial, ⟨by omega, by omega, h3, ?_⟩, by omega⟩⟩⟩⟩, fun c2 => ?_⟩
    · rw [decide_eq_false (fun e2 => e (by subst e2; rw [hx] at hy; exact Option.some.inj hy))]
    · rw [toNat_next h1, List.take_add_one, List.take_add_one, hx, hy, h4, e]
    · rw [List.take_of_length_le (by omega), List.take_of_length_le (by omega)] at h4
      rw [decide_eq_true h4]
set_option maxRecDepth 20000 in
theorem sameInts_pure (l m : List Int) (h : l.length ≤ 1000000000) : Pure Try.prog 16 [.list .tmp I l, .list .tmp I m] (.bool (decide (l = m))) :=
  Pure.of_g (E := env_sameInts l m) (ts := tsOf Try.f16) (ps := [.bool]) (r := (decide (l = m), ())) (fn := Try.f16) (c := codeOf Try.f16) (specs_ok (P := Try.prog) rfl [] [] rfl rfl) mixed Try.func16 rfl rfl (g := g_sameInts l m) (by delta g_sameInts start0; first | with_reducible exact Eq.refl _ | exact Eq.refl _) (by rw [g_sameInts_eq l m]; exact g_sameInts_ok l m h)
def q_sameInts (l m : List Int) : Prop × V := (l.length ≤ 1000000000, (.bool (decide (l = m))))
noncomputable def sp_sameInts : FSpec Try.prog where
  f := 16
  run := fun args => match args with
    | [v0, v1] => (match (asL I v0 : Option (List Int)) with | some l => (match (asL I v1 : Option (List Int)) with | some m => some (q_sameInts l m) | none => none) | none => none)
    | _ => none
  ok := fun args pre r h hp => by
    try dsimp only at h
    split at h
    · rename_i v0 v1
      cases h0 : (asL I v0 : Option (List Int)) with
      | none => rw [h0] at h; cases h
      | some l =>
      rw [h0] at h
      try dsimp only at h
      cases h1 : (asL I v1 : Option (List Int)) with
      | none => rw [h1] at h; cases h
      | some m =>
      rw [h1] at h
      try dsimp only at h
      have h := Option.some.inj h
      unfold q_sameInts at h
      cases h
      exact (sameInts_pure l m hp).weak (.cons (asL_weak h0) (.cons (asL_weak h1) .nil))
    · cases h

def sameE (p r : Int) (L : List Ln) (q s : Int) (M : List Ln) : Bool := decide (p = q ∧ r = s ∧ L = M)
noncomputable def env_same (p r q s : Int) (L M : List Ln) : Env where
  P := Try.prog
  ty := tys
  heads := fun
    | 4 => some { slots := [(5, .int .i64)], boxes := [], keep := [2, 3], inv := fun _ (x : Int × Unit) => 0 ≤ x.1 ∧ x.1 ≤ L.length ∧ L.length = M.length ∧ p = q ∧ r = s ∧ L.take x.1.toNat = M.take x.1.toNat, measure := fun _ (x : Int × Unit) => (L.length - x.1).toNat }
    | _ => none
noncomputable def g_same (p r q s : Int) (L M : List Ln) : Prop := vc (env_same p r q s L M) (codeOf Try.f15) (start0 Try.f15 [.agg [.int .i64 p, .int .i64 r, .list .tmp LTy L], .agg [.int .i64 q, .int .i64 s, .list .tmp LTy M]]) (exitK (tsOf Try.f15) [.bool] (sameE p r L q s M, ()))
def g_same_vc (p : Int) (r : Int) (q : Int) (s : Int) (L : List Ln) (M : List Ln) : Prop :=
  ((!decide (p = q)) = false →
    ((!decide (r = s)) = false →
        ((!decide ((↑L.length : Int) = (↑M.length : Int))) = true → (false, ()) = (sameE p r L q s M, ())) ∧
          ((!decide ((↑L.length : Int) = (↑M.length : Int))) = false →
            ((some (Obj.box [V.int IntKind.i64 p, V.int IntKind.i64 r, V.list LK.tmp LTy L]) = some (Obj.box [V.int IntKind.i64 p, V.int IntKind.i64 r, V.list LK.tmp LTy L]) ∧
                  some (Obj.box [V.int IntKind.i64 q, V.int IntKind.i64 s, V.list LK.tmp LTy M]) = some (Obj.box [V.int IntKind.i64 q, V.int IntKind.i64 s, V.list LK.tmp LTy M]) ∧ True) ∧
                (0 : Int) ≤ (0 : Int) ∧ (0 : Int) ≤ (↑L.length : Int) ∧ L.length = M.length ∧ p = q ∧ r = s ∧ List.take (Int.toNat (0 : Int)) L = List.take (Int.toNat (0 : Int)) M) ∧
              ∀ (x : Int × Unit),
                (0 : Int) ≤ x.fst ∧ x.fst ≤ (↑L.length : Int) ∧ L.length = M.length ∧ p = q ∧ r = s ∧ List.take x.fst.toNat L = List.take x.fst.toNat M →
                  (decide (x.fst < (↑L.length : Int)) = true →
                      ((0 : Int) ≤ x.fst ∧ x.fst < (↑L.length : Int)) ∧
                        ∀ (x_1 : Int × Int × Int × Int),
                          L[x.fst.toNat]? = some x_1 →
                            ((0 : Int) ≤ x.fst ∧ x.fst < (↑M.length : Int)) ∧
                              ∀ (x_2 : Int × Int × Int × Int),
                                M[x.fst.toNat]? = some x_2 →
                                  ((!(decide (x_1.fst = x_2.fst) &&
                                            (decide (x_1.snd.fst = x_2.snd.fst) && (decide (x_1.snd.snd.fst = x_2.snd.snd.fst) && (decide (x_1.snd.snd.snd = x_2.snd.snd.snd) && true))))) =
                                        true →
                                      (false, ()) = (sameE p r L q s M, ())) ∧
                                    ((!(decide (x_1.fst = x_2.fst) &&
                                            (decide (x_1.snd.fst = x_2.snd.fst) && (decide (x_1.snd.snd.fst = x_2.snd.snd.fst) && (decide (x_1.snd.snd.snd = x_2.snd.snd.snd) && true))))) =
                                        false →
                                      ((-9223372036854775808 : Int) ≤ x.fst + (1 : Int) ∧ x.fst + (1 : Int) ≤ (9223372036854775807 : Int)) ∧
                                        (some (Obj.box [V.int IntKind.i64 p, V.int IntKind.i64 r, V.list LK.tmp LTy L]) =
                                              some (Obj.box [V.int IntKind.i64 p, V.int IntKind.i64 r, V.list LK.tmp LTy L]) ∧
                                            some (Obj.box [V.int IntKind.i64 q, V.int IntKind.i64 s, V.list LK.tmp LTy M]) =
                                                some (Obj.box [V.int IntKind.i64 q, V.int IntKind.i64 s, V.list LK.tmp LTy M]) ∧
                                              True) ∧
                                          ((0 : Int) ≤ x.fst + (1 : Int) ∧
                                              x.fst + (1 : Int) ≤ (↑L.length : Int) ∧
                                                L.length = M.length ∧ p = q ∧ r = s ∧ List.take (x.fst + (1 : Int)).toNat L = List.take (x.fst + (1 : Int)).toNat M) ∧
                                            ((↑L.length : Int) - (x.fst + (1 : Int))).toNat < ((↑L.length : Int) - x.fst).toNat)) ∧
                    (decide (x.fst < (↑L.length : Int)) = false → (true, ()) = (sameE p r L q s M, ())))) ∧
      ((!decide (r = s)) = !false → (false, ()) = (sameE p r L q s M, ()))) ∧
  ((!decide (p = q)) = !false → (false, ()) = (sameE p r L q s M, ()))

theorem g_same_eq (p r q s : Int) (L M : List Ln) : g_same p r q s L M = g_same_vc p r q s L M := by kernel_rfl
theorem g_same_ok (p r q s : Int) (L M : List Ln) (h : L.length ≤ 1000000000) : g_same_vc p r q s L M := by
  unfold g_same_vc sameE
  have kf : ¬ (p = q ∧ r = s ∧ L = M) → (false, ()) = (decide (p = q ∧ r = s ∧ L = M), ()) := fun hn => by rw [decide_eq_false hn]
  simp only [decide_eq_true_eq, decide_eq_false_iff_not, Bool.not_eq_true', Bool.not_eq_false', Bool.not_false]
  refine ⟨fun c1 => ⟨fun c2 => ⟨fun c => kf fun e => c (by rw [e.2.2]), fun c => ⟨⟨⟨trivial, trivial, trivial⟩, by omega, by omega, by omega, c1, c2, by simp⟩, ?_⟩⟩, fun c2 => kf fun e => c2 e.2.1⟩, fun c1 => kf fun e => c1 e.1⟩
  rintro ⟨i, ⟨⟩⟩ ⟨h1, h2, h3, h4, h5, h6⟩
  dsimp only at h1 h2 h3 h6 ⊢
  refine ⟨fun c2 => ⟨⟨h1, c2⟩, fun x hx => ⟨⟨h1, by omega⟩, fun y hy => ⟨fun e => kf fun e2 => ?_, fun e => ⟨⟨by omega, by omega⟩, ⟨trivial, trivial, trivial⟩, ⟨by omega, by omega, h3, h4, h5, ?_⟩, by omega⟩⟩⟩⟩, fun c2 => ?_⟩
  · have exy : x = y := by
      obtain ⟨_, _, rfl⟩ := e2
      rw [hx] at hy; exact Option.some.inj hy
    subst exy
    simp at e
  · have exy : x = y := by
      obtain ⟨x1, x2, x3, x4⟩ := x
      obtain ⟨y1, y2, y3, y4⟩ := y
      simp only [Bool.and_eq_true, decide_eq_true_eq, and_true] at e
      obtain ⟨rfl, rfl, rfl, rfl⟩ := e
      rfl
    rw [toNat_next h1, List.take_add_one, List.take_add_one, hx, hy, h6, exy]
  · rw [List.take_of_length_le (by omega), List.take_of_length_le (by omega)] at h6
    rw [decide_eq_true ⟨h4, h5, h6⟩]
set_option maxRecDepth 20000 in
theorem same_pure (p r q s : Int) (L M : List Ln) (h : L.length ≤ 1000000000) : Pure Try.prog 15 [.agg [.int .i64 p, .int .i64 r, .list .tmp LTy L], .agg [.int .i64 q, .int .i64 s, .list .tmp LTy M]] (.bool (sameE p r L q s M)) :=
  Pure.of_g (E := env_same p r q s L M) (ts := tsOf Try.f15) (ps := [.bool]) (r := (sameE p r L q s M, ())) (fn := Try.f15) (c := codeOf Try.f15) (specs_ok (P := Try.prog) rfl [] [] rfl rfl) mixed Try.func15 rfl rfl (g := g_same p r q s L M) (by delta g_same start0; first | with_reducible exact Eq.refl _ | exact Eq.refl _) (by rw [g_same_eq p r q s L M]; exact g_same_ok p r q s L M h)
def q_same (p r q s : Int) (L M : List Ln) : Prop × V := (L.length ≤ 1000000000, (.bool (sameE p r L q s M)))
noncomputable def sp_same : FSpec Try.prog where
  f := 15
  run := fun args => match args with
    | [.agg [.int .i64 p, .int .i64 r, v0_2], .agg [.int .i64 q, .int .i64 s, v1_2]] => (match (asL LTy v0_2 : Option (List Ln)) with | some L => (match (asL LTy v1_2 : Option (List Ln)) with | some M => some (q_same p r q s L M) | none => none) | none => none)
    | _ => none
  ok := fun args pre r h hp => by
    try dsimp only at h
    split at h
    · rename_i p r v0_2 q s v1_2
      cases h0_2 : (asL LTy v0_2 : Option (List Ln)) with
      | none => rw [h0_2] at h; cases h
      | some L =>
      rw [h0_2] at h
      try dsimp only at h
      cases h1_2 : (asL LTy v1_2 : Option (List Ln)) with
      | none => rw [h1_2] at h; cases h
      | some M =>
      rw [h1_2] at h
      try dsimp only at h
      have h := Option.some.inj h
      unfold q_same at h
      cases h
      exact (same_pure p r q s L M hp).weak (.cons (Weak.agg (.cons (Weak.refl _) (.cons (Weak.refl _) (.cons (asL_weak h0_2) .nil)))) (.cons (Weak.agg (.cons (Weak.refl _) (.cons (Weak.refl _) (.cons (asL_weak h1_2) .nil)))) .nil))
    · cases h

/-! The entities. -/
def entsL (L : List Ln) : List Int := L.map (·.1)
def entsF (L : List Ln) : List Int := (entsL L).foldl withF []
def InvEn (L : List Ln) (i : Int) (acc : List Int) : Prop := 0 ≤ i ∧ i ≤ L.length ∧ acc = entsL (L.take i.toNat)
noncomputable def env_ents (p r : Int) (L : List Ln) : Env where
  P := Try.prog
  ty := tys
  upd := updsOf [sp_sort, sp_compact]
  heads := fun
    | 3 => some { slots := [(9, .int .i64), (3, .slc 5000 I), (5, .any)], boxes := [], keep := [1], inv := fun _ (x : Int × List Int × Unit × Unit) => InvEn L x.1 x.2.1, measure := fun _ (x : Int × List Int × Unit × Unit) => (L.length - x.1).toNat }
    | _ => none
noncomputable def g_ents (p r : Int) (L : List Ln) : Prop := vc (env_ents p r L) (codeOf Try.f17) (start0 Try.f17 [.agg [.int .i64 p, .int .i64 r, .list .tmp LTy L]]) (exitK (tsOf Try.f17) [.list .part I] (entsF L, ()))
def g_ents_vc (p : Int) (r : Int) (L : List Ln) : Prop :=
  ((some (Obj.box [V.int IntKind.i64 p, V.int IntKind.i64 r, V.list LK.tmp LTy L]) = some (Obj.box [V.int IntKind.i64 p, V.int IntKind.i64 r, V.list LK.tmp LTy L]) ∧ True) ∧ InvEn L (0 : Int) []) ∧
  ∀ (x : Int × List Int × Unit × Unit),
    InvEn L x.fst x.snd.fst →
      (decide (x.fst < (↑L.length : Int)) = true →
          ((0 : Int) ≤ x.fst ∧ x.fst < (↑L.length : Int)) ∧
            ∀ (x_1 : Int × Int × Int × Int),
              L[x.fst.toNat]? = some x_1 →
                ((x.snd.fst.length + (1 : Nat)) * (8 : Nat) ≤ (140737488355328 : Nat) ∧ x.snd.fst.length + (1 : Nat) ≤ (4611686018427387904 : Nat)) ∧
                  ((-9223372036854775808 : Int) ≤ x.fst + (1 : Int) ∧ x.fst + (1 : Int) ≤ (9223372036854775807 : Int)) ∧
                    (some (Obj.box [V.int IntKind.i64 p, V.int IntKind.i64 r, V.list LK.tmp LTy L]) = some (Obj.box [V.int IntKind.i64 p, V.int IntKind.i64 r, V.list LK.tmp LTy L]) ∧ True) ∧
                      InvEn L (x.fst + (1 : Int)) (x.snd.fst ++ [x_1.fst]) ∧ ((↑L.length : Int) - (x.fst + (1 : Int))).toNat < ((↑L.length : Int) - x.fst).toNat) ∧
        (decide (x.fst < (↑L.length : Int)) = false →
          x.snd.fst.length ≤ (1000000000 : Nat) ∧
            (x.snd.fst.mergeSort fun x y => decide (x ≤ y)).length ≤ (1000000000 : Nat) ∧
              (List.take (Lib.compact (x.snd.fst.mergeSort fun x y => decide (x ≤ y))).length
                    (List.drop (0 : Nat)
                      (Lib.compact (x.snd.fst.mergeSort fun x y => decide (x ≤ y)) ++
                        List.replicate ((x.snd.fst.mergeSort fun x y => decide (x ≤ y)).length - (Lib.compact (x.snd.fst.mergeSort fun x y => decide (x ≤ y))).length) (0 : Int))),
                  ()) =
                (entsF L, ()))

theorem g_ents_eq (p r : Int) (L : List Ln) : g_ents p r L = g_ents_vc p r L := by kernel_rfl
theorem entsL_take {L : List Ln} {i : Nat} {x : Ln} (h : L[i]? = some x) : entsL (L.take (i + 1)) = entsL (L.take i) ++ [x.1] := by
  unfold entsL
  rw [List.take_add_one, h]
  simp
theorem entsL_len (L : List Ln) : (entsL L).length = L.length := List.length_map ..
theorem entsF_take {L : List Ln} {i : Nat} {x : Ln} (h : L[i]? = some x) : entsF (L.take (i + 1)) = withF (entsF (L.take i)) x.1 := by
  unfold entsF
  rw [entsL_take h, List.foldl_append]
  rfl
theorem entsF_len (L : List Ln) : (entsF L).length ≤ L.length := by
  have h1 := len_fold (m := entsL L) (l := [])
  rw [entsL_len] at h1
  simpa [entsF] using h1
theorem entsF_rises (L : List Ln) : Rises (entsF L) := rises_fold List.Pairwise.nil
theorem mem_entsF {L : List Ln} {e : Int} : e ∈ entsF L ↔ ∃ x ∈ L, x.1 = e := by
  unfold entsF
  rw [mem_fold]
  simp [entsL]
theorem sortF_eq (l : List Int) : (l.mergeSort fun x y => decide (x ≤ y)) = sortF l := rfl
theorem g_ents_ok (p r : Int) (L : List Ln) (h : L.length ≤ 1000000000) : g_ents_vc p r L := by
  unfold g_ents_vc
  refine ⟨⟨⟨rfl, trivial⟩, by omega, by omega, rfl⟩, ?_⟩
  rintro ⟨i, acc, ⟨⟩, ⟨⟩⟩ ⟨h1, h2, h3⟩
  dsimp only at h1 h2 h3 ⊢
  have hlen : acc.length ≤ L.length := by rw [h3, entsL_len, List.length_take]; omega
  simp only [decide_eq_true_eq, decide_eq_false_iff_not]
  refine ⟨fun hi => ⟨⟨h1, hi⟩, fun x hx => ⟨⟨by omega, by omega⟩, ⟨by omega, by omega⟩, ⟨trivial, trivial⟩, ⟨by omega, by omega, ?_⟩, by omega⟩⟩, fun hi => ⟨by omega, ?_, ?_⟩⟩
  · rw [toNat_next h1, entsL_take hx, h3]
  · rw [List.length_mergeSort]; omega
  · rw [sortF_eq, compact_sort, List.drop_zero, List.take_left' rfl, h3, List.take_of_length_le (by omega)]
    rfl
set_option maxRecDepth 20000 in
theorem ents_pure (p r : Int) (L : List Ln) (h : L.length ≤ 1000000000) : Pure Try.prog 17 [.agg [.int .i64 p, .int .i64 r, .list .tmp LTy L]] (.list .part I (entsF L)) :=
  Pure.of_g (E := env_ents p r L) (ts := tsOf Try.f17) (ps := [.list .part I]) (r := (entsF L, ())) (fn := Try.f17) (c := codeOf Try.f17) (specs_ok (P := Try.prog) rfl [] [sp_sort, sp_compact] rfl rfl) mixed Try.func17 rfl rfl (g := g_ents p r L) (by delta g_ents start0; first | with_reducible exact Eq.refl _ | exact Eq.refl _) (by rw [g_ents_eq p r L]; exact g_ents_ok p r L h)
def q_ents (p r : Int) (L : List Ln) : Prop × V := (L.length ≤ 1000000000, (.list .part I (entsF L)))
noncomputable def sp_ents : FSpec Try.prog where
  f := 17
  run := fun args => match args with
    | [.agg [.int .i64 p, .int .i64 r, v0_2]] => (match (asL LTy v0_2 : Option (List Ln)) with | some L => some (q_ents p r L) | none => none)
    | _ => none
  ok := fun args pre r h hp => by
    try dsimp only at h
    split at h
    · rename_i p r v0_2
      cases h0_2 : (asL LTy v0_2 : Option (List Ln)) with
      | none => rw [h0_2] at h; cases h
      | some L =>
      rw [h0_2] at h
      try dsimp only at h
      have h := Option.some.inj h
      unfold q_ents at h
      cases h
      exact (ents_pure p r L hp).weak (.cons (Weak.agg (.cons (Weak.refl _) (.cons (Weak.refl _) (.cons (asL_weak h0_2) .nil)))) .nil)
    · cases h

def InvEn2 (L : List Ln) (i : Int) (acc : List Int) : Prop := 0 ≤ i ∧ i ≤ L.length ∧ acc = entsF (L.take i.toNat)
noncomputable def env_refEnts (p r : Int) (L : List Ln) : Env where
  P := Try.prog
  ty := tys
  specs := specsOf [sp_with]
  heads := fun
    | 3 => some { slots := [(4, .int .i64), (3, .list .part I)], boxes := [], keep := [1], inv := fun _ (x : Int × List Int × Unit) => InvEn2 L x.1 x.2.1, measure := fun _ (x : Int × List Int × Unit) => (L.length - x.1).toNat }
    | _ => none
noncomputable def g_refEnts (p r : Int) (L : List Ln) : Prop := vc (env_refEnts p r L) (codeOf Try.f18) (start0 Try.f18 [.agg [.int .i64 p, .int .i64 r, .list .tmp LTy L]]) (exitK (tsOf Try.f18) [.list .part I] (entsF L, ()))
def g_refEnts_vc (p : Int) (r : Int) (L : List Ln) : Prop :=
  ((some (Obj.box [V.int IntKind.i64 p, V.int IntKind.i64 r, V.list LK.tmp LTy L]) = some (Obj.box [V.int IntKind.i64 p, V.int IntKind.i64 r, V.list LK.tmp LTy L]) ∧ True) ∧ InvEn2 L (0 : Int) []) ∧
  ∀ (x : Int × List Int × Unit),
    InvEn2 L x.fst x.snd.fst →
      (decide (x.fst < (↑L.length : Int)) = true →
          ((0 : Int) ≤ x.fst ∧ x.fst < (↑L.length : Int)) ∧
            ∀ (x_1 : Int × Int × Int × Int),
              L[x.fst.toNat]? = some x_1 →
                x.snd.fst.length ≤ (1000000000 : Nat) ∧
                  ((-9223372036854775808 : Int) ≤ x.fst + (1 : Int) ∧ x.fst + (1 : Int) ≤ (9223372036854775807 : Int)) ∧
                    (some (Obj.box [V.int IntKind.i64 p, V.int IntKind.i64 r, V.list LK.tmp LTy L]) = some (Obj.box [V.int IntKind.i64 p, V.int IntKind.i64 r, V.list LK.tmp LTy L]) ∧ True) ∧
                      InvEn2 L (x.fst + (1 : Int)) (withF x.snd.fst x_1.fst) ∧ ((↑L.length : Int) - (x.fst + (1 : Int))).toNat < ((↑L.length : Int) - x.fst).toNat) ∧
        (decide (x.fst < (↑L.length : Int)) = false → (x.snd.fst, ()) = (entsF L, ()))

theorem g_refEnts_eq (p r : Int) (L : List Ln) : g_refEnts p r L = g_refEnts_vc p r L := by kernel_rfl
theorem g_refEnts_ok (p r : Int) (L : List Ln) (h : L.length ≤ 1000000000) : g_refEnts_vc p r L := by
  unfold g_refEnts_vc
  refine ⟨⟨⟨rfl, trivial⟩, by omega, by omega, rfl⟩, ?_⟩
  rintro ⟨i, acc, ⟨⟩⟩ ⟨h1, h2, h3⟩
  dsimp only at h1 h2 h3 ⊢
  have hlen : acc.length ≤ L.length := by
    rw [h3]
    have := entsF_len (L.take i.toNat)
    rw [List.length_take] at this
    omega
  simp only [decide_eq_true_eq, decide_eq_false_iff_not]
  refine ⟨fun hi => ⟨⟨h1, hi⟩, fun x hx => ⟨by omega, ⟨by omega, by omega⟩, ⟨trivial, trivial⟩, ⟨by omega, by omega, ?_⟩, by omega⟩⟩, fun hi => ?_⟩
  · rw [toNat_next h1, entsF_take hx, h3]
  · rw [h3, List.take_of_length_le (by omega)]
set_option maxRecDepth 20000 in
theorem refEnts_pure (p r : Int) (L : List Ln) (h : L.length ≤ 1000000000) : Pure Try.prog 18 [.agg [.int .i64 p, .int .i64 r, .list .tmp LTy L]] (.list .part I (entsF L)) :=
  Pure.of_g (E := env_refEnts p r L) (ts := tsOf Try.f18) (ps := [.list .part I]) (r := (entsF L, ())) (fn := Try.f18) (c := codeOf Try.f18) (specs_ok (P := Try.prog) rfl [sp_with] [] rfl rfl) mixed Try.func18 rfl rfl (g := g_refEnts p r L) (by delta g_refEnts start0; first | with_reducible exact Eq.refl _ | exact Eq.refl _) (by rw [g_refEnts_eq p r L]; exact g_refEnts_ok p r L h)
def q_refEnts (p r : Int) (L : List Ln) : Prop × V := (L.length ≤ 1000000000, (.list .part I (entsF L)))
noncomputable def sp_refEnts : FSpec Try.prog where
  f := 18
  run := fun args => match args with
    | [.agg [.int .i64 p, .int .i64 r, v0_2]] => (match (asL LTy v0_2 : Option (List Ln)) with | some L => some (q_refEnts p r L) | none => none)
    | _ => none
  ok := fun args pre r h hp => by
    try dsimp only at h
    split at h
    · rename_i p r v0_2
      cases h0_2 : (asL LTy v0_2 : Option (List Ln)) with
      | none => rw [h0_2] at h; cases h
      | some L =>
      rw [h0_2] at h
      try dsimp only at h
      have h := Option.some.inj h
      unfold q_refEnts at h
      cases h
      exact (refEnts_pure p r L hp).weak (.cons (Weak.agg (.cons (Weak.refl _) (.cons (Weak.refl _) (.cons (asL_weak h0_2) .nil)))) .nil)
    · cases h

/-! Sums of an entity. -/
def amtsL (L : List Ln) (e : Int) : List Int := (L.filter fun x => decide (x.1 = e)).map (·.2.2.2)
def wholeF (L : List Ln) (e : Int) : Int := (amtsL L e).foldl (· + ·) 0
theorem amtsL_take {L : List Ln} {e : Int} {i : Nat} {x : Ln} (h : L[i]? = some x) : amtsL (L.take (i + 1)) e = amtsL (L.take i) e ++ if x.1 = e then [x.2.2.2] else [] := by
  unfold amtsL
  rw [List.take_add_one, h]
  by_cases hx : x.1 = e <;> simp [hx]
theorem amtsL_len (L : List Ln) (e : Int) : (amtsL L e).length ≤ L.length := by
  unfold amtsL
  rw [List.length_map]
  exact List.length_filter_le _ _
theorem wholeF_take {L : List Ln} {e : Int} {i : Nat} {x : Ln} (h : L[i]? = some x) : wholeF (L.take (i + 1)) e = wholeF (L.take i) e + if x.1 = e then x.2.2.2 else 0 := by
  unfold wholeF
  rw [amtsL_take h, List.foldl_append]
  by_cases hx : x.1 = e <;> simp [hx]
noncomputable def env_total (p r : Int) (L : List Ln) (e : Int) : Env where
  P := Try.prog
  ty := tys
  specs := specsOf [sp_sum]
  heads := fun
    | 3 => some { slots := [(12, .int .i64), (6, .slc 5000 I), (8, .any)], boxes := [], keep := [2], inv := fun _ (x : Int × List Int × Unit × Unit) => 0 ≤ x.1 ∧ x.1 ≤ L.length ∧ x.2.1 = amtsL (L.take x.1.toNat) e, measure := fun _ (x : Int × List Int × Unit × Unit) => (L.length - x.1).toNat }
    | _ => none
noncomputable def g_total (p r : Int) (L : List Ln) (e : Int) : Prop := vc (env_total p r L e) (codeOf Try.f11) (start0 Try.f11 [.agg [.int .i64 p, .int .i64 r, .list .tmp LTy L], .int .i64 e]) (exitK (tsOf Try.f11) [.int .i64, .int .i64] ((netF (amtsL L e) []).1, (netF (amtsL L e) []).2, ()))
def g_total_vc (p : Int) (r : Int) (L : List Ln) (e : Int) : Prop :=
  ((some (Obj.box [V.int IntKind.i64 p, V.int IntKind.i64 r, V.list LK.tmp LTy L]) = some (Obj.box [V.int IntKind.i64 p, V.int IntKind.i64 r, V.list LK.tmp LTy L]) ∧ True) ∧
    (0 : Int) ≤ (0 : Int) ∧ (0 : Int) ≤ (↑L.length : Int) ∧ [] = amtsL (List.take (Int.toNat (0 : Int)) L) e) ∧
  ∀ (x : Int × List Int × Unit × Unit),
    (0 : Int) ≤ x.fst ∧ x.fst ≤ (↑L.length : Int) ∧ x.snd.fst = amtsL (List.take x.fst.toNat L) e →
      (decide (x.fst < (↑L.length : Int)) = true →
          ((0 : Int) ≤ x.fst ∧ x.fst < (↑L.length : Int)) ∧
            ∀ (x_1 : Int × Int × Int × Int),
              L[x.fst.toNat]? = some x_1 →
                (decide (x_1.fst = e) = true →
                    ((x.snd.fst.length + (1 : Nat)) * (8 : Nat) ≤ (140737488355328 : Nat) ∧ x.snd.fst.length + (1 : Nat) ≤ (4611686018427387904 : Nat)) ∧
                      ((-9223372036854775808 : Int) ≤ x.fst + (1 : Int) ∧ x.fst + (1 : Int) ≤ (9223372036854775807 : Int)) ∧
                        (some (Obj.box [V.int IntKind.i64 p, V.int IntKind.i64 r, V.list LK.tmp LTy L]) = some (Obj.box [V.int IntKind.i64 p, V.int IntKind.i64 r, V.list LK.tmp LTy L]) ∧ True) ∧
                          ((0 : Int) ≤ x.fst + (1 : Int) ∧ x.fst + (1 : Int) ≤ (↑L.length : Int) ∧ x.snd.fst ++ [x_1.snd.snd.snd] = amtsL (List.take (x.fst + (1 : Int)).toNat L) e) ∧
                            ((↑L.length : Int) - (x.fst + (1 : Int))).toNat < ((↑L.length : Int) - x.fst).toNat) ∧
                  (decide (x_1.fst = e) = false →
                    ((-9223372036854775808 : Int) ≤ x.fst + (1 : Int) ∧ x.fst + (1 : Int) ≤ (9223372036854775807 : Int)) ∧
                      (some (Obj.box [V.int IntKind.i64 p, V.int IntKind.i64 r, V.list LK.tmp LTy L]) = some (Obj.box [V.int IntKind.i64 p, V.int IntKind.i64 r, V.list LK.tmp LTy L]) ∧ True) ∧
                        ((0 : Int) ≤ x.fst + (1 : Int) ∧ x.fst + (1 : Int) ≤ (↑L.length : Int) ∧ x.snd.fst = amtsL (List.take (x.fst + (1 : Int)).toNat L) e) ∧
                          ((↑L.length : Int) - (x.fst + (1 : Int))).toNat < ((↑L.length : Int) - x.fst).toNat)) ∧
        (decide (x.fst < (↑L.length : Int)) = false →
          x.snd.fst.length ≤ (1000000000 : Nat) ∧ ((netF x.snd.fst []).fst, (netF x.snd.fst []).snd, ()) = ((netF (amtsL L e) []).fst, (netF (amtsL L e) []).snd, ()))

theorem g_total_eq (p r : Int) (L : List Ln) (e : Int) : g_total p r L e = g_total_vc p r L e := by kernel_rfl
theorem g_total_ok (p r : Int) (L : List Ln) (e : Int) (h : L.length ≤ 1000000000) : g_total_vc p r L e := by
  unfold g_total_vc
  refine ⟨⟨⟨rfl, trivial⟩, by omega, by omega, rfl⟩, ?_⟩
  rintro ⟨i, acc, ⟨⟩, ⟨⟩⟩ ⟨h1, h2, h3⟩
  dsimp only at h1 h2 h3 ⊢
  have hlen : acc.length ≤ L.length := by
    rw [h3]
    have := amtsL_len (L.take i.toNat) e
    rw [List.length_take] at this
    omega
  simp only [decide_eq_true_eq, decide_eq_false_iff_not]
  refine ⟨fun hi => ⟨⟨h1, hi⟩, fun x hx => ⟨fun c => ⟨⟨by omega, by omega⟩, ⟨by omega, by omega⟩, ⟨trivial, trivial⟩, ⟨by omega, by omega, ?_⟩, by omega⟩, fun c => ⟨⟨by omega, by omega⟩, ⟨trivial, trivial⟩, ⟨by omega, by omega, ?_⟩, by omega⟩⟩⟩, fun hi => ⟨by omega, ?_⟩⟩
  · rw [toNat_next h1, amtsL_take hx, if_pos c, h3]
  · rw [toNat_next h1, amtsL_take hx, if_neg c, h3, List.append_nil]
  · rw [h3, List.take_of_length_le (by omega)]
set_option maxRecDepth 20000 in
theorem total_pure (p r : Int) (L : List Ln) (e : Int) (h : L.length ≤ 1000000000) : Pure Try.prog 11 [.agg [.int .i64 p, .int .i64 r, .list .tmp LTy L], .int .i64 e] (.tuple [.int .i64 (netF (amtsL L e) []).1, .int .i64 (netF (amtsL L e) []).2]) :=
  Pure.of_g (E := env_total p r L e) (ts := tsOf Try.f11) (ps := [.int .i64, .int .i64]) (r := ((netF (amtsL L e) []).1, (netF (amtsL L e) []).2, ())) (fn := Try.f11) (c := codeOf Try.f11) (specs_ok (P := Try.prog) rfl [sp_sum] [] rfl rfl) mixed Try.func11 rfl rfl (g := g_total p r L e) (by delta g_total start0; first | with_reducible exact Eq.refl _ | exact Eq.refl _) (by rw [g_total_eq p r L e]; exact g_total_ok p r L e h)
def q_total (p r : Int) (L : List Ln) (e : Int) : Prop × V := (L.length ≤ 1000000000, (.tuple [.int .i64 (netF (amtsL L e) []).1, .int .i64 (netF (amtsL L e) []).2]))
noncomputable def sp_total : FSpec Try.prog where
  f := 11
  run := fun args => match args with
    | [.agg [.int .i64 p, .int .i64 r, v0_2], .int .i64 e] => (match (asL LTy v0_2 : Option (List Ln)) with | some L => some (q_total p r L e) | none => none)
    | _ => none
  ok := fun args pre r h hp => by
    try dsimp only at h
    split at h
    · rename_i p r v0_2 e
      cases h0_2 : (asL LTy v0_2 : Option (List Ln)) with
      | none => rw [h0_2] at h; cases h
      | some L =>
      rw [h0_2] at h
      try dsimp only at h
      have h := Option.some.inj h
      unfold q_total at h
      cases h
      exact (total_pure p r L e hp).weak (.cons (Weak.agg (.cons (Weak.refl _) (.cons (Weak.refl _) (.cons (asL_weak h0_2) .nil)))) (.cons (Weak.refl _) .nil))
    · cases h

def InL (L : List Ln) : Prop := ∀ x ∈ L, InI x.2.2.2
theorem InL.get {L : List Ln} (h : InL L) {i : Nat} {x : Ln} (hx : L[i]? = some x) : InI x.2.2.2 := h x (List.mem_of_getElem? hx)
theorem wholeF_boundP {L : List Ln} {P : Int} (h0 : 0 ≤ P) (h : ∀ x ∈ L, -P ≤ x.2.2.2 ∧ x.2.2.2 ≤ P) (e : Int) (i : Nat) : -(i * P) ≤ wholeF (L.take i) e ∧ wholeF (L.take i) e ≤ i * P := by
  induction i with
  | zero => simp [wholeF, amtsL]
  | succ i ih =>
    have e1 : ((i + 1 : Nat) : Int) * P = i * P + P := by
      rw [Int.natCast_add, Int.add_mul]
      simp
    rw [e1]
    cases hx : L[i]? with
    | none =>
      have hl := List.getElem?_eq_none_iff.1 hx
      rw [List.take_of_length_le (show L.length ≤ i + 1 by omega)]
      rw [List.take_of_length_le hl] at ih
      omega
    | some x =>
      rw [wholeF_take hx]
      obtain ⟨h1, h2⟩ := h x (List.mem_of_getElem? hx)
      split <;> omega
theorem wholeF_bound {L : List Ln} (h : InL L) (e : Int) (i : Nat) : -(i * 9223372036854775808) ≤ wholeF (L.take i) e ∧ wholeF (L.take i) e ≤ i * 9223372036854775808 :=
  wholeF_boundP (by omega) (fun x hx => by obtain ⟨h1, h2⟩ := h x hx; omega) e i
theorem wholeF_len {L : List Ln} (h : InL L) (e : Int) (hl : L.length ≤ 1000) (i : Nat) : (digs (wholeF (L.take i) e).natAbs).length ≤ 30 := by
  refine digs_len (k := 30) ?_
  by_cases hi : i ≤ 1000
  · have := wholeF_bound h e i
    omega
  · have := wholeF_bound h e 1000
    rw [List.take_of_length_le (by omega)] at this ⊢
    omega
theorem digI_len {n : Int} (h : InI n) : (digs n.natAbs).length ≤ 30 := by
  obtain ⟨h1, h2⟩ := h
  exact digs_len (k := 30) (by omega)
noncomputable def env_whole (p r : Int) (L : List Ln) (e : Int) : Env where
  P := Try.prog
  ty := tys
  specs := specsOf [sp_of, sp_bplus]
  frz := fun | 29 => true | 30 => true | _ => false
  heads := fun
    | 3 => some { slots := [(6, .int .i64)], boxes := [(5, [.bool, .list .part I])], keep := [2, 4], inv := fun _ (x : Int × Bool × List Int × Unit) => 0 ≤ x.1 ∧ x.1 ≤ L.length ∧ x.2.1 = decide (wholeF (L.take x.1.toNat) e < 0) ∧ x.2.2.1 = digs (wholeF (L.take x.1.toNat) e).natAbs, measure := fun _ (x : Int × Bool × List Int × Unit) => (L.length - x.1).toNat }
    | _ => none
abbrev ann_whole : Ann := { slots := numP 0 [.bool, .list .part I], boxes := [], inv := fun _ _ => True }
noncomputable def g_whole (p r : Int) (L : List Ln) (e : Int) : Prop := vc (env_whole p r L e) (codeOf Try.f25) (start0 Try.f25 [.agg [.int .i64 p, .int .i64 r, .list .tmp LTy L], .int .i64 e]) (exitG (env_whole p r L e).P Try.f25.results.toList [some 2] (env_whole p r L e).pins ann_whole (decide (wholeF L e < 0), digs (wholeF L e).natAbs, ()))
def g_whole_vc (p : Int) (r : Int) (L : List Ln) (e : Int) : Prop :=
  ((some (Obj.box [V.int IntKind.i64 p, V.int IntKind.i64 r, V.list LK.tmp LTy L]) = some (Obj.box [V.int IntKind.i64 p, V.int IntKind.i64 r, V.list LK.tmp LTy L]) ∧
      some (Obj.box [V.kb false, V.nils]) = some (Obj.box [V.kb false, V.nils]) ∧ True) ∧
    (0 : Int) ≤ (0 : Int) ∧
      (0 : Int) ≤ (↑L.length : Int) ∧ false = decide (wholeF (List.take (Int.toNat (0 : Int)) L) e < (0 : Int)) ∧ [] = digs (wholeF (List.take (Int.toNat (0 : Int)) L) e).natAbs) ∧
  ∀ (x : Int × Bool × List Int × Unit),
    (0 : Int) ≤ x.fst ∧ x.fst ≤ (↑L.length : Int) ∧ x.snd.fst = decide (wholeF (List.take x.fst.toNat L) e < (0 : Int)) ∧ x.snd.snd.fst = digs (wholeF (List.take x.fst.toNat L) e).natAbs →
      (decide (x.fst < (↑L.length : Int)) = true →
          ((0 : Int) ≤ x.fst ∧ x.fst < (↑L.length : Int)) ∧
            ∀ (x_1 : Int × Int × Int × Int),
              L[x.fst.toNat]? = some x_1 →
                (decide (x_1.fst = e) = true →
                    ((0 : Int) ≤ x.fst ∧ x.fst < (↑L.length : Int)) ∧
                      ∀ (x_2 : Int × Int × Int × Int),
                        L[x.fst.toNat]? = some x_2 →
                          InI x_2.snd.snd.snd ∧
                            (Big x.snd.fst x.snd.snd.fst ∧
                                Big (decide (x_2.snd.snd.snd < (0 : Int))) (digs x_2.snd.snd.snd.natAbs) ∧
                                  x.snd.snd.fst.length ≤ (1000000 : Nat) ∧ (digs x_2.snd.snd.snd.natAbs).length ≤ (1000000 : Nat)) ∧
                              ((-9223372036854775808 : Int) ≤ x.fst + (1 : Int) ∧ x.fst + (1 : Int) ≤ (9223372036854775807 : Int)) ∧
                                (some (Obj.box [V.int IntKind.i64 p, V.int IntKind.i64 r, V.list LK.tmp LTy L]) = some (Obj.box [V.int IntKind.i64 p, V.int IntKind.i64 r, V.list LK.tmp LTy L]) ∧
                                    some (Obj.box [V.kb false, V.nils]) = some (Obj.box [V.kb false, V.nils]) ∧ True) ∧
                                  ((0 : Int) ≤ x.fst + (1 : Int) ∧
                                      x.fst + (1 : Int) ≤ (↑L.length : Int) ∧
                                        decide (big x.snd.fst x.snd.snd.fst + big (decide (x_2.snd.snd.snd < (0 : Int))) (digs x_2.snd.snd.snd.natAbs) < (0 : Int)) =
                                            decide (wholeF (List.take (x.fst + (1 : Int)).toNat L) e < (0 : Int)) ∧
                                          digs (big x.snd.fst x.snd.snd.fst + big (decide (x_2.snd.snd.snd < (0 : Int))) (digs x_2.snd.snd.snd.natAbs)).natAbs =
                                            digs (wholeF (List.take (x.fst + (1 : Int)).toNat L) e).natAbs) ∧
                                    ((↑L.length : Int) - (x.fst + (1 : Int))).toNat < ((↑L.length : Int) - x.fst).toNat) ∧
                  (decide (x_1.fst = e) = false →
                    ((-9223372036854775808 : Int) ≤ x.fst + (1 : Int) ∧ x.fst + (1 : Int) ≤ (9223372036854775807 : Int)) ∧
                      (some (Obj.box [V.int IntKind.i64 p, V.int IntKind.i64 r, V.list LK.tmp LTy L]) = some (Obj.box [V.int IntKind.i64 p, V.int IntKind.i64 r, V.list LK.tmp LTy L]) ∧
                          some (Obj.box [V.kb false, V.nils]) = some (Obj.box [V.kb false, V.nils]) ∧ True) ∧
                        ((0 : Int) ≤ x.fst + (1 : Int) ∧
                            x.fst + (1 : Int) ≤ (↑L.length : Int) ∧
                              x.snd.fst = decide (wholeF (List.take (x.fst + (1 : Int)).toNat L) e < (0 : Int)) ∧ x.snd.snd.fst = digs (wholeF (List.take (x.fst + (1 : Int)).toNat L) e).natAbs) ∧
                          ((↑L.length : Int) - (x.fst + (1 : Int))).toNat < ((↑L.length : Int) - x.fst).toNat)) ∧
        (decide (x.fst < (↑L.length : Int)) = false → True ∧ (x.snd.fst, x.snd.snd.fst, ()) = (decide (wholeF L e < (0 : Int)), digs (wholeF L e).natAbs, ()))

theorem g_whole_eq (p r : Int) (L : List Ln) (e : Int) : g_whole p r L e = g_whole_vc p r L e := by kernel_rfl
theorem g_whole_ok (p r : Int) (L : List Ln) (e : Int) (h : InL L ∧ L.length ≤ 1000) : g_whole_vc p r L e := by
  obtain ⟨hL, hl⟩ := h
  unfold g_whole_vc
  refine ⟨⟨⟨rfl, rfl, trivial⟩, by omega, by omega, by simp [wholeF, amtsL], by simp [wholeF, amtsL, digs_zero]⟩, ?_⟩
  rintro ⟨i, s, D, ⟨⟩⟩ ⟨h1, h2, h3, h4⟩
  dsimp only at h1 h2 h3 h4 ⊢
  rw [h3, h4]
  simp only [decide_eq_true_eq, decide_eq_false_iff_not]
  refine ⟨fun hi => ⟨⟨h1, hi⟩, fun x hx => ⟨fun c => ⟨⟨h1, hi⟩, fun y hy => ?_⟩, fun c => ⟨⟨by omega, by omega⟩, ⟨trivial, trivial, trivial⟩, ⟨by omega, by omega, ?_, ?_⟩, by omega⟩⟩⟩, fun hi => ⟨trivial, ?_⟩⟩
  · rw [hx] at hy
    cases hy
    have e1 : wholeF (L.take (i + 1).toNat) e = wholeF (L.take i.toNat) e + x.2.2.2 := by rw [toNat_next h1, wholeF_take hx, if_pos c]
    rw [big_digs, big_digs, e1]
    exact ⟨hL.get hx, ⟨Big_digs _, Big_digs _, Nat.le_trans (wholeF_len hL e hl _) (by omega), Nat.le_trans (digI_len (hL.get hx)) (by omega)⟩, ⟨by omega, by omega⟩, ⟨trivial, trivial, trivial⟩, ⟨by omega, by omega, rfl, rfl⟩, by omega⟩
  · rw [toNat_next h1, wholeF_take hx, if_neg c, Int.add_zero]
  · rw [toNat_next h1, wholeF_take hx, if_neg c, Int.add_zero]
  · rw [List.take_of_length_le (by omega)]
set_option maxRecDepth 20000 in
theorem whole_pure (p r : Int) (L : List Ln) (e : Int) (h : InL L ∧ L.length ≤ 1000) : Pure Try.prog 25 [.agg [.int .i64 p, .int .i64 r, .list .tmp LTy L], .int .i64 e] (.agg [.bool (decide (wholeF L e < 0)), .list .part I (digs (wholeF L e).natAbs)]) :=
  Pure.of_gG (E := env_whole p r L e) (sh := [some 2]) (ann := ann_whole) (x := (decide (wholeF L e < 0), digs (wholeF L e).natAbs, ())) (fn := Try.f25) (c := codeOf Try.f25) (specs_ok (P := Try.prog) rfl [sp_of, sp_bplus] [] rfl rfl) mixed Try.func25 rfl rfl rfl rfl rfl (g := g_whole p r L e) (by delta g_whole start0; first | with_reducible exact Eq.refl _ | exact Eq.refl _) (by rw [g_whole_eq p r L e]; exact g_whole_ok p r L e h)
def q_whole (p r : Int) (L : List Ln) (e : Int) : Prop × V := (InL L ∧ L.length ≤ 1000, (.agg [.bool (decide (wholeF L e < 0)), .list .part I (digs (wholeF L e).natAbs)]))
noncomputable def sp_whole : FSpec Try.prog where
  f := 25
  run := fun args => match args with
    | [.agg [.int .i64 p, .int .i64 r, v0_2], .int .i64 e] => (match (asL LTy v0_2 : Option (List Ln)) with | some L => some (q_whole p r L e) | none => none)
    | _ => none
  ok := fun args pre r h hp => by
    try dsimp only at h
    split at h
    · rename_i p r v0_2 e
      cases h0_2 : (asL LTy v0_2 : Option (List Ln)) with
      | none => rw [h0_2] at h; cases h
      | some L =>
      rw [h0_2] at h
      try dsimp only at h
      have h := Option.some.inj h
      unfold q_whole at h
      cases h
      exact (whole_pure p r L e hp).weak (.cons (Weak.agg (.cons (Weak.refl _) (.cons (Weak.refl _) (.cons (asL_weak h0_2) .nil)))) (.cons (Weak.refl _) .nil))
    · cases h

noncomputable def env_refTotal (p r : Int) (L : List Ln) (e : Int) : Env where
  P := Try.prog
  ty := tys
  specs := specsOf [sp_whole, sp_told]
noncomputable def g_refTotal (p r : Int) (L : List Ln) (e : Int) : Prop := vc (env_refTotal p r L e) (codeOf Try.f12) (start0 Try.f12 [.agg [.int .i64 p, .int .i64 r, .list .tmp LTy L], .int .i64 e]) (exitK (tsOf Try.f12) [.int .i64, .int .i64] (intB (wholeF L e), faultB (wholeF L e), ()))
def g_refTotal_vc (p : Int) (r : Int) (L : List Ln) (e : Int) : Prop :=
  (InL L ∧ L.length ≤ (1000 : Nat)) ∧
  (Big (decide (wholeF L e < (0 : Int))) (digs (wholeF L e).natAbs) ∧ (digs (wholeF L e).natAbs).length ≤ (1000000 : Nat)) ∧
    (intB (big (decide (wholeF L e < (0 : Int))) (digs (wholeF L e).natAbs)), faultB (big (decide (wholeF L e < (0 : Int))) (digs (wholeF L e).natAbs)), ()) =
      (intB (wholeF L e), faultB (wholeF L e), ())

theorem g_refTotal_eq (p r : Int) (L : List Ln) (e : Int) : g_refTotal p r L e = g_refTotal_vc p r L e := by kernel_rfl
theorem g_refTotal_ok (p r : Int) (L : List Ln) (e : Int) (h : InL L ∧ L.length ≤ 1000) : g_refTotal_vc p r L e := by
  obtain ⟨hL, hl⟩ := h
  have := wholeF_len hL e hl L.length
  rw [List.take_length] at this
  refine ⟨⟨hL, hl⟩, ⟨Big_digs _, by omega⟩, ?_⟩
  rw [big_digs]
set_option maxRecDepth 20000 in
theorem refTotal_pure (p r : Int) (L : List Ln) (e : Int) (h : InL L ∧ L.length ≤ 1000) : Pure Try.prog 12 [.agg [.int .i64 p, .int .i64 r, .list .tmp LTy L], .int .i64 e] (.tuple [.int .i64 (intB (wholeF L e)), .int .i64 (faultB (wholeF L e))]) :=
  Pure.of_g (E := env_refTotal p r L e) (ts := tsOf Try.f12) (ps := [.int .i64, .int .i64]) (r := (intB (wholeF L e), faultB (wholeF L e), ())) (fn := Try.f12) (c := codeOf Try.f12) (specs_ok (P := Try.prog) rfl [sp_whole, sp_told] [] rfl rfl) mixed Try.func12 rfl rfl (g := g_refTotal p r L e) (by delta g_refTotal start0; first | with_reducible exact Eq.refl _ | exact Eq.refl _) (by rw [g_refTotal_eq p r L e]; exact g_refTotal_ok p r L e h)
def q_refTotal (p r : Int) (L : List Ln) (e : Int) : Prop × V := (InL L ∧ L.length ≤ 1000, (.tuple [.int .i64 (intB (wholeF L e)), .int .i64 (faultB (wholeF L e))]))
noncomputable def sp_refTotal : FSpec Try.prog where
  f := 12
  run := fun args => match args with
    | [.agg [.int .i64 p, .int .i64 r, v0_2], .int .i64 e] => (match (asL LTy v0_2 : Option (List Ln)) with | some L => some (q_refTotal p r L e) | none => none)
    | _ => none
  ok := fun args pre r h hp => by
    try dsimp only at h
    split at h
    · rename_i p r v0_2 e
      cases h0_2 : (asL LTy v0_2 : Option (List Ln)) with
      | none => rw [h0_2] at h; cases h
      | some L =>
      rw [h0_2] at h
      try dsimp only at h
      have h := Option.some.inj h
      unfold q_refTotal at h
      cases h
      exact (refTotal_pure p r L e hp).weak (.cons (Weak.agg (.cons (Weak.refl _) (.cons (Weak.refl _) (.cons (asL_weak h0_2) .nil)))) (.cons (Weak.refl _) .nil))
    · cases h

end Go.Proofs.Ytgmcfgegldmieaa
