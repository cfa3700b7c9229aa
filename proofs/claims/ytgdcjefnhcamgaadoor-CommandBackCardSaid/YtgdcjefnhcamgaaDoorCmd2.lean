/-
  command: may a command be? The walk.
-/
import Derived.Test.YtgdcjefnhcamgaaDoorCmd1
namespace Go.Proofs.YtgdcjefnhcamgaaDoor
open Go.Vm

def idxF (l : List Int) (x : Int) : Int := match l.findIdx? (· == x) with
  | some i => i
  | none => -1
noncomputable def env_index (l : List Int) (x : Int) : Env where
  P := Tryd.prog
  ty := tys0
  heads := fun
    | 2 => some { slots := [(8, .int .i64)], boxes := [], inv := fun _ (y : Int × Unit) => 0 ≤ y.1 ∧ y.1 ≤ l.length ∧ ∀ (j : Nat) z, (j : Int) < y.1 → l[j]? = some z → z ≠ x, measure := fun _ (y : Int × Unit) => (l.length - y.1).toNat }
    | _ => none
noncomputable def g_index (l : List Int) (x : Int) : Prop := vc (env_index l x) (codeOf Tryd.f40) (start0 Tryd.f40 [.list .tmp I l, .int .i64 x]) (exitK (tsOf Tryd.f40) [.int .i64] (idxF l x, ()))
def g_index_vc (l : List Int) (x : Int) : Prop :=
  (True ∧ (0 : Int) ≤ (0 : Int) ∧ (0 : Int) ≤ (↑l.length : Int) ∧ ∀ (j : Nat) (z : Int), (↑j : Int) < (0 : Int) → l[j]? = some z → z ≠ x) ∧ ∀ (x_1 : Int × Unit), ((0 : Int) ≤ x_1.fst ∧ x_1.fst ≤ (↑l.length : Int) ∧ ∀ (j : Nat) (z : Int), (↑j : Int) < x_1.fst → l[j]? = some z → z ≠ x) → (decide (x_1.fst < (↑l.length : Int)) = true → ((0 : Int) ≤ x_1.fst ∧ x_1.fst < (↑l.length : Int)) ∧ ∀ (x_2 : Int), l[x_1.fst.toNat]? = some x_2 → (decide (x = x_2) = true → (x_1.fst, ()) = (idxF l x, ())) ∧ (decide (x = x_2) = false → ((-9223372036854775808 : Int) ≤ x_1.fst + (1 : Int) ∧ x_1.fst + (1 : Int) ≤ (9223372036854775807 : Int)) ∧ True ∧ ((0 : Int) ≤ x_1.fst + (1 : Int) ∧ x_1.fst + (1 : Int) ≤ (↑l.length : Int) ∧ ∀ (j : Nat) (z : Int), (↑j : Int) < x_1.fst + (1 : Int) → l[j]? = some z → z ≠ x) ∧ ((↑l.length : Int) - (x_1.fst + (1 : Int))).toNat < ((↑l.length : Int) - x_1.fst).toNat)) ∧ (decide (x_1.fst < (↑l.length : Int)) = false → ((-1 : Int), ()) = (idxF l x, ()))
theorem g_index_eq (l : List Int) (x : Int) : g_index l x = g_index_vc l x := by kernel_rfl
theorem idxF_at {l : List Int} {x : Int} {i : Nat} (h : l[i]? = some x) (hb : ∀ (j : Nat) z, (j : Int) < i → l[j]? = some z → z ≠ x) : idxF l x = i := by
  obtain ⟨hi, e⟩ := List.getElem?_eq_some_iff.1 h
  unfold idxF
  rw [List.findIdx?_eq_some_iff_getElem.2 ⟨hi, by simp [e], fun j hj => by simpa using hb j _ (by omega) (List.getElem?_eq_getElem (by omega))⟩]
theorem idxF_no {l : List Int} {x : Int} (h : ∀ (j : Nat) z, (j : Int) < l.length → l[j]? = some z → z ≠ x) : idxF l x = -1 := by
  unfold idxF
  rw [List.findIdx?_eq_none_iff.2 fun y hy => by
    obtain ⟨j, hj, e⟩ := List.mem_iff_getElem.1 hy
    simpa using h j y (by omega) (by rw [List.getElem?_eq_getElem hj, e])]
theorem idxF_mem (l : List Int) (x : Int) : decide (0 ≤ idxF l x) = decide (x ∈ l) := by
  unfold idxF
  cases e : l.findIdx? (· == x) with
  | none =>
    have := List.findIdx?_eq_none_iff.1 e
    have hn : x ∉ l := fun k => by simpa using this x k
    simp [hn]
  | some i =>
    obtain ⟨hi, h, _⟩ := List.findIdx?_eq_some_iff_getElem.1 e
    have hx : x ∈ l := by
      have : l[i] = x := by simpa using h
      rw [← this]
      exact List.getElem_mem _
    simp [hx]
theorem g_index_ok (l : List Int) (x : Int) (h : l.length ≤ 1000000) : g_index_vc l x := by
  unfold g_index_vc
  simp only [decide_eq_true_eq, decide_eq_false_iff_not]
  refine ⟨⟨trivial, by omega, by omega, fun j z hj => absurd hj (by omega)⟩, ?_⟩
  rintro ⟨i, ⟨⟩⟩ ⟨h0, h1, hb⟩
  dsimp only at h0 h1 hb ⊢
  refine ⟨fun c => ⟨⟨h0, c⟩, fun y hy => ⟨fun e => ?_, fun e => ⟨⟨by omega, by omega⟩, trivial, ⟨by omega, by omega, fun j z hj hz => ?_⟩, by omega⟩⟩⟩, fun c => ?_⟩
  · subst e
    rw [idxF_at hy fun j z hj => hb j z (by omega)]
    congr 1
    omega
  · by_cases h2 : (j : Int) < i
    · exact hb j z h2 hz
    · have : j = i.toNat := by omega
      subst this
      rw [hy] at hz
      cases hz
      exact fun k => e k.symm
  · rw [idxF_no fun j z hj => hb j z (by omega)]
set_option maxRecDepth 20000 in
theorem index_pure (l : List Int) (x : Int) (h : l.length ≤ 1000000) : Pure Tryd.prog 40 [.list .tmp I l, .int .i64 x] (.int .i64 (idxF l x)) :=
  Pure.of_g (E := env_index l x) (ts := tsOf Tryd.f40) (ps := [.int .i64]) (r := (idxF l x, ())) (fn := Tryd.f40) (c := codeOf Tryd.f40) (specs_ok (P := Tryd.prog) rfl [] [] rfl rfl) mixed Tryd.func40 rfl rfl (g := g_index l x) (by delta g_index start0; first | with_reducible exact Eq.refl _ | exact Eq.refl _) (by rw [g_index_eq l x]; exact g_index_ok l x h)
noncomputable def q_index (l : List Int) (x : Int) : Prop × V := (l.length ≤ 1000000, (.int .i64 (idxF l x)))
noncomputable def sp_index : FSpec Tryd.prog where
  f := 40
  run := fun args => match args with
    | [v0, .int .i64 x] => (match (asL I v0 : Option (List Int)) with | some l => some (q_index l x) | none => none)
    | _ => none
  ok := fun args pre r h hp => by
    try dsimp only at h
    split at h
    · rename_i v0 x
      cases h0 : (asL I v0 : Option (List Int)) with
      | none => rw [h0] at h; cases h
      | some l =>
      rw [h0] at h
      try dsimp only at h
      have h := Option.some.inj h
      unfold q_index at h
      cases h
      exact (index_pure l x hp).weak (.cons (asL_weak h0) (.cons (Weak.refl _) .nil))
    · cases h

noncomputable def env_contains (l : List Int) (x : Int) : Env where
  P := Tryd.prog
  ty := tys0
  specs := specsOf [sp_index]
noncomputable def g_contains (l : List Int) (x : Int) : Prop := vc (env_contains l x) (codeOf Tryd.f24) (start0 Tryd.f24 [.list .tmp I l, .int .i64 x]) (exitK (tsOf Tryd.f24) [.bool] (decide (x ∈ l), ()))
def g_contains_vc (l : List Int) (x : Int) : Prop :=
  l.length ≤ (1000000 : Nat) ∧ (decide ((0 : Int) ≤ idxF l x), ()) = (decide (x ∈ l), ())
theorem g_contains_eq (l : List Int) (x : Int) : g_contains l x = g_contains_vc l x := by kernel_rfl
theorem g_contains_ok (l : List Int) (x : Int) (h : l.length ≤ 1000000) : g_contains_vc l x := by
  unfold g_contains_vc
  exact ⟨h, by rw [idxF_mem]⟩
set_option maxRecDepth 20000 in
theorem contains_pure (l : List Int) (x : Int) (h : l.length ≤ 1000000) : Pure Tryd.prog 24 [.list .tmp I l, .int .i64 x] (.bool (decide (x ∈ l))) :=
  Pure.of_g (E := env_contains l x) (ts := tsOf Tryd.f24) (ps := [.bool]) (r := (decide (x ∈ l), ())) (fn := Tryd.f24) (c := codeOf Tryd.f24) (specs_ok (P := Tryd.prog) rfl [sp_index] [] rfl rfl) mixed Tryd.func24 rfl rfl (g := g_contains l x) (by delta g_contains start0; first | with_reducible exact Eq.refl _ | exact Eq.refl _) (by rw [g_contains_eq l x]; exact g_contains_ok l x h)
noncomputable def q_contains (l : List Int) (x : Int) : Prop × V := (l.length ≤ 1000000, (.bool (decide (x ∈ l))))
noncomputable def sp_contains : FSpec Tryd.prog where
  f := 24
  run := fun args => match args with
    | [v0, .int .i64 x] => (match (asL I v0 : Option (List Int)) with | some l => some (q_contains l x) | none => none)
    | _ => none
  ok := fun args pre r h hp => by
    try dsimp only at h
    split at h
    · rename_i v0 x
      cases h0 : (asL I v0 : Option (List Int)) with
      | none => rw [h0] at h; cases h
      | some l =>
      rw [h0] at h
      try dsimp only at h
      have h := Option.some.inj h
      unfold q_contains at h
      cases h
      exact (contains_pure l x hp).weak (.cons (asL_weak h0) (.cons (Weak.refl _) .nil))
    · cases h

end Go.Proofs.YtgdcjefnhcamgaaDoor
