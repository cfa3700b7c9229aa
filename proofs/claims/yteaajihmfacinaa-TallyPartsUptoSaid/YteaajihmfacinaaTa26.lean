/-
  TallyRuns: the plain laws.
-/
import Derived.Test.YteaajihmfacinaaTa23
import Derived.Test.YteaajihmfacinaaTa19
section
namespace Go.Proofs.Yteaajihmfacinaa.Ta
open Go.Vm
theorem num_rises : ∀ (P : List Po) (k : Nat), NumB P k → (P.map (·.1)).Pairwise (· < ·) ∧ ∀ x ∈ P, (k : Int) < x.1
  | [], _, _ => ⟨.nil, fun _ h => by cases h⟩
  | x :: r, k, h => by
    obtain ⟨h1, h2⟩ := num_rises r (k + 1) h.2
    have e := h.1
    refine ⟨List.pairwise_cons.2 ⟨fun y hy => ?_, h1⟩, fun y hy => ?_⟩
    · obtain ⟨z, hz, rfl⟩ := List.mem_map.1 hy
      have := h2 z hz
      show x.1 < z.1
      omega
    · rcases List.mem_cons.1 hy with rfl | hy
      · omega
      · have := h2 y hy
        omega
theorem rid_rises (N : List En) (e a p q : Int) : (ridF N e a p q).Pairwise (· < ·) :=
  ((num_rises _ 0 (num_po N 0 0)).1).sublist (List.Sublist.map _ List.filter_sublist)
theorem rid_mem {N : List En} {e a p q i : Int} : i ∈ ridF N e a p q ↔ ∃ x ∈ linesF N, x.1 = i ∧ x.2.2.2.1 = e ∧ x.2.2.2.2.1 = a ∧ x.2.2.1 = p ∧ (q = 0 ∨ x.2.2.2.2.2.1 = q) := by
  simp only [ridF, rthF, List.mem_map, List.mem_filter, atB, decide_eq_true_eq]
  constructor
  · rintro ⟨x, ⟨h1, h2⟩, h3⟩
    exact ⟨x, h1, h3, h2⟩
  · rintro ⟨x, h1, h3, h2⟩
    exact ⟨x, ⟨h1, h2⟩, h3⟩
theorem rpr_mem {L : List Po} {e a p y : Int} : y ∈ rprF L e a p ↔ ∃ x ∈ L, x.2.2.2.1 = e ∧ x.2.2.2.2.1 = a ∧ x.2.2.1 ≤ p ∧ x.2.2.2.2.2.1 ≠ 0 ∧ x.2.2.2.2.2.1 = y := by
  unfold rprF
  rw [mem_fold]
  simp only [List.not_mem_nil, false_or, List.mem_map, List.mem_filter, upB, decide_eq_true_eq]
  constructor
  · rintro ⟨x, ⟨h1, h2⟩, h3⟩
    exact ⟨x, h1, h2.1, h2.2.1, h2.2.2.1, h2.2.2.2, h3⟩
  · rintro ⟨x, h1, h2, h3, h4, h5, h6⟩
    exact ⟨x, ⟨h1, h2, h3, h4, h5⟩, h6⟩
theorem rpr_rises (L : List Po) (e a p : Int) : (rprF L e a p).Pairwise (· < ·) := rises_fold List.Pairwise.nil
def withP (N : List En) (e a p : Int) (P : List Int) : List Int := P.flatMap (ridF N e a p)
theorem with_mem {N : List En} {e a p i : Int} {P : List Int} : i ∈ withP N e a p P ↔ ∃ y ∈ P, i ∈ ridF N e a p y := List.mem_flatMap
theorem with_new {N : List En} {e a p : Int} {i : Nat} {y r : Int} (hy : (rprF (linesF N) e a p)[i]? = some y) (hr : r ∈ ridF N e a p y) : r ∉ withP N e a p ((rprF (linesF N) e a p).take i) := by
  intro hw
  obtain ⟨z, hz, hrz⟩ := with_mem.1 hw
  obtain ⟨x1, hx1, e1, _, _, _, h1⟩ := rid_mem.1 hr
  obtain ⟨x2, hx2, e2, _, _, _, h2⟩ := rid_mem.1 hrz
  have hx : x1 = x2 := lines_one hx1 hx2 (by rw [e1, e2])
  subst hx
  have hlen := (List.getElem?_eq_some_iff.1 hy).1
  have hr := rpr_rises (linesF N) e a p
  have hzy : z < y := by
    obtain ⟨j, hj⟩ := List.mem_iff_getElem?.1 hz
    rw [List.getElem?_take] at hj
    split at hj
    · rename_i hji
      obtain ⟨a1, a2⟩ := List.getElem?_eq_some_iff.1 hj
      obtain ⟨b1, b2⟩ := List.getElem?_eq_some_iff.1 hy
      have := (List.pairwise_iff_getElem.1 hr) j i a1 b1 hji
      rw [a2, b2] at this
      exact this
    · cases hj
  have y0 : y ≠ 0 := by
    obtain ⟨x, _, _, _, _, h5, h6⟩ := rpr_mem.1 (List.mem_of_getElem? hy)
    rw [← h6]; exact h5
  have z0 : z ≠ 0 := by
    obtain ⟨x, _, _, _, _, h5, h6⟩ := rpr_mem.1 (List.mem_of_mem_take hz)
    rw [← h6]; exact h5
  have := h1.resolve_left y0
  have := h2.resolve_left z0
  omega
theorem rid_all {N : List En} {e a p q r : Int} (h : r ∈ ridF N e a p q) : r ∈ ridF N e a p 0 := by
  obtain ⟨x, h1, h2, h3, h4, h5, _⟩ := rid_mem.1 h
  exact rid_mem.2 ⟨x, h1, h2, h3, h4, h5, .inl rfl⟩
theorem with_all {N : List En} {e a p : Int} {x : Po} (hx : x ∈ rthF N e a p 0) : x.1 ∈ withP N e a p (rprF (linesF N) e a p) ↔ x.2.2.2.2.2.1 ≠ 0 := by
  obtain ⟨h1, h2⟩ := List.mem_filter.1 hx
  simp only [atB, decide_eq_true_eq] at h2
  constructor
  · intro hw
    obtain ⟨y, hy, hr⟩ := with_mem.1 hw
    obtain ⟨z, hz, e1, _, _, _, h3⟩ := rid_mem.1 hr
    have : z = x := lines_one hz h1 e1
    subst this
    obtain ⟨w, _, _, _, _, h5, h6⟩ := rpr_mem.1 hy
    have y0 : y ≠ 0 := by rw [← h6]; exact h5
    rw [h3.resolve_left y0]
    exact y0
  · intro hp
    exact with_mem.2 ⟨x.2.2.2.2.2.1, rpr_mem.2 ⟨x, h1, h2.1, h2.2.1, by omega, hp, rfl⟩, rid_mem.2 ⟨x, h1, rfl, h2.1, h2.2.1, h2.2.2.1, .inr rfl⟩⟩
theorem with_next {N : List En} {e a p i y : Int} {P : List Int} (h0 : 0 ≤ i) (hy : P[i.toNat]? = some y) : withP N e a p (P.take (i + 1).toNat) = withP N e a p (P.take i.toNat) ++ ridF N e a p y := by
  rw [take_next h0 hy, withP, List.flatMap_append]
  simp [withP]
theorem with_len {N : List En} (h : FwE N) (e a p : Int) : ∀ P : List Int, (withP N e a p P).length ≤ 10000 * P.length
  | [] => by simp [withP]
  | y :: r => by
    have h1 := with_len h e a p r
    have h2 := h.those e a p y
    rw [show withP N e a p (y :: r) = ridF N e a p y ++ withP N e a p r from rfl, List.length_append, List.length_cons, ridF, List.length_map]
    omega
noncomputable def env_parts (N : List En) (e a p q : Int) : Env where
  P := Try.prog
  ty := tys0
  specs := specsOf [sp_few24, sp_awake, sp_ids, sp_partners, sp_has', sp_line, sp_total, sp_rnet]
  upd := updsOf [so_made.upd]
  asArr := fun | 161 => true | _ => false
  frz := fun | 37 => true | 63 => true | _ => false
  heads := fun
    | 8 => some { slots := [(10, .int .i64), (8, .slc 9000 I)], boxes := [], keep := [3, 100100, 100101, 100102], inv := fun _ (x : Int × List Int × Unit) => 0 ≤ x.1 ∧ x.1 ≤ (rprF (linesF N) e a p).length ∧ x.2.1 = withP N e a p ((rprF (linesF N) e a p).take x.1.toNat), measure := fun _ (x : Int × List Int × Unit) => ((rprF (linesF N) e a p).length - x.1).toNat }
    | 12 => some { slots := [(12, .int .i64)], boxes := [], keep := [3, 100100, 100101, 100102, 9000], inv := fun st (x : Int × Unit) => ∃ y, (rprF (linesF N) e a p)[(st.int 10).toNat]? = some y ∧ 0 ≤ x.1 ∧ x.1 ≤ (ridF N e a p y).length, measure := fun _ (x : Int × Unit) => (10000 - x.1).toNat }
    | 18 => some { slots := [(13, .int .i64), (9, .slc 9001 I), (8, .slc 9000 I)], boxes := [], keep := [3, 100100, 100101, 100102], inv := fun _ (x : Int × List Int × List Int × Unit) => 0 ≤ x.1 ∧ x.1 ≤ (ridF N e a p 0).length ∧ x.2.1 = ((rthF N e a p 0).take x.1.toNat).map (·.2.2.2.2.2.2) ∧ x.2.2.1 = withP N e a p (rprF (linesF N) e a p), measure := fun _ (x : Int × List Int × List Int × Unit) => ((ridF N e a p 0).length - x.1).toNat }
    | _ => none
abbrev bx_parts_1 (N : List En) : _root_.Go.Vm.Obj := Obj.box [V.oref ((100000 : Nat) + (100 : Nat) * (1 : Nat)), V.oref ((100000 : Nat) + (100 : Nat) * (1 : Nat) + (1 : Nat)), V.int IntKind.i64 (madeF N (0 : Int)).e, V.int IntKind.i64 (madeF N (0 : Int)).n]
abbrev bx_parts_2 (N : List En) : _root_.Go.Vm.Obj := Obj.box [V.oref (100100 : Nat), V.oref (100101 : Nat), V.int IntKind.i64 (madeF N (0 : Int)).e, V.int IntKind.i64 (madeF N (0 : Int)).n]
abbrev bx_parts_3 (e : Int) (a : Int) (p : Int) (q : Int) : _root_.Go.Vm.Obj := Obj.box [V.int IntKind.i64 e, V.int IntKind.i64 a, V.int IntKind.i64 p, V.int IntKind.i64 q]
def g_parts_vc (N : List En) (e : Int) (a : Int) (p : Int) (q : Int) : Prop :=
  NOk N ∧ N.length ≤ (9223372036854775807 : Nat) ∧ ((!few24 N) = false → (TRd { G := (madeF N (0 : Int)).G, H := (madeF N (0 : Int)).H, e := (madeF N (0 : Int)).e, n := (madeF N (0 : Int)).n } ∧ SpOk (e, a, p)) ∧ (TRd { G := (madeF N (0 : Int)).G, H := (madeF N (0 : Int)).H, e := (madeF N (0 : Int)).e, n := (madeF N (0 : Int)).n } ∧ ((-9223372036854775808 : Int) ≤ e ∧ e ≤ (9223372036854775807 : Int)) ∧ (-9223372036854775808 : Int) ≤ a ∧ a ≤ (9223372036854775807 : Int)) ∧ ((some (bx_parts_3 e a p q) = some (bx_parts_3 e a p q) ∧ some (Obj.opq OK.grw ((madeF N (0 : Int)).G, none)) = some (Obj.opq OK.grw ((madeF N (0 : Int)).G, none)) ∧ some (Obj.opq OK.gpe ((madeF N (0 : Int)).H, none)) = some (Obj.opq OK.gpe ((madeF N (0 : Int)).H, none)) ∧ some (bx_parts_1 N) = some (bx_parts_1 N) ∧ True) ∧ (0 : Int) ≤ (0 : Int) ∧ (0 : Int) ≤ (↑(rprF (linesF N) e a p).length : Int) ∧ [] = withP N e a p (List.take (Int.toNat (0 : Int)) (rprF (linesF N) e a p))) ∧ ∀ (x : Int × List Int × Unit), (0 : Int) ≤ x.1 ∧ x.1 ≤ (↑(rprF (linesF N) e a p).length : Int) ∧ x.2.1 = withP N e a p (List.take x.1.toNat (rprF (linesF N) e a p)) → (decide (x.1 < (↑(prtR (madeF N (0 : Int)).G (madeF N (0 : Int)).H e a p).length : Int)) = true → ((0 : Int) ≤ x.1 ∧ x.1 < (↑(prtR (madeF N (0 : Int)).G (madeF N (0 : Int)).H e a p).length : Int)) ∧ ∀ (x_1 : Int), (prtR (madeF N (0 : Int)).G (madeF N (0 : Int)).H e a p)[x.1.toNat]? = some x_1 → (TRd { G := (madeF N (0 : Int)).G, H := (madeF N (0 : Int)).H, e := (madeF N (0 : Int)).e, n := (madeF N (0 : Int)).n } ∧ SpOk (e, a, p)) ∧ ((some (bx_parts_3 e a p q) = some (bx_parts_3 e a p q) ∧ some (Obj.opq OK.grw ((madeF N (0 : Int)).G, none)) = some (Obj.opq OK.grw ((madeF N (0 : Int)).G, none)) ∧ some (Obj.opq OK.gpe ((madeF N (0 : Int)).H, none)) = some (Obj.opq OK.gpe ((madeF N (0 : Int)).H, none)) ∧ some (bx_parts_2 N) = some (bx_parts_2 N) ∧ some (Obj.arr (0 : Nat) I x.2.1) = some (Obj.arr (0 : Nat) I x.2.1) ∧ True) ∧ ∃ y, (rprF (linesF N) e a p)[x.1.toNat]? = some y ∧ (0 : Int) ≤ (0 : Int) ∧ (0 : Int) ≤ (↑(ridF N e a p y).length : Int)) ∧ ∀ (x_2 : Int × Unit), (∃ y, (rprF (linesF N) e a p)[x.1.toNat]? = some y ∧ (0 : Int) ≤ x_2.1 ∧ x_2.1 ≤ (↑(ridF N e a p y).length : Int)) → (decide (x_2.1 < (↑(idsF (madeF N (0 : Int)).G (e, a, p) x_1).length : Int)) = true → ((0 : Int) ≤ x_2.1 ∧ x_2.1 < (↑(idsF (madeF N (0 : Int)).G (e, a, p) x_1).length : Int)) ∧ ∀ (x_3 : Int), (idsF (madeF N (0 : Int)).G (e, a, p) x_1)[x_2.1.toNat]? = some x_3 → x.2.1.length ≤ (1000000000 : Nat) ∧ (x.2.1.contains x_3 = false → ((0 : Int) ≤ x_2.1 ∧ x_2.1 < (↑(idsF (madeF N (0 : Int)).G (e, a, p) x_1).length : Int)) ∧ ∀ (x_4 : Int), (idsF (madeF N (0 : Int)).G (e, a, p) x_1)[x_2.1.toNat]? = some x_4 → (idsF (madeF N (0 : Int)).G (e, a, p) (0 : Int)).length ≤ (1000000000 : Nat) ∧ ((!(idsF (madeF N (0 : Int)).G (e, a, p) (0 : Int)).contains x_4) = true → (false, ()) = (true, ())) ∧ ((!(idsF (madeF N (0 : Int)).G (e, a, p) (0 : Int)).contains x_4) = false → ((-9223372036854775808 : Int) ≤ x_2.1 + (1 : Int) ∧ x_2.1 + (1 : Int) ≤ (9223372036854775807 : Int)) ∧ (some (bx_parts_3 e a p q) = some (bx_parts_3 e a p q) ∧ some (Obj.opq OK.grw ((madeF N (0 : Int)).G, none)) = some (Obj.opq OK.grw ((madeF N (0 : Int)).G, none)) ∧ some (Obj.opq OK.gpe ((madeF N (0 : Int)).H, none)) = some (Obj.opq OK.gpe ((madeF N (0 : Int)).H, none)) ∧ some (bx_parts_2 N) = some (bx_parts_2 N) ∧ some (Obj.arr (0 : Nat) I x.2.1) = some (Obj.arr (0 : Nat) I x.2.1) ∧ True) ∧ (∃ y, (rprF (linesF N) e a p)[x.1.toNat]? = some y ∧ (0 : Int) ≤ x_2.1 + (1 : Int) ∧ x_2.1 + (1 : Int) ≤ (↑(ridF N e a p y).length : Int)) ∧ ((10000 : Int) - (x_2.1 + (1 : Int))).toNat < ((10000 : Int) - x_2.1).toNat)) ∧ (x.2.1.contains x_3 = !false → (false, ()) = (true, ()))) ∧ (decide (x_2.1 < (↑(idsF (madeF N (0 : Int)).G (e, a, p) x_1).length : Int)) = false → ((x.2.1.length + (idsF (madeF N (0 : Int)).G (e, a, p) x_1).length) * (8 : Nat) ≤ (140737488355328 : Nat) ∧ x.2.1.length + (idsF (madeF N (0 : Int)).G (e, a, p) x_1).length ≤ (4611686018427387904 : Nat)) ∧ ((-9223372036854775808 : Int) ≤ x.1 + (1 : Int) ∧ x.1 + (1 : Int) ≤ (9223372036854775807 : Int)) ∧ (some (bx_parts_3 e a p q) = some (bx_parts_3 e a p q) ∧ some (Obj.opq OK.grw ((madeF N (0 : Int)).G, none)) = some (Obj.opq OK.grw ((madeF N (0 : Int)).G, none)) ∧ some (Obj.opq OK.gpe ((madeF N (0 : Int)).H, none)) = some (Obj.opq OK.gpe ((madeF N (0 : Int)).H, none)) ∧ some (bx_parts_2 N) = some (bx_parts_1 N) ∧ True) ∧ ((0 : Int) ≤ x.1 + (1 : Int) ∧ x.1 + (1 : Int) ≤ (↑(rprF (linesF N) e a p).length : Int) ∧ x.2.1 ++ idsF (madeF N (0 : Int)).G (e, a, p) x_1 = withP N e a p (List.take (x.1 + (1 : Int)).toNat (rprF (linesF N) e a p))) ∧ ((↑(rprF (linesF N) e a p).length : Int) - (x.1 + (1 : Int))).toNat < ((↑(rprF (linesF N) e a p).length : Int) - x.1).toNat)) ∧ (decide (x.1 < (↑(prtR (madeF N (0 : Int)).G (madeF N (0 : Int)).H e a p).length : Int)) = false → ((some (bx_parts_3 e a p q) = some (bx_parts_3 e a p q) ∧ some (Obj.opq OK.grw ((madeF N (0 : Int)).G, none)) = some (Obj.opq OK.grw ((madeF N (0 : Int)).G, none)) ∧ some (Obj.opq OK.gpe ((madeF N (0 : Int)).H, none)) = some (Obj.opq OK.gpe ((madeF N (0 : Int)).H, none)) ∧ some (bx_parts_2 N) = some (bx_parts_2 N) ∧ True) ∧ (0 : Int) ≤ (0 : Int) ∧ (0 : Int) ≤ (↑(ridF N e a p (0 : Int)).length : Int) ∧ [] = List.map (fun x => x.2.2.2.2.2.2) (List.take (Int.toNat (0 : Int)) (rthF N e a p (0 : Int))) ∧ x.2.1 = withP N e a p (rprF (linesF N) e a p)) ∧ ∀ (x : Int × List Int × List Int × Unit), (0 : Int) ≤ x.1 ∧ x.1 ≤ (↑(ridF N e a p (0 : Int)).length : Int) ∧ x.2.1 = List.map (fun x => x.2.2.2.2.2.2) (List.take x.1.toNat (rthF N e a p (0 : Int))) ∧ x.2.2.1 = withP N e a p (rprF (linesF N) e a p) → (decide (x.1 < (↑(idsF (madeF N (0 : Int)).G (e, a, p) (0 : Int)).length : Int)) = true → ((0 : Int) ≤ x.1 ∧ x.1 < (↑(idsF (madeF N (0 : Int)).G (e, a, p) (0 : Int)).length : Int)) ∧ ∀ (x_1 : Int), (idsF (madeF N (0 : Int)).G (e, a, p) (0 : Int))[x.1.toNat]? = some x_1 → (N.length ≤ (4611686018427387904 : Nat) ∧ (linesF N).length ≤ (4611686018427387904 : Nat)) ∧ ((!(lineF N x_1).2) = false → (decide ((0 : Int) < x.1) = true → ((0 : Int) ≤ x.1 ∧ x.1 < (↑(idsF (madeF N (0 : Int)).G (e, a, p) (0 : Int)).length : Int)) ∧ ∀ (x_2 : Int), (idsF (madeF N (0 : Int)).G (e, a, p) (0 : Int))[x.1.toNat]? = some x_2 → ((-9223372036854775808 : Int) ≤ x.1 - (1 : Int) ∧ x.1 - (1 : Int) ≤ (9223372036854775807 : Int)) ∧ ((0 : Int) ≤ x.1 - (1 : Int) ∧ x.1 - (1 : Int) < (↑(idsF (madeF N (0 : Int)).G (e, a, p) (0 : Int)).length : Int)) ∧ ∀ (x_3 : Int), (idsF (madeF N (0 : Int)).G (e, a, p) (0 : Int))[(x.1 - (1 : Int)).toNat]? = some x_3 → (decide (x_2 ≤ x_3) = false → ((!decide ((lineF N x_1).1.2.2.1 = p)) = false → ((!decide ((lineF N x_1).1.2.2.2.1 = e)) = false → ((!decide ((lineF N x_1).1.2.2.2.2.1 = a)) = false → ((0 : Int) ≤ x.1 ∧ x.1 < (↑(idsF (madeF N (0 : Int)).G (e, a, p) (0 : Int)).length : Int)) ∧ ∀ (x_4 : Int), (idsF (madeF N (0 : Int)).G (e, a, p) (0 : Int))[x.1.toNat]? = some x_4 → x.2.2.1.length ≤ (1000000000 : Nat) ∧ ((!x.2.2.1.contains x_4 == !decide ((lineF N x_1).1.2.2.2.2.2.1 = (0 : Int))) = true → (false, ()) = (true, ())) ∧ ((!x.2.2.1.contains x_4 == !decide ((lineF N x_1).1.2.2.2.2.2.1 = (0 : Int))) = false → ((x.2.1.length + (1 : Nat)) * (8 : Nat) ≤ (140737488355328 : Nat) ∧ x.2.1.length + (1 : Nat) ≤ (4611686018427387904 : Nat)) ∧ ((-9223372036854775808 : Int) ≤ x.1 + (1 : Int) ∧ x.1 + (1 : Int) ≤ (9223372036854775807 : Int)) ∧ (some (bx_parts_3 e a p q) = some (bx_parts_3 e a p q) ∧ some (Obj.opq OK.grw ((madeF N (0 : Int)).G, none)) = some (Obj.opq OK.grw ((madeF N (0 : Int)).G, none)) ∧ some (Obj.opq OK.gpe ((madeF N (0 : Int)).H, none)) = some (Obj.opq OK.gpe ((madeF N (0 : Int)).H, none)) ∧ some (bx_parts_2 N) = some (bx_parts_2 N) ∧ True) ∧ ((0 : Int) ≤ x.1 + (1 : Int) ∧ x.1 + (1 : Int) ≤ (↑(ridF N e a p (0 : Int)).length : Int) ∧ x.2.1 ++ [(lineF N x_1).1.2.2.2.2.2.2] = List.map (fun x => x.2.2.2.2.2.2) (List.take (x.1 + (1 : Int)).toNat (rthF N e a p (0 : Int))) ∧ x.2.2.1 = withP N e a p (rprF (linesF N) e a p)) ∧ ((↑(ridF N e a p (0 : Int)).length : Int) - (x.1 + (1 : Int))).toNat < ((↑(ridF N e a p (0 : Int)).length : Int) - x.1).toNat)) ∧ ((!decide ((lineF N x_1).1.2.2.2.2.1 = a)) = !false → (false, ()) = (true, ()))) ∧ ((!decide ((lineF N x_1).1.2.2.2.1 = e)) = !false → (false, ()) = (true, ()))) ∧ ((!decide ((lineF N x_1).1.2.2.1 = p)) = !false → (false, ()) = (true, ()))) ∧ (decide (x_2 ≤ x_3) = !false → (false, ()) = (true, ()))) ∧ (decide ((0 : Int) < x.1) = !true → ((!decide ((lineF N x_1).1.2.2.1 = p)) = false → ((!decide ((lineF N x_1).1.2.2.2.1 = e)) = false → ((!decide ((lineF N x_1).1.2.2.2.2.1 = a)) = false → ((0 : Int) ≤ x.1 ∧ x.1 < (↑(idsF (madeF N (0 : Int)).G (e, a, p) (0 : Int)).length : Int)) ∧ ∀ (x_2 : Int), (idsF (madeF N (0 : Int)).G (e, a, p) (0 : Int))[x.1.toNat]? = some x_2 → x.2.2.1.length ≤ (1000000000 : Nat) ∧ ((!x.2.2.1.contains x_2 == !decide ((lineF N x_1).1.2.2.2.2.2.1 = (0 : Int))) = true → (false, ()) = (true, ())) ∧ ((!x.2.2.1.contains x_2 == !decide ((lineF N x_1).1.2.2.2.2.2.1 = (0 : Int))) = false → ((x.2.1.length + (1 : Nat)) * (8 : Nat) ≤ (140737488355328 : Nat) ∧ x.2.1.length + (1 : Nat) ≤ (4611686018427387904 : Nat)) ∧ ((-9223372036854775808 : Int) ≤ x.1 + (1 : Int) ∧ x.1 + (1 : Int) ≤ (9223372036854775807 : Int)) ∧ (some (bx_parts_3 e a p q) = some (bx_parts_3 e a p q) ∧ some (Obj.opq OK.grw ((madeF N (0 : Int)).G, none)) = some (Obj.opq OK.grw ((madeF N (0 : Int)).G, none)) ∧ some (Obj.opq OK.gpe ((madeF N (0 : Int)).H, none)) = some (Obj.opq OK.gpe ((madeF N (0 : Int)).H, none)) ∧ some (bx_parts_2 N) = some (bx_parts_2 N) ∧ True) ∧ ((0 : Int) ≤ x.1 + (1 : Int) ∧ x.1 + (1 : Int) ≤ (↑(ridF N e a p (0 : Int)).length : Int) ∧ x.2.1 ++ [(lineF N x_1).1.2.2.2.2.2.2] = List.map (fun x => x.2.2.2.2.2.2) (List.take (x.1 + (1 : Int)).toNat (rthF N e a p (0 : Int))) ∧ x.2.2.1 = withP N e a p (rprF (linesF N) e a p)) ∧ ((↑(ridF N e a p (0 : Int)).length : Int) - (x.1 + (1 : Int))).toNat < ((↑(ridF N e a p (0 : Int)).length : Int) - x.1).toNat)) ∧ ((!decide ((lineF N x_1).1.2.2.2.2.1 = a)) = !false → (false, ()) = (true, ()))) ∧ ((!decide ((lineF N x_1).1.2.2.2.1 = e)) = !false → (false, ()) = (true, ()))) ∧ ((!decide ((lineF N x_1).1.2.2.1 = p)) = !false → (false, ()) = (true, ())))) ∧ ((!(lineF N x_1).2) = !false → (false, ()) = (true, ()))) ∧ (decide (x.1 < (↑(idsF (madeF N (0 : Int)).G (e, a, p) (0 : Int)).length : Int)) = false → (TRd { G := (madeF N (0 : Int)).G, H := (madeF N (0 : Int)).H, e := (madeF N (0 : Int)).e, n := (madeF N (0 : Int)).n } ∧ SpOk (e, a, p)) ∧ (x.2.1.length ≤ (100000 : Nat) ∧ (0 : Nat) ≤ (100000 : Nat) ∧ (∀ (n : Int), n ∈ x.2.1 → InI n) ∧ ∀ (n : Int), n ∈ [] → InI n) ∧ (decide ((netF (amsF (madeF N (0 : Int)).G (e, a, p) (0 : Int)) []).1 = (netF x.2.1 []).1) = true → (decide ((netF (amsF (madeF N (0 : Int)).G (e, a, p) (0 : Int)) []).2 = (netF x.2.1 []).2) = true → True ∧ (true, ()) = (true, ())) ∧ (decide ((netF (amsF (madeF N (0 : Int)).G (e, a, p) (0 : Int)) []).2 = (netF x.2.1 []).2) = !true → (false, ()) = (true, ()))) ∧ (decide ((netF (amsF (madeF N (0 : Int)).G (e, a, p) (0 : Int)) []).1 = (netF x.2.1 []).1) = !true → (false, ()) = (true, ()))))) ∧ ((!few24 N) = !false → True ∧ (true, ()) = (true, ()))
theorem g_parts_eq (N : List En) (e a p q : Int) : Cond (env_parts N e a p q) Try.f6 [.list .tmp EnT N, .agg [.int .i64 e, .int .i64 a, .int .i64 p, .int .i64 q]] [.bool] (true, ()) = g_parts_vc N e a p q := by kernel_rfl
theorem g_parts_ok (N : List En) (e a p q : Int) (h : NIn N ∧ WordI e ∧ WordI a ∧ WordI p) : g_parts_vc N e a p q := by
  obtain ⟨hN, he, ha, hp⟩ := h
  unfold g_parts_vc
  simp only [decide_eq_true_eq, decide_eq_false_iff_not, Bool.not_eq_true', Bool.not_eq_false', Bool.not_true, Bool.not_false]
  refine ⟨hN, (by have := hN.1; omega), fun hf => ?_, fun _ => ⟨trivial, trivial⟩⟩
  have hf : few24 N = true := by simpa using hf
  have hF := fw_of hN.wn hf
  have hR := made_rd 0 hN.wn hf
  have hl := hF.lines
  have hs : SpOk (e, a, p) := ⟨he, ha, hp⟩
  have e1 := fun q => ids_made 0 hf e a p q
  have e2 := prt_made 0 hf e a p
  have e3 := ams_made 0 hf e a p 0
  have rl : ∀ q, (ridF N e a p q).length ≤ 10000 := fun q => by rw [ridF, List.length_map]; exact hF.those e a p q
  have al : (rthF N e a p 0).length ≤ 10000 := hF.those e a p 0
  have pl : (rprF (linesF N) e a p).length ≤ 10000 := Nat.le_trans (rpr_len _ e a p) hl
  have wl : ∀ i : Int, (withP N e a p ((rprF (linesF N) e a p).take i.toNat)).length ≤ 100000000 := fun i => by
    have h1 := with_len hF e a p ((rprF (linesF N) e a p).take i.toNat)
    have h2 : ((rprF (linesF N) e a p).take i.toNat).length ≤ (rprF (linesF N) e a p).length := List.length_take_le' ..
    omega
  have wl0 : (withP N e a p (rprF (linesF N) e a p)).length ≤ 100000000 := by
    have h1 := with_len hF e a p (rprF (linesF N) e a p)
    omega
  have key3 : ∀ (i : Int) (wi : List Int), wi = withP N e a p (rprF (linesF N) e a p) → ∀ r, (ridF N e a p 0)[i.toNat]? = some r → ∃ z, (rthF N e a p 0)[i.toNat]? = some z ∧ lineF N r = (z, true) ∧ z.2.2.1 = p ∧ z.2.2.2.1 = e ∧ z.2.2.2.2.1 = a ∧ wi.contains r = !decide (z.2.2.2.2.2.1 = 0) := by
    rintro i wi rfl r hr
    rw [ridF, List.getElem?_map] at hr
    obtain ⟨z, hz, rfl⟩ := Option.map_eq_some_iff.1 hr
    have hm := List.mem_of_getElem? hz
    obtain ⟨h1, h2⟩ := List.mem_filter.1 hm
    simp only [atB, decide_eq_true_eq] at h2
    refine ⟨z, hz, line_of h1, h2.2.2.1, h2.1, h2.2.1, ?_⟩
    have := with_all hm
    rw [Bool.eq_iff_iff, List.contains_iff_mem, this]
    simp
  have rise : ∀ (i r r2 : Int), 0 < i → (ridF N e a p 0)[i.toNat]? = some r → (ridF N e a p 0)[(i - 1).toNat]? = some r2 → r2 < r := by
    intro i r r2 h0 h1 h2
    obtain ⟨a1, a2⟩ := List.getElem?_eq_some_iff.1 h1
    obtain ⟨b1, b2⟩ := List.getElem?_eq_some_iff.1 h2
    have := (List.pairwise_iff_getElem.1 (rid_rises N e a p 0)) _ _ b1 a1 (by omega)
    rw [a2, b2] at this
    exact this
  have hw1 : ∀ (i : Int) (y r : Int), (rprF (linesF N) e a p)[i.toNat]? = some y → ∀ k : Nat, (ridF N e a p y)[k]? = some r → (withP N e a p ((rprF (linesF N) e a p).take i.toNat)).contains r = false ∧ (ridF N e a p 0).contains r = true := by
    intro i y r hy k hr
    have hr := List.mem_of_getElem? hr
    have h1 := with_new hy hr
    have h2 := rid_all hr
    exact ⟨by simpa using h1, by simpa using h2⟩
  have r0 := rl 0
  have rr : (ridF N e a p 0).length = (rthF N e a p 0).length := by rw [ridF, List.length_map]
  have aml0 : ∀ k : Nat, (((rthF N e a p 0).take k).map (·.2.2.2.2.2.2)).length ≤ 10000 := fun k => by
    rw [List.length_map]
    exact Nat.le_trans (List.length_take_le' ..) al
  have hN1 := hN.1
  simp only [e1, e2, e3]
  repeat' (first
    | with_reducible apply And.intro
    | (intro (x : Int × List Int × List Int × Unit); obtain ⟨i, am, wi, ⟨⟩⟩ := x; rintro ⟨h0, h1, h2, h3⟩; dsimp only at h0 h1 h2 h3 ⊢; have aml := aml0 i.toNat; rw [← h2] at aml; have wil := wl0; rw [← h3] at wil)
    | (intro (x : Int × List Int × Unit); obtain ⟨i, wi, ⟨⟩⟩ := x; rintro ⟨h0, h1, h2⟩; dsimp only at h0 h1 h2 ⊢; subst h2; have wi1 := wl i)
    | (intro (x : Int × Unit); obtain ⟨k, ⟨⟩⟩ := x; rintro ⟨y', hy', k0, k1⟩; dsimp only at hy' k0 k1 ⊢; rw [hy] at hy'; cases hy')
    | (intro (r1 : Int) (hr1 : (ridF N e a p 0)[i.toNat]? = some r1); have er := Option.some.inj (hr.symm.trans hr1); subst er)
    | (intro (r : Int) (hr : (ridF N e a p 0)[i.toNat]? = some r); have hk3 := key3 i wi h3 r hr; obtain ⟨z, hz, hL, hp', he', ha', hw⟩ := hk3; simp only [hL])
    | (intro (r2 : Int) (hr2 : (ridF N e a p 0)[(i - 1).toNat]? = some r2); have hlt := rise i r r2 (by assumption) hr hr2)
    | (intro (y : Int) (hy : (rprF (linesF N) e a p)[i.toNat]? = some y); have ry := rl y)
    | (intro (r : Int) (hr : (ridF N e a p y)[k.toNat]? = some r); have hw := hw1 i y r hy k.toNat hr; obtain ⟨hw2, hw3⟩ := hw; try simp only [hw2, hw3])
    | intro _)
  all_goals try (first | trivial | rfl | omega | contradiction | exact he.1 | exact he.2 | exact ha.1 | exact ha.2)
  all_goals try (first
    | exact ⟨y, hy, by omega, by omega⟩
    | exact (with_next h0 hy).symm
    | (rw [take_all (by assumption)])
    | exact absurd ‹(_ == _) = false› (by rw [hw]; simp)
    | (rw [take_next h0 hz, List.map_append, ← h2]; rfl))
  all_goals (have ham : am = ramF N e a p 0 := by (rw [h2, List.take_of_length_le (by omega)]; rfl))
  all_goals try (first
    | (rename_i hne; rw [ham] at hne; exact absurd rfl hne)
    | (rename_i n hn; rw [ham] at hn; obtain ⟨x, hx, rfl⟩ := List.mem_map.1 hn; exact hF.ams e a p 0 x hx))
set_option maxRecDepth 20000
theorem parts_pure (N : List En) (e a p q : Int) (h : NIn N ∧ WordI e ∧ WordI a ∧ WordI p) : Pure Try.prog 6 [.list .tmp EnT N, .agg [.int .i64 e, .int .i64 a, .int .i64 p, .int .i64 q]] (.bool true) :=
  by have k := Pure.of_cond (g_parts_eq N e a p q) (g_parts_ok N e a p q h) (specs_ok rfl [sp_few24, sp_awake, sp_ids, sp_partners, sp_has', sp_line, sp_total, sp_rnet] [so_made.upd] rfl rfl) mixed Try.func6; exact k
end Go.Proofs.Yteaajihmfacinaa.Ta
end
section
namespace Go.Proofs.Yteaajihmfacinaa.Ta
open Go.Vm
abbrev Zr := Int × Rw
def ZLt (x y : Zr) : Prop := x.1 < y.1 ∨ x.1 = y.1 ∧ x.2.1 < y.2.1
def zAm (Z : List Zr) : Int := sumI (Z.map (·.2.2.2))
theorem zAm_app (Y Z : List Zr) : zAm (Y ++ Z) = zAm Y + zAm Z := by
  unfold zAm sumI
  rw [List.map_append, List.foldl_append, fold_sum]
theorem zAm_cons (y : Zr) (Z : List Zr) : zAm (y :: Z) = y.2.2.2 + zAm Z := by
  have := zAm_app [y] Z
  simpa [zAm, sumI] using this
theorem zAm_next {Z : List Zr} {i : Nat} {y : Zr} (hy : Z[i]? = some y) : zAm (Z.take (i + 1)) = zAm (Z.take i) + y.2.2.2 := by
  rw [List.take_add_one, hy, Option.toList_some, zAm_app]
  simp [zAm, sumI]
theorem sh_at : ∀ (Z : List Zr) (s : Int) (l : List Ro), shGo Z s = some l → l.length = Z.length ∧ ∀ (i : Nat) (z : Zr), Z[i]? = some z → l[i]? = some (z.2.1, z.1, z.2.2.2, s + zAm (Z.take (i + 1))) ∧ InI (s + zAm (Z.take (i + 1)))
  | [], s, l, h => by cases h; exact ⟨rfl, fun i z hz => by simp at hz⟩
  | (p, r) :: t, s, l, h => by
    rw [shGo] at h
    split at h
    · rename_i hin
      obtain ⟨m, h1, rfl⟩ := Option.map_eq_some_iff.1 h
      obtain ⟨h2, h3⟩ := sh_at t _ m h1
      refine ⟨by rw [List.length_cons, List.length_cons, h2], fun i z hz => ?_⟩
      match i, hz with
      | 0, hz =>
        obtain rfl : (p, r) = z := by simpa using hz
        have e : s + zAm (List.take (0 + 1) ((p, r) :: t)) = s + r.2.2 := by simp [zAm, sumI]
        rw [e]
        exact ⟨rfl, hin⟩
      | i + 1, hz =>
        have hz : t[i]? = some z := by simpa using hz
        have e : s + zAm (List.take (i + 1 + 1) ((p, r) :: t)) = s + r.2.2 + zAm (List.take (i + 1) t) := by
          rw [List.take_succ_cons, zAm_cons]
          dsimp only
          omega
        rw [e]
        exact h3 i z hz
    · cases h
theorem rz_mem {N : List En} {e a q p : Int} {z : Zr} : z ∈ rzP N e a q p ↔ ∃ x ∈ rthF N e a p q, z = (p, (x.1, x.2.2.2.2.2.1, x.2.2.2.2.2.2)) := by
  unfold rzP
  rw [List.mem_map]
  exact ⟨fun ⟨x, h1, h2⟩ => ⟨x, h1, h2.symm⟩, fun ⟨x, h1, h2⟩ => ⟨x, h1, h2.symm⟩⟩
theorem rz_sorted (N : List En) (e a q : Int) (ps : List Int) (h : ps.Pairwise (· < ·)) : (rZ N e a q ps).Pairwise ZLt := by
  unfold rZ
  rw [List.pairwise_flatMap]
  refine ⟨fun p _ => ?_, h.imp fun {p p'} hlt x hx y hy => ?_⟩
  · unfold rzP
    rw [List.pairwise_map]
    have h1 := rid_rises N e a p q
    unfold ridF at h1
    rw [List.pairwise_map] at h1
    exact h1.imp fun {x y} hxy => .inr ⟨rfl, hxy⟩
  · obtain ⟨u, _, rfl⟩ := rz_mem.1 hx
    obtain ⟨v, _, rfl⟩ := rz_mem.1 hy
    exact .inl hlt
theorem rz_line {N : List En} {e a q : Int} {ps : List Int} {z : Zr} (hz : z ∈ rZ N e a q ps) : ∃ x ∈ linesF N, x.1 = z.2.1 ∧ x.2.2.1 = z.1 ∧ x.2.2.2.1 = e ∧ x.2.2.2.2.1 = a ∧ x.2.2.2.2.2.2 = z.2.2.2 := by
  obtain ⟨p, _, hp⟩ := List.mem_flatMap.1 hz
  obtain ⟨x, hx, rfl⟩ := rz_mem.1 hp
  obtain ⟨h1, h2⟩ := List.mem_filter.1 hx
  simp only [atB, decide_eq_true_eq] at h2
  exact ⟨x, h1, rfl, h2.2.2.1, h2.1, h2.2.1, rfl⟩
theorem rz_block {N : List En} {e a q p : Int} : ∀ {ps : List Int}, ps.Nodup → p ∈ ps → (rZ N e a q ps).filter (fun z => decide (z.1 = p)) = rzP N e a q p
  | [], _, h => by cases h
  | r :: t, hn, h => by
    have hn' := List.nodup_cons.1 hn
    have e1 : rZ N e a q (r :: t) = rzP N e a q r ++ rZ N e a q t := rfl
    rw [e1, List.filter_append]
    by_cases c : r = p
    · subst c
      rw [List.filter_eq_self.2 fun z hz => by obtain ⟨x, _, rfl⟩ := rz_mem.1 hz; simp, List.filter_eq_nil_iff.2 fun z hz => ?_, List.append_nil]
      obtain ⟨p', hp', hz⟩ := List.mem_flatMap.1 hz
      obtain ⟨x, _, rfl⟩ := rz_mem.1 hz
      simp only [decide_eq_true_eq]
      rintro rfl
      exact hn'.1 hp'
    · rw [rz_block hn'.2 ((List.mem_cons.1 h).resolve_left (fun h => c h.symm)), List.filter_eq_nil_iff.2 fun z hz => ?_, List.nil_append]
      obtain ⟨x, _, rfl⟩ := rz_mem.1 hz
      simpa using c
theorem rz_am (N : List En) (e a q p : Int) : zAm (rzP N e a q p) = sumI (ramF N e a p q) := by
  unfold zAm rzP ramF
  rw [List.map_map]
  rfl
theorem blocks_sum : ∀ (P : List Int) (B : List Zr), P.Nodup → (∀ z ∈ B, z.1 ∈ P) → sumI (P.map fun p => zAm (B.filter fun z => decide (z.1 = p))) = zAm B
  | [], B, _, h => by
    cases B with
    | nil => rfl
    | cons z t => exact absurd (h z (by simp)) (by simp)
  | p :: P, B, hn, h => by
    have hn' := List.nodup_cons.1 hn
    have ih := blocks_sum P (B.filter fun z => decide (z.1 ≠ p)) hn'.2 fun z hz => by
      obtain ⟨h1, h2⟩ := List.mem_filter.1 hz
      exact (List.mem_cons.1 (h z h1)).resolve_left (by simpa using h2)
    have e1 : (P.map fun r => zAm ((B.filter fun z => decide (z.1 ≠ p)).filter fun z => decide (z.1 = r))) = P.map fun r => zAm (B.filter fun z => decide (z.1 = r)) := by
      refine List.map_congr_left fun r hr => ?_
      rw [List.filter_filter]
      congr 1
      refine List.filter_congr fun z _ => ?_
      have : r ≠ p := fun e => hn'.1 (e ▸ hr)
      by_cases c : z.1 = r
      · simp [c, this]
      · simp [c]
    rw [e1] at ih
    have e2 : sumI ((p :: P).map fun p => zAm (B.filter fun z => decide (z.1 = p))) = zAm (B.filter fun z => decide (z.1 = p)) + sumI (P.map fun p => zAm (B.filter fun z => decide (z.1 = p))) := by
      unfold sumI
      rw [List.map_cons, List.foldl_cons, fold_sum]
      omega
    rw [e2, ih]
    clear e1 e2 ih h hn hn'
    induction B with
    | nil => rfl
    | cons z t ih =>
      by_cases c : z.1 = p
      · rw [List.filter_cons_of_pos (by simpa using c), List.filter_cons_of_neg (by simpa using c), zAm_cons, zAm_cons]
        omega
      · rw [List.filter_cons_of_neg (by simpa using c), List.filter_cons_of_pos (by simpa using c), zAm_cons, zAm_cons]
        omega
def PerI (Z : List Zr) (i : Nat) (P : List Int) : Prop :=
  P.Pairwise (· < ·) ∧ (∀ p ∈ P, ∀ z, Z[i]? = some z → p < z.1) ∧ (∀ x ∈ Z.take i, x.1 ∈ P ∨ ∃ z, Z[i]? = some z ∧ x.1 = z.1) ∧ (∀ p ∈ P, ∃ x ∈ Z.take i, x.1 = p) ∧ P.length ≤ i
theorem per0 (Z : List Zr) : PerI Z 0 [] := ⟨.nil, fun _ h => (by cases h), fun _ h => (by simp at h), fun _ h => (by cases h), Nat.le_refl _⟩
theorem per_stay {Z : List Zr} {i : Nat} {P : List Int} {z z' : Zr} (h : PerI Z i P) (hz : Z[i]? = some z) (hz' : Z[i + 1]? = some z') (he : z'.1 = z.1) : PerI Z (i + 1) P := by
  obtain ⟨h1, h2, h3, h4, h5⟩ := h
  refine ⟨h1, fun p hp y hy => ?_, fun x hx => ?_, fun p hp => ?_, by omega⟩
  · rw [hz'] at hy; cases hy
    rw [he]
    exact h2 p hp z hz
  · rw [List.take_add_one, hz, List.mem_append] at hx
    rcases hx with hx | hx
    · rcases h3 x hx with h | ⟨y, hy, e⟩
      · exact .inl h
      · rw [hz] at hy; cases hy
        exact .inr ⟨z', hz', by rw [e, he]⟩
    · obtain rfl : x = z := by simpa using hx
      exact .inr ⟨z', hz', he.symm⟩
  · obtain ⟨x, hx, e⟩ := h4 p hp
    exact ⟨x, by rw [List.take_add_one]; exact List.mem_append_left _ hx, e⟩
theorem per_next {Z : List Zr} {i : Nat} {P : List Int} {z : Zr} (hs : Z.Pairwise ZLt) (h : PerI Z i P) (hz : Z[i]? = some z) (hl : ∀ z', Z[i + 1]? = some z' → z'.1 ≠ z.1) : PerI Z (i + 1) (P ++ [z.1]) := by
  obtain ⟨h1, h2, h3, h4, h5⟩ := h
  refine ⟨List.pairwise_append.2 ⟨h1, List.pairwise_singleton _ _, fun p hp y hy => ?_⟩, fun p hp y hy => ?_, fun x hx => ?_, fun p hp => ?_, by simp; omega⟩
  · rw [List.mem_singleton.1 hy]
    exact h2 p hp z hz
  · have hzy : z.1 < y.1 := by
      obtain ⟨a1, a2⟩ := List.getElem?_eq_some_iff.1 hz
      obtain ⟨b1, b2⟩ := List.getElem?_eq_some_iff.1 hy
      have := (List.pairwise_iff_getElem.1 hs) i (i + 1) a1 b1 (by omega)
      rw [a2, b2] at this
      rcases this with h | h
      · exact h
      · exact absurd h.1.symm (hl y hy)
    rcases List.mem_append.1 hp with hp | hp
    · have := h2 p hp z hz
      omega
    · rw [List.mem_singleton.1 hp]
      exact hzy
  · rw [List.take_add_one, hz, List.mem_append] at hx
    rcases hx with hx | hx
    · rcases h3 x hx with h | ⟨y, hy, e⟩
      · exact .inl (List.mem_append_left _ h)
      · rw [hz] at hy; cases hy
        exact .inl (by simp [e])
    · obtain rfl : x = z := by simpa using hx
      exact .inl (by simp)
  · rcases List.mem_append.1 hp with hp | hp
    · obtain ⟨x, hx, e⟩ := h4 p hp
      exact ⟨x, by rw [List.take_add_one]; exact List.mem_append_left _ hx, e⟩
    · rw [List.mem_singleton.1 hp]
      exact ⟨z, by rw [List.take_add_one, hz]; simp, rfl⟩
theorem per_len {N : List En} {e a q : Int} {ps : List Int} {i : Nat} {P : List Int} (h : PerI (rZ N e a q ps) i P) : ∀ p ∈ P, p ∈ ps := fun p hp => by
  obtain ⟨x, hx, rfl⟩ := h.2.2.2.1 p hp
  obtain ⟨p', hp', hz⟩ := List.mem_flatMap.1 (List.mem_of_mem_take hx)
  obtain ⟨y, _, rfl⟩ := rz_mem.1 hz
  exact hp'
theorem per_sum {N : List En} {e a q : Int} {ps : List Int} (hps : ps.Pairwise (· < ·)) {i : Nat} {P : List Int} {z : Zr} (h : PerI (rZ N e a q ps) i P) (hz : (rZ N e a q ps)[i]? = some z) (hl : ∀ z', (rZ N e a q ps)[i + 1]? = some z' → z'.1 ≠ z.1) :
    sumI ((P ++ [z.1]).map fun p => sumI (ramF N e a p q)) = zAm ((rZ N e a q ps).take (i + 1)) := by
  have hs := rz_sorted N e a q ps hps
  have h' := per_next hs h hz hl
  have hnd : ps.Nodup := hps.imp fun {a b} h => by omega
  have hPn : (P ++ [z.1]).Nodup := h'.1.imp fun {a b} h => by omega
  rw [← blocks_sum (P ++ [z.1]) _ hPn]
  · congr 1
    refine List.map_congr_left fun p hp => ?_
    rw [← rz_am, ← rz_block hnd (per_len h' p hp)]
    congr 1
    conv => lhs; rw [← List.take_append_drop (i + 1) (rZ N e a q ps)]
    have hdrop : ((rZ N e a q ps).drop (i + 1)).filter (fun z => decide (z.1 = p)) = [] := List.filter_eq_nil_iff.2 fun y hy => by
      obtain ⟨j, hj⟩ := List.mem_iff_getElem?.1 hy
      rw [List.getElem?_drop] at hj
      have hlt : p < y.1 := by
        obtain ⟨b1, b2⟩ := List.getElem?_eq_some_iff.1 hj
        have hi1 : i + 1 < (rZ N e a q ps).length := by omega
        have h1 := h'.2.1 p hp _ (List.getElem?_eq_getElem hi1)
        match j, hj, b1, b2 with
        | 0, hj, b1, b2 =>
          have e0 : (rZ N e a q ps)[i + 1] = y := b2
          rwa [e0] at h1
        | j + 1, hj, b1, b2 =>
          have := (List.pairwise_iff_getElem.1 hs) (i + 1) (i + 1 + (j + 1)) hi1 b1 (by omega)
          rw [b2] at this
          rcases this with h | h <;> omega
      simp only [decide_eq_true_eq]
      omega
    rw [List.filter_append, hdrop, List.append_nil]
  · intro x hx
    rcases h'.2.2.1 x hx with h | ⟨y, hy, e⟩
    · exact h
    · exfalso
      obtain ⟨k, hk⟩ := List.mem_iff_getElem?.1 hx
      rw [List.getElem?_take] at hk
      split at hk
      · rename_i hki
        have hmem := h'.2.1
        rcases Nat.lt_or_ge k i with hk2 | hk2
        · rcases h.2.2.1 x (by rw [List.mem_iff_getElem?]; exact ⟨k, by rw [List.getElem?_take, if_pos hk2]; exact hk⟩) with h5 | ⟨y2, hy2, e2⟩
          · have := hmem x.1 (List.mem_append_left _ h5) y hy
            omega
          · rw [hz] at hy2; cases hy2
            exact hl y hy (by omega)
        · have : k = i := by omega
          subst this
          rw [hz] at hk; cases hk
          exact hl y hy e.symm
      · cases hk
theorem zAm_bound {N : List En} (h : FwE N) (e a q : Int) (ps : List Int) (i : Nat) : -((((rZ N e a q ps).take i).length : Int) * 9223372036854775808) ≤ zAm ((rZ N e a q ps).take i) ∧ zAm ((rZ N e a q ps).take i) ≤ (((rZ N e a q ps).take i).length : Int) * 9223372036854775808 := by
  have := sum_bound (((rZ N e a q ps).take i).map (·.2.2.2)) fun n hn => by
    obtain ⟨z, hz, rfl⟩ := List.mem_map.1 hn
    obtain ⟨p, _, hp⟩ := List.mem_flatMap.1 (List.mem_of_mem_take hz)
    obtain ⟨x, hx, rfl⟩ := rz_mem.1 hp
    exact h.ams e a p q x hx
  rwa [List.length_map] at this
theorem ram_sum {N : List En} (h : FwE N) (e a p q : Int) (h0 : (netF (ramF N e a p q) []).2 = 0) : (netF (ramF N e a p q) []).1 = sumI (ramF N e a p q) ∧ InI (sumI (ramF N e a p q)) := by
  have hi : ∀ n ∈ ramF N e a p q, InI n := fun n hn => by
    obtain ⟨x, hx, rfl⟩ := List.mem_map.1 hn
    exact h.ams e a p q x hx
  have hl : (ramF N e a p q).length ≤ 10000 := by
    rw [ramF, List.length_map]
    exact h.those e a p q
  obtain ⟨b1, b2⟩ := sum_bound _ hi
  have e1 := netF_law hi (m := []) (fun _ h => by cases h) (sumI (ramF N e a p q)) (by simp [sumI]) (by omega)
  rw [e1] at h0 ⊢
  dsimp only at h0 ⊢
  unfold faultB at h0
  by_cases c : okB (sumI (ramF N e a p q)) = true
  · have hin : -9223372036854775808 ≤ sumI (ramF N e a p q) ∧ sumI (ramF N e a p q) ≤ 9223372036854775807 := by
      simpa [okB] using c
    exact ⟨if_pos hin, hin⟩
  · rw [if_neg c] at h0
    cases h0
end Go.Proofs.Yteaajihmfacinaa.Ta
end
