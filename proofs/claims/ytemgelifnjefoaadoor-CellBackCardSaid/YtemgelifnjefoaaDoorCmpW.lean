/-
  cell.compare: a walk of its own, for the library's sort asks how memory looks behind it.
-/
import Derived.Test.YtemgelifnjefoaaDoorSortF1
import Derived.Test.YtemgelifnjefoaaDoorShelfS
import Derived.Test.YtemgelifnjefoaaDoorCell1
import Derived.StillTailTactics
namespace Go.Proofs.YtemgelifnjefoaaDoor
open Go Go.Vm Go.Shelf Go.RowKit Go.Lib Go.Sort Go.Proofs

theorem orL_hit : ∀ {l : List Int} {k : Nat}, k < l.length → l[k]! ≠ 0 → (∀ j, j < k → l[j]! = 0) → orL l = l[k]!
  | [], k, h, _, _ => by simp at h
  | x :: r, 0, _, h0, _ => by
    have h0 : x ≠ 0 := by simpa using h0
    rw [orL, if_neg h0]
    simp
  | x :: r, k + 1, h, h0, hj => by
    have h1 : x = 0 := by simpa using hj 0 (by omega)
    have h2 := orL_hit (l := r) (k := k) (by simpa using h) (by simpa using h0) (fun j hjk => by simpa using hj (j + 1) (by omega))
    rw [orL, if_pos h1, h2]
    simp
theorem orL_miss : ∀ {l : List Int}, (∀ j, j < l.length → l[j]! = 0) → orL l = 0
  | [], _ => rfl
  | x :: r, h => by
    have h1 : x = 0 := by simpa using h 0 (by simp)
    rw [orL, if_pos h1]
    exact orL_miss (fun j hj => by simpa using h (j + 1) (by simpa using hj))

set_option maxHeartbeats 1000000 in
theorem or_calls (zs : List Int) (b off c : Nat) (w : World) (hbig : zs.length ≤ 9223372036854775807) (hc : ∀ j, j < zs.length → w.cell? ⟨b, off + j, none⟩ = some (.int .i64 zs[j]!)) :
    Calls Tryd.prog 33 #[.slice (some ⟨b, off, none⟩) zs.length c] w fun e w' => e = .returned (.int .i64 (orL zs)) ∧ w' = w := by
  go_enter Tryd.func33, Tryd.ntmps33
  go_wp2
  go_loop [5, 8] (fun _ i => ∃ k : Nat, k ≤ zs.length ∧ i = .int .i64 k ∧ ∀ j, j < k → zs[j]! = 0) (fun _ i => match i with | .int _ m => zs.length - m.toNat | _ => 0)
  case atStart => exact ⟨0, Nat.zero_le _, rfl, fun j hj => absurd hj (Nat.not_lt_zero _)⟩
  case round =>
    obtain ⟨k, hk, rfl, hne⟩ := hrel
    have hcell : k < zs.length → w.cell? ⟨b, off + k, none⟩ = some (.int .i64 zs[k]!) := fun _ => hc k (by omega)
    go_wp2
    · have hlt : k < zs.length := by assumption
      have hq : (zs[k] != 0) = true := by assumption
      go_ret
      refine ⟨?_, rfl⟩
      rw [orL_hit hlt (by simpa [hlt] using hq) hne]
      simp [hlt]
    · have hlt : k < zs.length := by assumption
      have hq : (zs[k] != 0) = false := by assumption
      refine ⟨⟨k + 1, by omega, rfl, fun j hj => ?_⟩, (by
        show zs.length - ((k : Int) + 1).toNat < zs.length - ((k : Int)).toNat
        omega)⟩
      by_cases e : j = k
      · subst e
        simpa [hlt] using hq
      · exact hne j (by omega)
    · have hge : ¬ k < zs.length := by assumption
      have : k = zs.length := by omega
      subst this
      go_ret
      refine ⟨?_, rfl⟩
      rw [orL_miss hne]
      rfl

theorem cmp_is (x y : Int) : cmpI x y = Lib.compareInt x y := by
  unfold cmpI Lib.compareInt
  repeat' split
  all_goals (first | rfl | omega)

set_option maxHeartbeats 4000000 in
set_option maxRecDepth 100000 in
theorem compare_calls (x y : CeD) (W : World) :
    Calls Tryd.prog 21 #[.agg (encR Ce x).toArray, .agg (encR Ce y).toArray] W fun e w' => e = .returned (.int .i64 (cmpC x y)) ∧ ∃ q os', w' = grow (W.drewN q) os' := by
  obtain ⟨x1, x2, x3, x4, x5, x6⟩ := x
  obtain ⟨y1, y2, y3, y4, y5, y6⟩ := y
  have hcmp := fun a b W' => AnyG.cmp_Compare_int Tryd.cmpInt a b W'
  change ∀ a b W', Calls Tryd.prog 34 _ _ _ at hcmp
  simp only [← cmp_is] at hcmp
  show Calls Tryd.prog 21 #[.agg #[.int .i64 x1, .int .i64 x2, .int .i64 x3, .int .i64 x4, .int .i64 x5, .int .i64 x6], .agg #[.int .i64 y1, .int .i64 y2, .int .i64 y3, .int .i64 y4, .int .i64 y5, .int .i64 y6]] W fun e w' => e = .returned (.int .i64 (orL [cmpI x1 y1, cmpI x2 y2, cmpI x3 y3, cmpI x4 y4, cmpI x5 y5, cmpI x6 y6])) ∧ ∃ q os', w' = grow (W.drewN q) os'
  generalize cmpI = cI at hcmp ⊢
  go_enter Tryd.func21, Tryd.ntmps21
  go_wp2_with fail
  have hX : ∀ (A : Array Value) (t : TypeId) (B : _root_.Go.Obj) (k : Nat), ((W.alloc (.cells A t)).alloc B).cell? ⟨W.heap.size, k, none⟩ = A[k]? := fun A t B k => by
    rw [World.cell?_alloc_past _ _ _ (by simp), World.cell?_alloc_at _ _ _ _ rfl]
  have hY : ∀ (A : _root_.Go.Obj) (B : Array Value) (t : TypeId) (k : Nat), ((W.alloc A).alloc (.cells B t)).cell? ⟨W.heap.size + 1, k, none⟩ = B[k]? := fun A B t k => by
    rw [World.cell?_alloc_at _ _ _ _ (by simp)]
  generalize hW2 : (W.alloc (.cells #[.int .i64 x1, .int .i64 x2, .int .i64 x3, .int .i64 x4, .int .i64 x5, .int .i64 x6] 23)).alloc (.cells #[.int .i64 y1, .int .i64 y2, .int .i64 y3, .int .i64 y4, .int .i64 y5, .int .i64 y6] 23) = W2
  have a0 : W2.cell? ⟨W.heap.size, 0, none⟩ = some (.int .i64 x1) := by rw [← hW2]; exact hX _ _ _ 0
  have a1 : W2.cell? ⟨W.heap.size, 1, none⟩ = some (.int .i64 x2) := by rw [← hW2]; exact hX _ _ _ 1
  have a2 : W2.cell? ⟨W.heap.size, 2, none⟩ = some (.int .i64 x3) := by rw [← hW2]; exact hX _ _ _ 2
  have a3 : W2.cell? ⟨W.heap.size, 3, none⟩ = some (.int .i64 x4) := by rw [← hW2]; exact hX _ _ _ 3
  have a4 : W2.cell? ⟨W.heap.size, 4, none⟩ = some (.int .i64 x5) := by rw [← hW2]; exact hX _ _ _ 4
  have a5 : W2.cell? ⟨W.heap.size, 5, none⟩ = some (.int .i64 x6) := by rw [← hW2]; exact hX _ _ _ 5
  have b0 : W2.cell? ⟨W.heap.size + 1, 0, none⟩ = some (.int .i64 y1) := by rw [← hW2]; exact hY _ _ _ 0
  have b1 : W2.cell? ⟨W.heap.size + 1, 1, none⟩ = some (.int .i64 y2) := by rw [← hW2]; exact hY _ _ _ 1
  have b2 : W2.cell? ⟨W.heap.size + 1, 2, none⟩ = some (.int .i64 y3) := by rw [← hW2]; exact hY _ _ _ 2
  have b3 : W2.cell? ⟨W.heap.size + 1, 3, none⟩ = some (.int .i64 y4) := by rw [← hW2]; exact hY _ _ _ 3
  have b4 : W2.cell? ⟨W.heap.size + 1, 4, none⟩ = some (.int .i64 y5) := by rw [← hW2]; exact hY _ _ _ 4
  have b5 : W2.cell? ⟨W.heap.size + 1, 5, none⟩ = some (.int .i64 y6) := by rw [← hW2]; exact hY _ _ _ 5
  have HW : Hid (∃ A B, W2 = (W.alloc A).alloc B) := ⟨_, _, hW2.symm⟩
  clear hX hY hW2
  refine wp_region_still_tail 30 (by kernel_rfl) (by kernel_rfl) ?_
  simp only [List.take_succ_cons, List.take_zero, List.drop_succ_cons, List.drop_zero]
  repeat (first | still_step | still_call (hcmp _ _ _))
  refine wpStill_nil ?_
  change wpList _ _ _ _ _ W2.drew
  clear a0 a1 a2 a3 a4 a5 b0 b1 b2 b3 b4 b5 hcmp
  have hor : ∀ (W3 : World) (t : TypeId) (c1 c2 c3 c4 c5 c6 : Int), Calls Tryd.prog 33 #[.slice (some ⟨W3.heap.size, 0, none⟩) 6 6] (W3.alloc (.cells #[.int .i64 c1, .int .i64 c2, .int .i64 c3, .int .i64 c4, .int .i64 c5, .int .i64 c6] t)) fun e w' => e = .returned (.int .i64 (orL [c1, c2, c3, c4, c5, c6])) ∧ w' = (W3.alloc (.cells #[.int .i64 c1, .int .i64 c2, .int .i64 c3, .int .i64 c4, .int .i64 c5, .int .i64 c6] t)) := fun W3 t c1 c2 c3 c4 c5 c6 =>
    or_calls [c1, c2, c3, c4, c5, c6] W3.heap.size 0 6 _ (by simp) (fun j hj => by
      rw [World.cell?_alloc_at _ _ _ _ rfl]
      match j, hj with
      | 0, _ | 1, _ | 2, _ | 3, _ | 4, _ | 5, _ => rfl)
  have HW3 : Hid (∃ A B, W2.drew = ((W.alloc A).alloc B).drew) := by
    obtain ⟨A, B, e⟩ := HW.out
    exact ⟨A, B, by rw [e]⟩
  clear HW
  generalize W2.drew = W3 at HW3 ⊢
  go_wp2_with (go_at_call 33; refine (hor _ _ _ _ _ _ _ _).mono ?_; rintro e w' ⟨rfl, rfl⟩)
  go_ret
  refine ⟨rfl, ?_⟩
  obtain ⟨A, B, rfl⟩ := HW3.out
  have fin : ∀ C, (((W.alloc A).alloc B).drew).alloc C = grow (W.drewN 1) (#[A] ++ (#[B] ++ #[C])) := fun C => by
    show (((W.drewN 1).alloc A).alloc B).alloc C = _
    rw [alloc_eq_grow, alloc_eq_grow, alloc_eq_grow, grow_grow, grow_grow]
  exact ⟨1, _, fin _⟩

/-! The library's sort, under it. -/
theorem lt_less (x y : Ty.den Ce) : ltOf (α := Ty.den Ce) cmpC x y = lessF x y := cmpC_less x y
theorem lexL_irr : ∀ l : List Int, lexL l l = false
  | [] => rfl
  | x :: r => by rw [lexL, if_pos rfl]; exact lexL_irr r
theorem lexL_trans : ∀ {a b c : List Int}, lexL a b = true → lexL b c = true → lexL a c = true
  | [], _, _, h, _ => by simp [lexL] at h
  | _ :: _, [], _, h, _ => by simp [lexL] at h
  | _ :: _, _ :: _, [], _, h => by simp [lexL] at h
  | x :: r, y :: s, z :: t, h, k => by
    unfold lexL at h k ⊢
    by_cases e1 : x = y
    · subst e1
      rw [if_pos rfl] at h
      by_cases e2 : x = z
      · subst e2
        rw [if_pos rfl] at k ⊢
        exact lexL_trans h k
      · rw [if_neg e2] at k ⊢
        exact k
    · rw [if_neg e1] at h
      simp only [decide_eq_true_eq] at h
      by_cases e2 : y = z
      · subst e2
        rw [if_neg e1]
        simpa using h
      · rw [if_neg e2] at k
        simp only [decide_eq_true_eq] at k
        rw [if_neg (by omega)]
        simp only [decide_eq_true_eq]
        omega
theorem lexL_tri : ∀ {a b : List Int}, a.length = b.length → lexL a b = false → lexL b a = false → a = b
  | [], [], _, _, _ => rfl
  | [], _ :: _, h, _, _ => by simp at h
  | _ :: _, [], h, _, _ => by simp at h
  | x :: r, y :: s, hl, h, k => by
    unfold lexL at h k
    by_cases e1 : x = y
    · subst e1
      rw [if_pos rfl] at h k
      rw [lexL_tri (by simpa using hl) h k]
    · rw [if_neg e1] at h
      rw [if_neg (fun e => e1 e.symm)] at k
      simp only [decide_eq_false_iff_not] at h k
      omega
theorem flds_inj {x y : CeD} (h : flds x = flds y) : x = y := by
  obtain ⟨x1, x2, x3, x4, x5, x6⟩ := x
  obtain ⟨y1, y2, y3, y4, y5, y6⟩ := y
  simpa [flds] using h
theorem less_irr (x : CeD) : lessF x x = false := lexL_irr _
theorem less_trans {x y z : CeD} (h : lessF x y = true) (k : lessF y z = true) : lessF x z = true := lexL_trans h k
theorem less_tri {x y : CeD} (h : lessF x y = false) (k : lessF y x = false) : x = y := flds_inj (lexL_tri rfl h k)
theorem less_asym {x y : CeD} (h : lessF x y = true) : lessF y x = false := by
  cases e : lessF y x with
  | false => rfl
  | true => have := less_trans h e; rw [less_irr] at this; cases this
theorem swo : SWO (ltOf (α := Ty.den Ce) cmpC) where
  irrefl x := by rw [lt_less]; exact less_irr x
  trans x y z h k := by rw [lt_less] at *; exact less_trans h k
  ntrans x y z h k := by
    rw [lt_less] at *
    cases e : lessF x z with
    | false => rfl
    | true =>
      exfalso
      cases e2 : lessF y x with
      | false =>
        have := less_tri h e2
        subst this
        rw [e] at k; cases k
      | true =>
        have := less_trans e2 e
        rw [this] at k; cases k

theorem sorts : SortsBy Tryd.prog 24 21 Ce cmpC where
  some blk off cap zs w hH hblk hsz := by
    have eg : ∀ args w, (callFunc 21 args).run Tryd.prog w = .ok (.enter 21 args) w := enters_of Tryd.func21 (by kernel_rfl) rfl
    have := AnyQ.slices_SortFunc_total Tryd.sortCe 6 Tryd.isAgg23 Tryd.sizeOf23 (encR Ce) (fun x => encR_len x rfl) (fun x => encR_one x rfl) (cmpC : Ty.den Ce → Ty.den Ce → Int) swo 21 #[] blk off cap zs.toArray w eg (fun _ _ _ _ x y => compare_calls x y _) hH hblk (by simpa using hsz) (fun x y h k => less_tri ((lt_less x y).symm.trans h) ((lt_less y x).symm.trans k))
    simp only [List.size_toArray] at this
    exact this
  none := fun p cap w => AnyF.slices_SortFunc_none Tryd.sortCe p cap _ w
noncomputable def sp_sort : UFSpec Tryd.prog := sortBySpec 24 21 Ce cmpC rfl sorts

end Go.Proofs.YtemgelifnjefoaaDoor
