/-
  ValueFaults: the walk.
-/
import Derived.Test.YtkifiopfapnpnaaDoorVal3
namespace Go.Proofs.YtkifiopfapnpnaaDoor
open Go.Vm

abbrev sumI (l : List Int) : Int := l.foldl (· + ·) 0
/-- What the first i come to, the first ones and less the others. -/
def partS (l m : List (Int × Int)) (i : Int) : Int := sumI (amts (l.take i.toNat)) - sumI (amts (m.take (i - l.length).toNat))
def InvF (l m : List (Int × Int)) (i : Int) (b : Bool) (d : List Int) : Prop :=
  0 ≤ i ∧ i ≤ l.length + m.length ∧ b = decide (partS l m i < 0) ∧ d = digs (partS l m i).natAbs ∧ firstF 0 ((l ++ m).take i.toNat) = 0
def InVs (l : List (Int × Int)) : Prop := ∀ v ∈ l, InI v.1 ∧ InI v.2
noncomputable def env_faults (l m : List (Int × Int)) : Env where
  P := Tryd.prog
  ty := tys0
  specs := specsOf [sp_awake, sp_vnet, sp_of, sp_bplus, sp_bminus, sp_bint]
  frz := fun | 27 => true | 61 => true | 62 => true | 69 => true | 70 => true | _ => false
  heads := fun
    | 7 => some { slots := [(8, .int .i64), (23, .any)], boxes := [(7, [.bool, .list .part I])], keep := [5, 25], inv := fun _ (x : Int × Unit × Bool × List Int × Unit) => InvF l m x.1 x.2.2.1 x.2.2.2.1, measure := fun _ (x : Int × Unit × Bool × List Int × Unit) => (l.length + m.length - x.1).toNat }
    | _ => none
noncomputable def g_faults (l m : List (Int × Int)) : Prop := vc (env_faults l m) (codeOf Tryd.f4) (start0 Tryd.f4 [.list .tmp Vl l, .list .tmp Vl m]) (exitK (tsOf Tryd.f4) [.bool] (true, ()))
def g_faults_vc (l : List (Int × Int)) (m : List (Int × Int)) : Prop :=
  (decide ((100 : Int) < (↑l.length : Int)) = false →
    (decide ((100 : Int) < (↑m.length : Int)) = true → True ∧ (true, ()) = (true, ())) ∧
      (decide ((100 : Int) < (↑m.length : Int)) = false →
        (l.length ≤ (1000000 : Nat) ∧ m.length ≤ (1000000 : Nat)) ∧
          (((0 : Nat) + l.length) * (16 : Nat) ≤ (140737488355328 : Nat) ∧ (0 : Nat) + l.length ≤ (4611686018427387904 : Nat) ∧ ((0 : Nat) < l.length ∨ (0 : Nat) = (0 : Nat))) ∧
            ((l.length + m.length) * (16 : Nat) ≤ (140737488355328 : Nat) ∧ l.length + m.length ≤ (4611686018427387904 : Nat)) ∧
              ((some (Obj.box [V.int IntKind.i64 (vnetF l m).fst, V.int IntKind.i64 (vnetF l m).snd]) = some (Obj.box [V.int IntKind.i64 (vnetF l m).fst, V.int IntKind.i64 (vnetF l m).snd]) ∧
                    some (Obj.arr (1 : Nat) Vl (l ++ m)) = some (Obj.arr (1 : Nat) Vl (l ++ m)) ∧ True) ∧
                  InvF l m (0 : Int) false []) ∧
                ∀ (x : Int × Unit × Bool × List Int × Unit),
                  InvF l m x.fst x.snd.snd.fst x.snd.snd.snd.fst →
                    (decide (x.fst < (↑(l ++ m).length : Int)) = true →
                        ((0 : Int) ≤ x.fst ∧ x.fst < (↑(l ++ m).length : Int)) ∧
                          x.fst.toNat < (l ++ m).length ∧
                            ∀ (x_1 : Int × Int),
                              (l ++ m)[x.fst.toNat]? = some x_1 →
                                ((!decide (x_1.snd = (0 : Int))) = true →
                                    ((0 : Int) ≤ x.fst ∧ x.fst < (↑(l ++ m).length : Int)) ∧
                                      x.fst.toNat < (l ++ m).length ∧
                                        ∀ (x_2 : Int × Int),
                                          (l ++ m)[x.fst.toNat]? = some x_2 →
                                            ((decide ((vnetF l m).fst = (0 : Int)) && (decide ((vnetF l m).snd = x_2.snd) && true)) = true → True ∧ (true, ()) = (true, ())) ∧
                                              ((decide ((vnetF l m).fst = (0 : Int)) && (decide ((vnetF l m).snd = x_2.snd) && true)) = !true → (false, ()) = (true, ()))) ∧
                                  ((!decide (x_1.snd = (0 : Int))) = false →
                                    (decide (x.fst < (↑l.length : Int)) = true →
                                        ((0 : Int) ≤ x.fst ∧ x.fst < (↑(l ++ m).length : Int)) ∧
                                          x.fst.toNat < (l ++ m).length ∧
                                            ∀ (x_2 : Int × Int),
                                              (l ++ m)[x.fst.toNat]? = some x_2 →
                                                InI x_2.fst ∧
                                                  (Big x.snd.snd.fst x.snd.snd.snd.fst ∧
                                                      Big (decide (x_2.fst < (0 : Int))) (digs x_2.fst.natAbs) ∧
                                                        x.snd.snd.snd.fst.length ≤ (1000000 : Nat) ∧ (digs x_2.fst.natAbs).length ≤ (1000000 : Nat)) ∧
                                                    ((-9223372036854775808 : Int) ≤ x.fst + (1 : Int) ∧ x.fst + (1 : Int) ≤ (9223372036854775807 : Int)) ∧
                                                      (some (Obj.box [V.int IntKind.i64 (vnetF l m).fst, V.int IntKind.i64 (vnetF l m).snd]) =
                                                            some (Obj.box [V.int IntKind.i64 (vnetF l m).fst, V.int IntKind.i64 (vnetF l m).snd]) ∧
                                                          some (Obj.arr (1 : Nat) Vl (l ++ m)) = some (Obj.arr (1 : Nat) Vl (l ++ m)) ∧ True) ∧
                                                        InvF l m (x.fst + (1 : Int))
                                                            (decide (big x.snd.snd.fst x.snd.snd.snd.fst + big (decide (x_2.fst < (0 : Int))) (digs x_2.fst.natAbs) < (0 : Int)))
                                                            (digs (big x.snd.snd.fst x.snd.snd.snd.fst + big (decide (x_2.fst < (0 : Int))) (digs x_2.fst.natAbs)).natAbs) ∧
                                                          ((↑l.length : Int) + (↑m.length : Int) - (x.fst + (1 : Int))).toNat < ((↑l.length : Int) + (↑m.length : Int) - x.fst).toNat) ∧
                                      (decide (x.fst < (↑l.length : Int)) = false →
                                        ((0 : Int) ≤ x.fst ∧ x.fst < (↑(l ++ m).length : Int)) ∧
                                          x.fst.toNat < (l ++ m).length ∧
                                            ∀ (x_2 : Int × Int),
                                              (l ++ m)[x.fst.toNat]? = some x_2 →
                                                InI x_2.fst ∧
                                                  (Big x.snd.snd.fst x.snd.snd.snd.fst ∧
                                                      Big (decide (x_2.fst < (0 : Int))) (digs x_2.fst.natAbs) ∧
                                                        x.snd.snd.snd.fst.length ≤ (1000000 : Nat) ∧ (digs x_2.fst.natAbs).length ≤ (1000000 : Nat)) ∧
                                                    ((-9223372036854775808 : Int) ≤ x.fst + (1 : Int) ∧ x.fst + (1 : Int) ≤ (9223372036854775807 : Int)) ∧
                                                      (some (Obj.box [V.int IntKind.i64 (vnetF l m).fst, V.int IntKind.i64 (vnetF l m).snd]) =
                                                            some (Obj.box [V.int IntKind.i64 (vnetF l m).fst, V.int IntKind.i64 (vnetF l m).snd]) ∧
                                                          some (Obj.arr (1 : Nat) Vl (l ++ m)) = some (Obj.arr (1 : Nat) Vl (l ++ m)) ∧ True) ∧
                                                        InvF l m (x.fst + (1 : Int))
                                                            (decide (big x.snd.snd.fst x.snd.snd.snd.fst - big (decide (x_2.fst < (0 : Int))) (digs x_2.fst.natAbs) < (0 : Int)))
                                                            (digs (big x.snd.snd.fst x.snd.snd.snd.fst - big (decide (x_2.fst < (0 : Int))) (digs x_2.fst.natAbs)).natAbs) ∧
                                                          ((↑l.length : Int) + (↑m.length : Int) - (x.fst + (1 : Int))).toNat < ((↑l.length : Int) + (↑m.length : Int) - x.fst).toNat))) ∧
                      (decide (x.fst < (↑(l ++ m).length : Int)) = false →
                        (Big x.snd.snd.fst x.snd.snd.snd.fst ∧ x.snd.snd.snd.fst.length ≤ (1000000 : Nat)) ∧
                          ((!okB (big x.snd.snd.fst x.snd.snd.snd.fst)) = true →
                              ((decide ((vnetF l m).fst = (0 : Int)) && (decide ((vnetF l m).snd = (10 : Int)) && true)) = true → True ∧ (true, ()) = (true, ())) ∧
                                ((decide ((vnetF l m).fst = (0 : Int)) && (decide ((vnetF l m).snd = (10 : Int)) && true)) = !true → (false, ()) = (true, ()))) ∧
                            ((!okB (big x.snd.snd.fst x.snd.snd.snd.fst)) = false →
                              ((decide ((vnetF l m).fst = intB (big x.snd.snd.fst x.snd.snd.snd.fst)) && (decide ((vnetF l m).snd = (0 : Int)) && true)) = true → True ∧ (true, ()) = (true, ())) ∧
                                ((decide ((vnetF l m).fst = intB (big x.snd.snd.fst x.snd.snd.snd.fst)) && (decide ((vnetF l m).snd = (0 : Int)) && true)) = !true → (false, ()) = (true, ())))))) ∧
  (decide ((100 : Int) < (↑l.length : Int)) = !false → True ∧ (true, ()) = (true, ()))

theorem g_faults_eq (l m : List (Int × Int)) : g_faults l m = g_faults_vc l m := by kernel_rfl
theorem sum_bound : ∀ (l : List Int), (∀ n ∈ l, InI n) → -((l.length : Int) * 9223372036854775808) ≤ sumI l ∧ sumI l ≤ (l.length : Int) * 9223372036854775808
  | [], _ => ⟨by simp, by simp⟩
  | a :: r, h => by
    obtain ⟨h1, h2⟩ := h a (by simp)
    obtain ⟨k1, k2⟩ := sum_bound r (fun n hn => h n (by simp [hn]))
    have e : sumI (a :: r) = a + sumI r := by
      unfold sumI
      rw [List.foldl_cons, fold_sum r (0 + a), Int.zero_add]
    rw [e, List.length_cons]
    refine ⟨by omega, by omega⟩
theorem sum_snoc (l : List Int) (a : Int) : sumI (l ++ [a]) = sumI l + a := by
  unfold sumI
  rw [List.foldl_append]
  rfl
theorem amts_all {l : List (Int × Int)} (h : InVs l) (k : Nat) : ∀ n ∈ amts (l.take k), InI n := by
  intro n hn
  obtain ⟨v, hv, rfl⟩ := List.mem_map.1 hn
  exact (h v (List.mem_of_mem_take hv)).1
theorem part_bound {l m : List (Int × Int)} (hl : InVs l) (hm : InVs m) (h1 : l.length ≤ 100) (h2 : m.length ≤ 100) (i : Int) : -1844674407370955161600 ≤ partS l m i ∧ partS l m i ≤ 1844674407370955161600 := by
  obtain ⟨a1, a2⟩ := sum_bound _ (amts_all hl i.toNat)
  obtain ⟨b1, b2⟩ := sum_bound _ (amts_all hm (i - l.length).toNat)
  have c1 : (amts (l.take i.toNat)).length ≤ 100 := by rw [List.length_map, List.length_take]; omega
  have c2 : (amts (m.take (i - l.length).toNat)).length ≤ 100 := by rw [List.length_map, List.length_take]; omega
  unfold partS
  omega
theorem part_len {l m : List (Int × Int)} (hl : InVs l) (hm : InVs m) (h1 : l.length ≤ 100) (h2 : m.length ≤ 100) (i : Int) : (digs (partS l m i).natAbs).length ≤ 1000000 := by
  obtain ⟨a1, a2⟩ := part_bound hl hm h1 h2 i
  exact Nat.le_trans (digs_len (k := 30) (by omega)) (by decide)
theorem part_stepL {l m : List (Int × Int)} {i : Int} {y : Int × Int} (h0 : 0 ≤ i) (hi : i < l.length) (hy : (l ++ m)[i.toNat]? = some y) : partS l m (i + 1) = partS l m i + y.1 := by
  rw [List.getElem?_append_left (by omega)] at hy
  unfold partS
  rw [show (i + 1).toNat = i.toNat + 1 by omega, List.take_add_one, hy, show (i + 1 - (l.length : Int)).toNat = 0 by omega, show (i - (l.length : Int)).toNat = 0 by omega]
  have : amts (l.take i.toNat ++ (some y).toList) = amts (l.take i.toNat) ++ [y.1] := by unfold amts; rw [List.map_append]; rfl
  rw [this, sum_snoc]
  omega
theorem part_stepM {l m : List (Int × Int)} {i : Int} {y : Int × Int} (hi : ¬ i < l.length) (hy : (l ++ m)[i.toNat]? = some y) : partS l m (i + 1) = partS l m i - y.1 := by
  rw [List.getElem?_append_right (by omega)] at hy
  unfold partS
  rw [show (i + 1 - (l.length : Int)).toNat = (i.toNat - l.length) + 1 by omega, List.take_add_one, hy, show (i - (l.length : Int)).toNat = i.toNat - l.length by omega,
    List.take_of_length_le (l := l) (i := (i + 1).toNat) (by omega), List.take_of_length_le (l := l) (i := i.toNat) (by omega)]
  have : amts (m.take (i.toNat - l.length) ++ (some y).toList) = amts (m.take (i.toNat - l.length)) ++ [y.1] := by unfold amts; rw [List.map_append]; rfl
  rw [this, sum_snoc]
  omega
theorem first_keep {e : Int} (h : e ≠ 0) : ∀ r : List (Int × Int), firstF e r = e
  | [] => rfl
  | v :: r => by
    unfold firstF
    rw [List.foldl_cons, if_neg h]
    exact first_keep h r
theorem first_at {L : List (Int × Int)} {i : Nat} {y : Int × Int} (h : firstF 0 (L.take i) = 0) (hy : L[i]? = some y) : firstF 0 (L.take (i + 1)) = y.2 ∧ (y.2 ≠ 0 → firstF 0 L = y.2) := by
  have e1 : firstF 0 (L.take (i + 1)) = y.2 := by
    rw [List.take_add_one, hy, first_app, h]
    rfl
  refine ⟨e1, fun hn => ?_⟩
  rw [← List.take_append_drop (i + 1) L, first_app, e1, first_keep hn]
theorem invF_next {l m : List (Int × Int)} {i : Int} {b : Bool} {d : List Int} {y : Int × Int} {z : Int} (h : InvF l m i b d) (hy : (l ++ m)[i.toNat]? = some y) (h2 : y.2 = 0) (hz : partS l m (i + 1) = z) :
    InvF l m (i + 1) (decide (z < 0)) (digs z.natAbs) := by
  obtain ⟨h0, _, _, _, hf⟩ := h
  have hlt := (List.getElem?_eq_some_iff.1 hy).1
  rw [List.length_append] at hlt
  refine ⟨by omega, by omega, by rw [hz], by rw [hz], ?_⟩
  rw [show (i + 1).toNat = i.toNat + 1 by omega, (first_at hf hy).1, h2]
theorem vnet_end {l m : List (Int × Int)} (hl : InVs l) (hm : InVs m) (h1 : l.length ≤ 100) (h2 : m.length ≤ 100) {i : Int} (hi : i = l.length + m.length) (hf : firstF 0 ((l ++ m).take i.toNat) = 0) :
    vnetF l m = toldF (intB (partS l m i)) (faultB (partS l m i)) := by
  have ht : (l ++ m).take i.toNat = l ++ m := List.take_of_length_le (by rw [List.length_append]; omega)
  rw [ht] at hf
  obtain ⟨a1, a2⟩ := part_bound hl hm h1 h2 i
  have hs : partS l m i = sumI (amts l) - sumI (amts m) := by
    unfold partS
    rw [List.take_of_length_le (l := l) (i := i.toNat) (by omega), List.take_of_length_le (l := m) (i := (i - l.length).toNat) (by omega)]
  have hn := netF_law (l := amts l) (m := amts m) (by have := amts_all hl l.length; rw [List.take_length] at this; exact this) (by have := amts_all hm m.length; rw [List.take_length] at this; exact this) (partS l m i) hs (by omega)
  unfold vnetF
  rw [if_pos hf, hn]
theorem g_faults_ok (l m : List (Int × Int)) (h : InVs l ∧ InVs m) : g_faults_vc l m := by
  obtain ⟨hl, hm⟩ := h
  unfold g_faults_vc
  simp only [decide_eq_true_eq, decide_eq_false_iff_not, Bool.not_eq_true', Bool.not_eq_false', Bool.not_true, Bool.not_false, Bool.and_true, Bool.and_eq_true, Bool.and_eq_false_iff]
  refine ⟨fun c1 => ⟨fun _ => ⟨trivial, trivial⟩, fun c2 => ?_⟩, fun _ => ⟨trivial, trivial⟩⟩
  have h1 : l.length ≤ 100 := by omega
  have h2 : m.length ≤ 100 := by omega
  refine ⟨by omega, ⟨by omega, by omega, by simp⟩, by omega, ⟨⟨trivial, trivial, trivial⟩, ⟨by omega, by omega, ?_, ?_, rfl⟩⟩, ?_⟩
  · simp [partS, sumI]
  · simp [partS, sumI, digs_zero]
  rintro ⟨i, ⟨⟩, b, d, ⟨⟩⟩ hI
  dsimp only at hI ⊢
  have hI' := hI
  obtain ⟨i0, i1, hb, hd, hf⟩ := hI'
  have hlen : (l ++ m).length = l.length + m.length := List.length_append
  have hB : Big b d := by rw [hb, hd]; exact Big_digs _
  have hv : big b d = partS l m i := by rw [hb, hd]; exact big_digs _
  have hdl : d.length ≤ 1000000 := by rw [hd]; exact part_len hl hm h1 h2 i
  rw [hv]
  have elem : ∀ y, (l ++ m)[i.toNat]? = some y → InI y.1 := fun y hy => by
    rcases List.mem_append.1 (List.mem_of_getElem? hy) with k | k
    · exact (hl y k).1
    · exact (hm y k).1
  refine ⟨fun c => ⟨⟨i0, c⟩, by omega, fun y hy => ⟨fun k => ⟨⟨i0, c⟩, by omega, fun y' hy' => ?_⟩, fun k => ⟨fun p => ⟨⟨i0, c⟩, by omega, fun y' hy' => ?_⟩, fun p => ⟨⟨i0, c⟩, by omega, fun y' hy' => ?_⟩⟩⟩⟩, fun c => ⟨⟨hB, hdl⟩, fun k => ?_, fun k => ?_⟩⟩
  · have e : y' = y := by rw [hy] at hy'; exact (Option.some.inj hy').symm
    subst e
    have hv2 : vnetF l m = (0, y'.2) := by
      have := (first_at hf hy).2 k
      unfold vnetF
      rw [this, if_neg k]
    rw [hv2]
    exact ⟨fun _ => ⟨trivial, trivial⟩, fun q => by rcases q with q | q <;> exact absurd rfl q⟩
  · have e : y' = y := by rw [hy] at hy'; exact (Option.some.inj hy').symm
    subst e
    rw [big_digs]
    exact ⟨elem y' hy, ⟨hB, Big_digs _, hdl, Nat.le_trans (digI_len (elem y' hy)) (by decide)⟩, by omega, ⟨trivial, trivial, trivial⟩, invF_next hI hy k (part_stepL i0 p hy), by omega⟩
  · have e : y' = y := by rw [hy] at hy'; exact (Option.some.inj hy').symm
    subst e
    rw [big_digs]
    exact ⟨elem y' hy, ⟨hB, Big_digs _, hdl, Nat.le_trans (digI_len (elem y' hy)) (by decide)⟩, by omega, ⟨trivial, trivial, trivial⟩, invF_next hI hy k (part_stepM p hy), by omega⟩
  · rw [vnet_end hl hm h1 h2 (by omega) hf]
    have e : faultB (partS l m i) = 10 := by unfold faultB; rw [k]; rfl
    rw [e]
    exact ⟨fun _ => ⟨trivial, trivial⟩, fun q => by rcases q with q | q <;> exact absurd rfl q⟩
  · rw [vnet_end hl hm h1 h2 (by omega) hf]
    have e : faultB (partS l m i) = 0 := by unfold faultB; rw [k]; rfl
    rw [e]
    exact ⟨fun _ => ⟨trivial, trivial⟩, fun q => by rcases q with q | q <;> exact absurd rfl q⟩
set_option maxRecDepth 20000 in
theorem faults_pure (l m : List (Int × Int)) (h : InVs l ∧ InVs m) : Pure Tryd.prog 4 [.list .tmp Vl l, .list .tmp Vl m] (.bool true) :=
  Pure.of_g (E := env_faults l m) (ts := tsOf Tryd.f4) (ps := [.bool]) (r := (true, ())) (fn := Tryd.f4) (c := codeOf Tryd.f4) (specs_ok (P := Tryd.prog) rfl [sp_awake, sp_vnet, sp_of, sp_bplus, sp_bminus, sp_bint] [] rfl rfl) mixed Tryd.func4 rfl rfl (g := g_faults l m) (by delta g_faults start0; first | with_reducible exact Eq.refl _ | exact Eq.refl _) (by rw [g_faults_eq l m]; exact g_faults_ok l m h)
def q_faults (l m : List (Int × Int)) : Prop × V := (InVs l ∧ InVs m, (.bool true))
noncomputable def sp_faults : FSpec Tryd.prog where
  f := 4
  run := fun args => match args with
    | [v0, v1] => (match (asL Vl v0 : Option (List (Int × Int))) with | some l => (match (asL Vl v1 : Option (List (Int × Int))) with | some m => some (q_faults l m) | none => none) | none => none)
    | _ => none
  ok := fun args pre r h hp => by
    try dsimp only at h
    split at h
    · rename_i v0 v1
      cases h0 : (asL Vl v0 : Option (List (Int × Int))) with
      | none => rw [h0] at h; cases h
      | some l =>
      rw [h0] at h
      try dsimp only at h
      cases h1 : (asL Vl v1 : Option (List (Int × Int))) with
      | none => rw [h1] at h; cases h
      | some m =>
      rw [h1] at h
      try dsimp only at h
      have h := Option.some.inj h
      unfold q_faults at h
      cases h
      exact (faults_pure l m hp).weak (.cons (asL_weak h0) (.cons (asL_weak h1) .nil))
    · cases h

end Go.Proofs.YtkifiopfapnpnaaDoor
