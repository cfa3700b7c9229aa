/-
  order.Circle.
-/
import Derived.Test.YtojflfogjkajaaaOd8
section
namespace Go.Proofs.Ytojflfogjkajaaa.Od
open Go.Vm Go.Proofs.Ytojflfogjkajaaa.Gr Go.Proofs.Ytojflfogjkajaaa.Rc
def rowF (rd : Int → List Int) (all ahead : List Int) : List Int := all.filter fun v => decide (C rd all ahead v)
def wavN (rd : Int → List Int) (all : List Int) : Nat → List (List Int) → Option (List (List Int))
  | 0, out => if all.length ≤ out.flatten.length then some out else none
  | k + 1, out => if all.length ≤ out.flatten.length then some out else if rowF rd all out.flatten = [] then none else wavN rd all k (out ++ [rowF rd all out.flatten])
def wavR (rd : Int → List Int) (all : List Int) (out : List (List Int)) : Option (List (List Int)) := wavN rd all (all.length - out.flatten.length) out
theorem flat_snoc (out : List (List Int)) (r : List Int) : (out ++ [r]).flatten = out.flatten ++ r := by simp
theorem wavN_any (rd : Int → List Int) (all : List Int) : ∀ (k j : Nat) (out : List (List Int)), all.length - out.flatten.length ≤ k → all.length - out.flatten.length ≤ j → wavN rd all k out = wavN rd all j out := by
  have z : ∀ (j : Nat) (out : List (List Int)), all.length ≤ out.flatten.length → wavN rd all j out = some out := fun j out h => by
    cases j <;> rw [wavN, if_pos h]
  intro k
  induction k with
  | zero => intro j out h _; rw [z 0 out (by omega), z j out (by omega)]
  | succ k ih =>
    intro j out h1 h2
    by_cases h : all.length ≤ out.flatten.length
    · rw [z _ out h, z _ out h]
    · cases j with
      | zero => omega
      | succ j =>
        rw [wavN, wavN, if_neg h, if_neg h]
        split
        · rfl
        · rename_i hr
          have : 0 < (rowF rd all out.flatten).length := List.length_pos_iff.2 hr
          refine ih j _ ?_ ?_ <;> rw [flat_snoc, List.length_append] <;> omega
theorem wavR_eq (rd : Int → List Int) (all : List Int) (out : List (List Int)) : wavR rd all out = if all.length ≤ out.flatten.length then some out else if rowF rd all out.flatten = [] then none else wavR rd all (out ++ [rowF rd all out.flatten]) := by
  unfold wavR
  cases h : all.length - out.flatten.length with
  | zero =>
    have hn : all.length ≤ out.flatten.length := by omega
    rw [wavN, if_pos hn, if_pos hn]
  | succ k =>
    have hn : ¬ all.length ≤ out.flatten.length := by omega
    rw [wavN, if_neg hn, if_neg hn]
    split
    · rfl
    · rename_i hr
      have : 0 < (rowF rd all out.flatten).length := List.length_pos_iff.2 hr
      refine wavN_any rd all _ _ _ ?_ (Nat.le_refl _)
      rw [flat_snoc, List.length_append]
      omega
theorem sort_mem {l : List Int} {x : Int} : x ∈ sortF l ↔ x ∈ l := by
  unfold sortF
  exact List.mem_mergeSort
theorem sort_up {l : List Int} (h : l.Nodup) : Up (sortF l) := by
  have h1 : (sortF l).Pairwise fun a b => decide (a ≤ b) = true := List.pairwise_mergeSort (fun a b c h1 h2 => by simp at *; omega) (fun a b => by simp; omega) l
  have h2 : (sortF l).Nodup := (List.mergeSort_perm l _).nodup_iff.2 h
  refine (h1.and h2).imp fun {a b} h => ?_
  have := h.1
  simp only [decide_eq_true_eq] at this
  have := h.2
  omega
theorem sort_row {rd : Int → List Int} {all ahead P : List Int} (hu : Up all) (hp : Pend rd all ahead P) : sortF P = rowF rd all ahead := by
  refine up_ext (sort_up hp.nodup) (hu.filter _) fun x => ?_
  rw [sort_mem, hp.mem, rowF, List.mem_filter, decide_eq_true_eq]
  exact ⟨fun h => ⟨h.1, h⟩, fun h => h.2⟩
def wavS (R : GI) (sm : List Int) : Option (List (List Int)) := wavR (readsF R) (AL R sm) []
def wavA (R : GI) (sm : List Int) : List (List Int) := match wavS R sm with | some o => o | none => []
def wavE (R : GI) (sm : List Int) : Int := match wavS R sm with | some _ => 0 | none => 26
def VInv (R : GI) (sm P ahead : List Int) (R' : GI) (W : List (Int × Int)) (left : Int) : Prop :=
  R' = R ∧ Os (readsF R) (AL R sm) ahead ∧ W = mkM (AL R sm) (CN R sm ahead) ∧ left = (AL R sm).length - ahead.length ∧ Pend (readsF R) (AL R sm) ahead P
theorem VInv.start {R : GI} (sm : List Int) : VInv R sm (rdyB R sm (riseF sm)) [] R (mkM (AL R sm) (fB R sm (riseF sm))) (AL R sm).length := by
  refine ⟨rfl, Os.nil, fB_end R sm, by simp, ?_⟩
  rw [rdyB_end]
  exact Pend.begin (all_up _ _).nodup
theorem VInv.len {R : GI} {sm P ahead : List Int} {R' : GI} {W : List (Int × Int)} {left : Int} (h : VInv R sm P ahead R' W left) : P.length + ahead.length ≤ (AL R sm).length := h.2.2.2.2.le h.2.1
theorem VInv.perm {R : GI} {sm P Q ahead : List Int} {R' : GI} {W : List (Int × Int)} {left : Int} (h : VInv R sm P ahead R' W left) (hq : ∀ u, Q.count u = P.count u) : VInv R sm Q ahead R' W left := ⟨h.1, h.2.1, h.2.2.1, h.2.2.2.1, h.2.2.2.2.perm hq⟩
theorem VInv.next {R : GI} (hG : GOk R) {sm P ahead : List Int} {v : Int} {R' : GI} {W : List (Int × Int)} {left : Int} (h : VInv R sm (v :: P) ahead R' W left) : VInv R sm (P ++ takeR (rdsF R' v) W) (ahead ++ [v]) R' (takeW (rdsF R' v) W) (left - 1) := by
  obtain ⟨h1, h2, h3, h4, h6⟩ := h
  subst h1
  obtain ⟨hC, hS⟩ := h6.step (gd_of hG) h2
  refine ⟨rfl, h2.snoc hC, ?_, ?_, ?_⟩
  · rw [h3, take_cnt hG hC.1 hC.2.1]
  · rw [List.length_append, List.length_singleton, h4]
    push_cast
    omega
  · rw [h3, take_new]
    exact hS
theorem VInv.mok {R : GI} (hG : GOk R) {sm P ahead : List Int} {R' : GI} {W : List (Int × Int)} {left : Int} (h : VInv R sm P ahead R' W left) : MOk W := by
  rw [h.2.2.1]
  exact cn_ok hG _ _
def WInv (R : GI) (sm P : List Int) (out : List (List Int)) (R' : GI) (W : List (Int × Int)) (left : Int) : Prop := VInv R sm P out.flatten R' W left ∧ wavR (readsF R) (AL R sm) out = wavS R sm ∧ out.length ≤ out.flatten.length
theorem WInv.row {R : GI} {sm P : List Int} {out : List (List Int)} {R' : GI} {W : List (Int × Int)} {left : Int} (h : WInv R sm P out R' W left) (h0 : 0 < P.length) :
    wavR (readsF R) (AL R sm) (out ++ [sortF P]) = wavS R sm ∧ out.length + 1 ≤ (out ++ [sortF P]).flatten.length ∧ VInv R sm (sortF P) out.flatten R' W left ∧ 0 < (sortF P).length := by
  obtain ⟨h1, h2, h3⟩ := h
  have hl := h1.len
  have hs := sort_row (all_up _ _) h1.2.2.2.2
  have hsl : (sortF P).length = P.length := List.length_mergeSort _
  have e := wavR_eq (readsF R) (AL R sm) out
  rw [if_neg (by omega), if_neg (by rw [← hs]; exact List.ne_nil_of_length_pos (by omega)), ← hs, h2] at e
  refine ⟨e.symm, ?_, h1.perm fun u => (List.mergeSort_perm P _).count_eq u, by omega⟩
  rw [flat_snoc, List.length_append]
  omega
theorem WInv.stop {R : GI} {sm P : List Int} {out : List (List Int)} {R' : GI} {W : List (Int × Int)} {left : Int} (h : WInv R sm P out R' W left) (h0 : P = []) : (0 < left → wavS R sm = none) ∧ (¬ 0 < left → wavS R sm = some out) := by
  obtain ⟨h1, h2, h3⟩ := h
  have hl := h1.2.2.2.1
  have e := wavR_eq (readsF R) (AL R sm) out
  have hs := sort_row (all_up _ _) h1.2.2.2.2
  have hn : rowF (readsF R) (AL R sm) out.flatten = [] := by
    rw [← hs, h0]
    simp [sortF]
  rw [if_pos hn, h2] at e
  exact ⟨fun h => by rw [e, if_neg (by omega)], fun h => by rw [e, if_pos (by omega)]⟩
noncomputable def env_waves (R : GI) (sm : List Int) : Env where
  P := Try.prog
  ty := tys2
  upd := updsOf [so_begin.upd, so_take.upd, sortSpec 78 ⟨fun blk off cap zs w h1 h2 h3 => Try.slices_Sort_int blk off cap zs w h1 h2 h3, Try.slices_Sort_int_none⟩]
  joins := fun
    | 5 => .some { slots := [(7, .list .part I)], boxes := [], keep := [100002, 100001, 26], drop := [18, 21], inv := fun st (x : List Int × Unit) => x.1 = sortF (st.ints 37) }
    | _ => .none
  heads := fun
    | 3 => .some { slots := [(7, .slc 37 I), (8, .slc 26 LI)], boxes := [(100002, [.fop .graph, .opq 100001 .mii, .int .i64])], drop := [12, 15, 17], inv := fun _ (x : List Int × List (List Int) × GI × List (Int × Int) × Int × Unit) => WInv R sm x.1 x.2.1 x.2.2.1 x.2.2.2.1 x.2.2.2.2.1, measure := fun _ (x : List Int × List (List Int) × GI × List (Int × Int) × Int × Unit) => (AL R sm).length - x.2.1.flatten.length }
    | 8 => .some { slots := [(9, .slc 37 I), (29, .int .i64)], boxes := [(100002, [.fop .graph, .opq 100001 .mii, .int .i64])], keep := [26], inv := fun st (x : List Int × Int × GI × List (Int × Int) × Int × Unit) => 0 ≤ x.2.1 ∧ x.2.1 ≤ (st.lst 7).length ∧ VInv R sm ((st.lst 7).drop x.2.1.toNat ++ x.1) ((st.rows 26).dropLast.flatten ++ (st.lst 7).take x.2.1.toNat) x.2.2.1 x.2.2.2.1 x.2.2.2.2.1, measure := fun st (x : List Int × Int × GI × List (Int × Int) × Int × Unit) => ((st.lst 7).length - x.2.1).toNat }
    | _ => .none
def g_waves_vc (R : GI) (sm : List Int) : Prop :=
  ((List.length R ≤ (20000 : Nat) ∧ ∀ (v : Nat) (l : List Int), R[v]? = some l → l.Nodup ∧ ∀ (x : Int), x ∈ l → (0 : Int) ≤ x ∧ x < (↑(List.length R) : Int) ∧ x ≠ (↑v : Int)) ∧ sm.length ≤ (1000000 : Nat) ∧ ∀ (x : Int), x ∈ sm → (-9223372036854775808 : Int) ≤ x ∧ x ≤ (9223372036854775807 : Int)) ∧ (True ∧ WInv R sm (rdyB R sm (riseF sm)) [] R (mkM (AL R sm) (fB R sm (riseF sm))) (↑(AL R sm).length : Int)) ∧ ∀ (x : List Int × List (List Int) × List (List Int) × List (Int × Int) × Int × Unit), WInv R sm x.1 x.2.1 x.2.2.1 x.2.2.2.1 x.2.2.2.2.1 → (decide ((0 : Int) < (↑x.1.length : Int)) = true → (x.1.length ≤ (1000000000 : Nat) ∧ (some (Obj.box [V.fopq OK.graph x.2.2.1, V.oref (100001 : Nat), V.int IntKind.i64 x.2.2.2.2.1]) = some (Obj.box [V.fopq OK.graph x.2.2.1, V.oref (100001 : Nat), V.int IntKind.i64 x.2.2.2.2.1]) ∧ some (Obj.opq OK.mii x.2.2.2.1) = some (Obj.opq OK.mii x.2.2.2.1) ∧ some (Obj.arr (0 : Nat) LI x.2.1) = some (Obj.arr (0 : Nat) LI x.2.1) ∧ True) ∧ (x.1.mergeSort fun x y => decide (x ≤ y)) = x.1.mergeSort fun x y => decide (x ≤ y)) ∧ ∀ (x_1 : List Int × Unit), (x_1.1 = x.1.mergeSort fun x y => decide (x ≤ y)) → ((x.2.1.length + (1 : Nat)) * (24 : Nat) ≤ (140737488355328 : Nat) ∧ x.2.1.length + (1 : Nat) ≤ (4611686018427387904 : Nat)) ∧ ((some (Obj.arr (1 : Nat) LI (x.2.1 ++ [x_1.1])) = some (Obj.arr (1 : Nat) LI (x.2.1 ++ [x_1.1])) ∧ True) ∧ (0 : Int) ≤ (0 : Int) ∧ (0 : Int) ≤ (↑x_1.1.length : Int) ∧ VInv R sm (List.drop (Int.toNat (0 : Int)) x_1.1 ++ []) ((x.2.1 ++ [x_1.1]).dropLast.flatten ++ List.take (Int.toNat (0 : Int)) x_1.1) x.2.2.1 x.2.2.2.1 x.2.2.2.2.1) ∧ ∀ (x_2 : List Int × Int × List (List Int) × List (Int × Int) × Int × Unit), (0 : Int) ≤ x_2.2.1 ∧ x_2.2.1 ≤ (↑x_1.1.length : Int) ∧ VInv R sm (List.drop x_2.2.1.toNat x_1.1 ++ x_2.1) ((x.2.1 ++ [x_1.1]).dropLast.flatten ++ List.take x_2.2.1.toNat x_1.1) x_2.2.2.1 x_2.2.2.2.1 x_2.2.2.2.2.1 → (decide (x_2.2.1 < (↑x_1.1.length : Int)) = true → ((0 : Int) ≤ x_2.2.1 ∧ x_2.2.1 < (↑x_1.1.length : Int)) ∧ ∀ (x_3 : Int), x_1.1[x_2.2.1.toNat]? = some x_3 → ((x_2.2.2.1.length ≤ (20000 : Nat) ∧ ∀ (v : Nat) (l : List Int), x_2.2.2.1[v]? = some l → l.Nodup ∧ ∀ (x : Int), x ∈ l → (0 : Int) ≤ x ∧ x < (↑x_2.2.2.1.length : Int) ∧ x ≠ (↑v : Int)) ∧ MOk x_2.2.2.2.1 ∧ (-1000000 : Int) ≤ x_2.2.2.2.2.1 ∧ x_2.2.2.2.2.1 ≤ (1000000 : Int)) ∧ ((x_2.1.length + (takeR (rdsF x_2.2.2.1 x_3) x_2.2.2.2.1).length) * (8 : Nat) ≤ (140737488355328 : Nat) ∧ x_2.1.length + (takeR (rdsF x_2.2.2.1 x_3) x_2.2.2.2.1).length ≤ (4611686018427387904 : Nat)) ∧ ((-9223372036854775808 : Int) ≤ x_2.2.1 + (1 : Int) ∧ x_2.2.1 + (1 : Int) ≤ (9223372036854775807 : Int)) ∧ (some (Obj.arr (1 : Nat) LI (x.2.1 ++ [x_1.1])) = some (Obj.arr (1 : Nat) LI (x.2.1 ++ [x_1.1])) ∧ True) ∧ ((0 : Int) ≤ x_2.2.1 + (1 : Int) ∧ x_2.2.1 + (1 : Int) ≤ (↑x_1.1.length : Int) ∧ VInv R sm (List.drop (x_2.2.1 + (1 : Int)).toNat x_1.1 ++ (x_2.1 ++ takeR (rdsF x_2.2.2.1 x_3) x_2.2.2.2.1)) ((x.2.1 ++ [x_1.1]).dropLast.flatten ++ List.take (x_2.2.1 + (1 : Int)).toNat x_1.1) x_2.2.2.1 (takeW (rdsF x_2.2.2.1 x_3) x_2.2.2.2.1) (x_2.2.2.2.2.1 - (1 : Int))) ∧ ((↑x_1.1.length : Int) - (x_2.2.1 + (1 : Int))).toNat < ((↑x_1.1.length : Int) - x_2.2.1).toNat) ∧ (decide (x_2.2.1 < (↑x_1.1.length : Int)) = false → True ∧ WInv R sm x_2.1 (x.2.1 ++ [x_1.1]) x_2.2.2.1 x_2.2.2.2.1 x_2.2.2.2.2.1 ∧ (AL R sm).length - (x.2.1 ++ [x_1.1]).flatten.length < (AL R sm).length - x.2.1.flatten.length)) ∧ (decide ((0 : Int) < (↑x.1.length : Int)) = false → (decide ((0 : Int) < x.2.2.2.2.1) = true → ([], (26 : Int), ()) = (wavA R sm, wavE R sm, ())) ∧ (decide ((0 : Int) < x.2.2.2.2.1) = false → (x.2.1, (0 : Int), ()) = (wavA R sm, wavE R sm, ())))
theorem g_waves_eq (R : GI) (sm : List Int) : Cond (env_waves R sm) Try.f40 [.fopq .graph R, .list .tmp (.int .i64) sm] [.list .part LI, .int .i64] (wavA R sm, wavE R sm, ()) = g_waves_vc R sm := by kernel_rfl
theorem g_waves_ok (R : GI) (sm : List Int) (h : GOk R ∧ sm.length ≤ 1000000 ∧ ∀ x ∈ sm, -9223372036854775808 ≤ x ∧ x ≤ 9223372036854775807) : g_waves_vc R sm := by
  unfold g_waves_vc
  simp only [decide_eq_true_eq, decide_eq_false_iff_not, Bool.not_eq_true', Bool.not_eq_false', Bool.not_true, Bool.not_false]
  obtain ⟨hG, hl, hb⟩ := h
  have hR := hG.1
  have hal := al_len R sm
  refine ⟨⟨hG, hl, hb⟩, ⟨trivial, VInv.start sm, rfl, Nat.le_refl _⟩, fun x hx => ⟨fun c0 => ⟨⟨by have := hx.1.len; omega, ⟨trivial, trivial, trivial, trivial⟩, trivial⟩, fun y hy => ?_⟩, fun c0 => ?_⟩⟩
  · have c0' : 0 < x.1.length := by omega
    obtain ⟨r1, r2, r3, r4⟩ := hx.row c0'
    have hy : y.1 = sortF x.1 := hy
    rw [hy, List.dropLast_concat]
    have hlen := hx.1.len
    have hol := hx.2.2
    have hsl : (sortF x.1).length = x.1.length := List.length_mergeSort _
    refine ⟨⟨by omega, by omega⟩, ⟨⟨trivial, trivial⟩, by omega, by omega, ?_⟩, fun z ⟨b1, b2, b3⟩ => ?_⟩
    · show VInv R sm (sortF x.1 ++ []) (x.2.1.flatten ++ []) _ _ _
      rw [List.append_nil, List.append_nil]
      exact r3
    · have hzl := b3.len
      rw [List.length_append, List.length_append] at hzl
      have hzr := b3.1
      have hz4 := b3.2.2.2.1
      rw [List.length_append] at hz4
      refine ⟨fun c1 => ⟨⟨b1, c1⟩, fun v hv => ?_⟩, fun c1 => ⟨trivial, ⟨?_, r1, ?_⟩, ?_⟩⟩
      · have hd : (sortF x.1).drop z.2.1.toNat = v :: (sortF x.1).drop (z.2.1 + 1).toNat := by
          obtain ⟨hi, e⟩ := List.getElem?_eq_some_iff.1 hv
          rw [show (z.2.1 + 1).toNat = z.2.1.toNat + 1 by omega, List.drop_eq_getElem_cons hi, e]
        have hs : (sortF x.1).take (z.2.1 + 1).toNat = (sortF x.1).take z.2.1.toNat ++ [v] := by
          rw [show (z.2.1 + 1).toNat = z.2.1.toNat + 1 by omega, take_snoc hv]
        have hm := b3.mok hG
        rw [hd, List.cons_append] at b3
        have hn := b3.next hG
        have t1 := takeR_len (rdsF z.2.2.1 v) z.2.2.2.1
        have t2 := rds_le (R := z.2.2.1) (by rw [hzr]; exact hG) v
        refine ⟨⟨?_, hm, by omega, by omega⟩, by omega, by omega, ⟨trivial, trivial⟩, ⟨by omega, by omega, ?_⟩, by omega⟩
        · rw [hzr]
          exact hG
        · rw [hs, ← List.append_assoc, ← List.append_assoc]
          exact hn
      · rw [List.drop_eq_nil_of_le (by omega), List.take_of_length_le (by omega), List.nil_append, ← flat_snoc] at b3
        exact b3
      · rw [List.length_append]
        exact r2
      · rw [flat_snoc, List.length_append]
        omega
  · obtain ⟨s1, s2⟩ := hx.stop (List.eq_nil_of_length_eq_zero (by omega))
    exact ⟨fun e1 => by rw [wavA, wavE, s1 e1], fun e1 => by rw [wavA, wavE, s2 e1]⟩
set_option maxRecDepth 20000
theorem waves_pure (R : GI) (sm : List Int) (h : GOk R ∧ sm.length ≤ 1000000 ∧ ∀ x ∈ sm, -9223372036854775808 ≤ x ∧ x ≤ 9223372036854775807) : Pure Try.prog 40 [.fopq .graph R, .list .tmp (.int .i64) sm] (.tuple [.list .part LI (wavA R sm), .int .i64 (wavE R sm)]) :=
  by have k := Pure.of_cond (g_waves_eq R sm) (g_waves_ok R sm h) (specs_ok rfl [] [so_begin.upd, so_take.upd, sortSpec 78 ⟨fun blk off cap zs w h1 h2 h3 => Try.slices_Sort_int blk off cap zs w h1 h2 h3, Try.slices_Sort_int_none⟩] rfl rfl) mixed Try.func40; exact k
noncomputable def q_waves (R : GI) (sm : List Int) : Prop × V := (GOk R ∧ sm.length ≤ 1000000 ∧ ∀ x ∈ sm, -9223372036854775808 ≤ x ∧ x ≤ 9223372036854775807, (.tuple [.list .part LI (wavA R sm), .int .i64 (wavE R sm)]))
noncomputable def sp_waves : FSpec Try.prog where
 f := 40
 run := fun
  | [.fopq .graph R, v1] => (asL (.int .i64) v1 : Option (List Int)).bind fun sm => some (q_waves R sm)
  | _ => none
 ok := fun args pre r h hp => by
  split at h
  · rename_i R v1
    obtain ⟨sm, h1, h⟩ := Option.bind_eq_some_iff.1 h
    exact of_q h hp fun h => (waves_pure R sm h).weak (.cons (.refl _) (.cons (asL_weak h1) .nil))
  · cases h
end Go.Proofs.Ytojflfogjkajaaa.Od
end
section
namespace Go.Proofs.Ytojflfogjkajaaa.Od
open Go.Vm Go.Proofs.Ytojflfogjkajaaa.Gr Go.Proofs.Ytojflfogjkajaaa.Rc
section
variable {rd rs : Int → List Int} {all out : List Int}
inductive Bt (rd : Int → List Int) (all : List Int) : List Int → Prop
  | nil : Bt rd all []
  | snoc {out : List Int} {v : Int} : Bt rd all out → C rd all out v → Bt rd all (out ++ [v])
theorem Bt.os (h : Bt rd all out) : Os rd all out := by
  induction h with
  | nil => exact Os.nil
  | snoc _ hc ih => exact ih.snoc hc
theorem Bt.avoid (h : Bt rd all out) {H : Int → Prop} (hH : ∀ v, H v → v ∈ all ∧ ∃ w, w ∈ rd v ∧ H w) : ∀ v ∈ out, ¬ H v := by
  induction h with
  | nil => intro v hv; cases hv
  | @snoc out v hb hc ih =>
    intro u hu hHu
    rcases List.mem_append.1 hu with hu | hu
    · exact ih u hu hHu
    · rw [List.mem_singleton.1 hu] at hHu
      obtain ⟨w, h1, h2⟩ := (hH v hHu).2
      exact ih w (cnt_zero.1 hc.2.2 w h1 (hH w h2).1) h2
theorem stuck_held (hs : ∀ u, ¬ C rd all out u) {v : Int} (hv : v ∈ all) (ho : v ∉ out) : ∃ w, w ∈ rd v ∧ w ∈ all ∧ w ∉ out := by
  refine Classical.byContradiction fun hn => hs v ⟨hv, ho, cnt_zero.2 fun w h1 h2 => ?_⟩
  exact Classical.byContradiction fun h3 => hn ⟨w, h1, h2, h3⟩
theorem Bt.sub {o1 o2 : List Int} (s1 : ∀ u, ¬ C rd all o1 u) (h2 : Bt rd all o2) : ∀ v ∈ o2, v ∈ o1 := fun v hv => by
  have := h2.avoid (H := fun v => v ∈ all ∧ v ∉ o1) (fun v hv => ⟨hv.1, by
    obtain ⟨w, a, b, c⟩ := stuck_held s1 hv.1 hv.2
    exact ⟨w, a, b, c⟩⟩) v hv
  exact Classical.byContradiction fun hn => this ⟨h2.os.sub v hv, hn⟩
def ordM (rd : Int → List Int) (all : List Int) : Nat → List Int → List Int
  | 0, out => out
  | k + 1, out => match nextF rd all out with
    | none => out
    | some v => ordM rd all k (out ++ [v])
theorem next_C {v : Int} (h : nextF rd all out = some v) : C rd all out v := by
  have := List.find?_some h
  exact of_decide_eq_true this
theorem next_no (h : nextF rd all out = none) (u : Int) : ¬ C rd all out u := fun hc => by
  have := List.find?_eq_none.1 h u hc.1
  exact this (decide_eq_true hc)
theorem full_no (h : Os rd all out) (hl : all.length ≤ out.length) (u : Int) : ¬ C rd all out u := fun hc => by
  have := (h.snoc hc).le
  rw [List.length_append, List.length_singleton] at this
  omega
theorem ordM_ok : ∀ (k : Nat) (out : List Int), Bt rd all out → all.length - out.length ≤ k → Bt rd all (ordM rd all k out) ∧ ∀ u, ¬ C rd all (ordM rd all k out) u
  | 0, out, hb, hl => ⟨hb, full_no (out := out) hb.os (by omega)⟩
  | k + 1, out, hb, hl => by
    unfold ordM
    split
    · rename_i h
      exact ⟨hb, next_no h⟩
    · rename_i v h
      exact ordM_ok k _ (hb.snoc (next_C h)) (by rw [List.length_append, List.length_singleton]; omega)
def endF (rd : Int → List Int) (all : List Int) : List Int := ordM rd all all.length []
theorem end_ok : Bt rd all (endF rd all) ∧ ∀ u, ¬ C rd all (endF rd all) u := ordM_ok _ _ .nil (by simp)
theorem Bt.end_iff (h : Bt rd all out) (hs : ∀ u, ¬ C rd all out u) (v : Int) : v ∈ out ↔ v ∈ endF rd all := ⟨Bt.sub end_ok.2 h v, Bt.sub hs end_ok.1 v⟩
theorem ordN_some : ∀ (k : Nat) (out o : List Int), Bt rd all out → ordN rd all k out = some o → Bt rd all o ∧ all.length ≤ o.length
  | 0, out, o, hb, h => by
    unfold ordN at h
    split at h
    · cases h
      exact ⟨hb, by assumption⟩
    · cases h
  | k + 1, out, o, hb, h => by
    unfold ordN at h
    split at h
    · cases h
      exact ⟨hb, by assumption⟩
    · split at h
      · cases h
      · rename_i v hv
        exact ordN_some k _ _ (hb.snoc (next_C hv)) h
theorem ordN_none : ∀ (k : Nat) (out : List Int), Bt rd all out → all.length - out.length ≤ k → ordN rd all k out = none → ∃ o, Bt rd all o ∧ (∀ u, ¬ C rd all o u) ∧ o.length < all.length
  | 0, out, hb, hl, h => by
    unfold ordN at h
    split at h
    · cases h
    · omega
  | k + 1, out, hb, hl, h => by
    unfold ordN at h
    split at h
    · cases h
    · rename_i hn
      split at h
      · rename_i hv
        exact ⟨out, hb, next_no hv, by omega⟩
      · rename_i v hv
        exact ordN_none k _ (hb.snoc (next_C hv)) (by rw [List.length_append, List.length_singleton]; omega) h
theorem ordR_some {o : List Int} (h : ordR rd all [] = some o) : Bt rd all o ∧ all.length ≤ o.length := ordN_some _ _ _ .nil h
theorem ordR_none (h : ordR rd all [] = none) : ∃ o, Bt rd all o ∧ (∀ u, ¬ C rd all o u) ∧ o.length < all.length := ordN_none _ _ .nil (by simp) h
theorem ordR_end (hn : all.Nodup) : (∃ o, ordR rd all [] = some o) ↔ ∀ v ∈ all, v ∈ endF rd all := by
  constructor
  · rintro ⟨o, h⟩ v hv
    obtain ⟨hb, hl⟩ := ordR_some h
    refine Bt.sub end_ok.2 hb v ?_
    refine Classical.byContradiction fun hno => ?_
    have : (v :: o).length ≤ all.length := sub_len (List.nodup_cons.2 ⟨hno, hb.os.nd⟩) fun x hx => by
      rcases List.mem_cons.1 hx with rfl | hx
      · exact hv
      · exact hb.os.sub x hx
    rw [List.length_cons] at this
    omega
  · intro h
    cases e : ordR rd all [] with
    | some o => exact ⟨o, rfl⟩
    | none =>
      obtain ⟨o, hb, hs, hl⟩ := ordR_none e
      have : all.length ≤ o.length := sub_len hn fun v hv => (hb.end_iff hs v).2 (h v hv)
      omega
end
def hel (R : GI) (sm : List Int) (v : Int) : Bool := (AL R sm).contains v && !(endF (readsF R) (AL R sm)).contains v
theorem hel_iff {R : GI} {sm : List Int} {v : Int} : hel R sm v = true ↔ v ∈ AL R sm ∧ v ∉ endF (readsF R) (AL R sm) := by
  unfold hel
  rw [Bool.and_eq_true, List.contains_iff_mem, Bool.not_eq_true', Bool.eq_false_iff]
  exact ⟨fun ⟨h1, h2⟩ => ⟨h1, fun h => h2 (List.contains_iff_mem.2 h)⟩, fun ⟨h1, h2⟩ => ⟨h1, fun h => h2 (List.contains_iff_mem.1 h)⟩⟩
theorem hel_next {R : GI} {sm : List Int} {v : Int} (h : hel R sm v = true) : ∃ w, w ∈ readsF R v ∧ hel R sm w = true := by
  obtain ⟨h1, h2⟩ := hel_iff.1 h
  obtain ⟨w, a, b, c⟩ := stuck_held end_ok.2 h1 h2
  exact ⟨w, a, hel_iff.2 ⟨b, c⟩⟩
theorem hel_W {R : GI} {sm ahead : List Int} {R' : GI} {W : List (Int × Int)} {left : Int} (hb : Bt (readsF R) (AL R sm) ahead) (h : VInv R sm [] ahead R' W left) (v : Int) : decide (0 < mGet W v) = hel R sm v := by
  have hs : ∀ u, ¬ C (readsF R) (AL R sm) ahead u := fun u hc => by
    have := h.2.2.2.2.mem.2 hc
    cases this
  rw [h.2.2.1, mGet_mk, Bool.eq_iff_iff, decide_eq_true_eq, hel_iff, ← hb.end_iff hs v]
  constructor
  · intro hp
    split at hp
    · rename_i hv
      refine ⟨hv, fun ho => ?_⟩
      have : cntO (readsF R) (AL R sm) ahead v = 0 := cnt_zero.2 fun w h1 h2 => hb.os.clo v ho w h1 h2
      rw [CN, this] at hp
      exact absurd hp (by decide)
    · exact absurd hp (by decide)
  · rintro ⟨hv, ho⟩
    rw [if_pos hv, CN]
    refine Classical.byContradiction fun hn => hs v ⟨hv, ho, by omega⟩
def ixF (p : Int → Bool) (l : List Int) : Int := match l.findIdx? p with
  | some i => (i : Int)
  | none => -1
theorem ixF_none {p : Int → Bool} {l : List Int} (h : l.any p = false) : ixF p l = -1 := by
  have : l.findIdx? p = none := List.findIdx?_eq_none_iff.2 fun x hx => by
    rw [List.any_eq_false] at h
    simpa using h x hx
  rw [ixF, this]
theorem ixF_at {p : Int → Bool} {l : List Int} {i : Nat} {v : Int} (hv : l[i]? = some v) (hp : p v = true) (ha : (l.take i).any p = false) : ixF p l = i := by
  have : l.findIdx? p = some i := by
    obtain ⟨hi, e⟩ := List.getElem?_eq_some_iff.1 hv
    rw [List.findIdx?_eq_some_iff_getElem]
    refine ⟨hi, by rw [e]; exact hp, fun j hj => ?_⟩
    rw [List.any_eq_false] at ha
    have := ha l[j] (List.mem_iff_getElem.2 ⟨j, by rw [List.length_take]; omega, by rw [List.getElem_take]⟩)
    simpa using this
  rw [ixF, this]
theorem ixF_cases (p : Int → Bool) (l : List Int) : (ixF p l = -1 ∧ ∀ x ∈ l, p x = false) ∨ ∃ (i : Nat) (v : Int), ixF p l = i ∧ l[i]? = some v ∧ p v = true := by
  unfold ixF
  cases h : l.findIdx? p with
  | none => exact .inl ⟨rfl, fun x hx => by simpa using List.findIdx?_eq_none_iff.1 h x hx⟩
  | some i =>
    obtain ⟨hi, h1, _⟩ := List.findIdx?_eq_some_iff_getElem.1 h
    exact .inr ⟨i, l[i], rfl, List.getElem?_eq_getElem hi, h1⟩
theorem ixF_congr {p q : Int → Bool} (h : ∀ v, p v = q v) (l : List Int) : ixF p l = ixF q l := by
  rw [show p = q from funext h]
abbrev idF (l : List Int) (v : Int) : Int := ixF (fun x => decide (v = x)) l
def lastF (way : List Int) : Int := way.getD (way.length - 1) 0
def nxt (R : GI) (sm : List Int) (u : Int) : Int := (readsF R u).getD (ixF (hel R sm) (readsF R u)).toNat 0
def cirN (R : GI) (sm : List Int) : Nat → List Int → List Int
  | 0, _ => []
  | k + 1, way => if 0 ≤ idF way (nxt R sm (lastF way)) then way.drop (idF way (nxt R sm (lastF way))).toNat else cirN R sm k (way ++ [nxt R sm (lastF way)])
def cirR (R : GI) (sm way : List Int) : List Int := cirN R sm ((AL R sm).length + 1 - way.length) way
def cirF (R : GI) (sm : List Int) : List Int := if ixF (hel R sm) sm < 0 then [] else cirR R sm [sm.getD (ixF (hel R sm) sm).toNat 0]
theorem cirR_eq (R : GI) (sm way : List Int) (h : way.length ≤ (AL R sm).length) : cirR R sm way = if 0 ≤ idF way (nxt R sm (lastF way)) then way.drop (idF way (nxt R sm (lastF way))).toNat else cirR R sm (way ++ [nxt R sm (lastF way)]) := by
  unfold cirR
  have : (AL R sm).length + 1 - way.length = ((AL R sm).length - way.length) + 1 := by omega
  rw [this, cirN]
  split
  · rfl
  · rw [show (AL R sm).length + 1 - (way ++ [nxt R sm (lastF way)]).length = (AL R sm).length - way.length by rw [List.length_append, List.length_singleton]; omega]
theorem nxt_ok {R : GI} {sm : List Int} {u : Int} (h : hel R sm u = true) : 0 ≤ ixF (hel R sm) (readsF R u) ∧ ixF (hel R sm) (readsF R u) < (readsF R u).length ∧ (readsF R u)[(ixF (hel R sm) (readsF R u)).toNat]? = some (nxt R sm u) ∧ hel R sm (nxt R sm u) = true ∧ nxt R sm u ∈ readsF R u := by
  obtain ⟨w, h1, h2⟩ := hel_next h
  unfold nxt
  rcases ixF_cases (hel R sm) (readsF R u) with ⟨_, h4⟩ | ⟨i, v, h3, h4, h5⟩
  · rw [h4 w h1] at h2
    cases h2
  · have hi := (List.getElem?_eq_some_iff.1 h4).1
    rw [h3, Int.toNat_natCast, List.getD_eq_getElem?_getD, h4]
    exact ⟨by omega, by omega, rfl, h5, List.mem_of_getElem? h4⟩
end Go.Proofs.Ytojflfogjkajaaa.Od
end
section
namespace Go.Proofs.Ytojflfogjkajaaa.Od
open Go.Vm Go.Proofs.Ytojflfogjkajaaa.Gr Go.Proofs.Ytojflfogjkajaaa.Rc
noncomputable def env_held (R : GI) (W : List (Int × Int)) (left v : Int) : Env where
  P := Try.prog
  ty := tys2
def g_held_vc (R : GI) (W : List (Int × Int)) (left : Int) (v : Int) : Prop :=
  ((-9223372036854775808 : Int) ≤ v ∧ v ≤ (9223372036854775807 : Int)) ∧ (decide ((0 : Int) < mGet W v), ()) = (decide ((0 : Int) < mGet W v), ())
theorem g_held_eq (R : GI) (W : List (Int × Int)) (left v : Int) : Cond (env_held R W left v) Try.f79 [.int .i64 v, .fptr [.fptr [.fopq .graph R, .fopq .mii W, .int .i64 left]]] [.bool] (decide (0 < mGet W v), ()) = g_held_vc R W left v := by kernel_rfl
theorem g_held_ok (R : GI) (W : List (Int × Int)) (left v : Int) (h : -9223372036854775808 ≤ v ∧ v ≤ 9223372036854775807) : g_held_vc R W left v := by
  unfold g_held_vc
  exact ⟨h, rfl⟩
set_option maxRecDepth 20000
theorem held_pure (R : GI) (W : List (Int × Int)) (left v : Int) (h : -9223372036854775808 ≤ v ∧ v ≤ 9223372036854775807) : Pure Try.prog 79 [.int .i64 v, .fptr [.fptr [.fopq .graph R, .fopq .mii W, .int .i64 left]]] (.bool (decide (0 < mGet W v))) :=
  by have k := Pure.of_cond (g_held_eq R W left v) (g_held_ok R W left v h) (specs_ok rfl [] [] rfl rfl) mixed Try.func79; exact k
noncomputable def q_held (R : GI) (W : List (Int × Int)) (left v : Int) : Prop × V := (-9223372036854775808 ≤ v ∧ v ≤ 9223372036854775807, (.bool (decide (0 < mGet W v))))
noncomputable def sp_held : FSpec Try.prog where
 f := 79
 run := fun
  | [.int .i64 v, .fptr [.fptr [.fopq .graph R, .fopq .mii W, .int .i64 left]]] => some (q_held R W left v)
  | _ => none
 ok := fun args pre r h hp => by
  split at h
  · rename_i v R W left
    exact of_q h hp fun h => (held_pure R W left v h).weak (.cons (.refl _) (.cons (.refl _) .nil))
  · cases h
noncomputable def env_ixf (R : GI) (W : List (Int × Int)) (left : Int) (l : List Int) : Env where
  P := Try.prog
  ty := tys2
  specs := specsOf [sp_held]
  heads := fun | 2 => .some { slots := [(8, .int .i64)], boxes := [], inv := fun _ (x : Int × Unit) => 0 ≤ x.1 ∧ x.1 ≤ l.length ∧ (l.take x.1.toNat).any (fun v => decide (0 < mGet W v)) = false, measure := fun _ (x : Int × Unit) => (l.length - x.1).toNat } | _ => .none
def g_ixf_vc (R : GI) (W : List (Int × Int)) (left : Int) (l : List Int) : Prop :=
  (True ∧ (0 : Int) ≤ (0 : Int) ∧ (0 : Int) ≤ (↑l.length : Int) ∧ ((List.take (Int.toNat (0 : Int)) l).any fun v => decide ((0 : Int) < mGet W v)) = false) ∧ ∀ (x : Int × Unit), (0 : Int) ≤ x.1 ∧ x.1 ≤ (↑l.length : Int) ∧ ((List.take x.1.toNat l).any fun v => decide ((0 : Int) < mGet W v)) = false → (decide (x.1 < (↑l.length : Int)) = true → ((0 : Int) ≤ x.1 ∧ x.1 < (↑l.length : Int)) ∧ ∀ (x_1 : Int), l[x.1.toNat]? = some x_1 → ((-9223372036854775808 : Int) ≤ x_1 ∧ x_1 ≤ (9223372036854775807 : Int)) ∧ (decide ((0 : Int) < mGet W x_1) = true → (x.1, ()) = (ixF (fun v => decide ((0 : Int) < mGet W v)) l, ())) ∧ (decide ((0 : Int) < mGet W x_1) = false → ((-9223372036854775808 : Int) ≤ x.1 + (1 : Int) ∧ x.1 + (1 : Int) ≤ (9223372036854775807 : Int)) ∧ True ∧ ((0 : Int) ≤ x.1 + (1 : Int) ∧ x.1 + (1 : Int) ≤ (↑l.length : Int) ∧ ((List.take (x.1 + (1 : Int)).toNat l).any fun v => decide ((0 : Int) < mGet W v)) = false) ∧ ((↑l.length : Int) - (x.1 + (1 : Int))).toNat < ((↑l.length : Int) - x.1).toNat)) ∧ (decide (x.1 < (↑l.length : Int)) = false → ((-1 : Int), ()) = (ixF (fun v => decide ((0 : Int) < mGet W v)) l, ()))
theorem g_ixf_eq (R : GI) (W : List (Int × Int)) (left : Int) (l : List Int) : Cond (env_ixf R W left l) Try.f80 [.list .tmp I l, .fn (.func 79) [] [.fptr [.fptr [.fopq .graph R, .fopq .mii W, .int .i64 left]]]] [.int .i64] (ixF (fun v => decide (0 < mGet W v)) l, ()) = g_ixf_vc R W left l := by kernel_rfl
theorem g_ixf_ok (R : GI) (W : List (Int × Int)) (left : Int) (l : List Int) (h : l.length ≤ 1000000000 ∧ ∀ x ∈ l, -9223372036854775808 ≤ x ∧ x ≤ 9223372036854775807) : g_ixf_vc R W left l := by
  unfold g_ixf_vc
  simp only [decide_eq_true_eq, decide_eq_false_iff_not, Bool.not_eq_true', Bool.not_eq_false', Bool.not_true, Bool.not_false]
  obtain ⟨hl, hb⟩ := h
  refine ⟨⟨trivial, by omega, by omega, rfl⟩, fun x ⟨a1, a2, a3⟩ => ⟨fun b1 => ⟨⟨a1, b1⟩, fun v hv => ⟨hb v (List.mem_of_getElem? hv), fun c1 => ?_, fun c1 => ⟨by omega, trivial, ⟨by omega, by omega, ?_⟩, by omega⟩⟩⟩, fun b1 => ?_⟩⟩
  · rw [ixF_at hv (decide_eq_true c1) a3, Int.toNat_of_nonneg a1]
  · rw [show (x.1 + 1).toNat = x.1.toNat + 1 by omega, take_snoc hv, List.any_append, a3]
    simpa using c1
  · rw [List.take_of_length_le (by omega)] at a3
    rw [ixF_none a3]
theorem ixf_pure (R : GI) (W : List (Int × Int)) (left : Int) (l : List Int) (h : l.length ≤ 1000000000 ∧ ∀ x ∈ l, -9223372036854775808 ≤ x ∧ x ≤ 9223372036854775807) : Pure Try.prog 80 [.list .tmp I l, .fn (.func 79) [] [.fptr [.fptr [.fopq .graph R, .fopq .mii W, .int .i64 left]]]] (.int .i64 (ixF (fun v => decide (0 < mGet W v)) l)) :=
  by have k := Pure.of_cond (g_ixf_eq R W left l) (g_ixf_ok R W left l h) (specs_ok rfl [sp_held] [] rfl rfl) mixed Try.func80; exact k
noncomputable def q_ixf (R : GI) (W : List (Int × Int)) (left : Int) (l : List Int) : Prop × V := (l.length ≤ 1000000000 ∧ ∀ x ∈ l, -9223372036854775808 ≤ x ∧ x ≤ 9223372036854775807, (.int .i64 (ixF (fun v => decide (0 < mGet W v)) l)))
noncomputable def sp_ixf : FSpec Try.prog where
 f := 80
 run := fun
  | [v0, .fn (.func 79) [] [.fptr [.fptr [.fopq .graph R, .fopq .mii W, .int .i64 left]]]] => (asL I v0 : Option (List Int)).bind fun l => some (q_ixf R W left l)
  | _ => none
 ok := fun args pre r h hp => by
  split at h
  · rename_i v0 R W left
    obtain ⟨l, h0, h⟩ := Option.bind_eq_some_iff.1 h
    exact of_q h hp fun h => (ixf_pure R W left l h).weak (.cons (asL_weak h0) (.cons (.refl _) .nil))
  · cases h
noncomputable def env_idx (l : List Int) (v : Int) : Env where
  P := Try.prog
  ty := tys2
  heads := fun | 2 => .some { slots := [(8, .int .i64)], boxes := [], inv := fun _ (x : Int × Unit) => 0 ≤ x.1 ∧ x.1 ≤ l.length ∧ (l.take x.1.toNat).any (fun x => decide (v = x)) = false, measure := fun _ (x : Int × Unit) => (l.length - x.1).toNat } | _ => .none
def g_idx_vc (l : List Int) (v : Int) : Prop :=
  (True ∧ (0 : Int) ≤ (0 : Int) ∧ (0 : Int) ≤ (↑l.length : Int) ∧ ((List.take (Int.toNat (0 : Int)) l).any fun x => decide (v = x)) = false) ∧ ∀ (x : Int × Unit), (0 : Int) ≤ x.1 ∧ x.1 ≤ (↑l.length : Int) ∧ ((List.take x.1.toNat l).any fun x => decide (v = x)) = false → (decide (x.1 < (↑l.length : Int)) = true → ((0 : Int) ≤ x.1 ∧ x.1 < (↑l.length : Int)) ∧ ∀ (x_1 : Int), l[x.1.toNat]? = some x_1 → (decide (v = x_1) = true → (x.1, ()) = (idF l v, ())) ∧ (decide (v = x_1) = false → ((-9223372036854775808 : Int) ≤ x.1 + (1 : Int) ∧ x.1 + (1 : Int) ≤ (9223372036854775807 : Int)) ∧ True ∧ ((0 : Int) ≤ x.1 + (1 : Int) ∧ x.1 + (1 : Int) ≤ (↑l.length : Int) ∧ ((List.take (x.1 + (1 : Int)).toNat l).any fun x => decide (v = x)) = false) ∧ ((↑l.length : Int) - (x.1 + (1 : Int))).toNat < ((↑l.length : Int) - x.1).toNat)) ∧ (decide (x.1 < (↑l.length : Int)) = false → ((-1 : Int), ()) = (idF l v, ()))
theorem g_idx_eq (l : List Int) (v : Int) : Cond (env_idx l v) Try.f81 [.list .tmp I l, .int .i64 v] [.int .i64] (idF l v, ()) = g_idx_vc l v := by kernel_rfl
theorem g_idx_ok (l : List Int) (v : Int) (h : l.length ≤ 1000000000) : g_idx_vc l v := by
  unfold g_idx_vc
  simp only [decide_eq_true_eq, decide_eq_false_iff_not, Bool.not_eq_true', Bool.not_eq_false', Bool.not_true, Bool.not_false]
  refine ⟨⟨trivial, by omega, by omega, rfl⟩, fun x ⟨a1, a2, a3⟩ => ⟨fun b1 => ⟨⟨a1, b1⟩, fun u hu => ⟨fun c1 => ?_, fun c1 => ⟨by omega, trivial, ⟨by omega, by omega, ?_⟩, by omega⟩⟩⟩, fun b1 => ?_⟩⟩
  · rw [idF, ixF_at hu (decide_eq_true c1) a3, Int.toNat_of_nonneg a1]
  · rw [show (x.1 + 1).toNat = x.1.toNat + 1 by omega, take_snoc hu, List.any_append, a3]
    simpa using c1
  · rw [List.take_of_length_le (by omega)] at a3
    rw [idF, ixF_none a3]
theorem idx_pure (l : List Int) (v : Int) (h : l.length ≤ 1000000000) : Pure Try.prog 81 [.list .tmp I l, .int .i64 v] (.int .i64 (idF l v)) :=
  by have k := Pure.of_cond (g_idx_eq l v) (g_idx_ok l v h) (specs_ok rfl [] [] rfl rfl) mixed Try.func81; exact k
noncomputable def q_idx (l : List Int) (v : Int) : Prop × V := (l.length ≤ 1000000000, (.int .i64 (idF l v)))
noncomputable def sp_idx : FSpec Try.prog where
 f := 81
 run := fun
  | [v0, .int .i64 v] => (asL I v0 : Option (List Int)).bind fun l => some (q_idx l v)
  | _ => none
 ok := fun args pre r h hp => by
  split at h
  · rename_i v0 v
    obtain ⟨l, h0, h⟩ := Option.bind_eq_some_iff.1 h
    exact of_q h hp fun h => (idx_pure l v h).weak (.cons (asL_weak h0) (.cons (.refl _) .nil))
  · cases h
noncomputable def env_clone (l : List Int) : Env where
  P := Try.prog
  ty := tys2
def g_clone_vc (l : List Int) : Prop :=
  ((true = true → l.length = (0 : Nat)) → ([], ()) = (l, ())) ∧ ((false = true → l.length = (0 : Nat)) → (((0 : Nat) + l.length) * (8 : Nat) ≤ (140737488355328 : Nat) ∧ (0 : Nat) + l.length ≤ (4611686018427387904 : Nat) ∧ ((0 : Nat) < l.length ∨ (0 : Nat) = (0 : Nat))) ∧ (l, ()) = (l, ()))
theorem g_clone_eq (l : List Int) : Cond (env_clone l) Try.f58 [.list .tmp I l] [.list .part I] (l, ()) = g_clone_vc l := by kernel_rfl
theorem g_clone_ok (l : List Int) (h : l.length ≤ 1000000000) : g_clone_vc l := by
  unfold g_clone_vc
  simp only [decide_eq_true_eq, decide_eq_false_iff_not, Bool.not_eq_true', Bool.not_eq_false', Bool.not_true, Bool.not_false]
  refine ⟨fun h0 => ?_, fun _ => ⟨⟨by omega, by omega, .inr trivial⟩, trivial⟩⟩
  rw [List.eq_nil_of_length_eq_zero (h0 trivial)]
theorem clone_pure (l : List Int) (h : l.length ≤ 1000000000) : Pure Try.prog 58 [.list .tmp I l] (.list .part I l) :=
  by have k := Pure.of_cond (g_clone_eq l) (g_clone_ok l h) (specs_ok rfl [] [] rfl rfl) mixed Try.func58; exact k
noncomputable def q_clone (l : List Int) : Prop × V := (l.length ≤ 1000000000, (.list .part I l))
noncomputable def sp_clone : FSpec Try.prog where
 f := 58
 run := fun
  | [v0] => (asL I v0 : Option (List Int)).bind fun l => some (q_clone l)
  | _ => none
 ok := fun args pre r h hp => by
  split at h
  · rename_i v0
    obtain ⟨l, h0, h⟩ := Option.bind_eq_some_iff.1 h
    exact of_q h hp fun h => (clone_pure l h).weak (.cons (asL_weak h0) .nil)
  · cases h
def CInv (R : GI) (sm : List Int) (R' : GI) (W : List (Int × Int)) (way : List Int) : Prop :=
  R' = R ∧ (∀ v, decide (0 < mGet W v) = hel R sm v) ∧ way.Nodup ∧ way ≠ [] ∧ (∀ v ∈ way, hel R sm v = true) ∧ cirR R sm way = cirF R sm
theorem CInv.len {R : GI} {sm : List Int} {R' : GI} {W : List (Int × Int)} {way : List Int} (h : CInv R sm R' W way) : way.length ≤ (AL R sm).length := sub_len h.2.2.1 fun v hv => (hel_iff.1 (h.2.2.2.2.1 v hv)).1
theorem CInv.last {R : GI} {sm : List Int} {R' : GI} {W : List (Int × Int)} {way : List Int} (h : CInv R sm R' W way) : way[way.length - 1]? = some (lastF way) ∧ hel R sm (lastF way) = true := by
  have hp := List.length_pos_iff.2 h.2.2.2.1
  have e : way[way.length - 1]? = some (lastF way) := by
    rw [lastF, List.getD_eq_getElem?_getD, List.getElem?_eq_getElem (by omega)]
    rfl
  exact ⟨e, h.2.2.2.2.1 _ (List.mem_of_getElem? e)⟩
theorem CInv.next {R : GI} {sm : List Int} {R' : GI} {W : List (Int × Int)} {way : List Int} (h : CInv R sm R' W way) (hn : ¬ 0 ≤ idF way (nxt R sm (lastF way))) : CInv R sm R' W (way ++ [nxt R sm (lastF way)]) := by
  have hl := h.len
  have hx := (nxt_ok h.last.2).2.2.2.1
  obtain ⟨h1, h2, h3, h4, h5, h6⟩ := h
  refine ⟨h1, h2, ?_, by simp, fun v hv => ?_, ?_⟩
  · rw [List.nodup_append]
    refine ⟨h3, List.nodup_cons.2 ⟨by simp, List.nodup_nil⟩, fun a ha b hb => ?_⟩
    rw [List.mem_singleton.1 hb]
    rcases ixF_cases (fun x => decide (nxt R sm (lastF way) = x)) way with ⟨_, h8⟩ | ⟨i, v, h7, _, _⟩
    · intro e
      have := h8 a ha
      rw [e, decide_eq_true rfl] at this
      cases this
    · exact absurd (show 0 ≤ idF way (nxt R sm (lastF way)) by rw [idF, h7]; omega) hn
  · rcases List.mem_append.1 hv with hv | hv
    · exact h5 v hv
    · rw [List.mem_singleton.1 hv]
      exact hx
  · rw [← h6, cirR_eq R sm way hl, if_neg hn]
noncomputable def env_circle (R : GI) (sm : List Int) : Env where
  P := Try.prog
  ty := tys2
  specs := specsOf [sp_ixf, sp_idx, sp_clone, sp_reads]
  upd := updsOf [so_begin.upd, so_take.upd]
  asArr := fun | 42 => true | _ => false
  heads := fun
    | 2 => .some { slots := [(6, .slc 31 I)], boxes := [(100002, [.fop .graph, .opq 100001 .mii, .int .i64])], keep := [5], drop := [14, 17, 19], inv := fun _ (x : List Int × GI × List (Int × Int) × Int × Unit) => ∃ ahead, Bt (readsF R) (AL R sm) ahead ∧ VInv R sm x.1 ahead x.2.1 x.2.2.1 x.2.2.2.1, measure := fun _ (x : List Int × GI × List (Int × Int) × Int × Unit) => x.2.2.2.1.toNat }
    | 10 => .some { slots := [(10, .slc 42 I)], boxes := [(100002, [.fop .graph, .opq 100001 .mii, .int .i64])], keep := [5], drop := [6, 20, 42], inv := fun _ (x : List Int × GI × List (Int × Int) × Int × Unit) => CInv R sm x.2.1 x.2.2.1 x.1, measure := fun _ (x : List Int × GI × List (Int × Int) × Int × Unit) => (AL R sm).length - x.1.length }
    | _ => .none
abbrev bx_circle_1  : _root_.Go.Vm.Obj := Obj.box [V.ptr ((100000 : Nat) + (100 : Nat) * (0 : Nat) + (1 : Nat) + (1 : Nat)) (0 : Nat)]
def g_circle_vc (R : GI) (sm : List Int) : Prop :=
  ((List.length R ≤ (20000 : Nat) ∧ ∀ (v : Nat) (l : List Int), R[v]? = some l → l.Nodup ∧ ∀ (x : Int), x ∈ l → (0 : Int) ≤ x ∧ x < (↑(List.length R) : Int) ∧ x ≠ (↑v : Int)) ∧ sm.length ≤ (1000000 : Nat) ∧ ∀ (x : Int), x ∈ sm → (-9223372036854775808 : Int) ≤ x ∧ x ≤ (9223372036854775807 : Int)) ∧ ((some bx_circle_1 = some bx_circle_1 ∧ True) ∧ ∃ ahead, Bt (readsF R) (AL R sm) ahead ∧ VInv R sm (rdyB R sm (riseF sm)) ahead R (mkM (AL R sm) (fB R sm (riseF sm))) (↑(AL R sm).length : Int)) ∧ ∀ (x : List Int × List (List Int) × List (Int × Int) × Int × Unit), (∃ ahead, Bt (readsF R) (AL R sm) ahead ∧ VInv R sm x.1 ahead x.2.1 x.2.2.1 x.2.2.2.1) → (decide ((0 : Int) < (↑x.1.length : Int)) = true → ((0 : Int) ≤ (0 : Int) ∧ (0 : Int) < (↑x.1.length : Int)) ∧ Int.toNat (0 : Int) < x.1.length ∧ ∀ (x_1 : Int), x.1[Int.toNat (0 : Int)]? = some x_1 → ((0 : Int) ≤ (1 : Int) ∧ (1 : Int) ≤ (↑x.1.length : Int)) ∧ ((x.2.1.length ≤ (20000 : Nat) ∧ ∀ (v : Nat) (l : List Int), x.2.1[v]? = some l → l.Nodup ∧ ∀ (x_2 : Int), x_2 ∈ l → (0 : Int) ≤ x_2 ∧ x_2 < (↑x.2.1.length : Int) ∧ x_2 ≠ (↑v : Int)) ∧ MOk x.2.2.1 ∧ (-1000000 : Int) ≤ x.2.2.2.1 ∧ x.2.2.2.1 ≤ (1000000 : Int)) ∧ (Int.toNat (1 : Int) + (x.1.length - Int.toNat (1 : Int)) = x.1.length ∧ (x.1.length - Int.toNat (1 : Int) + (takeR (rdsF x.2.1 x_1) x.2.2.1).length) * (8 : Nat) ≤ (140737488355328 : Nat) ∧ x.1.length - Int.toNat (1 : Int) + (takeR (rdsF x.2.1 x_1) x.2.2.1).length ≤ (4611686018427387904 : Nat)) ∧ (some (Obj.box [V.ptr (100002 : Nat) (0 : Nat)]) = some bx_circle_1 ∧ True) ∧ (∃ ahead, Bt (readsF R) (AL R sm) ahead ∧ VInv R sm (List.drop (Int.toNat (1 : Int)) x.1 ++ takeR (rdsF x.2.1 x_1) x.2.2.1) ahead x.2.1 (takeW (rdsF x.2.1 x_1) x.2.2.1) (x.2.2.2.1 - (1 : Int))) ∧ (x.2.2.2.1 - (1 : Int)).toNat < x.2.2.2.1.toNat) ∧ (decide ((0 : Int) < (↑x.1.length : Int)) = false → (sm.length ≤ (1000000000 : Nat) ∧ ∀ (x : Int), x ∈ sm → (-9223372036854775808 : Int) ≤ x ∧ x ≤ (9223372036854775807 : Int)) ∧ (decide (ixF (fun v => decide ((0 : Int) < mGet x.2.2.1 v)) sm < (0 : Int)) = true → ([], ()) = (cirF R sm, ())) ∧ (decide (ixF (fun v => decide ((0 : Int) < mGet x.2.2.1 v)) sm < (0 : Int)) = false → ((0 : Int) ≤ ixF (fun v => decide ((0 : Int) < mGet x.2.2.1 v)) sm ∧ ixF (fun v => decide ((0 : Int) < mGet x.2.2.1 v)) sm < (↑sm.length : Int)) ∧ ∀ (x_1 : Int), sm[(ixF (fun v => decide ((0 : Int) < mGet x.2.2.1 v)) sm).toNat]? = some x_1 → ((some (Obj.box [V.ptr (100002 : Nat) (0 : Nat)]) = some (Obj.box [V.ptr (100002 : Nat) (0 : Nat)]) ∧ True) ∧ CInv R sm x.2.1 x.2.2.1 [x_1]) ∧ ∀ (x : List Int × List (List Int) × List (Int × Int) × Int × Unit), CInv R sm x.2.1 x.2.2.1 x.1 → ((-9223372036854775808 : Int) ≤ (↑x.1.length : Int) - (1 : Int) ∧ (↑x.1.length : Int) - (1 : Int) ≤ (9223372036854775807 : Int)) ∧ ((0 : Int) ≤ (↑x.1.length : Int) - (1 : Int) ∧ (↑x.1.length : Int) - (1 : Int) < (↑x.1.length : Int)) ∧ ((↑x.1.length : Int) - (1 : Int)).toNat < x.1.length ∧ ∀ (x_2 : Int), x.1[((↑x.1.length : Int) - (1 : Int)).toNat]? = some x_2 → True ∧ ((readsF R x_2).length ≤ (1000000000 : Nat) ∧ ∀ (x : Int), x ∈ readsF R x_2 → (-9223372036854775808 : Int) ≤ x ∧ x ≤ (9223372036854775807 : Int)) ∧ ((0 : Int) ≤ ixF (fun v => decide ((0 : Int) < mGet x.2.2.1 v)) (readsF R x_2) ∧ ixF (fun v => decide ((0 : Int) < mGet x.2.2.1 v)) (readsF R x_2) < (↑(readsF R x_2).length : Int)) ∧ ∀ (x_3 : Int), (readsF R x_2)[(ixF (fun v => decide ((0 : Int) < mGet x.2.2.1 v)) (readsF R x_2)).toNat]? = some x_3 → x.1.length ≤ (1000000000 : Nat) ∧ (decide ((0 : Int) ≤ idF x.1 x_3) = true → ((0 : Int) ≤ idF x.1 x_3 ∧ idF x.1 x_3 ≤ (↑x.1.length : Int)) ∧ (List.take (x.1.length - (idF x.1 x_3).toNat) (List.drop (idF x.1 x_3).toNat x.1)).length ≤ (1000000000 : Nat) ∧ (List.take (x.1.length - (idF x.1 x_3).toNat) (List.drop (idF x.1 x_3).toNat x.1), ()) = (cirF R sm, ())) ∧ (decide ((0 : Int) ≤ idF x.1 x_3) = false → ((x.1.length + (1 : Nat)) * (8 : Nat) ≤ (140737488355328 : Nat) ∧ x.1.length + (1 : Nat) ≤ (4611686018427387904 : Nat)) ∧ (some (Obj.box [V.ptr (100002 : Nat) (0 : Nat)]) = some (Obj.box [V.ptr (100002 : Nat) (0 : Nat)]) ∧ True) ∧ CInv R sm x.2.1 x.2.2.1 (x.1 ++ [x_3]) ∧ (AL R sm).length - (x.1 ++ [x_3]).length < (AL R sm).length - x.1.length)))
theorem g_circle_eq (R : GI) (sm : List Int) : Cond (env_circle R sm) Try.f43 [.fopq .graph R, .list .tmp (.int .i64) sm] [.list .part I] (cirF R sm, ()) = g_circle_vc R sm := by kernel_rfl
theorem g_circle_ok (R : GI) (sm : List Int) (h : GOk R ∧ sm.length ≤ 1000000 ∧ ∀ x ∈ sm, -9223372036854775808 ≤ x ∧ x ≤ 9223372036854775807) : g_circle_vc R sm := by
  unfold g_circle_vc
  simp only [decide_eq_true_eq, decide_eq_false_iff_not, Bool.not_eq_true', Bool.not_eq_false', Bool.not_true, Bool.not_false]
  obtain ⟨hG, hl, hb⟩ := h
  have hR := hG.1
  have hal := al_len R sm
  refine ⟨⟨hG, hl, hb⟩, ⟨⟨trivial, trivial⟩, [], .nil, VInv.start sm⟩, fun x ⟨ahead, hB, hV⟩ => ⟨fun c0 => ⟨⟨by omega, c0⟩, by simpa using c0, fun v hv => ?_⟩, fun c0 => ?_⟩⟩
  · have hlen := hV.len
    have hzr := hV.1
    have hz4 := hV.2.2.2.1
    obtain ⟨rest, hx⟩ : ∃ rest, x.1 = v :: rest := by
      cases hq : x.1 with
      | nil => rw [hq] at hv; cases hv
      | cons a r =>
        rw [hq] at hv
        have hv : some a = some v := hv
        cases hv
        exact ⟨r, rfl⟩
    have hm := hV.mok hG
    have t1 := takeR_len (rdsF x.2.1 v) x.2.2.1
    have t2 := rds_le (R := x.2.1) (by rw [hzr]; exact hG) v
    have hc0 : 0 < x.1.length := by omega
    rw [hx] at hV
    have hn := hV.next hG
    have hC := hV.2.2.2.2.mem.1 (List.mem_cons_self ..)
    refine ⟨by omega, ⟨?_, hm, by omega, by omega⟩, ⟨?_, ?_, ?_⟩, ⟨trivial, trivial⟩, ⟨ahead ++ [v], hB.snoc hC, ?_⟩, by omega⟩
    · rw [hzr]
      exact hG
    · show 1 + (x.1.length - 1) = x.1.length
      omega
    · show (x.1.length - 1 + _) * 8 ≤ _
      omega
    · show x.1.length - 1 + _ ≤ _
      omega
    · rw [hx]
      exact hn
  · have h0 : x.1 = [] := List.eq_nil_of_length_eq_zero (by omega)
    rw [h0] at hV
    have hW := hel_W hB hV
    have hzr := hV.1
    rw [ixF_congr hW sm]
    refine ⟨⟨by omega, hb⟩, fun c1 => by rw [cirF, if_pos c1], fun c1 => ?_⟩
    rcases ixF_cases (hel R sm) sm with ⟨h3, _⟩ | ⟨i, v, h3, h4, h5⟩
    · omega
    · have hi := (List.getElem?_eq_some_iff.1 h4).1
      refine ⟨by omega, fun u hu => ⟨⟨⟨trivial, trivial⟩, hzr, hW, List.nodup_cons.2 ⟨by simp, List.nodup_nil⟩, by simp, fun w hw => ?_, ?_⟩, fun y hC => ?_⟩⟩
      · rw [List.mem_singleton.1 hw]
        rw [h3, Int.toNat_natCast, h4] at hu
        cases hu
        exact h5
      · rw [cirF, if_neg c1, List.getD_eq_getElem?_getD, hu]
        rfl
      · have hp := List.length_pos_iff.2 hC.2.2.2.1
        have hyl := hC.len
        obtain ⟨l1, l2⟩ := hC.last
        have et : ((y.1.length : Int) - 1).toNat = y.1.length - 1 := by omega
        rw [et]
        refine ⟨by omega, by omega, by omega, fun z hz => ?_⟩
        rw [l1] at hz
        cases hz
        obtain ⟨r1, r2⟩ := reads_at hG (lastF y.1)
        obtain ⟨n1, n2, n3, n4, n5⟩ := nxt_ok l2
        rw [ixF_congr hC.2.1 (readsF R (lastF y.1))]
        refine ⟨trivial, ⟨by omega, fun w hw => ?_⟩, ⟨n1, n2⟩, fun t ht => ?_⟩
        · have d := r2 w hw
          have d1 := d.1
          have d2 := d.2
          omega
        · rw [n3] at ht
          cases ht
          have hce := cirR_eq R sm y.1 hyl
          refine ⟨by omega, fun e1 => ?_, fun e1 => ⟨by omega, ⟨trivial, trivial⟩, hC.next e1, ?_⟩⟩
          · have hle : idF y.1 (nxt R sm (lastF y.1)) ≤ y.1.length := by
              rcases ixF_cases (fun x => decide (nxt R sm (lastF y.1) = x)) y.1 with ⟨h7, _⟩ | ⟨i, v, h7, h8, _⟩
              · rw [idF, h7]; omega
              · have := (List.getElem?_eq_some_iff.1 h8).1
                rw [idF, h7]; omega
            have ed : List.take (y.1.length - (idF y.1 (nxt R sm (lastF y.1))).toNat) (List.drop (idF y.1 (nxt R sm (lastF y.1))).toNat y.1) = List.drop (idF y.1 (nxt R sm (lastF y.1))).toNat y.1 := List.take_of_length_le (by rw [List.length_drop]; exact Nat.le_refl _)
            rw [ed]
            refine ⟨⟨e1, hle⟩, by rw [List.length_drop]; omega, ?_⟩
            rw [if_pos e1, hC.2.2.2.2.2] at hce
            rw [hce]
          · have := (hC.next e1).len
            rw [List.length_append, List.length_singleton] at this ⊢
            omega
theorem circle_pure (R : GI) (sm : List Int) (h : GOk R ∧ sm.length ≤ 1000000 ∧ ∀ x ∈ sm, -9223372036854775808 ≤ x ∧ x ≤ 9223372036854775807) : Pure Try.prog 43 [.fopq .graph R, .list .tmp (.int .i64) sm] (.list .part I (cirF R sm)) :=
  by have k := Pure.of_cond (g_circle_eq R sm) (g_circle_ok R sm h) (specs_ok rfl [sp_ixf, sp_idx, sp_clone, sp_reads] [so_begin.upd, so_take.upd] rfl rfl) mixed Try.func43; exact k
noncomputable def q_circle (R : GI) (sm : List Int) : Prop × V := (GOk R ∧ sm.length ≤ 1000000 ∧ ∀ x ∈ sm, -9223372036854775808 ≤ x ∧ x ≤ 9223372036854775807, (.list .part I (cirF R sm)))
noncomputable def sp_circle : FSpec Try.prog where
 f := 43
 run := fun
  | [.fopq .graph R, v1] => (asL (.int .i64) v1 : Option (List Int)).bind fun sm => some (q_circle R sm)
  | _ => none
 ok := fun args pre r h hp => by
  split at h
  · rename_i R v1
    obtain ⟨sm, h1, h⟩ := Option.bind_eq_some_iff.1 h
    exact of_q h hp fun h => (circle_pure R sm h).weak (.cons (.refl _) (.cons (asL_weak h1) .nil))
  · cases h
end Go.Proofs.Ytojflfogjkajaaa.Od
end
