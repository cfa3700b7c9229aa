/-
  TallySheets, TallyGrows: the walks.
-/
import Derived.Test.YteaajihmfacinaaTa18
namespace Go.Proofs.Yteaajihmfacinaa.Ta
open Go.Vm
def NIn (N : List En) : Prop := NOk N
theorem NIn.wn {N : List En} (h : NIn N) : WN N := h.2.2
theorem shGo_len : ∀ (Z : List (Int × Rw)) (s : Int) (l : List Ro), shGo Z s = some l → l.length = Z.length
  | [], s, l, h => by cases h; rfl
  | (p, r) :: t, s, l, h => by
    rw [shGo] at h
    split at h
    · obtain ⟨m, h1, rfl⟩ := Option.map_eq_some_iff.1 h
      rw [List.length_cons, List.length_cons, shGo_len t _ m h1]
    · cases h
theorem rZ_len {N : List En} (h : FwE N) (e a q : Int) : ∀ ps : List Int, (rZ N e a q ps).length ≤ 10000 * ps.length
  | [] => by simp [rZ]
  | p :: r => by
    have h1 := rZ_len h e a q r
    have h2 := h.those e a p q
    rw [show rZ N e a q (p :: r) = rzP N e a q p ++ rZ N e a q r from rfl, List.length_append, List.length_cons, rzP, List.length_map]
    omega
theorem sh_len {N : List En} (h : FwE N) (e a q : Int) : (shR (rsF N e a q)).1.length ≤ 1000000 := by
  match hr : rsF N e a q with
  | none => simp [shR]
  | some l =>
    have h1 := shGo_len _ _ _ hr
    have h2 := rZ_len h e a q (perN N)
    have h3 := len_fold (m := N.map (·.1)) (l := [])
    rw [List.length_map, List.length_nil] at h3
    have h4 : (perN N).length ≤ 0 + N.length := h3
    have h5 := h.1
    show l.length ≤ _
    omega
noncomputable def env_sheets (N : List En) (n e a p q : Int) : Env where
  P := Try.prog
  ty := tys0
  specs := specsOf [sp_few24, sp_awake, sp_sheet, sp_rsheet]
  upd := updsOf [so_made.upd]
  frz := fun | 32 => true | 43 => true | _ => false
  heads := fun | 9 => some { slots := [(12, .int .i64)], boxes := [], keep := [5, 100100, 100101, 100102], inv := fun _ (x : Int × Unit) => 0 ≤ x.1 ∧ x.1 ≤ (shR (rsF N e a q)).1.length, measure := fun _ (x : Int × Unit) => ((shR (rsF N e a q)).1.length - x.1).toNat } | _ => none
abbrev bx_sheets_1 (N : List En) (n : Int) : _root_.Go.Vm.Obj := Obj.box [V.oref ((100000 : Nat) + (100 : Nat) * (1 : Nat)), V.oref ((100000 : Nat) + (100 : Nat) * (1 : Nat) + (1 : Nat)), V.int IntKind.i64 (madeF N n).e, V.int IntKind.i64 (madeF N n).n]
abbrev bx_sheets_2 (e : Int) (a : Int) (p : Int) (q : Int) : _root_.Go.Vm.Obj := Obj.box [V.int IntKind.i64 e, V.int IntKind.i64 a, V.int IntKind.i64 p, V.int IntKind.i64 q]
def g_sheets_vc (N : List En) (n : Int) (e : Int) (a : Int) (p : Int) (q : Int) : Prop :=
  NOk N ∧ N.length ≤ (9223372036854775807 : Nat) ∧ ((!few24 N) = false → (TRd { G := (madeF N n).G, H := (madeF N n).H, e := (madeF N n).e, n := (madeF N n).n } ∧ ((-9223372036854775808 : Int) ≤ e ∧ e ≤ (9223372036854775807 : Int)) ∧ (-9223372036854775808 : Int) ≤ a ∧ a ≤ (9223372036854775807 : Int)) ∧ FwE N ∧ ((!decide ((↑(shR (shF (madeF N n).G (madeF N n).H e a q)).1.length : Int) = (↑(shR (rsF N e a q)).1.length : Int))) = false → ((!decide ((shR (shF (madeF N n).G (madeF N n).H e a q)).2 = (shR (rsF N e a q)).2)) = true → (false, ()) = (true, ())) ∧ ((!decide ((shR (shF (madeF N n).G (madeF N n).H e a q)).2 = (shR (rsF N e a q)).2)) = false → ((some (bx_sheets_2 e a p q) = some (bx_sheets_2 e a p q) ∧ some (Obj.opq OK.grw ((madeF N n).G, none)) = some (Obj.opq OK.grw ((madeF N n).G, none)) ∧ some (Obj.opq OK.gpe ((madeF N n).H, none)) = some (Obj.opq OK.gpe ((madeF N n).H, none)) ∧ some (bx_sheets_1 N n) = some (bx_sheets_1 N n) ∧ True) ∧ (0 : Int) ≤ (0 : Int) ∧ (0 : Int) ≤ (↑(shR (rsF N e a q)).1.length : Int)) ∧ ∀ (x : Int × Unit), (0 : Int) ≤ x.1 ∧ x.1 ≤ (↑(shR (rsF N e a q)).1.length : Int) → (decide (x.1 < (↑(shR (rsF N e a q)).1.length : Int)) = true → ((0 : Int) ≤ x.1 ∧ x.1 < (↑(shR (shF (madeF N n).G (madeF N n).H e a q)).1.length : Int)) ∧ ∀ (x_1 : Int × Int × Int × Int), (shR (shF (madeF N n).G (madeF N n).H e a q)).1[x.1.toNat]? = some x_1 → ((0 : Int) ≤ x.1 ∧ x.1 < (↑(shR (rsF N e a q)).1.length : Int)) ∧ ∀ (x_2 : Int × Int × Int × Int), (shR (rsF N e a q)).1[x.1.toNat]? = some x_2 → ((0 : Int) ≤ x.1 ∧ x.1 < (↑(shR (rsF N e a q)).1.length : Int)) ∧ ∀ (x_3 : Int × Int × Int × Int), (shR (rsF N e a q)).1[x.1.toNat]? = some x_3 → ((0 : Int) ≤ x.1 ∧ x.1 < (↑(shR (rsF N e a q)).1.length : Int)) ∧ ∀ (x_4 : Int × Int × Int × Int), (shR (rsF N e a q)).1[x.1.toNat]? = some x_4 → ((0 : Int) ≤ x.1 ∧ x.1 < (↑(shR (rsF N e a q)).1.length : Int)) ∧ ∀ (x_5 : Int × Int × Int × Int), (shR (rsF N e a q)).1[x.1.toNat]? = some x_5 → ((!(decide (x_1.1 = x_2.1) && (decide (x_1.2.1 = x_3.2.1) && (decide (x_1.2.2.1 = x_4.2.2.1) && (decide (x_1.2.2.2 = x_5.2.2.2) && true))))) = true → (false, ()) = (true, ())) ∧ ((!(decide (x_1.1 = x_2.1) && (decide (x_1.2.1 = x_3.2.1) && (decide (x_1.2.2.1 = x_4.2.2.1) && (decide (x_1.2.2.2 = x_5.2.2.2) && true))))) = false → ((-9223372036854775808 : Int) ≤ x.1 + (1 : Int) ∧ x.1 + (1 : Int) ≤ (9223372036854775807 : Int)) ∧ (some (bx_sheets_2 e a p q) = some (bx_sheets_2 e a p q) ∧ some (Obj.opq OK.grw ((madeF N n).G, none)) = some (Obj.opq OK.grw ((madeF N n).G, none)) ∧ some (Obj.opq OK.gpe ((madeF N n).H, none)) = some (Obj.opq OK.gpe ((madeF N n).H, none)) ∧ some (Obj.box [V.oref (100100 : Nat), V.oref (100101 : Nat), V.int IntKind.i64 (madeF N n).e, V.int IntKind.i64 (madeF N n).n]) = some (bx_sheets_1 N n) ∧ True) ∧ ((0 : Int) ≤ x.1 + (1 : Int) ∧ x.1 + (1 : Int) ≤ (↑(shR (rsF N e a q)).1.length : Int)) ∧ ((↑(shR (rsF N e a q)).1.length : Int) - (x.1 + (1 : Int))).toNat < ((↑(shR (rsF N e a q)).1.length : Int) - x.1).toNat)) ∧ (decide (x.1 < (↑(shR (rsF N e a q)).1.length : Int)) = false → True ∧ (true, ()) = (true, ())))) ∧ ((!decide ((↑(shR (shF (madeF N n).G (madeF N n).H e a q)).1.length : Int) = (↑(shR (rsF N e a q)).1.length : Int))) = !false → (false, ()) = (true, ()))) ∧ ((!few24 N) = !false → True ∧ (true, ()) = (true, ()))
theorem g_sheets_eq (N : List En) (n e a p q : Int) : Cond (env_sheets N n e a p q) Try.f4 [.list .tmp EnT N, .int .i64 n, .agg [.int .i64 e, .int .i64 a, .int .i64 p, .int .i64 q]] [.bool] (true, ()) = g_sheets_vc N n e a p q := by kernel_rfl
theorem g_sheets_ok (N : List En) (n e a p q : Int) (h : NIn N ∧ WordI e ∧ WordI a) : g_sheets_vc N n e a p q := by
  obtain ⟨hN, he, ha⟩ := h
  unfold g_sheets_vc
  have key : few24 N = true → shF (madeF N n).G (madeF N n).H e a q = rsF N e a q := fun hf => sh_made n hf e a q
  refine ⟨hN, (by have := hN.1; omega), fun hf => ?_, fun _ => ⟨trivial, rfl⟩⟩
  have hf : few24 N = true := by simpa using hf
  rw [key hf]
  have hF := fw_of hN.wn hf
  have hl := sh_len hF e a q
  generalize shR (rsF N e a q) = R at hl ⊢
  obtain ⟨rs, c⟩ := R
  dsimp only at hl ⊢
  simp only [decide_true, Bool.not_true, Bool.not_false, decide_eq_true_eq, decide_eq_false_iff_not]
  refine ⟨⟨made_rd n hN.wn hf, he, ha⟩, hF, fun _ => ⟨(fun h => by cases h), fun _ => ⟨⟨⟨trivial, trivial, trivial, trivial, trivial⟩, by omega, by omega⟩, ?_⟩⟩, fun h => by cases h⟩
  rintro ⟨i, ⟨⟩⟩ ⟨h0, h1⟩
  dsimp only at h0 h1 ⊢
  refine ⟨fun c1 => ⟨⟨h0, c1⟩, fun x1 g1 => ⟨⟨h0, c1⟩, fun x2 g2 => ⟨⟨h0, c1⟩, fun x3 g3 => ⟨⟨h0, c1⟩, fun x4 g4 => ⟨⟨h0, c1⟩, fun x5 g5 => ?_⟩⟩⟩⟩⟩, fun _ => ⟨trivial, trivial⟩⟩
  rw [g1] at g2 g3 g4 g5
  cases g2
  cases g3
  cases g4
  cases g5
  simp only [decide_true, Bool.and_true, Bool.not_true]
  exact ⟨(fun h => by cases h), fun _ => ⟨by omega, ⟨trivial, trivial, trivial, trivial, trivial⟩, ⟨by omega, by omega⟩, by omega⟩⟩
set_option maxRecDepth 20000
theorem sheets_pure (N : List En) (n e a p q : Int) (h : NIn N ∧ WordI e ∧ WordI a) : Pure Try.prog 4 [.list .tmp EnT N, .int .i64 n, .agg [.int .i64 e, .int .i64 a, .int .i64 p, .int .i64 q]] (.bool true) :=
  by have k := Pure.of_cond (g_sheets_eq N n e a p q) (g_sheets_ok N n e a p q h) (specs_ok rfl [sp_few24, sp_awake, sp_sheet, sp_rsheet] [so_made.upd] rfl rfl) mixed Try.func4; exact k
def newI (n mp e a p q : Int) (ls : List Ln) : List Int := (thoseF (rowsG (lnP mp ls) n (e, a, p)) q).map (·.1)
theorem newI_next {n mp e a p q i : Int} {ml : List Ln} {y : Ln} (h0 : 0 ≤ i) (hy : ml[i.toNat]? = some y) :
    newI n mp e a p q (ml.take (i + 1).toNat) = newI n mp e a p q (ml.take i.toNat) ++ if mp = p ∧ y.1 = e ∧ y.2.1 = a ∧ (q = 0 ∨ y.2.2.1 = q) then [n + i + 1] else [] := by
  have hl := (List.getElem?_eq_some_iff.1 hy).1
  unfold newI
  rw [take_next h0 hy, lnP, List.map_append, rowsG_app, thoseF, List.filter_append, List.map_append]
  congr 1
  have e1 : n + ((List.map (fun y => (mp, y)) (ml.take i.toNat)).length : Int) = n + i := by
    rw [List.length_map, List.length_take]
    omega
  rw [e1]
  show List.map _ (List.filter (byP q) (if atP (mp, y) = (e, a, p) then rowP (n + i + 1) (mp, y) :: [] else [])) = _
  by_cases c : atP (mp, y) = (e, a, p)
  · rw [if_pos c]
    simp only [atP, Prod.mk.injEq] at c
    by_cases d : q = 0 ∨ y.2.2.1 = q
    · rw [if_pos ⟨c.2.2, c.1, c.2.1, d⟩, List.filter_cons_of_pos (show byP q (rowP (n + i + 1) (mp, y)) = true from decide_eq_true d)]
      rfl
    · rw [if_neg (fun h => d h.2.2.2), List.filter_cons_of_neg (show ¬ byP q (rowP (n + i + 1) (mp, y)) = true from fun hh => d (of_decide_eq_true hh))]
      rfl
  · rw [if_neg c, if_neg (fun h => c (by simp only [atP, Prod.mk.injEq]; exact ⟨h.2.1, h.2.2.1, h.1⟩))]
    rfl
theorem few_cons {x : En} {N : List En} (h : few24 ([x] ++ N) = true) : few24 N = true ∧ N.length ≤ 29 ∧ x.2.2.length ≤ 60 := by
  have h' := few_of h
  unfold few24 at h ⊢
  simp only [List.singleton_append, List.length_cons, List.any_cons, Bool.and_eq_true, decide_eq_true_eq, Bool.not_eq_true', Bool.or_eq_false_iff] at h ⊢
  have h1 := h'.2 x (by simp)
  exact ⟨⟨by omega, h.2.2⟩, by omega, h1⟩
theorem ids_add {d : TD} {L : List Pu} (h : Tells d L) (mp mr : Int) (ml : List Ln) (e a p q : Int) : idsF (addD d (mp, mr, ml)).G (e, a, p) q = idsF d.G (e, a, p) q ++ newI d.n mp e a p q ml := by
  have h2 := h.add (mp, mr, ml)
  rw [idsF, h2.rows, rowsG_app, thoseF, List.filter_append, List.map_append, idsF, h.rows, newI, h.n, Int.zero_add]
  rfl
noncomputable def env_grows (N : List En) (mp mr : Int) (ml : List Ln) (e a p q : Int) : Env where
  P := Try.prog
  ty := tys0
  specs := specsOf [sp_few24, sp_awake, sp_ids, sp_len, sp_sameInts]
  upd := updsOf [so_made.upd, so_add'.upd]
  asArr := fun | 17 => true | _ => false
  frz := fun | 112 => true | _ => false
  heads := fun | 9 => some { slots := [(10, .int .i64), (8, .slc 9000 I)], boxes := [], keep := [4, 5, 100200, 100201, 100202], drop := [16, 17, 18, 19, 36], inv := fun _ (x : Int × List Int × Unit) => 0 ≤ x.1 ∧ x.1 ≤ ml.length ∧ (x.2.1.length : Int) ≤ 20000 + x.1 ∧ x.2.1 = idsF (madeF N N.length).G (e, a, p) q ++ newI (madeF N N.length).n mp e a p q (ml.take x.1.toNat), measure := fun _ (x : Int × List Int × Unit) => (ml.length - x.1).toNat } | _ => none
noncomputable abbrev bx_grows_1 (N : List En) (mp : Int) (mr : Int) (ml : List Ln) (e : Int) : _root_.Go.Vm.Obj := Obj.box [V.oref ((100000 : Nat) + (100 : Nat) * (2 : Nat)), V.oref ((100000 : Nat) + (100 : Nat) * (2 : Nat) + (1 : Nat)), V.int IntKind.i64 (addR { G := (madeF N (↑N.length : Int)).G, H := (madeF N (↑N.length : Int)).H, e := (madeF N (↑N.length : Int)).e, n := (madeF N (↑N.length : Int)).n } (mp, mr, ml)).1.e, V.int IntKind.i64 (addR { G := (madeF N (↑N.length : Int)).G, H := (madeF N (↑N.length : Int)).H, e := (madeF N (↑N.length : Int)).e, n := (madeF N (↑N.length : Int)).n } (mp, mr, ml)).1.n]
noncomputable abbrev bx_grows_2 (N : List En) (mp : Int) (mr : Int) (ml : List Ln) (e : Int) : _root_.Go.Vm.Obj := Obj.box [V.oref (100200 : Nat), V.oref (100201 : Nat), V.int IntKind.i64 (addR { G := (madeF N (↑N.length : Int)).G, H := (madeF N (↑N.length : Int)).H, e := (madeF N (↑N.length : Int)).e, n := (madeF N (↑N.length : Int)).n } (mp, mr, ml)).1.e, V.int IntKind.i64 (addR { G := (madeF N (↑N.length : Int)).G, H := (madeF N (↑N.length : Int)).H, e := (madeF N (↑N.length : Int)).e, n := (madeF N (↑N.length : Int)).n } (mp, mr, ml)).1.n]
abbrev bx_grows_3 (e : Int) (a : Int) (p : Int) (q : Int) : _root_.Go.Vm.Obj := Obj.box [V.int IntKind.i64 e, V.int IntKind.i64 a, V.int IntKind.i64 p, V.int IntKind.i64 q]
abbrev bx_grows_4 (mp : Int) (mr : Int) (ml : List Ln) : _root_.Go.Vm.Obj := Obj.box [V.int IntKind.i64 mp, V.int IntKind.i64 mr, V.list LK.part LnT ml]
def g_grows_vc (N : List En) (mp : Int) (mr : Int) (ml : List Ln) (e : Int) (a : Int) (p : Int) (q : Int) : Prop :=
  NOk N ∧ (((1 : Nat) + N.length) * (40 : Nat) ≤ (140737488355328 : Nat) ∧ (1 : Nat) + N.length ≤ (4611686018427387904 : Nat)) ∧ ([(mp, mr, ml)] ++ N).length ≤ (9223372036854775807 : Nat) ∧ ((!few24 ([(mp, mr, ml)] ++ N)) = false → (TRd { G := (madeF N (↑N.length : Int)).G, H := (madeF N (↑N.length : Int)).H, e := (madeF N (↑N.length : Int)).e, n := (madeF N (↑N.length : Int)).n } ∧ SpOk (e, a, p)) ∧ True ∧ ((none = nS ∧ none = nS) ∧ LOk { G := (madeF N (↑N.length : Int)).G, H := (madeF N (↑N.length : Int)).H, e := (madeF N (↑N.length : Int)).e, n := (madeF N (↑N.length : Int)).n } mp ml ∧ (-1 : Int) ≤ (madeF N (↑N.length : Int)).e) ∧ ((!decide ((addR { G := (madeF N (↑N.length : Int)).G, H := (madeF N (↑N.length : Int)).H, e := (madeF N (↑N.length : Int)).e, n := (madeF N (↑N.length : Int)).n } (mp, mr, ml)).2 = (0 : Int))) = false → True ∧ ((-9223372036854775808 : Int) ≤ (madeF N (↑N.length : Int)).n + (↑ml.length : Int) ∧ (madeF N (↑N.length : Int)).n + (↑ml.length : Int) ≤ (9223372036854775807 : Int)) ∧ ((!decide ((addR { G := (madeF N (↑N.length : Int)).G, H := (madeF N (↑N.length : Int)).H, e := (madeF N (↑N.length : Int)).e, n := (madeF N (↑N.length : Int)).n } (mp, mr, ml)).1.n = (madeF N (↑N.length : Int)).n + (↑ml.length : Int))) = true → (false, ()) = (true, ())) ∧ ((!decide ((addR { G := (madeF N (↑N.length : Int)).G, H := (madeF N (↑N.length : Int)).H, e := (madeF N (↑N.length : Int)).e, n := (madeF N (↑N.length : Int)).n } (mp, mr, ml)).1.n = (madeF N (↑N.length : Int)).n + (↑ml.length : Int))) = false → ((some (bx_grows_4 mp mr ml) = some (bx_grows_4 mp mr ml) ∧ some (bx_grows_3 e a p q) = some (bx_grows_3 e a p q) ∧ some (Obj.opq OK.grw ((addR { G := (madeF N (↑N.length : Int)).G, H := (madeF N (↑N.length : Int)).H, e := (madeF N (↑N.length : Int)).e, n := (madeF N (↑N.length : Int)).n } (mp, mr, ml)).1.G, none)) = some (Obj.opq OK.grw ((addR { G := (madeF N (↑N.length : Int)).G, H := (madeF N (↑N.length : Int)).H, e := (madeF N (↑N.length : Int)).e, n := (madeF N (↑N.length : Int)).n } (mp, mr, ml)).1.G, none)) ∧ some (Obj.opq OK.gpe ((addR { G := (madeF N (↑N.length : Int)).G, H := (madeF N (↑N.length : Int)).H, e := (madeF N (↑N.length : Int)).e, n := (madeF N (↑N.length : Int)).n } (mp, mr, ml)).1.H, none)) = some (Obj.opq OK.gpe ((addR { G := (madeF N (↑N.length : Int)).G, H := (madeF N (↑N.length : Int)).H, e := (madeF N (↑N.length : Int)).e, n := (madeF N (↑N.length : Int)).n } (mp, mr, ml)).1.H, none)) ∧ some (bx_grows_1 N mp mr ml e) = some (bx_grows_1 N mp mr ml e) ∧ True) ∧ (0 : Int) ≤ (0 : Int) ∧ (0 : Int) ≤ (↑ml.length : Int) ∧ (↑(idsF (madeF N (↑N.length : Int)).G (e, a, p) q).length : Int) ≤ (20000 : Int) + (0 : Int) ∧ idsF (madeF N (↑N.length : Int)).G (e, a, p) q = idsF (madeF N (↑N.length : Int)).G (e, a, p) q ++ newI (madeF N (↑N.length : Int)).n mp e a p q (List.take (Int.toNat (0 : Int)) ml)) ∧ ∀ (x : Int × List Int × Unit), (0 : Int) ≤ x.1 ∧ x.1 ≤ (↑ml.length : Int) ∧ (↑x.2.1.length : Int) ≤ (20000 : Int) + x.1 ∧ x.2.1 = idsF (madeF N (↑N.length : Int)).G (e, a, p) q ++ newI (madeF N (↑N.length : Int)).n mp e a p q (List.take x.1.toNat ml) → (decide (x.1 < (↑ml.length : Int)) = true → ((0 : Int) ≤ x.1 ∧ x.1 < (↑ml.length : Int)) ∧ ∀ (x_1 : Int × Int × Int × Int), ml[x.1.toNat]? = some x_1 → (decide (mp = p) = true → (decide (x_1.1 = e) = true → (decide (x_1.2.1 = a) = true → (decide (q = (0 : Int)) = false → (decide (x_1.2.2.1 = q) = true → ((-9223372036854775808 : Int) ≤ (madeF N (↑N.length : Int)).n + x.1 ∧ (madeF N (↑N.length : Int)).n + x.1 ≤ (9223372036854775807 : Int)) ∧ ((-9223372036854775808 : Int) ≤ (madeF N (↑N.length : Int)).n + x.1 + (1 : Int) ∧ (madeF N (↑N.length : Int)).n + x.1 + (1 : Int) ≤ (9223372036854775807 : Int)) ∧ ((x.2.1.length + (1 : Nat)) * (8 : Nat) ≤ (140737488355328 : Nat) ∧ x.2.1.length + (1 : Nat) ≤ (4611686018427387904 : Nat)) ∧ ((-9223372036854775808 : Int) ≤ x.1 + (1 : Int) ∧ x.1 + (1 : Int) ≤ (9223372036854775807 : Int)) ∧ (some (bx_grows_4 mp mr ml) = some (bx_grows_4 mp mr ml) ∧ some (bx_grows_3 e a p q) = some (bx_grows_3 e a p q) ∧ some (Obj.opq OK.grw ((addR { G := (madeF N (↑N.length : Int)).G, H := (madeF N (↑N.length : Int)).H, e := (madeF N (↑N.length : Int)).e, n := (madeF N (↑N.length : Int)).n } (mp, mr, ml)).1.G, none)) = some (Obj.opq OK.grw ((addR { G := (madeF N (↑N.length : Int)).G, H := (madeF N (↑N.length : Int)).H, e := (madeF N (↑N.length : Int)).e, n := (madeF N (↑N.length : Int)).n } (mp, mr, ml)).1.G, none)) ∧ some (Obj.opq OK.gpe ((addR { G := (madeF N (↑N.length : Int)).G, H := (madeF N (↑N.length : Int)).H, e := (madeF N (↑N.length : Int)).e, n := (madeF N (↑N.length : Int)).n } (mp, mr, ml)).1.H, none)) = some (Obj.opq OK.gpe ((addR { G := (madeF N (↑N.length : Int)).G, H := (madeF N (↑N.length : Int)).H, e := (madeF N (↑N.length : Int)).e, n := (madeF N (↑N.length : Int)).n } (mp, mr, ml)).1.H, none)) ∧ some (bx_grows_2 N mp mr ml e) = some (bx_grows_1 N mp mr ml e) ∧ True) ∧ ((0 : Int) ≤ x.1 + (1 : Int) ∧ x.1 + (1 : Int) ≤ (↑ml.length : Int) ∧ (↑(x.2.1 ++ [(madeF N (↑N.length : Int)).n + x.1 + (1 : Int)]).length : Int) ≤ (20000 : Int) + (x.1 + (1 : Int)) ∧ x.2.1 ++ [(madeF N (↑N.length : Int)).n + x.1 + (1 : Int)] = idsF (madeF N (↑N.length : Int)).G (e, a, p) q ++ newI (madeF N (↑N.length : Int)).n mp e a p q (List.take (x.1 + (1 : Int)).toNat ml)) ∧ ((↑ml.length : Int) - (x.1 + (1 : Int))).toNat < ((↑ml.length : Int) - x.1).toNat) ∧ (decide (x_1.2.2.1 = q) = false → ((-9223372036854775808 : Int) ≤ x.1 + (1 : Int) ∧ x.1 + (1 : Int) ≤ (9223372036854775807 : Int)) ∧ (some (bx_grows_4 mp mr ml) = some (bx_grows_4 mp mr ml) ∧ some (bx_grows_3 e a p q) = some (bx_grows_3 e a p q) ∧ some (Obj.opq OK.grw ((addR { G := (madeF N (↑N.length : Int)).G, H := (madeF N (↑N.length : Int)).H, e := (madeF N (↑N.length : Int)).e, n := (madeF N (↑N.length : Int)).n } (mp, mr, ml)).1.G, none)) = some (Obj.opq OK.grw ((addR { G := (madeF N (↑N.length : Int)).G, H := (madeF N (↑N.length : Int)).H, e := (madeF N (↑N.length : Int)).e, n := (madeF N (↑N.length : Int)).n } (mp, mr, ml)).1.G, none)) ∧ some (Obj.opq OK.gpe ((addR { G := (madeF N (↑N.length : Int)).G, H := (madeF N (↑N.length : Int)).H, e := (madeF N (↑N.length : Int)).e, n := (madeF N (↑N.length : Int)).n } (mp, mr, ml)).1.H, none)) = some (Obj.opq OK.gpe ((addR { G := (madeF N (↑N.length : Int)).G, H := (madeF N (↑N.length : Int)).H, e := (madeF N (↑N.length : Int)).e, n := (madeF N (↑N.length : Int)).n } (mp, mr, ml)).1.H, none)) ∧ some (bx_grows_2 N mp mr ml e) = some (bx_grows_1 N mp mr ml e) ∧ True) ∧ ((0 : Int) ≤ x.1 + (1 : Int) ∧ x.1 + (1 : Int) ≤ (↑ml.length : Int) ∧ (↑x.2.1.length : Int) ≤ (20000 : Int) + (x.1 + (1 : Int)) ∧ x.2.1 = idsF (madeF N (↑N.length : Int)).G (e, a, p) q ++ newI (madeF N (↑N.length : Int)).n mp e a p q (List.take (x.1 + (1 : Int)).toNat ml)) ∧ ((↑ml.length : Int) - (x.1 + (1 : Int))).toNat < ((↑ml.length : Int) - x.1).toNat)) ∧ (decide (q = (0 : Int)) = !false → ((-9223372036854775808 : Int) ≤ (madeF N (↑N.length : Int)).n + x.1 ∧ (madeF N (↑N.length : Int)).n + x.1 ≤ (9223372036854775807 : Int)) ∧ ((-9223372036854775808 : Int) ≤ (madeF N (↑N.length : Int)).n + x.1 + (1 : Int) ∧ (madeF N (↑N.length : Int)).n + x.1 + (1 : Int) ≤ (9223372036854775807 : Int)) ∧ ((x.2.1.length + (1 : Nat)) * (8 : Nat) ≤ (140737488355328 : Nat) ∧ x.2.1.length + (1 : Nat) ≤ (4611686018427387904 : Nat)) ∧ ((-9223372036854775808 : Int) ≤ x.1 + (1 : Int) ∧ x.1 + (1 : Int) ≤ (9223372036854775807 : Int)) ∧ (some (bx_grows_4 mp mr ml) = some (bx_grows_4 mp mr ml) ∧ some (bx_grows_3 e a p q) = some (bx_grows_3 e a p q) ∧ some (Obj.opq OK.grw ((addR { G := (madeF N (↑N.length : Int)).G, H := (madeF N (↑N.length : Int)).H, e := (madeF N (↑N.length : Int)).e, n := (madeF N (↑N.length : Int)).n } (mp, mr, ml)).1.G, none)) = some (Obj.opq OK.grw ((addR { G := (madeF N (↑N.length : Int)).G, H := (madeF N (↑N.length : Int)).H, e := (madeF N (↑N.length : Int)).e, n := (madeF N (↑N.length : Int)).n } (mp, mr, ml)).1.G, none)) ∧ some (Obj.opq OK.gpe ((addR { G := (madeF N (↑N.length : Int)).G, H := (madeF N (↑N.length : Int)).H, e := (madeF N (↑N.length : Int)).e, n := (madeF N (↑N.length : Int)).n } (mp, mr, ml)).1.H, none)) = some (Obj.opq OK.gpe ((addR { G := (madeF N (↑N.length : Int)).G, H := (madeF N (↑N.length : Int)).H, e := (madeF N (↑N.length : Int)).e, n := (madeF N (↑N.length : Int)).n } (mp, mr, ml)).1.H, none)) ∧ some (bx_grows_2 N mp mr ml e) = some (bx_grows_1 N mp mr ml e) ∧ True) ∧ ((0 : Int) ≤ x.1 + (1 : Int) ∧ x.1 + (1 : Int) ≤ (↑ml.length : Int) ∧ (↑(x.2.1 ++ [(madeF N (↑N.length : Int)).n + x.1 + (1 : Int)]).length : Int) ≤ (20000 : Int) + (x.1 + (1 : Int)) ∧ x.2.1 ++ [(madeF N (↑N.length : Int)).n + x.1 + (1 : Int)] = idsF (madeF N (↑N.length : Int)).G (e, a, p) q ++ newI (madeF N (↑N.length : Int)).n mp e a p q (List.take (x.1 + (1 : Int)).toNat ml)) ∧ ((↑ml.length : Int) - (x.1 + (1 : Int))).toNat < ((↑ml.length : Int) - x.1).toNat)) ∧ (decide (x_1.2.1 = a) = !true → ((-9223372036854775808 : Int) ≤ x.1 + (1 : Int) ∧ x.1 + (1 : Int) ≤ (9223372036854775807 : Int)) ∧ (some (bx_grows_4 mp mr ml) = some (bx_grows_4 mp mr ml) ∧ some (bx_grows_3 e a p q) = some (bx_grows_3 e a p q) ∧ some (Obj.opq OK.grw ((addR { G := (madeF N (↑N.length : Int)).G, H := (madeF N (↑N.length : Int)).H, e := (madeF N (↑N.length : Int)).e, n := (madeF N (↑N.length : Int)).n } (mp, mr, ml)).1.G, none)) = some (Obj.opq OK.grw ((addR { G := (madeF N (↑N.length : Int)).G, H := (madeF N (↑N.length : Int)).H, e := (madeF N (↑N.length : Int)).e, n := (madeF N (↑N.length : Int)).n } (mp, mr, ml)).1.G, none)) ∧ some (Obj.opq OK.gpe ((addR { G := (madeF N (↑N.length : Int)).G, H := (madeF N (↑N.length : Int)).H, e := (madeF N (↑N.length : Int)).e, n := (madeF N (↑N.length : Int)).n } (mp, mr, ml)).1.H, none)) = some (Obj.opq OK.gpe ((addR { G := (madeF N (↑N.length : Int)).G, H := (madeF N (↑N.length : Int)).H, e := (madeF N (↑N.length : Int)).e, n := (madeF N (↑N.length : Int)).n } (mp, mr, ml)).1.H, none)) ∧ some (bx_grows_2 N mp mr ml e) = some (bx_grows_1 N mp mr ml e) ∧ True) ∧ ((0 : Int) ≤ x.1 + (1 : Int) ∧ x.1 + (1 : Int) ≤ (↑ml.length : Int) ∧ (↑x.2.1.length : Int) ≤ (20000 : Int) + (x.1 + (1 : Int)) ∧ x.2.1 = idsF (madeF N (↑N.length : Int)).G (e, a, p) q ++ newI (madeF N (↑N.length : Int)).n mp e a p q (List.take (x.1 + (1 : Int)).toNat ml)) ∧ ((↑ml.length : Int) - (x.1 + (1 : Int))).toNat < ((↑ml.length : Int) - x.1).toNat)) ∧ (decide (x_1.1 = e) = !true → ((-9223372036854775808 : Int) ≤ x.1 + (1 : Int) ∧ x.1 + (1 : Int) ≤ (9223372036854775807 : Int)) ∧ (some (bx_grows_4 mp mr ml) = some (bx_grows_4 mp mr ml) ∧ some (bx_grows_3 e a p q) = some (bx_grows_3 e a p q) ∧ some (Obj.opq OK.grw ((addR { G := (madeF N (↑N.length : Int)).G, H := (madeF N (↑N.length : Int)).H, e := (madeF N (↑N.length : Int)).e, n := (madeF N (↑N.length : Int)).n } (mp, mr, ml)).1.G, none)) = some (Obj.opq OK.grw ((addR { G := (madeF N (↑N.length : Int)).G, H := (madeF N (↑N.length : Int)).H, e := (madeF N (↑N.length : Int)).e, n := (madeF N (↑N.length : Int)).n } (mp, mr, ml)).1.G, none)) ∧ some (Obj.opq OK.gpe ((addR { G := (madeF N (↑N.length : Int)).G, H := (madeF N (↑N.length : Int)).H, e := (madeF N (↑N.length : Int)).e, n := (madeF N (↑N.length : Int)).n } (mp, mr, ml)).1.H, none)) = some (Obj.opq OK.gpe ((addR { G := (madeF N (↑N.length : Int)).G, H := (madeF N (↑N.length : Int)).H, e := (madeF N (↑N.length : Int)).e, n := (madeF N (↑N.length : Int)).n } (mp, mr, ml)).1.H, none)) ∧ some (bx_grows_2 N mp mr ml e) = some (bx_grows_1 N mp mr ml e) ∧ True) ∧ ((0 : Int) ≤ x.1 + (1 : Int) ∧ x.1 + (1 : Int) ≤ (↑ml.length : Int) ∧ (↑x.2.1.length : Int) ≤ (20000 : Int) + (x.1 + (1 : Int)) ∧ x.2.1 = idsF (madeF N (↑N.length : Int)).G (e, a, p) q ++ newI (madeF N (↑N.length : Int)).n mp e a p q (List.take (x.1 + (1 : Int)).toNat ml)) ∧ ((↑ml.length : Int) - (x.1 + (1 : Int))).toNat < ((↑ml.length : Int) - x.1).toNat)) ∧ (decide (mp = p) = !true → ((-9223372036854775808 : Int) ≤ x.1 + (1 : Int) ∧ x.1 + (1 : Int) ≤ (9223372036854775807 : Int)) ∧ (some (bx_grows_4 mp mr ml) = some (bx_grows_4 mp mr ml) ∧ some (bx_grows_3 e a p q) = some (bx_grows_3 e a p q) ∧ some (Obj.opq OK.grw ((addR { G := (madeF N (↑N.length : Int)).G, H := (madeF N (↑N.length : Int)).H, e := (madeF N (↑N.length : Int)).e, n := (madeF N (↑N.length : Int)).n } (mp, mr, ml)).1.G, none)) = some (Obj.opq OK.grw ((addR { G := (madeF N (↑N.length : Int)).G, H := (madeF N (↑N.length : Int)).H, e := (madeF N (↑N.length : Int)).e, n := (madeF N (↑N.length : Int)).n } (mp, mr, ml)).1.G, none)) ∧ some (Obj.opq OK.gpe ((addR { G := (madeF N (↑N.length : Int)).G, H := (madeF N (↑N.length : Int)).H, e := (madeF N (↑N.length : Int)).e, n := (madeF N (↑N.length : Int)).n } (mp, mr, ml)).1.H, none)) = some (Obj.opq OK.gpe ((addR { G := (madeF N (↑N.length : Int)).G, H := (madeF N (↑N.length : Int)).H, e := (madeF N (↑N.length : Int)).e, n := (madeF N (↑N.length : Int)).n } (mp, mr, ml)).1.H, none)) ∧ some (bx_grows_2 N mp mr ml e) = some (bx_grows_1 N mp mr ml e) ∧ True) ∧ ((0 : Int) ≤ x.1 + (1 : Int) ∧ x.1 + (1 : Int) ≤ (↑ml.length : Int) ∧ (↑x.2.1.length : Int) ≤ (20000 : Int) + (x.1 + (1 : Int)) ∧ x.2.1 = idsF (madeF N (↑N.length : Int)).G (e, a, p) q ++ newI (madeF N (↑N.length : Int)).n mp e a p q (List.take (x.1 + (1 : Int)).toNat ml)) ∧ ((↑ml.length : Int) - (x.1 + (1 : Int))).toNat < ((↑ml.length : Int) - x.1).toNat)) ∧ (decide (x.1 < (↑ml.length : Int)) = false → (TRd { G := (addR { G := (madeF N (↑N.length : Int)).G, H := (madeF N (↑N.length : Int)).H, e := (madeF N (↑N.length : Int)).e, n := (madeF N (↑N.length : Int)).n } (mp, mr, ml)).1.G, H := (addR { G := (madeF N (↑N.length : Int)).G, H := (madeF N (↑N.length : Int)).H, e := (madeF N (↑N.length : Int)).e, n := (madeF N (↑N.length : Int)).n } (mp, mr, ml)).1.H, e := (addR { G := (madeF N (↑N.length : Int)).G, H := (madeF N (↑N.length : Int)).H, e := (madeF N (↑N.length : Int)).e, n := (madeF N (↑N.length : Int)).n } (mp, mr, ml)).1.e, n := (addR { G := (madeF N (↑N.length : Int)).G, H := (madeF N (↑N.length : Int)).H, e := (madeF N (↑N.length : Int)).e, n := (madeF N (↑N.length : Int)).n } (mp, mr, ml)).1.n } ∧ SpOk (e, a, p)) ∧ (idsF (addR { G := (madeF N (↑N.length : Int)).G, H := (madeF N (↑N.length : Int)).H, e := (madeF N (↑N.length : Int)).e, n := (madeF N (↑N.length : Int)).n } (mp, mr, ml)).1.G (e, a, p) q).length ≤ (1000000000 : Nat) ∧ (decide (idsF (addR { G := (madeF N (↑N.length : Int)).G, H := (madeF N (↑N.length : Int)).H, e := (madeF N (↑N.length : Int)).e, n := (madeF N (↑N.length : Int)).n } (mp, mr, ml)).1.G (e, a, p) q = x.2.1) = true → True ∧ (true, ()) = (true, ())) ∧ (decide (idsF (addR { G := (madeF N (↑N.length : Int)).G, H := (madeF N (↑N.length : Int)).H, e := (madeF N (↑N.length : Int)).e, n := (madeF N (↑N.length : Int)).n } (mp, mr, ml)).1.G (e, a, p) q = x.2.1) = !true → (false, ()) = (true, ()))))) ∧ ((!decide ((addR { G := (madeF N (↑N.length : Int)).G, H := (madeF N (↑N.length : Int)).H, e := (madeF N (↑N.length : Int)).e, n := (madeF N (↑N.length : Int)).n } (mp, mr, ml)).2 = (0 : Int))) = !false → (false, ()) = (true, ()))) ∧ ((!few24 ([(mp, mr, ml)] ++ N)) = !false → True ∧ (true, ()) = (true, ()))
theorem g_grows_eq (N : List En) (mp mr : Int) (ml : List Ln) (e a p q : Int) : Cond (env_grows N mp mr ml e a p q) Try.f3 [.list .tmp EnT N, .agg [.int .i64 mp, .int .i64 mr, .list .part LnT ml], .agg [.int .i64 e, .int .i64 a, .int .i64 p, .int .i64 q]] [.bool] (true, ()) = g_grows_vc N mp mr ml e a p q := by kernel_rfl
theorem g_grows_ok (N : List En) (mp mr : Int) (ml : List Ln) (e a p q : Int) (h : NIn N ∧ N.length ≤ 2000000 ∧ NIn [(mp, mr, ml)] ∧ ml.length ≤ 2000000 ∧ WordI e ∧ WordI a ∧ WordI p) : g_grows_vc N mp mr ml e a p q := by
  obtain ⟨hN, hNl, hM, hml, he, ha, hp⟩ := h
  have hMW := hM.2.2 (mp, mr, ml) (by simp)
  unfold g_grows_vc
  refine ⟨hN, by omega, by simp only [List.length_append, List.length_singleton]; omega, fun hf => ?_, fun _ => ⟨trivial, rfl⟩⟩
  have hf : few24 ([(mp, mr, ml)] ++ N) = true := by simpa using hf
  obtain ⟨hf, f1, f2⟩ := few_cons hf
  obtain ⟨hT, hE⟩ := made_tells (N.length : Int) hf
  have hR := made_rd (N.length : Int) hN.wn hf
  have hll := (fw_of hN.wn hf).lines
  rw [lines_len] at hll
  have hn := hT.n
  have hw := wn_puts hN.wn
  generalize madeF N (N.length : Int) = d at hT hE hR hn ⊢
  have f2' : ml.length ≤ 60 := f2
  have hadd : addR ⟨d.G, d.H, d.e, d.n⟩ (mp, mr, ml) = (addD d (mp, mr, ml), 0) := if_neg (show ¬ d.e ≥ 2000 by omega)
  have hids := ids_add hT mp mr ml e a p q
  have hn2 : (addD d (mp, mr, ml)).n = d.n + ml.length := by
    have := putsD_n d (lnP mp ml)
    rw [lnP, List.length_map] at this
    exact this
  have hR2 : TRd ⟨(addD d (mp, mr, ml)).G, (addD d (mp, mr, ml)).H, (addD d (mp, mr, ml)).e, (addD d (mp, mr, ml)).n⟩ := by
    refine ⟨⟨_, hT.add (mp, mr, ml), fun u hu => ?_⟩, ?_⟩
    · rcases List.mem_append.1 hu with hu | hu
      · exact hw u hu
      · obtain ⟨y, hy, rfl⟩ := List.mem_map.1 hu
        exact ⟨hMW.1, hMW.2 y hy⟩
    · show (addD d (mp, mr, ml)).n ≤ 20000
      omega
  have hil : (idsF d.G (e, a, p) q).length ≤ 20000 := by
    rw [idsF, List.length_map]
    exact hR.tlen (e, a, p) q
  have hil2 : (idsF (addD d (mp, mr, ml)).G (e, a, p) q).length ≤ 20000 := by
    rw [idsF, List.length_map]
    exact hR2.tlen (e, a, p) q
  rw [hadd]
  dsimp only
  simp only [hn2, decide_true, Bool.not_true, decide_eq_true_eq, decide_eq_false_iff_not, Bool.not_false]
  have hs : SpOk (e, a, p) := ⟨he, ha, hp⟩
  refine ⟨⟨hR, hs⟩, trivial, ⟨⟨trivial, trivial⟩, ⟨⟨_, hT⟩, by show d.n + _ < big; unfold big; omega, hMW.1, hMW.2⟩, by omega⟩, fun _ => ⟨trivial, by omega, (fun h => by cases h), fun _ => ⟨⟨⟨trivial, trivial, trivial, trivial, trivial, trivial⟩, by omega, by omega, by omega, by simp [newI, lnP, rowsG, thoseF]⟩, ?_⟩⟩, fun h => by cases h⟩
  rintro ⟨i, out, ⟨⟩⟩ ⟨h0, h1, h2, h3⟩
  dsimp only at h0 h1 h2 h3 ⊢
  refine ⟨fun c => ⟨⟨h0, c⟩, fun y hy => ?_⟩, fun c => ?_⟩
  · have hx := newI_next (n := d.n) (mp := mp) (e := e) (a := a) (p := p) (q := q) h0 hy
    have hno : ¬ (mp = p ∧ y.1 = e ∧ y.2.1 = a ∧ (q = 0 ∨ y.2.2.1 = q)) → out = idsF d.G (e, a, p) q ++ newI d.n mp e a p q (ml.take (i + 1).toNat) := fun hh => by
      rw [hx, if_neg hh, List.append_nil, h3]
    have hyes : mp = p ∧ y.1 = e ∧ y.2.1 = a ∧ (q = 0 ∨ y.2.2.1 = q) → out ++ [d.n + i + 1] = idsF d.G (e, a, p) q ++ newI d.n mp e a p q (ml.take (i + 1).toNat) := fun hh => by
      rw [hx, if_pos hh, h3, List.append_assoc]
    have K : True ∧ True ∧ True ∧ True ∧ True ∧ True := ⟨trivial, trivial, trivial, trivial, trivial, trivial⟩
    have hlen1 : ((out ++ [d.n + i + 1]).length : Int) ≤ 20000 + (i + 1) := by simp only [List.length_append, List.length_singleton]; omega
    refine ⟨fun c1 => ⟨fun c2 => ⟨fun c3 => ⟨fun c4 => ⟨fun c5 => ⟨by omega, by omega, by omega, by omega, K, ⟨by omega, by omega, hlen1, hyes ⟨c1, c2, c3, .inr c5⟩⟩, by omega⟩, fun c5 => ⟨by omega, K, ⟨by omega, by omega, by omega, hno fun k => k.2.2.2.elim c4 c5⟩, by omega⟩⟩, fun c4 => ⟨by omega, by omega, by omega, by omega, K, ⟨by omega, by omega, hlen1, hyes ⟨c1, c2, c3, .inl c4⟩⟩, by omega⟩⟩, fun c3 => ⟨by omega, K, ⟨by omega, by omega, by omega, hno fun k => c3 k.2.2.1⟩, by omega⟩⟩, fun c2 => ⟨by omega, K, ⟨by omega, by omega, by omega, hno fun k => c2 k.2.1⟩, by omega⟩⟩, fun c1 => ⟨by omega, K, ⟨by omega, by omega, by omega, hno fun k => c1 k.1⟩, by omega⟩⟩
  · rw [take_all c] at h3
    refine ⟨⟨hR2, hs⟩, by omega, fun _ => ⟨trivial, trivial⟩, fun hne => ?_⟩
    exact absurd (hids.trans h3.symm) (by simpa using hne)
theorem grows_pure (N : List En) (mp mr : Int) (ml : List Ln) (e a p q : Int) (h : NIn N ∧ N.length ≤ 2000000 ∧ NIn [(mp, mr, ml)] ∧ ml.length ≤ 2000000 ∧ WordI e ∧ WordI a ∧ WordI p) : Pure Try.prog 3 [.list .tmp EnT N, .agg [.int .i64 mp, .int .i64 mr, .list .part LnT ml], .agg [.int .i64 e, .int .i64 a, .int .i64 p, .int .i64 q]] (.bool true) :=
  by have k := Pure.of_cond (g_grows_eq N mp mr ml e a p q) (g_grows_ok N mp mr ml e a p q h) (specs_ok rfl [sp_few24, sp_awake, sp_ids, sp_len, sp_sameInts] [so_made.upd, so_add'.upd] rfl rfl) mixed Try.func3; exact k
end Go.Proofs.Yteaajihmfacinaa.Ta
