/-
  value.Net, value.Scale, value.Print, value.Parse.
-/
import Derived.Test.YtkifiopfapnpnaaGreatDoorWide5
import Derived.Test.YtkifiopfapnpnaaGreatDoorNum2
import Derived.Test.YtkifiopfapnpnaaGreatDoorScan5b
namespace Go.Proofs.YtkifiopfapnpnaaGreatDoor
open Go.Vm

/-- A value of a number, or an error. -/
def toldF (n e : Int) : Int × Int := if e = 0 then (n, 0) else (0, e)
noncomputable def env_vtold (n e : Int) : Env where
  P := Tryz.prog
  ty := tys0
abbrev ann_vtold : Ann := { slots := numP 0 [.int .i64, .int .i64], boxes := [], inv := fun _ _ => True }
noncomputable def g_vtold (n e : Int) : Prop := vc (env_vtold n e) (codeOf Tryz.f12) (start0 Tryz.f12 [.int .i64 n, .int .i64 e]) (exitG (env_vtold n e).P Tryz.f12.results.toList [some 2] (env_vtold n e).pins ann_vtold ((toldF n e).1, (toldF n e).2, ()))
def g_vtold_vc (n : Int) (e : Int) : Prop :=
  ((!decide (e = (0 : Int))) = true → True ∧ ((0 : Int), e, ()) = ((toldF n e).fst, (toldF n e).snd, ())) ∧
  ((!decide (e = (0 : Int))) = false → True ∧ (n, (0 : Int), ()) = ((toldF n e).fst, (toldF n e).snd, ()))

theorem g_vtold_eq (n e : Int) : g_vtold n e = g_vtold_vc n e := by kernel_rfl
theorem g_vtold_ok (n e : Int) : g_vtold_vc n e := by
  unfold g_vtold_vc toldF
  simp only [decide_eq_true_eq, decide_eq_false_iff_not, Bool.not_eq_true', Bool.not_eq_false']
  exact ⟨fun c => ⟨trivial, by rw [if_neg c]⟩, fun c => ⟨trivial, by rw [if_pos c]⟩⟩
set_option maxRecDepth 20000 in
theorem vtold_pure (n e : Int) : Pure Tryz.prog 12 [.int .i64 n, .int .i64 e] (.agg [.int .i64 (toldF n e).1, .int .i64 (toldF n e).2]) :=
  Pure.of_gG (E := env_vtold n e) (sh := [some 2]) (ann := ann_vtold) (x := ((toldF n e).1, (toldF n e).2, ())) (fn := Tryz.f12) (c := codeOf Tryz.f12) (specs_ok (P := Tryz.prog) rfl [] [] rfl rfl) mixed Tryz.func12 rfl rfl rfl rfl rfl (g := g_vtold n e) (by delta g_vtold start0; first | with_reducible exact Eq.refl _ | exact Eq.refl _) (by rw [g_vtold_eq n e]; exact g_vtold_ok n e)
def q_vtold (n e : Int) : Prop × V := (True, (.agg [.int .i64 (toldF n e).1, .int .i64 (toldF n e).2]))
noncomputable def sp_vtold : FSpec Tryz.prog where
  f := 12
  run := fun args => match args with
    | [.int .i64 n, .int .i64 e] => some (q_vtold n e)
    | _ => none
  ok := fun args pre r h hp => by
    try dsimp only at h
    split at h
    · rename_i n e
      have h := Option.some.inj h
      unfold q_vtold at h
      cases h
      exact (vtold_pure n e).weak (.cons (Weak.refl _) (.cons (Weak.refl _) .nil))
    · cases h

abbrev amts (l : List (Int × Int)) : List Int := l.map Prod.fst
/-- The first error of values; none: what stood before. -/
def firstF (e : Int) (l : List (Int × Int)) : Int := l.foldl (fun a v => if a = 0 then v.2 else a) e
def InvN (l : List (Int × Int)) (e i : Int) (o : List Int) (f : Int) : Prop := 0 ≤ i ∧ i ≤ l.length ∧ o = amts (l.take i.toNat) ∧ f = firstF e (l.take i.toNat)
noncomputable def env_amounts (l : List (Int × Int)) (e : Int) : Env where
  P := Tryz.prog
  ty := tys0
  pins := [9000]
  heads := fun
    | 3 => some { slots := [(12, .int .i64), (4, .slc 5000 I), (9, .any)], boxes := [(9000, [.int .i64])], inv := fun _ (x : Int × List Int × Unit × Int × Unit) => InvN l e x.1 x.2.1 x.2.2.2.1, measure := fun _ (x : Int × List Int × Unit × Int × Unit) => (l.length - x.1).toNat }
    | _ => none
abbrev ann_amounts : Ann := { slots := numP 0 [.list .part I], boxes := [(9000, [.int .i64])], inv := fun _ _ => True }
noncomputable def g_amounts (l : List (Int × Int)) (e : Int) : Prop := vc (env_amounts l e) (codeOf Tryz.f11) ⟨(start0 Tryz.f11 [.list .tmp Vl l, .ptr 9000 0]).s, [(9000, .box [.int .i64 e])]⟩ (exitG (env_amounts l e).P Tryz.f11.results.toList [none] (env_amounts l e).pins ann_amounts (amts l, firstF e l, ()))
def g_amounts_vc (l : List (Int × Int)) (e : Int) : Prop :=
  ((0 : Int) ≤ (0 : Int) ∧ (0 : Int) ≤ (↑l.length : Int) ∧ (↑l.length : Int) * (↑(8 : Nat) : Int) ≤ (140737488355328 : Int) ∧ (↑l.length : Int) ≤ (4611686018427387904 : Int)) ∧
  (True ∧ InvN l e (0 : Int) (List.replicate (Int.toNat (0 : Int)) (0 : Int)) e) ∧
    ∀ (x : Int × List Int × Unit × Int × Unit),
      InvN l e x.fst x.snd.fst x.snd.snd.snd.fst →
        (decide (x.fst < (↑l.length : Int)) = true →
            ((0 : Int) ≤ x.fst ∧ x.fst < (↑l.length : Int)) ∧
              ∀ (x_1 : Int × Int),
                l[x.fst.toNat]? = some x_1 →
                  (decide (x.snd.snd.snd.fst = (0 : Int)) = true →
                      ((x.snd.fst.length + (1 : Nat)) * (8 : Nat) ≤ (140737488355328 : Nat) ∧ x.snd.fst.length + (1 : Nat) ≤ (4611686018427387904 : Nat)) ∧
                        ((-9223372036854775808 : Int) ≤ x.fst + (1 : Int) ∧ x.fst + (1 : Int) ≤ (9223372036854775807 : Int)) ∧
                          True ∧ InvN l e (x.fst + (1 : Int)) (x.snd.fst ++ [x_1.fst]) x_1.snd ∧ ((↑l.length : Int) - (x.fst + (1 : Int))).toNat < ((↑l.length : Int) - x.fst).toNat) ∧
                    (decide (x.snd.snd.snd.fst = (0 : Int)) = false →
                      ((x.snd.fst.length + (1 : Nat)) * (8 : Nat) ≤ (140737488355328 : Nat) ∧ x.snd.fst.length + (1 : Nat) ≤ (4611686018427387904 : Nat)) ∧
                        ((-9223372036854775808 : Int) ≤ x.fst + (1 : Int) ∧ x.fst + (1 : Int) ≤ (9223372036854775807 : Int)) ∧
                          True ∧ InvN l e (x.fst + (1 : Int)) (x.snd.fst ++ [x_1.fst]) x.snd.snd.snd.fst ∧ ((↑l.length : Int) - (x.fst + (1 : Int))).toNat < ((↑l.length : Int) - x.fst).toNat)) ∧
          (decide (x.fst < (↑l.length : Int)) = false → True ∧ (x.snd.fst, x.snd.snd.snd.fst, ()) = (amts l, firstF e l, ()))

theorem g_amounts_eq (l : List (Int × Int)) (e : Int) : g_amounts l e = g_amounts_vc l e := by kernel_rfl
theorem invN_step {l : List (Int × Int)} {e i f : Int} {o : List Int} {y : Int × Int} (h : InvN l e i o f) (hy : l[i.toNat]? = some y) : InvN l e (i + 1) (o ++ [y.1]) (if f = 0 then y.2 else f) := by
  obtain ⟨h1, h2, h3, h4⟩ := h
  have hl := (List.getElem?_eq_some_iff.1 hy).1
  have e : (i + 1).toNat = i.toNat + 1 := by omega
  refine ⟨by omega, by omega, ?_, ?_⟩
  · rw [e, List.take_add_one, hy, h3]
    simp
  · unfold firstF at *
    rw [e, List.take_add_one, hy, List.foldl_append, ← h4]
    rfl
theorem g_amounts_ok (l : List (Int × Int)) (e : Int) (h : l.length ≤ 1000000) : g_amounts_vc l e := by
  refine ⟨⟨by omega, by omega, by omega, by omega⟩, ⟨trivial, by omega, by omega, rfl, rfl⟩, ?_⟩
  rintro ⟨i, o, ⟨⟩, f, ⟨⟩⟩ hI
  simp only [decide_eq_true_eq, decide_eq_false_iff_not] at *
  have hb := hI.1
  have ho : o.length ≤ l.length := by rw [hI.2.2.1]; simp; omega
  refine ⟨fun hlt => ⟨⟨hb, hlt⟩, fun y hy => ⟨fun c => ?_, fun c => ?_⟩⟩, fun hge => ⟨trivial, ?_⟩⟩
  · have := invN_step hI hy
    rw [if_pos c] at this
    exact ⟨⟨by omega, by omega⟩, by omega, trivial, this, by omega⟩
  · have := invN_step hI hy
    rw [if_neg c] at this
    exact ⟨⟨by omega, by omega⟩, by omega, trivial, this, by omega⟩
  · obtain ⟨_, h2, h3, h4⟩ := hI
    rw [List.take_of_length_le (by omega)] at h3 h4
    rw [h3, h4]
set_option maxRecDepth 20000 in
theorem amounts_upd (l : List (Int × Int)) (e : Int) (h : l.length ≤ 1000000) : UpdC Tryz.prog 11 [.list .tmp Vl l, .ptr 9000 0] [(9000, .box [.int .i64 e])] (.list .part I (amts l)) [(9000, .box [.int .i64 (firstF e l)])] :=
  UpdC.of_vcG (E := env_amounts l e) (sh := [none]) (ann := ann_amounts) (x := (amts l, firstF e l, ())) (fn := Tryz.f11) (c := codeOf Tryz.f11) (specs_ok (P := Tryz.prog) rfl [] [] rfl rfl) mixed Tryz.func11 rfl rfl rfl rfl (by
    have := g_amounts_ok l e h
    rw [← g_amounts_eq] at this
    exact this)
def q_amounts (l : List (Int × Int)) (e : Int) : Prop × V × Store := (l.length ≤ 1000000, .list .part I (amts l), [(9000, .box [.int .i64 (firstF e l)])])
noncomputable def so_amounts : OSpec Tryz.prog where
  f := 11
  run := fun args σ => match args, σ with
    | [v0, .ptr 9000 0], [(9000, .box [.int .i64 e])] => (match (asL Vl v0 : Option (List (Int × Int))) with | some l => some (q_amounts l e) | none => none)
    | _, _ => none
  ok := fun args σ pre r σ' h hp => by
    try dsimp only at h
    split at h
    · rename_i v0 e
      cases h0 : (asL Vl v0 : Option (List (Int × Int))) with
      | none => rw [h0] at h; cases h
      | some l =>
      rw [h0] at h
      try dsimp only at h
      have h := Option.some.inj h
      unfold q_amounts at h
      cases h
      exact (amounts_upd l e hp).weak (.cons (asL_weak h0) (.cons (Weak.refl _) .nil))
    · cases h

/-- The first error, or what whole numbers come to. -/
def vnetF (l m : List (Int × Int)) : Int × Int := if firstF 0 (l ++ m) = 0 then toldF (netF (amts l) (amts m)).1 (netF (amts l) (amts m)).2 else (0, firstF 0 (l ++ m))
noncomputable def env_vnet (l m : List (Int × Int)) : Env where
  P := Tryz.prog
  ty := tys0
  specs := specsOf [sp_net, sp_vtold]
  upd := updsOf [so_amounts.upd]
abbrev ann_vnet : Ann := { slots := numP 0 [.int .i64, .int .i64], boxes := [], inv := fun _ _ => True }
noncomputable def g_vnet (l m : List (Int × Int)) : Prop := vc (env_vnet l m) (codeOf Tryz.f5) (start0 Tryz.f5 [.list .tmp Vl l, .list .tmp Vl m]) (exitG (env_vnet l m).P Tryz.f5.results.toList [some 2] (env_vnet l m).pins ann_vnet ((vnetF l m).1, (vnetF l m).2, ()))
def g_vnet_vc (l : List (Int × Int)) (m : List (Int × Int)) : Prop :=
  l.length ≤ (1000000 : Nat) ∧
  m.length ≤ (1000000 : Nat) ∧
    ((!decide (firstF (firstF (0 : Int) l) m = (0 : Int))) = true → True ∧ ((0 : Int), firstF (firstF (0 : Int) l) m, ()) = ((vnetF l m).fst, (vnetF l m).snd, ())) ∧
      ((!decide (firstF (firstF (0 : Int) l) m = (0 : Int))) = false →
        ((amts l).length ≤ (1000000000 : Nat) ∧ (amts m).length ≤ (1000000000 : Nat)) ∧
          True ∧
            True ∧
              ((toldF (netF (amts l) (amts m)).fst (netF (amts l) (amts m)).snd).fst, (toldF (netF (amts l) (amts m)).fst (netF (amts l) (amts m)).snd).snd, ()) =
                ((vnetF l m).fst, (vnetF l m).snd, ()))

theorem g_vnet_eq (l m : List (Int × Int)) : g_vnet l m = g_vnet_vc l m := by kernel_rfl
theorem first_app (l m : List (Int × Int)) : firstF 0 (l ++ m) = firstF (firstF 0 l) m := List.foldl_append
theorem g_vnet_ok (l m : List (Int × Int)) (h : l.length ≤ 1000000 ∧ m.length ≤ 1000000) : g_vnet_vc l m := by
  unfold g_vnet_vc vnetF
  rw [first_app]
  simp only [decide_eq_true_eq, decide_eq_false_iff_not, Bool.not_eq_true', Bool.not_eq_false', List.length_map]
  refine ⟨h.1, h.2, fun c => ⟨trivial, by rw [if_neg c]⟩, fun c => ⟨by omega, trivial, trivial, by rw [if_pos c]⟩⟩
set_option maxRecDepth 20000 in
theorem vnet_pure (l m : List (Int × Int)) (h : l.length ≤ 1000000 ∧ m.length ≤ 1000000) : Pure Tryz.prog 5 [.list .tmp Vl l, .list .tmp Vl m] (.agg [.int .i64 (vnetF l m).1, .int .i64 (vnetF l m).2]) :=
  Pure.of_gG (E := env_vnet l m) (sh := [some 2]) (ann := ann_vnet) (x := ((vnetF l m).1, (vnetF l m).2, ())) (fn := Tryz.f5) (c := codeOf Tryz.f5) (specs_ok (P := Tryz.prog) rfl [sp_net, sp_vtold] [so_amounts.upd] rfl rfl) mixed Tryz.func5 rfl rfl rfl rfl rfl (g := g_vnet l m) (by delta g_vnet start0; first | with_reducible exact Eq.refl _ | exact Eq.refl _) (by rw [g_vnet_eq l m]; exact g_vnet_ok l m h)
def q_vnet (l m : List (Int × Int)) : Prop × V := (l.length ≤ 1000000 ∧ m.length ≤ 1000000, (.agg [.int .i64 (vnetF l m).1, .int .i64 (vnetF l m).2]))
noncomputable def sp_vnet : FSpec Tryz.prog where
  f := 5
  run := fun args => match args with
    | [v0, v1] => (match (asL Vl v0 : Option (List (Int × Int))) with | some l => (match (asL Vl v1 : Option (List (Int × Int))) with | some m => some (q_vnet l m) | none => none) | none => none)
    | _ => none
  ok := fun args pre r h hp => by
    try dsimp only at h
    split at h
    · rename_i v0 v1
      cases h0 : (asL Vl v0 : Option (List (Int × Int))) with
      | none => rw [h0] at h; cases h
      | some l =>
      rw [h0] at h
      try dsimp only at h
      cases h1 : (asL Vl v1 : Option (List (Int × Int))) with
      | none => rw [h1] at h; cases h
      | some m =>
      rw [h1] at h
      try dsimp only at h
      have h := Option.some.inj h
      unfold q_vnet at h
      cases h
      exact (vnet_pure l m hp).weak (.cons (asL_weak h0) (.cons (asL_weak h1) .nil))
    · cases h

def vscaleF (a e n d : Int) (has : Bool) : Int × Int := if e = 0 then (if a = 0 then (0, 0) else if has then toldF (applyF a n d).1 (applyF a n d).2 else (0, 40)) else (0, e)
noncomputable def env_vscale (a e n d : Int) (has : Bool) : Env where
  P := Tryz.prog
  ty := tys0
  specs := specsOf [sp_apply, sp_vtold]
abbrev ann_vscale : Ann := { slots := numP 0 [.int .i64, .int .i64], boxes := [], inv := fun _ _ => True }
noncomputable def g_vscale (a e n d : Int) (has : Bool) : Prop := vc (env_vscale a e n d has) (codeOf Tryz.f7) (start0 Tryz.f7 [.agg [.int .i64 a, .int .i64 e], .agg [.int .i64 n, .int .i64 d], .bool has]) (exitG (env_vscale a e n d has).P Tryz.f7.results.toList [some 2] (env_vscale a e n d has).pins ann_vscale ((vscaleF a e n d has).1, (vscaleF a e n d has).2, ()))
def g_vscale_vc (a : Int) (e : Int) (n : Int) (d : Int) (has : Bool) : Prop :=
  ((!decide (e = (0 : Int))) = true → True ∧ ((0 : Int), e, ()) = ((vscaleF a e n d has).fst, (vscaleF a e n d has).snd, ())) ∧
  ((!decide (e = (0 : Int))) = false →
    (decide (a = (0 : Int)) = true → True ∧ ((0 : Int), (0 : Int), ()) = ((vscaleF a e n d has).fst, (vscaleF a e n d has).snd, ())) ∧
      (decide (a = (0 : Int)) = false →
        ((!has) = true → True ∧ ((0 : Int), (40 : Int), ()) = ((vscaleF a e n d has).fst, (vscaleF a e n d has).snd, ())) ∧
          ((!has) = false →
            (InI a ∧ InI n ∧ InI d) ∧
              True ∧ True ∧ ((toldF (applyF a n d).fst (applyF a n d).snd).fst, (toldF (applyF a n d).fst (applyF a n d).snd).snd, ()) = ((vscaleF a e n d has).fst, (vscaleF a e n d has).snd, ()))))

theorem g_vscale_eq (a e n d : Int) (has : Bool) : g_vscale a e n d has = g_vscale_vc a e n d has := by kernel_rfl
theorem g_vscale_ok (a e n d : Int) (has : Bool) (h : InI a ∧ InI n ∧ InI d) : g_vscale_vc a e n d has := by
  unfold g_vscale_vc vscaleF
  simp only [decide_eq_true_eq, decide_eq_false_iff_not, Bool.not_eq_true', Bool.not_eq_false']
  refine ⟨fun c => ⟨trivial, by rw [if_neg c]⟩, fun c => ⟨fun k => ⟨trivial, by rw [if_pos c, if_pos k]⟩, fun k => ⟨fun q => ⟨trivial, ?_⟩, fun q => ⟨h, trivial, trivial, ?_⟩⟩⟩⟩
  · subst q
    rw [if_pos c, if_neg k]
    rfl
  · subst q
    rw [if_pos c, if_neg k]
    rfl
set_option maxRecDepth 20000 in
theorem vscale_pure (a e n d : Int) (has : Bool) (h : InI a ∧ InI n ∧ InI d) : Pure Tryz.prog 7 [.agg [.int .i64 a, .int .i64 e], .agg [.int .i64 n, .int .i64 d], .bool has] (.agg [.int .i64 (vscaleF a e n d has).1, .int .i64 (vscaleF a e n d has).2]) :=
  Pure.of_gG (E := env_vscale a e n d has) (sh := [some 2]) (ann := ann_vscale) (x := ((vscaleF a e n d has).1, (vscaleF a e n d has).2, ())) (fn := Tryz.f7) (c := codeOf Tryz.f7) (specs_ok (P := Tryz.prog) rfl [sp_apply, sp_vtold] [] rfl rfl) mixed Tryz.func7 rfl rfl rfl rfl rfl (g := g_vscale a e n d has) (by delta g_vscale start0; first | with_reducible exact Eq.refl _ | exact Eq.refl _) (by rw [g_vscale_eq a e n d has]; exact g_vscale_ok a e n d has h)
def q_vscale (a e n d : Int) (has : Bool) : Prop × V := (InI a ∧ InI n ∧ InI d, (.agg [.int .i64 (vscaleF a e n d has).1, .int .i64 (vscaleF a e n d has).2]))
noncomputable def sp_vscale : FSpec Tryz.prog where
  f := 7
  run := fun args => match args with
    | [.agg [.int .i64 a, .int .i64 e], .agg [.int .i64 n, .int .i64 d], v2] => (match boolOf v2 with | some has => some (q_vscale a e n d has) | none => none)
    | _ => none
  ok := fun args pre r h hp => by
    try dsimp only at h
    split at h
    · rename_i a e n d v2
      cases h2 : boolOf v2 with
      | none => rw [h2] at h; cases h
      | some has =>
      rw [h2] at h
      try dsimp only at h
      have h := Option.some.inj h
      unfold q_vscale at h
      cases h
      exact (vscale_pure a e n d has hp).weak (.cons (Weak.refl _) (.cons (Weak.refl _) (.cons (boolOf_weak h2) .nil)))
    · cases h

/-- The word ahead of an error. -/
abbrev errB : By := [101, 114, 114, 111, 114, 32]
def vprintF (a e : Int) : By := if e = 0 then Lib.itoa a else errB ++ Lib.itoa e
noncomputable def env_vprint (a e : Int) : Env where
  P := Tryz.prog
  ty := tys0
  specs := specsOf [sp_digitsOf]
noncomputable def g_vprint (a e : Int) : Prop := vc (env_vprint a e) (codeOf Tryz.f10) (start0 Tryz.f10 [.agg [.int .i64 a, .int .i64 e]]) (exitK (tsOf Tryz.f10) [.str] (vprintF a e, ()))
def g_vprint_vc (a : Int) (e : Int) : Prop :=
  ((!decide (e = (0 : Int))) = true →
    InI e ∧
      (6 : Nat) + (Lib.itoa e).length ≤ (9223372036854775807 : Nat) ∧
        ([(101 : UInt8), (114 : UInt8), (114 : UInt8), (111 : UInt8), (114 : UInt8), (32 : UInt8)] ++ Lib.itoa e, ()) = (vprintF a e, ())) ∧
  ((!decide (e = (0 : Int))) = false → InI a ∧ (Lib.itoa a, ()) = (vprintF a e, ()))

theorem g_vprint_eq (a e : Int) : g_vprint a e = g_vprint_vc a e := by kernel_rfl

theorem g_vprint_ok (a e : Int) (h : InI a ∧ InI e) : g_vprint_vc a e := by
  unfold g_vprint_vc vprintF
  simp only [decide_eq_true_eq, decide_eq_false_iff_not, Bool.not_eq_true', Bool.not_eq_false']
  have := itoa_len h.2
  exact ⟨fun c => ⟨h.2, by omega, by rw [if_neg c]⟩, fun c => ⟨h.1, by rw [if_pos c]⟩⟩
set_option maxRecDepth 20000 in
theorem vprint_pure (a e : Int) (h : InI a ∧ InI e) : Pure Tryz.prog 10 [.agg [.int .i64 a, .int .i64 e]] (.str (vprintF a e)) :=
  Pure.of_g (E := env_vprint a e) (ts := tsOf Tryz.f10) (ps := [.str]) (r := (vprintF a e, ())) (fn := Tryz.f10) (c := codeOf Tryz.f10) (specs_ok (P := Tryz.prog) rfl [sp_digitsOf] [] rfl rfl) mixed Tryz.func10 rfl rfl (g := g_vprint a e) (by delta g_vprint start0; first | with_reducible exact Eq.refl _ | exact Eq.refl _) (by rw [g_vprint_eq a e]; exact g_vprint_ok a e h)
def q_vprint (a e : Int) : Prop × V := (InI a ∧ InI e, (.str (vprintF a e)))
noncomputable def sp_vprint : FSpec Tryz.prog where
  f := 10
  run := fun args => match args with
    | [.agg [.int .i64 a, .int .i64 e]] => some (q_vprint a e)
    | _ => none
  ok := fun args pre r h hp => by
    try dsimp only at h
    split at h
    · rename_i a e
      have h := Option.some.inj h
      unfold q_vprint at h
      cases h
      exact (vprint_pure a e hp).weak (.cons (Weak.refl _) .nil)
    · cases h
def restV (bad : Bool) (n : Int) (r : Int × Int × Int) : Int × Int × Int := if r.2.2 = 0 then (if r.2.1 < n then (0, 0, 6) else if bad then (0, r.1, 0) else (r.1, 0, 0)) else (0, 0, r.2.2)
def vparseF (s : By) : Int × Int × Int :=
  if Lib.hasPrefix s [101] then (if (litF s 0 errB).2 = 0 then restV true s.length (numF s (litF s 0 errB).1 1 99) else (0, 0, (litF s 0 errB).2)) else restV false s.length (numF s 0 (-9223372036854775808) 9223372036854775807)
noncomputable def env_vparse (s : By) : Env where
  P := Tryz.prog
  ty := tys0
  specs := specsOf [sp_hasPrefix, sp_lit, sp_num]
abbrev ann_vparse : Ann := { slots := numP 0 [.int .i64, .int .i64, .int .i64], boxes := [], inv := fun _ _ => True }
noncomputable def g_vparse (s : By) : Prop := vc (env_vparse s) (codeOf Tryz.f9) (start0 Tryz.f9 [.str s]) (exitG (env_vparse s).P Tryz.f9.results.toList [some 2, none] (env_vparse s).pins ann_vparse ((vparseF s).1, (vparseF s).2.1, (vparseF s).2.2, ()))
def g_vparse_vc (s : By) : Prop :=
  ((0 : Int) ≤ (1 : Int) ∧ (1 : Int) ≤ (↑(6 : Nat) : Int)) ∧
  True ∧
    (Lib.hasPrefix s (List.take (Int.toNat (1 : Int)) [(101 : UInt8), (114 : UInt8), (114 : UInt8), (111 : UInt8), (114 : UInt8), (32 : UInt8)]) = true →
        (List.length s ≤ (1000000 : Nat) ∧ (6 : Nat) ≤ (1000000 : Nat)) ∧
          ((!decide ((litF s (0 : Int) [(101 : UInt8), (114 : UInt8), (114 : UInt8), (111 : UInt8), (114 : UInt8), (32 : UInt8)]).snd = (0 : Int))) = true →
              True ∧
                ((0 : Int), (0 : Int), (litF s (0 : Int) [(101 : UInt8), (114 : UInt8), (114 : UInt8), (111 : UInt8), (114 : UInt8), (32 : UInt8)]).snd, ()) =
                  ((vparseF s).fst, (vparseF s).snd.fst, (vparseF s).snd.snd, ())) ∧
            ((!decide ((litF s (0 : Int) [(101 : UInt8), (114 : UInt8), (114 : UInt8), (111 : UInt8), (114 : UInt8), (32 : UInt8)]).snd = (0 : Int))) = false →
              List.length s ≤ (10000 : Nat) ∧
                ((!decide ((numF s (litF s (0 : Int) [(101 : UInt8), (114 : UInt8), (114 : UInt8), (111 : UInt8), (114 : UInt8), (32 : UInt8)]).fst (1 : Int) (99 : Int)).snd.snd = (0 : Int))) = true →
                    True ∧
                      ((0 : Int), (0 : Int), (numF s (litF s (0 : Int) [(101 : UInt8), (114 : UInt8), (114 : UInt8), (111 : UInt8), (114 : UInt8), (32 : UInt8)]).fst (1 : Int) (99 : Int)).snd.snd,
                          ()) =
                        ((vparseF s).fst, (vparseF s).snd.fst, (vparseF s).snd.snd, ())) ∧
                  ((!decide ((numF s (litF s (0 : Int) [(101 : UInt8), (114 : UInt8), (114 : UInt8), (111 : UInt8), (114 : UInt8), (32 : UInt8)]).fst (1 : Int) (99 : Int)).snd.snd = (0 : Int))) =
                      false →
                    (decide
                            ((numF s (litF s (0 : Int) [(101 : UInt8), (114 : UInt8), (114 : UInt8), (111 : UInt8), (114 : UInt8), (32 : UInt8)]).fst (1 : Int) (99 : Int)).snd.fst <
                              (↑(List.length s) : Int)) =
                          true →
                        True ∧ ((0 : Int), (0 : Int), (6 : Int), ()) = ((vparseF s).fst, (vparseF s).snd.fst, (vparseF s).snd.snd, ())) ∧
                      (decide
                            ((numF s (litF s (0 : Int) [(101 : UInt8), (114 : UInt8), (114 : UInt8), (111 : UInt8), (114 : UInt8), (32 : UInt8)]).fst (1 : Int) (99 : Int)).snd.fst <
                              (↑(List.length s) : Int)) =
                          false →
                        (Lib.hasPrefix s (List.take (Int.toNat (1 : Int)) [(101 : UInt8), (114 : UInt8), (114 : UInt8), (111 : UInt8), (114 : UInt8), (32 : UInt8)]) = true →
                            True ∧
                              ((0 : Int), (numF s (litF s (0 : Int) [(101 : UInt8), (114 : UInt8), (114 : UInt8), (111 : UInt8), (114 : UInt8), (32 : UInt8)]).fst (1 : Int) (99 : Int)).fst, (0 : Int),
                                  ()) =
                                ((vparseF s).fst, (vparseF s).snd.fst, (vparseF s).snd.snd, ())) ∧
                          (Lib.hasPrefix s (List.take (Int.toNat (1 : Int)) [(101 : UInt8), (114 : UInt8), (114 : UInt8), (111 : UInt8), (114 : UInt8), (32 : UInt8)]) = false →
                            True ∧
                              ((numF s (litF s (0 : Int) [(101 : UInt8), (114 : UInt8), (114 : UInt8), (111 : UInt8), (114 : UInt8), (32 : UInt8)]).fst (1 : Int) (99 : Int)).fst, (0 : Int), (0 : Int),
                                  ()) =
                                ((vparseF s).fst, (vparseF s).snd.fst, (vparseF s).snd.snd, ())))))) ∧
      (Lib.hasPrefix s (List.take (Int.toNat (1 : Int)) [(101 : UInt8), (114 : UInt8), (114 : UInt8), (111 : UInt8), (114 : UInt8), (32 : UInt8)]) = false →
        List.length s ≤ (10000 : Nat) ∧
          ((!decide ((numF s (0 : Int) (-9223372036854775808 : Int) (9223372036854775807 : Int)).snd.snd = (0 : Int))) = true →
              True ∧
                ((0 : Int), (0 : Int), (numF s (0 : Int) (-9223372036854775808 : Int) (9223372036854775807 : Int)).snd.snd, ()) = ((vparseF s).fst, (vparseF s).snd.fst, (vparseF s).snd.snd, ())) ∧
            ((!decide ((numF s (0 : Int) (-9223372036854775808 : Int) (9223372036854775807 : Int)).snd.snd = (0 : Int))) = false →
              (decide ((numF s (0 : Int) (-9223372036854775808 : Int) (9223372036854775807 : Int)).snd.fst < (↑(List.length s) : Int)) = true →
                  True ∧ ((0 : Int), (0 : Int), (6 : Int), ()) = ((vparseF s).fst, (vparseF s).snd.fst, (vparseF s).snd.snd, ())) ∧
                (decide ((numF s (0 : Int) (-9223372036854775808 : Int) (9223372036854775807 : Int)).snd.fst < (↑(List.length s) : Int)) = false →
                  (Lib.hasPrefix s (List.take (Int.toNat (1 : Int)) [(101 : UInt8), (114 : UInt8), (114 : UInt8), (111 : UInt8), (114 : UInt8), (32 : UInt8)]) = true →
                      True ∧
                        ((0 : Int), (numF s (0 : Int) (-9223372036854775808 : Int) (9223372036854775807 : Int)).fst, (0 : Int), ()) = ((vparseF s).fst, (vparseF s).snd.fst, (vparseF s).snd.snd, ())) ∧
                    (Lib.hasPrefix s (List.take (Int.toNat (1 : Int)) [(101 : UInt8), (114 : UInt8), (114 : UInt8), (111 : UInt8), (114 : UInt8), (32 : UInt8)]) = false →
                      True ∧
                        ((numF s (0 : Int) (-9223372036854775808 : Int) (9223372036854775807 : Int)).fst, (0 : Int), (0 : Int), ()) =
                          ((vparseF s).fst, (vparseF s).snd.fst, (vparseF s).snd.snd, ())))))

theorem g_vparse_eq (s : By) : g_vparse s = g_vparse_vc s := by kernel_rfl
theorem g_vparse_ok (s : By) (h : s.length ≤ 10000) : g_vparse_vc s := by
  unfold g_vparse_vc vparseF restV errB
  rw [show List.take (Int.toNat (1 : Int)) [(101 : UInt8), 114, 114, 111, 114, 32] = [101] from rfl]
  generalize litF s 0 [101, 114, 114, 111, 114, 32] = q
  generalize numF s q.1 1 99 = r1
  generalize numF s 0 (-9223372036854775808) 9223372036854775807 = r2
  simp only [decide_eq_true_eq, decide_eq_false_iff_not, Bool.not_eq_true', Bool.not_eq_false']
  refine ⟨⟨by omega, by omega⟩, trivial, fun c => ⟨⟨by omega, by omega⟩, fun k => ⟨trivial, ?_⟩, fun k => ⟨h, fun m => ⟨trivial, ?_⟩, fun m => ⟨fun n => ⟨trivial, ?_⟩, fun n => ⟨fun _ => ⟨trivial, ?_⟩, fun d => ?_⟩⟩⟩⟩,
    fun c => ⟨h, fun m => ⟨trivial, ?_⟩, fun m => ⟨fun n => ⟨trivial, ?_⟩, fun n => ⟨fun d => ?_, fun _ => ⟨trivial, ?_⟩⟩⟩⟩⟩
  · rw [if_pos c, if_neg k]
  · rw [if_pos c, if_pos k, if_neg m]
  · rw [if_pos c, if_pos k, if_pos m, if_pos n]
  · rw [if_pos c, if_pos k, if_pos m, if_neg n]
    rfl
  · rw [c] at d; cases d
  · rw [if_neg (by rw [c]; decide), if_neg m]
  · rw [if_neg (by rw [c]; decide), if_pos m, if_pos n]
  · rw [c] at d; cases d
  · rw [if_neg (by rw [c]; decide), if_pos m, if_neg n]
    rfl
set_option maxRecDepth 20000 in
theorem vparse_pure (s : By) (h : s.length ≤ 10000) : Pure Tryz.prog 9 [.str s] (.tuple [.agg [.int .i64 (vparseF s).1, .int .i64 (vparseF s).2.1], .int .i64 (vparseF s).2.2]) :=
  Pure.of_gG (E := env_vparse s) (sh := [some 2, none]) (ann := ann_vparse) (x := ((vparseF s).1, (vparseF s).2.1, (vparseF s).2.2, ())) (fn := Tryz.f9) (c := codeOf Tryz.f9) (specs_ok (P := Tryz.prog) rfl [sp_hasPrefix, sp_lit, sp_num] [] rfl rfl) mixed Tryz.func9 rfl rfl rfl rfl rfl (g := g_vparse s) (by delta g_vparse start0; first | with_reducible exact Eq.refl _ | exact Eq.refl _) (by rw [g_vparse_eq s]; exact g_vparse_ok s h)
def q_vparse (s : By) : Prop × V := (s.length ≤ 10000, (.tuple [.agg [.int .i64 (vparseF s).1, .int .i64 (vparseF s).2.1], .int .i64 (vparseF s).2.2]))
noncomputable def sp_vparse : FSpec Tryz.prog where
  f := 9
  run := fun args => match args with
    | [.str s] => some (q_vparse s)
    | _ => none
  ok := fun args pre r h hp => by
    try dsimp only at h
    split at h
    · rename_i s
      have h := Option.some.inj h
      unfold q_vparse at h
      cases h
      exact (vparse_pure s hp).weak (.cons (Weak.refl _) .nil)
    · cases h
theorem head_pre (s : By) : Lib.hasPrefix s [101] = true ↔ s[0]? = some 101 := by
  rw [hasPrefix_iff]
  cases s with
  | nil => simp
  | cons c r => simp

end Go.Proofs.YtkifiopfapnpnaaGreatDoor
